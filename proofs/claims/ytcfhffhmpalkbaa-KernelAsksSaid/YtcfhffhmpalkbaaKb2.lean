import Derived.Test.YtcfhffhmpalkbaaKb1
namespace Go.Proofs.Ytcfhffhmpalkbaa.P
open Go.RowKit Go.Proofs.YtcfhffhmpalkbaaM Go.Proofs.YtcfhffhmpalkbaaW.PrintWords Go.Proofs.YtcfhffhmpalkbaaW.PrintLast Go.Proofs.YtcfhffhmpalkbaaW.PrintMore
attribute [local go_sem] Go.Instr.field Go.asAgg max2_int min2_int max_two min_two max_three min_three max_four min_four
set_option linter.unusedVariables false
set_option linter.unusedSimpArgs false
def q50.l0 : Nat → List (List Int) → Int → Int → Option (Int)
 | 0, _, _, _ => none
 | k + 1, x0, x3, x4 => if x4 < (x0.length : Int) then (if x3 < 1048576 then (if 0 ≤ x4 then (q50.l0 k x0 (wrap64 (x3 + ((rd_L1 x0 x4).length : Int))) (wrap64 (x4 + 1))) else (none)) else (some x3)) else (some x3)
def q50.f (k : Nat) (l0 : List (List Int)) : Option (Int) := q50.l0 k l0 (l0.length : Int) 0
def q43.l0 : Nat → List (S42) → Int → Int → Option (Int)
 | 0, _, _, _ => none
 | k + 1, x0, x3, x4 => if x4 < (x0.length : Int) then (if x3 < 1048576 then (if 0 ≤ x4 then ((q50.f k ((rd_T42 x0 x4).f1)).bind fun t102 => (q43.l0 k x0 (wrap64 (x3 + t102)) (wrap64 (x4 + 1)))) else (none)) else (some x3)) else (some x3)
def q43.f (k : Nat) (l0 : List (S42)) : Option (Int) := q43.l0 k l0 (l0.length : Int) 0
def q61.f (k : Nat) (l0_0 : List (S42)) (l0_1 : List (S119)) : Option (Bool) := (q43.f k l0_0).bind fun t102 => (some (decide ((wrap64 (t102 + (l0_1.length : Int))) > 1200)))
def q38.f (a0 : Int) (a1 : Int) : Option (Bool) := if a0 ≥ 0 then (some (decide (a0 ≤ a1))) else (some false)
def q40.f (a0 : Int) : Option (Bool) := (q38.f a0 15).bind fun t101 => (some t101)
mutual
def q26.l0 : Nat → List Int → Int → Option (Bool)
 | 0, _, _ => none
 | k + 1, x0, x3 => if x3 < (x0.length : Int) then (q26.j1 k x0 x3 (decide (x3 ≤ 16))) else (q26.j1 k x0 x3 false)
def q26.j1 : Nat → List Int → Int → Bool → Option (Bool)
 | 0, _, _, _ => none
 | k + 1, x0, x3, x11 => if x11 = true then (if 0 ≤ x3 then (if x3 < (x0.length : Int) then ((q40.f (rd x0 x3)).bind fun t102 => (if t102 = true then (if x3 > 0 then (if 0 ≤ (wrap64 (x3 - 1)) then (if (wrap64 (x3 - 1)) < (x0.length : Int) then (if (rd x0 (wrap64 (x3 - 1))) ≥ (rd x0 x3) then (some false) else (q26.l0 k x0 (wrap64 (x3 + 1)))) else (none)) else (none)) else (q26.l0 k x0 (wrap64 (x3 + 1)))) else (some false))) else (none)) else (none)) else (some (decide ((x0.length : Int) ≤ 16)))
end
def q26.f (k : Nat) (l0 : List Int) : Option (Bool) := q26.l0 k l0 0
def q51.l0 : Nat → Int → Int → Int → List (List Int) → Option (Int)
 | 0, _, _, _, _ => none
 | k + 1, x3, x4, x102000, x102001 => if x4 < (x102001.length : Int) then (if 0 ≤ x4 then (q51.l0 k (wrap64 (x3 + ((rd_L1 x102001 x4).length : Int))) (wrap64 (x4 + 1)) x102000 x102001) else (none)) else (some x3)
def q51.f (k : Nat) (a0_0 : Int) (l0_1 : List (List Int)) : Option (Int) := q51.l0 k 0 0 a0_0 l0_1
mutual
def q25.j0 : Nat → Bool → Int → List (List Int) → Option (Bool)
 | 0, _, _, _ => none
 | k + 1, x15, x102000, x102001 => if x15 = true then (some false) else (q25.l0 k 0 x102000 x102001)
def q25.l0 : Nat → Int → Int → List (List Int) → Option (Bool)
 | 0, _, _, _ => none
 | k + 1, x3, x102000, x102001 => if x3 < x102000 then (if 0 ≤ x3 then (if x3 < (x102001.length : Int) then ((q26.f k (rd_L1 x102001 x3)).bind fun t104 => (if t104 = true then (if ((rd_L1 x102001 x3).length : Int) > 0 then (if 0 ≤ (wrap64 (((rd_L1 x102001 x3).length : Int) - 1)) then (if (wrap64 (((rd_L1 x102001 x3).length : Int) - 1)) < ((rd_L1 x102001 x3).length : Int) then (if (rd (rd_L1 x102001 x3) (wrap64 (((rd_L1 x102001 x3).length : Int) - 1))) ≥ x102000 then (some false) else (q25.l0 k (wrap64 (x3 + 1)) x102000 x102001)) else (none)) else (none)) else (q25.l0 k (wrap64 (x3 + 1)) x102000 x102001)) else (some false))) else (none)) else (none)) else ((q51.f k x102000 x102001).bind fun t109 => (some (decide (t109 ≤ 120))))
end
def q25.f (k : Nat) (a0_0 : Int) (l0_1 : List (List Int)) : Option (Bool) := (q38.f a0_0 16).bind fun t102 => (if t102 = true then (q25.j0 k ((l0_1.length : Int) != a0_0) a0_0 l0_1) else (q25.j0 k true a0_0 l0_1))
def q57.f (a0 : Int) : Option (Bool) := if a0 ≥ 0 then (some (decide (a0 < 16))) else (some false)
def q19.l0 : Nat → List Int → List Int → Int → Int → Option (Bool)
 | 0, _, _, _, _ => none
 | k + 1, x0, x5, x6, x7 => if x7 < x6 then (if 0 ≤ x7 then (if x7 < (x5.length : Int) then ((q57.f (rd x5 x7)).bind fun t102 => (if t102 = true then (if x7 > 0 then (if 0 ≤ (wrap64 (x7 - 1)) then (if (wrap64 (x7 - 1)) < (x0.length : Int) then (if (rd x5 x7) ≤ (rd x0 (wrap64 (x7 - 1))) then (some false) else (q19.l0 k x0 x5 x6 (wrap64 (x7 + 1)))) else (none)) else (none)) else (q19.l0 k x0 x5 x6 (wrap64 (x7 + 1)))) else (some false))) else (none)) else (none)) else (some true)
def q19.f (k : Nat) (l0 : List Int) : Option (Bool) := q19.l0 k l0 l0 (l0.length : Int) 0
theorem q19.mono_l : ∀ k, (∀ y0 y1 y2 y3, LeO (q19.l0 k y0 y1 y2 y3) (q19.l0 (k + 1) y0 y1 y2 y3))
 | 0 => fun _ _ _ _ r h => by simp [q19.l0] at h
 | k + 1 => by
  have ih0 := q19.mono_l k
  ·intro y0 y1 y2 y3
   unfold q19.l0
   repeat' first
   | (with_reducible exact ih0 _ _ _ _)
   | (with_reducible exact LeO.refl _)
   | (with_reducible exact LeO.none _)
   | (with_reducible refine LeO.ite ?_ ?_)
   | (with_reducible refine LeO.bind ?_ (fun _ => ?_))
   | exact ih0 _ _ _ _
   | exact LeO.none _
   | refine LeO.ite ?_ ?_
   | refine LeO.bind ?_ (fun _ => ?_)
theorem q19.mono : ∀ a0 k, LeO (q19.f k a0) (q19.f (k + 1) a0) := by
 intro a0 k
 have ih0 := q19.mono_l k
 unfold q19.f
 repeat' first
  | (with_reducible exact ih0 _ _ _ _)
  | (with_reducible exact LeO.refl _)
  | (with_reducible exact LeO.none _)
  | (with_reducible refine LeO.ite ?_ ?_)
  | (with_reducible refine LeO.bind ?_ (fun _ => ?_))
  | exact ih0 _ _ _ _
  | exact LeO.none _
  | refine LeO.ite ?_ ?_
  | refine LeO.bind ?_ (fun _ => ?_)
def q34.l0 : Nat → Int → List (List Int) → Int → Int → Option (Int)
 | 0, _, _, _, _ => none
 | k + 1, x3, x7, x8, x9 => if x9 < x8 then (if 0 ≤ x9 then (if x9 < (x7.length : Int) then (q34.l0 k (wrap64 (x3 + ((rd_L1 x7 x9).length : Int))) x7 x8 (wrap64 (x9 + 1))) else (none)) else (none)) else (some x3)
def q34.f (k : Nat) (a0_0 : Int) (l0_1 : List (List Int)) : Option (Int) := q34.l0 k 0 l0_1 (l0_1.length : Int) 0
theorem q34.mono_l : ∀ k, (∀ y0 y1 y2 y3, LeO (q34.l0 k y0 y1 y2 y3) (q34.l0 (k + 1) y0 y1 y2 y3))
 | 0 => fun _ _ _ _ r h => by simp [q34.l0] at h
 | k + 1 => by
  have ih0 := q34.mono_l k
  ·intro y0 y1 y2 y3
   unfold q34.l0
   repeat' first
   | (with_reducible exact ih0 _ _ _ _)
   | (with_reducible exact LeO.refl _)
   | (with_reducible exact LeO.none _)
   | (with_reducible refine LeO.ite ?_ ?_)
   | (with_reducible refine LeO.bind ?_ (fun _ => ?_))
   | exact ih0 _ _ _ _
   | exact LeO.none _
   | refine LeO.ite ?_ ?_
   | refine LeO.bind ?_ (fun _ => ?_)
theorem q34.mono : ∀ a0 a1 k, LeO (q34.f k a0 a1) (q34.f (k + 1) a0 a1) := by
 intro a0 a1 k
 have ih0 := q34.mono_l k
 unfold q34.f
 repeat' first
  | (with_reducible exact ih0 _ _ _ _)
  | (with_reducible exact LeO.refl _)
  | (with_reducible exact LeO.none _)
  | (with_reducible refine LeO.ite ?_ ?_)
  | (with_reducible refine LeO.bind ?_ (fun _ => ?_))
  | exact ih0 _ _ _ _
  | exact LeO.none _
  | refine LeO.ite ?_ ?_
  | refine LeO.bind ?_ (fun _ => ?_)
mutual
def q8.j0 : Nat → Bool → Int → List (List Int) → Option (Bool)
 | 0, _, _, _ => none
 | k + 1, x20, x102000, x102001 => if x20 = true then (some false) else (q8.l0 k x102001 (x102001.length : Int) 0 x102000 x102001)
def q8.l0 : Nat → List (List Int) → Int → Int → Int → List (List Int) → Option (Bool)
 | 0, _, _, _, _, _ => none
 | k + 1, x22, x23, x24, x102000, x102001 => if x24 < x23 then (if 0 ≤ x24 then (if x24 < (x22.length : Int) then ((q19.f k (rd_L1 x22 x24)).bind fun t103 => (if t103 = true then (if ((rd_L1 x22 x24).length : Int) > 0 then (if 0 ≤ (wrap64 (((rd_L1 x22 x24).length : Int) - 1)) then (if (wrap64 (((rd_L1 x22 x24).length : Int) - 1)) < ((rd_L1 x22 x24).length : Int) then (if (rd (rd_L1 x22 x24) (wrap64 (((rd_L1 x22 x24).length : Int) - 1))) ≥ x102000 then (some false) else (q8.l0 k x22 x23 (wrap64 (x24 + 1)) x102000 x102001)) else (none)) else (none)) else (q8.l0 k x22 x23 (wrap64 (x24 + 1)) x102000 x102001)) else (some false))) else (none)) else (none)) else ((q34.f k x102000 x102001).bind fun t105 => (some (decide (t105 ≤ 120))))
end
def q8.f (k : Nat) (a0_0 : Int) (l0_1 : List (List Int)) : Option (Bool) := if a0_0 < 0 then (q8.j0 k true a0_0 l0_1) else (if a0_0 > 16 then (q8.j0 k true a0_0 l0_1) else (q8.j0 k ((l0_1.length : Int) != a0_0) a0_0 l0_1))
theorem q8.mono_l : ∀ k, (∀ y0 y1 y2, LeO (q8.j0 k y0 y1 y2) (q8.j0 (k + 1) y0 y1 y2)) ∧ (∀ y0 y1 y2 y3 y4, LeO (q8.l0 k y0 y1 y2 y3 y4) (q8.l0 (k + 1) y0 y1 y2 y3 y4))
 | 0 => ⟨fun _ _ _ r h => by simp [q8.j0] at h, fun _ _ _ _ _ r h => by simp [q8.l0] at h⟩
 | k + 1 => by
  obtain ⟨ih0, ih1⟩ := q8.mono_l k
  refine ⟨?_, ?_⟩
  ·intro y0 y1 y2
   unfold q8.j0
   repeat' first
   | (with_reducible exact ih0 _ _ _)
   | (with_reducible exact ih1 _ _ _ _ _)
   | (with_reducible exact q19.mono _ _)
   | (with_reducible exact q34.mono _ _ _)
   | (with_reducible exact LeO.refl _)
   | (with_reducible exact LeO.none _)
   | (with_reducible refine LeO.ite ?_ ?_)
   | (with_reducible refine LeO.bind ?_ (fun _ => ?_))
   | exact ih0 _ _ _
   | exact ih1 _ _ _ _ _
   | exact q19.mono _ _
   | exact q34.mono _ _ _
   | exact LeO.none _
   | refine LeO.ite ?_ ?_
   | refine LeO.bind ?_ (fun _ => ?_)
  ·intro y0 y1 y2 y3 y4
   unfold q8.l0
   repeat' first
   | (with_reducible exact ih0 _ _ _)
   | (with_reducible exact ih1 _ _ _ _ _)
   | (with_reducible exact q19.mono _ _)
   | (with_reducible exact q34.mono _ _ _)
   | (with_reducible exact LeO.refl _)
   | (with_reducible exact LeO.none _)
   | (with_reducible refine LeO.ite ?_ ?_)
   | (with_reducible refine LeO.bind ?_ (fun _ => ?_))
   | exact ih0 _ _ _
   | exact ih1 _ _ _ _ _
   | exact q19.mono _ _
   | exact q34.mono _ _ _
   | exact LeO.none _
   | refine LeO.ite ?_ ?_
   | refine LeO.bind ?_ (fun _ => ?_)
theorem q8.mono : ∀ a0 a1 k, LeO (q8.f k a0 a1) (q8.f (k + 1) a0 a1) := by
 intro a0 a1 k
 obtain ⟨ih0, ih1⟩ := q8.mono_l k
 unfold q8.f
 repeat' first
  | (with_reducible exact ih0 _ _ _)
  | (with_reducible exact ih1 _ _ _ _ _)
  | (with_reducible exact q19.mono _ _)
  | (with_reducible exact q34.mono _ _ _)
  | (with_reducible exact LeO.refl _)
  | (with_reducible exact LeO.none _)
  | (with_reducible refine LeO.ite ?_ ?_)
  | (with_reducible refine LeO.bind ?_ (fun _ => ?_))
  | exact ih0 _ _ _
  | exact ih1 _ _ _ _ _
  | exact q19.mono _ _
  | exact q34.mono _ _ _
  | exact LeO.none _
  | refine LeO.ite ?_ ?_
  | refine LeO.bind ?_ (fun _ => ?_)
def q58.f (a0 : Int) : Option (Bool) := if a0 = 1 then (some true) else (if a0 = 2 then (some true) else (some (a0 == 4)))
def q53.f (a0_0 : Int) (l0_1 : List (List Int)) (a1 : Int) : Option (Bool) := if a1 ≥ 0 then (some (decide (a1 < a0_0))) else (some false)
def q22.j0 : Nat → Int → Int → Bool → Int → List (List Int) → Option (Int)
 | 0, _, _, _, _, _ => none
 | k + 1, x1, x2, x7, x102000, x102001 => if x7 = true then (some 1) else ((q58.f x1).bind fun t103 => (if t103 = true then ((q53.f x102000 x102001 x2).bind fun t104 => (if t104 = true then (some 0) else (some 3))) else (some 0)))
def q22.f (k : Nat) (a0_0 : Int) (l0_1 : List (List Int)) (a1 : Int) (a2 : Int) : Option (Int) := (q8.f k a0_0 l0_1).bind fun t102 => (if t102 = true then (if a1 < 1 then (q22.j0 k a1 a2 true a0_0 l0_1) else (q22.j0 k a1 a2 (decide (a1 > 6)) a0_0 l0_1)) else (q22.j0 k a1 a2 true a0_0 l0_1))
theorem q22.mono_l : ∀ k, (∀ y0 y1 y2 y3 y4, LeO (q22.j0 k y0 y1 y2 y3 y4) (q22.j0 (k + 1) y0 y1 y2 y3 y4))
 | 0 => fun _ _ _ _ _ r h => by simp [q22.j0] at h
 | k + 1 => by
  have ih0 := q22.mono_l k
  ·intro y0 y1 y2 y3 y4
   unfold q22.j0
   repeat' first
   | (with_reducible exact ih0 _ _ _ _ _)
   | (with_reducible exact q8.mono _ _ _)
   | (with_reducible exact LeO.refl _)
   | (with_reducible exact LeO.none _)
   | (with_reducible refine LeO.ite ?_ ?_)
   | (with_reducible refine LeO.bind ?_ (fun _ => ?_))
   | exact ih0 _ _ _ _ _
   | exact q8.mono _ _ _
   | exact LeO.none _
   | refine LeO.ite ?_ ?_
   | refine LeO.bind ?_ (fun _ => ?_)
theorem q22.mono : ∀ a0 a1 a2 a3 k, LeO (q22.f k a0 a1 a2 a3) (q22.f (k + 1) a0 a1 a2 a3) := by
 intro a0 a1 a2 a3 k
 have ih0 := q22.mono_l k
 unfold q22.f
 repeat' first
  | (with_reducible exact ih0 _ _ _ _ _)
  | (with_reducible exact q8.mono _ _ _)
  | (with_reducible exact LeO.refl _)
  | (with_reducible exact LeO.none _)
  | (with_reducible refine LeO.ite ?_ ?_)
  | (with_reducible refine LeO.bind ?_ (fun _ => ?_))
  | exact ih0 _ _ _ _ _
  | exact q8.mono _ _ _
  | exact LeO.none _
  | refine LeO.ite ?_ ?_
  | refine LeO.bind ?_ (fun _ => ?_)
def q54.f (l0 : List Int) : Option (List Int) := (some (([] : List Int) : List Int)).bind fun y101 => (if y101.length + l0.length < 17592186044416 then (some (y101 ++ l0)) else (none))
def q64.f (a0 : Int) : Option (Int × (List (List Int))) := if 0 ≤ a0 then (if (a0 : Int).toNat ≤ 11728124029610 then (some (a0, (List.replicate (a0 : Int).toNat []))) else (none)) else (none)
mutual
def q9.l0 : Nat → List (S78) → List (List Int) → Int → Int → Option ((List (S78)))
 | 0, _, _, _, _ => none
 | k + 1, x2, x8, x9, x10 => if x10 < x9 then (if 0 ≤ x10 then (if x10 < (x8.length : Int) then (q9.l1 k x2 x10 x8 x9 x10 (rd_L1 x8 x10) ((rd_L1 x8 x10).length : Int) 0) else (none)) else (none)) else (some x2)
def q9.l1 : Nat → List (S78) → Int → List (List Int) → Int → Int → List Int → Int → Int → Option ((List (S78)))
 | 0, _, _, _, _, _, _, _, _ => none
 | k + 1, x2, x3, x8, x9, x10, x15, x16, x17 => if x17 < x16 then (if 0 ≤ x17 then (if x17 < (x15.length : Int) then (if x2.length < 8796093022208 then (q9.l1 k (x2 ++ [(⟨x3, rd x15 x17⟩ : S78)]) x3 x8 x9 x10 x15 x16 (wrap64 (x17 + 1))) else (none)) else (none)) else (none)) else (q9.l0 k x2 x8 x9 (wrap64 (x10 + 1)))
end
def q9.f (k : Nat) (a0_0 : Int) (l0_1 : List (List Int)) : Option ((List (S78))) := q9.l0 k ([] : List (S78)) l0_1 (l0_1.length : Int) 0
theorem q9.mono_l : ∀ k, (∀ y0 y1 y2 y3, LeO (q9.l0 k y0 y1 y2 y3) (q9.l0 (k + 1) y0 y1 y2 y3)) ∧ (∀ y0 y1 y2 y3 y4 y5 y6 y7, LeO (q9.l1 k y0 y1 y2 y3 y4 y5 y6 y7) (q9.l1 (k + 1) y0 y1 y2 y3 y4 y5 y6 y7))
 | 0 => ⟨fun _ _ _ _ r h => by simp [q9.l0] at h, fun _ _ _ _ _ _ _ _ r h => by simp [q9.l1] at h⟩
 | k + 1 => by
  obtain ⟨ih0, ih1⟩ := q9.mono_l k
  refine ⟨?_, ?_⟩
  ·intro y0 y1 y2 y3
   unfold q9.l0
   repeat' first
   | (with_reducible exact ih0 _ _ _ _)
   | (with_reducible exact ih1 _ _ _ _ _ _ _ _)
   | (with_reducible exact LeO.refl _)
   | (with_reducible exact LeO.none _)
   | (with_reducible refine LeO.ite ?_ ?_)
   | (with_reducible refine LeO.bind ?_ (fun _ => ?_))
   | exact ih0 _ _ _ _
   | exact ih1 _ _ _ _ _ _ _ _
   | exact LeO.none _
   | refine LeO.ite ?_ ?_
   | refine LeO.bind ?_ (fun _ => ?_)
  ·intro y0 y1 y2 y3 y4 y5 y6 y7
   unfold q9.l1
   repeat' first
   | (with_reducible exact ih0 _ _ _ _)
   | (with_reducible exact ih1 _ _ _ _ _ _ _ _)
   | (with_reducible exact LeO.refl _)
   | (with_reducible exact LeO.none _)
   | (with_reducible refine LeO.ite ?_ ?_)
   | (with_reducible refine LeO.bind ?_ (fun _ => ?_))
   | exact ih0 _ _ _ _
   | exact ih1 _ _ _ _ _ _ _ _
   | exact LeO.none _
   | refine LeO.ite ?_ ?_
   | refine LeO.bind ?_ (fun _ => ?_)
theorem q9.mono : ∀ a0 a1 k, LeO (q9.f k a0 a1) (q9.f (k + 1) a0 a1) := by
 intro a0 a1 k
 obtain ⟨ih0, ih1⟩ := q9.mono_l k
 unfold q9.f
 repeat' first
  | (with_reducible exact ih0 _ _ _ _)
  | (with_reducible exact ih1 _ _ _ _ _ _ _ _)
  | (with_reducible exact LeO.refl _)
  | (with_reducible exact LeO.none _)
  | (with_reducible refine LeO.ite ?_ ?_)
  | (with_reducible refine LeO.bind ?_ (fun _ => ?_))
  | exact ih0 _ _ _ _
  | exact ih1 _ _ _ _ _ _ _ _
  | exact LeO.none _
  | refine LeO.ite ?_ ?_
  | refine LeO.bind ?_ (fun _ => ?_)
def q30.l0 : Nat → List (S78) → Int → Int → Int → List (List Int) → Option (Int × (List (List Int)))
 | 0, _, _, _, _, _ => none
 | k + 1, x10, x11, x12, x108000, x108001 => if x12 < x11 then (if 0 ≤ x12 then (if x12 < (x10.length : Int) then (if 0 ≤ ((rd_T78 x10 x12).f1) then (if ((rd_T78 x10 x12).f1) < (x108001.length : Int) then (if (rd_L1 x108001 ((rd_T78 x10 x12).f1)).length < 17592186044416 then (q30.l0 k x10 x11 (wrap64 (x12 + 1)) x108000 (x108001.set (((rd_T78 x10 x12).f1) : Int).toNat ((rd_L1 x108001 ((rd_T78 x10 x12).f1)) ++ [(rd_T78 x10 x12).f0]))) else (none)) else (none)) else (none)) else (none)) else (none)) else (some (x108000, x108001))
def q30.f (k : Nat) (a0_0 : Int) (l0_1 : List (List Int)) : Option (Int × (List (List Int))) := (q64.f a0_0).bind fun bt103 => ((q9.f k a0_0 l0_1).bind fun t108 => (q30.l0 k t108 (t108.length : Int) 0 bt103.1 bt103.2))
theorem q30.mono_l : ∀ k, (∀ y0 y1 y2 y3 y4, LeO (q30.l0 k y0 y1 y2 y3 y4) (q30.l0 (k + 1) y0 y1 y2 y3 y4))
 | 0 => fun _ _ _ _ _ r h => by simp [q30.l0] at h
 | k + 1 => by
  have ih0 := q30.mono_l k
  ·intro y0 y1 y2 y3 y4
   unfold q30.l0
   repeat' first
   | (with_reducible exact ih0 _ _ _ _ _)
   | (with_reducible exact q9.mono _ _ _)
   | (with_reducible exact LeO.refl _)
   | (with_reducible exact LeO.none _)
   | (with_reducible refine LeO.ite ?_ ?_)
   | (with_reducible refine LeO.bind ?_ (fun _ => ?_))
   | exact ih0 _ _ _ _ _
   | exact q9.mono _ _ _
   | exact LeO.none _
   | refine LeO.ite ?_ ?_
   | refine LeO.bind ?_ (fun _ => ?_)
theorem q30.mono : ∀ a0 a1 k, LeO (q30.f k a0 a1) (q30.f (k + 1) a0 a1) := by
 intro a0 a1 k
 have ih0 := q30.mono_l k
 unfold q30.f
 repeat' first
  | (with_reducible exact ih0 _ _ _ _ _)
  | (with_reducible exact q9.mono _ _ _)
  | (with_reducible exact LeO.refl _)
  | (with_reducible exact LeO.none _)
  | (with_reducible refine LeO.ite ?_ ?_)
  | (with_reducible refine LeO.bind ?_ (fun _ => ?_))
  | exact ih0 _ _ _ _ _
  | exact q9.mono _ _ _
  | exact LeO.none _
  | refine LeO.ite ?_ ?_
  | refine LeO.bind ?_ (fun _ => ?_)
mutual
def q24.l0 : Nat → List Int → List (List Int) → Int → Int → Option (List Int)
 | 0, _, _, _, _ => none
 | k + 1, x2, x6, x7, x8 => if x8 < x7 then (if 0 ≤ x8 then (if x8 < (x6.length : Int) then (q24.l1 k x2 (rd_L1 x6 x8) x6 x7 x8) else (none)) else (none)) else (some x2)
def q24.l1 : Nat → List Int → List Int → List (List Int) → Int → Int → Option (List Int)
 | 0, _, _, _, _, _ => none
 | k + 1, x2, x4, x6, x7, x8 => if (x2.length : Int) ≤ (x4.length : Int) then (if x2.length < 17592186044416 then (q24.l1 k (x2 ++ [0]) x4 x6 x7 x8) else (none)) else (if 0 ≤ (x4.length : Int) then (if (x4.length : Int) < (x2.length : Int) then (q24.l0 k (x2.set ((x4.length : Int) : Int).toNat (wrap64 ((rd x2 (x4.length : Int)) + 1))) x6 x7 (wrap64 (x8 + 1))) else (none)) else (none))
end
def q24.f (k : Nat) (a0_0 : Int) (l0_1 : List (List Int)) : Option (List Int) := q24.l0 k ([] : List Int) l0_1 (l0_1.length : Int) 0
theorem q24.mono_l : ∀ k, (∀ y0 y1 y2 y3, LeO (q24.l0 k y0 y1 y2 y3) (q24.l0 (k + 1) y0 y1 y2 y3)) ∧ (∀ y0 y1 y2 y3 y4, LeO (q24.l1 k y0 y1 y2 y3 y4) (q24.l1 (k + 1) y0 y1 y2 y3 y4))
 | 0 => ⟨fun _ _ _ _ r h => by simp [q24.l0] at h, fun _ _ _ _ _ r h => by simp [q24.l1] at h⟩
 | k + 1 => by
  obtain ⟨ih0, ih1⟩ := q24.mono_l k
  refine ⟨?_, ?_⟩
  ·intro y0 y1 y2 y3
   unfold q24.l0
   repeat' first
   | (with_reducible exact ih0 _ _ _ _)
   | (with_reducible exact ih1 _ _ _ _ _)
   | (with_reducible exact LeO.refl _)
   | (with_reducible exact LeO.none _)
   | (with_reducible refine LeO.ite ?_ ?_)
   | (with_reducible refine LeO.bind ?_ (fun _ => ?_))
   | exact ih0 _ _ _ _
   | exact ih1 _ _ _ _ _
   | exact LeO.none _
   | refine LeO.ite ?_ ?_
   | refine LeO.bind ?_ (fun _ => ?_)
  ·intro y0 y1 y2 y3 y4
   unfold q24.l1
   repeat' first
   | (with_reducible exact ih0 _ _ _ _)
   | (with_reducible exact ih1 _ _ _ _ _)
   | (with_reducible exact LeO.refl _)
   | (with_reducible exact LeO.none _)
   | (with_reducible refine LeO.ite ?_ ?_)
   | (with_reducible refine LeO.bind ?_ (fun _ => ?_))
   | exact ih0 _ _ _ _
   | exact ih1 _ _ _ _ _
   | exact LeO.none _
   | refine LeO.ite ?_ ?_
   | refine LeO.bind ?_ (fun _ => ?_)
theorem q24.mono : ∀ a0 a1 k, LeO (q24.f k a0 a1) (q24.f (k + 1) a0 a1) := by
 intro a0 a1 k
 obtain ⟨ih0, ih1⟩ := q24.mono_l k
 unfold q24.f
 repeat' first
  | (with_reducible exact ih0 _ _ _ _)
  | (with_reducible exact ih1 _ _ _ _ _)
  | (with_reducible exact LeO.refl _)
  | (with_reducible exact LeO.none _)
  | (with_reducible refine LeO.ite ?_ ?_)
  | (with_reducible refine LeO.bind ?_ (fun _ => ?_))
  | exact ih0 _ _ _ _
  | exact ih1 _ _ _ _ _
  | exact LeO.none _
  | refine LeO.ite ?_ ?_
  | refine LeO.bind ?_ (fun _ => ?_)
def q62.f (a0 : Int) (a1 : Int) : Option (Int × Int) := some (IntKind.u64.wrap ((IntKind.u64.wrap ((IntKind.u64.wrap ((a0 / 4294967296) * (a1 / 4294967296))) + ((IntKind.u64.wrap ((IntKind.u64.wrap ((a0 / 4294967296) * (Go.bits .and .u64 a1 4294967295))) + ((IntKind.u64.wrap ((Go.bits .and .u64 a0 4294967295) * (Go.bits .and .u64 a1 4294967295))) / 4294967296))) / 4294967296))) + ((IntKind.u64.wrap ((Go.bits .and .u64 (IntKind.u64.wrap ((IntKind.u64.wrap ((a0 / 4294967296) * (Go.bits .and .u64 a1 4294967295))) + ((IntKind.u64.wrap ((Go.bits .and .u64 a0 4294967295) * (Go.bits .and .u64 a1 4294967295))) / 4294967296))) 4294967295) + (IntKind.u64.wrap ((Go.bits .and .u64 a0 4294967295) * (a1 / 4294967296))))) / 4294967296)), IntKind.u64.wrap (a0 * a1))
def q63.f (a0 : Int) (a1 : Int) : Option (Int × Int) := (q62.f a0 a1).bind fun bt101 => (some (bt101.1, bt101.2))
def q59.f (l0 : List Int) (a1 : Int) : Option (List Int) := if l0.length = 1 then (if 0 ≤ a1 then (if a1 ≤ 1000000 then (some (List.replicate (a1 : Int).toNat (rd l0 0))) else (none)) else (none)) else (none)
theorem q59.mul_one (n : Nat) (h : n ≤ 1000000) : q63.f 1 (n : Int) = some ((0 : Int), (n : Int)) := by
 have h1 : Go.bits .and .u64 1 4294967295 = 1 := by rw [and_low32 1 (by omega) (by omega)]; omega
 have h2 : Go.bits .and .u64 (n : Int) 4294967295 = n := by rw [and_low32 n (by omega) (by omega)]; omega
 unfold q63.f q62.f
 simp only [h1, h2, Option.bind_some, show (1 : Int) / 4294967296 = 0 from by decide, show (n : Int) / 4294967296 = 0 from by omega, Int.zero_mul, Int.mul_zero, Int.one_mul, wrap_u64_]
 simp only [show (0 : Int) % 18446744073709551616 = 0 from by decide, show (n : Int) % 18446744073709551616 = n from by omega, show (n : Int) / 4294967296 = 0 from by omega, Int.add_zero, Int.zero_add]
 rw [show Go.bits .and .u64 0 4294967295 = 0 from by rw [and_low32 0 (by omega) (by omega)]; omega]
 simp
mutual
def q16.l0 : Nat → List Int → List Int → Int → List (List Int) → Option (List Int)
 | 0, _, _, _, _ => none
 | k + 1, x5, x6, x102000, x102001 => if (x6.length : Int) > 0 then (if 0 < (x6.length : Int) then (if 1 ≤ (x6.length : Int) then (if 0 ≤ (rd x6 0) then (if (rd x6 0) < (x102001.length : Int) then (q16.l1 k x5 (x6.drop (1 : Int).toNat) (rd x6 0) (rd_L1 x102001 (rd x6 0)) ((rd_L1 x102001 (rd x6 0)).length : Int) 0 x102000 x102001) else (none)) else (none)) else (none)) else (none)) else (some x5)
def q16.l1 : Nat → List Int → List Int → Int → List Int → Int → Int → Int → List (List Int) → Option (List Int)
 | 0, _, _, _, _, _, _, _, _ => none
 | k + 1, x5, x6, x7, x31, x32, x33, x102000, x102001 => if x33 < x32 then (if 0 ≤ x33 then (if x33 < (x31.length : Int) then (if 0 ≤ (rd x31 x33) then (if (rd x31 x33) < (x5.length : Int) then (if (rd x5 (rd x31 x33)) < 0 then (if 0 ≤ x7 then (if x7 < (x5.length : Int) then (if x6.length < 17592186044416 then (q16.l1 k (x5.set ((rd x31 x33) : Int).toNat (wrap64 ((rd x5 x7) + 1))) (x6 ++ [rd x31 x33]) x7 x31 x32 (wrap64 (x33 + 1)) x102000 x102001) else (none)) else (none)) else (none)) else (q16.l1 k x5 x6 x7 x31 x32 (wrap64 (x33 + 1)) x102000 x102001)) else (none)) else (none)) else (none)) else (none)) else (q16.l0 k x5 x6 x102000 x102001)
end
def q16.f (k : Nat) (a0_0 : Int) (l0_1 : List (List Int)) (a1 : Int) : Option (List Int) := (q59.f (([(-1)] : List Int)) a0_0).bind fun t105 => (if 0 ≤ a1 then (if a1 < (t105.length : Int) then (q16.l0 k (t105.set (a1 : Int).toNat 0) (([a1] : List Int)) a0_0 l0_1) else (none)) else (none))
theorem q16.mono_l : ∀ k, (∀ y0 y1 y2 y3, LeO (q16.l0 k y0 y1 y2 y3) (q16.l0 (k + 1) y0 y1 y2 y3)) ∧ (∀ y0 y1 y2 y3 y4 y5 y6 y7, LeO (q16.l1 k y0 y1 y2 y3 y4 y5 y6 y7) (q16.l1 (k + 1) y0 y1 y2 y3 y4 y5 y6 y7))
 | 0 => ⟨fun _ _ _ _ r h => by simp [q16.l0] at h, fun _ _ _ _ _ _ _ _ r h => by simp [q16.l1] at h⟩
 | k + 1 => by
  obtain ⟨ih0, ih1⟩ := q16.mono_l k
  refine ⟨?_, ?_⟩
  ·intro y0 y1 y2 y3
   unfold q16.l0
   repeat' first
   | (with_reducible exact ih0 _ _ _ _)
   | (with_reducible exact ih1 _ _ _ _ _ _ _ _)
   | (with_reducible exact LeO.refl _)
   | (with_reducible exact LeO.none _)
   | (with_reducible refine LeO.ite ?_ ?_)
   | (with_reducible refine LeO.bind ?_ (fun _ => ?_))
   | exact ih0 _ _ _ _
   | exact ih1 _ _ _ _ _ _ _ _
   | exact LeO.none _
   | refine LeO.ite ?_ ?_
   | refine LeO.bind ?_ (fun _ => ?_)
  ·intro y0 y1 y2 y3 y4 y5 y6 y7
   unfold q16.l1
   repeat' first
   | (with_reducible exact ih0 _ _ _ _)
   | (with_reducible exact ih1 _ _ _ _ _ _ _ _)
   | (with_reducible exact LeO.refl _)
   | (with_reducible exact LeO.none _)
   | (with_reducible refine LeO.ite ?_ ?_)
   | (with_reducible refine LeO.bind ?_ (fun _ => ?_))
   | exact ih0 _ _ _ _
   | exact ih1 _ _ _ _ _ _ _ _
   | exact LeO.none _
   | refine LeO.ite ?_ ?_
   | refine LeO.bind ?_ (fun _ => ?_)
theorem q16.mono : ∀ a0 a1 a2 k, LeO (q16.f k a0 a1 a2) (q16.f (k + 1) a0 a1 a2) := by
 intro a0 a1 a2 k
 obtain ⟨ih0, ih1⟩ := q16.mono_l k
 unfold q16.f
 repeat' first
  | (with_reducible exact ih0 _ _ _ _)
  | (with_reducible exact ih1 _ _ _ _ _ _ _ _)
  | (with_reducible exact LeO.refl _)
  | (with_reducible exact LeO.none _)
  | (with_reducible refine LeO.ite ?_ ?_)
  | (with_reducible refine LeO.bind ?_ (fun _ => ?_))
  | exact ih0 _ _ _ _
  | exact ih1 _ _ _ _ _ _ _ _
  | exact LeO.none _
  | refine LeO.ite ?_ ?_
  | refine LeO.bind ?_ (fun _ => ?_)
mutual
def q5.l0 : Nat → List Int → Int → Int → Int → List (List Int) → Option (List Int)
 | 0, _, _, _, _, _ => none
 | k + 1, x3, x14, x15, x102000, x102001 => if x15 < x14 then (if 0 ≤ x15 then (if x15 < (x3.length : Int) then (q5.l0 k (x3.set (x15 : Int).toNat x15) x14 (wrap64 (x15 + 1)) x102000 x102001) else (none)) else (none)) else ((q9.f k x102000 x102001).bind fun t106 => (q5.l1 k x3 t106 (t106.length : Int) 0))
def q5.l1 : Nat → List Int → List (S78) → Int → Int → Option (List Int)
 | 0, _, _, _, _ => none
 | k + 1, x3, x24, x25, x26 => if x26 < x25 then (if 0 ≤ x26 then (if x26 < (x24.length : Int) then (if 0 ≤ ((rd_T78 x24 x26).f0) then (if ((rd_T78 x24 x26).f0) < (x3.length : Int) then (if 0 ≤ ((rd_T78 x24 x26).f1) then (if ((rd_T78 x24 x26).f1) < (x3.length : Int) then (q5.l2 k x3 (mn (rd x3 ((rd_T78 x24 x26).f0)) (rd x3 ((rd_T78 x24 x26).f1))) (mx (rd x3 ((rd_T78 x24 x26).f0)) (rd x3 ((rd_T78 x24 x26).f1))) x24 x25 x26 (x3.length : Int) 0) else (none)) else (none)) else (none)) else (none)) else (none)) else (none)) else (some x3)
def q5.l2 : Nat → List Int → Int → Int → List (S78) → Int → Int → Int → Int → Option (List Int)
 | 0, _, _, _, _, _, _, _, _ => none
 | k + 1, x3, x7, x8, x24, x25, x26, x53, x54 => if x54 < x53 then (if 0 ≤ x54 then (if x54 < (x3.length : Int) then (if (rd x3 x54) = x8 then (q5.l2 k (x3.set (x54 : Int).toNat x7) x7 x8 x24 x25 x26 x53 (wrap64 (x54 + 1))) else (q5.l2 k x3 x7 x8 x24 x25 x26 x53 (wrap64 (x54 + 1)))) else (none)) else (none)) else (q5.l1 k x3 x24 x25 (wrap64 (x26 + 1)))
end
def q5.f (k : Nat) (a0_0 : Int) (l0_1 : List (List Int)) : Option (List Int) := if 0 ≤ a0_0 then (if (a0_0 : Int).toNat ≤ 35184372088832 then ((some (List.replicate (a0_0 : Int).toNat 0 : List Int)).bind fun y102 => (q5.l0 k y102 (y102.length : Int) 0 a0_0 l0_1)) else (none)) else (none)
theorem q5.mono_l : ∀ k, (∀ y0 y1 y2 y3 y4, LeO (q5.l0 k y0 y1 y2 y3 y4) (q5.l0 (k + 1) y0 y1 y2 y3 y4)) ∧ (∀ y0 y1 y2 y3, LeO (q5.l1 k y0 y1 y2 y3) (q5.l1 (k + 1) y0 y1 y2 y3)) ∧ (∀ y0 y1 y2 y3 y4 y5 y6 y7, LeO (q5.l2 k y0 y1 y2 y3 y4 y5 y6 y7) (q5.l2 (k + 1) y0 y1 y2 y3 y4 y5 y6 y7))
 | 0 => ⟨fun _ _ _ _ _ r h => by simp [q5.l0] at h, fun _ _ _ _ r h => by simp [q5.l1] at h, fun _ _ _ _ _ _ _ _ r h => by simp [q5.l2] at h⟩
 | k + 1 => by
  obtain ⟨ih0, ih1, ih2⟩ := q5.mono_l k
  refine ⟨?_, ?_, ?_⟩
  ·intro y0 y1 y2 y3 y4
   unfold q5.l0
   repeat' first
   | (with_reducible exact ih0 _ _ _ _ _)
   | (with_reducible exact ih1 _ _ _ _)
   | (with_reducible exact ih2 _ _ _ _ _ _ _ _)
   | (with_reducible exact q9.mono _ _ _)
   | (with_reducible exact LeO.refl _)
   | (with_reducible exact LeO.none _)
   | (with_reducible refine LeO.ite ?_ ?_)
   | (with_reducible refine LeO.bind ?_ (fun _ => ?_))
   | exact ih0 _ _ _ _ _
   | exact ih1 _ _ _ _
   | exact ih2 _ _ _ _ _ _ _ _
   | exact q9.mono _ _ _
   | exact LeO.none _
   | refine LeO.ite ?_ ?_
   | refine LeO.bind ?_ (fun _ => ?_)
  ·intro y0 y1 y2 y3
   unfold q5.l1
   repeat' first
   | (with_reducible exact ih0 _ _ _ _ _)
   | (with_reducible exact ih1 _ _ _ _)
   | (with_reducible exact ih2 _ _ _ _ _ _ _ _)
   | (with_reducible exact q9.mono _ _ _)
   | (with_reducible exact LeO.refl _)
   | (with_reducible exact LeO.none _)
   | (with_reducible refine LeO.ite ?_ ?_)
   | (with_reducible refine LeO.bind ?_ (fun _ => ?_))
   | exact ih0 _ _ _ _ _
   | exact ih1 _ _ _ _
   | exact ih2 _ _ _ _ _ _ _ _
   | exact q9.mono _ _ _
   | exact LeO.none _
   | refine LeO.ite ?_ ?_
   | refine LeO.bind ?_ (fun _ => ?_)
  ·intro y0 y1 y2 y3 y4 y5 y6 y7
   unfold q5.l2
   repeat' first
   | (with_reducible exact ih0 _ _ _ _ _)
   | (with_reducible exact ih1 _ _ _ _)
   | (with_reducible exact ih2 _ _ _ _ _ _ _ _)
   | (with_reducible exact q9.mono _ _ _)
   | (with_reducible exact LeO.refl _)
   | (with_reducible exact LeO.none _)
   | (with_reducible refine LeO.ite ?_ ?_)
   | (with_reducible refine LeO.bind ?_ (fun _ => ?_))
   | exact ih0 _ _ _ _ _
   | exact ih1 _ _ _ _
   | exact ih2 _ _ _ _ _ _ _ _
   | exact q9.mono _ _ _
   | exact LeO.none _
   | refine LeO.ite ?_ ?_
   | refine LeO.bind ?_ (fun _ => ?_)
theorem q5.mono : ∀ a0 a1 k, LeO (q5.f k a0 a1) (q5.f (k + 1) a0 a1) := by
 intro a0 a1 k
 obtain ⟨ih0, ih1, ih2⟩ := q5.mono_l k
 unfold q5.f
 repeat' first
  | (with_reducible exact ih0 _ _ _ _ _)
  | (with_reducible exact ih1 _ _ _ _)
  | (with_reducible exact ih2 _ _ _ _ _ _ _ _)
  | (with_reducible exact q9.mono _ _ _)
  | (with_reducible exact LeO.refl _)
  | (with_reducible exact LeO.none _)
  | (with_reducible refine LeO.ite ?_ ?_)
  | (with_reducible refine LeO.bind ?_ (fun _ => ?_))
  | exact ih0 _ _ _ _ _
  | exact ih1 _ _ _ _
  | exact ih2 _ _ _ _ _ _ _ _
  | exact q9.mono _ _ _
  | exact LeO.none _
  | refine LeO.ite ?_ ?_
  | refine LeO.bind ?_ (fun _ => ?_)
def q31.l0 : Nat → List Int → List (S78) → Int → Int → Option (List Int)
 | 0, _, _, _, _ => none
 | k + 1, x2, x6, x7, x8 => if x8 < x7 then (if 0 ≤ x8 then (if x8 < (x6.length : Int) then ((some (([(rd_T78 x6 x8).f0, (rd_T78 x6 x8).f1] : List Int) : List Int)).bind fun y107 => (if x2.length + y107.length < 17592186044416 then (q31.l0 k (x2 ++ y107) x6 x7 (wrap64 (x8 + 1))) else (none))) else (none)) else (none)) else (some x2)
def q31.f (k : Nat) (a0_0 : Int) (l0_1 : List (List Int)) : Option (List Int) := (q9.f k a0_0 l0_1).bind fun t102 => (q31.l0 k ([] : List Int) t102 (t102.length : Int) 0)
theorem q31.mono_l : ∀ k, (∀ y0 y1 y2 y3, LeO (q31.l0 k y0 y1 y2 y3) (q31.l0 (k + 1) y0 y1 y2 y3))
 | 0 => fun _ _ _ _ r h => by simp [q31.l0] at h
 | k + 1 => by
  have ih0 := q31.mono_l k
  ·intro y0 y1 y2 y3
   unfold q31.l0
   repeat' first
   | (with_reducible exact ih0 _ _ _ _)
   | (with_reducible exact q9.mono _ _ _)
   | (with_reducible exact LeO.refl _)
   | (with_reducible exact LeO.none _)
   | (with_reducible refine LeO.ite ?_ ?_)
   | (with_reducible refine LeO.bind ?_ (fun _ => ?_))
   | exact ih0 _ _ _ _
   | exact q9.mono _ _ _
   | exact LeO.none _
   | refine LeO.ite ?_ ?_
   | refine LeO.bind ?_ (fun _ => ?_)
theorem q31.mono : ∀ a0 a1 k, LeO (q31.f k a0 a1) (q31.f (k + 1) a0 a1) := by
 intro a0 a1 k
 have ih0 := q31.mono_l k
 unfold q31.f
 repeat' first
  | (with_reducible exact ih0 _ _ _ _)
  | (with_reducible exact q9.mono _ _ _)
  | (with_reducible exact LeO.refl _)
  | (with_reducible exact LeO.none _)
  | (with_reducible refine LeO.ite ?_ ?_)
  | (with_reducible refine LeO.bind ?_ (fun _ => ?_))
  | exact ih0 _ _ _ _
  | exact q9.mono _ _ _
  | exact LeO.none _
  | refine LeO.ite ?_ ?_
  | refine LeO.bind ?_ (fun _ => ?_)
def q27.f (k : Nat) (a0_0 : Int) (l0_1 : List (List Int)) (a1 : Int) (a2 : Int) : Option (List Int × Int) := (q22.f k a0_0 l0_1 a1 a2).bind fun t102 => (if t102 = 0 then (if a1 = 1 then (if 0 ≤ a2 then (if a2 < (l0_1.length : Int) then ((q54.f (rd_L1 l0_1 a2)).bind fun t104 => (some (t104, 0))) else (none)) else (none)) else (if a1 = 2 then ((q30.f k a0_0 l0_1).bind fun bt107 => (if 0 ≤ a2 then (if a2 < (bt107.2.length : Int) then (some (rd_L1 bt107.2 a2, 0)) else (none)) else (none))) else (if a1 = 3 then ((q24.f k a0_0 l0_1).bind fun t112 => (some (t112, 0))) else (if a1 = 4 then ((q16.f k a0_0 l0_1 a2).bind fun t115 => (some (t115, 0))) else (if a1 = 5 then ((q5.f k a0_0 l0_1).bind fun t118 => (some (t118, 0))) else ((q31.f k a0_0 l0_1).bind fun t121 => (some (t121, 0)))))))) else (some (([] : List Int), t102)))
theorem q27.mono : ∀ a0 a1 a2 a3 k, LeO (q27.f k a0 a1 a2 a3) (q27.f (k + 1) a0 a1 a2 a3) := by
 intro a0 a1 a2 a3 k
 unfold q27.f
 repeat' first
  | (with_reducible exact q30.mono _ _ _)
  | (with_reducible exact q22.mono _ _ _ _ _)
  | (with_reducible exact q31.mono _ _ _)
  | (with_reducible exact q24.mono _ _ _)
  | (with_reducible exact q16.mono _ _ _ _)
  | (with_reducible exact q5.mono _ _ _)
  | (with_reducible exact LeO.refl _)
  | (with_reducible exact LeO.none _)
  | (with_reducible refine LeO.ite ?_ ?_)
  | (with_reducible refine LeO.bind ?_ (fun _ => ?_))
  | exact q30.mono _ _ _
  | exact q22.mono _ _ _ _ _
  | exact q31.mono _ _ _
  | exact q24.mono _ _ _
  | exact q16.mono _ _ _ _
  | exact q5.mono _ _ _
  | exact LeO.none _
  | refine LeO.ite ?_ ?_
  | refine LeO.bind ?_ (fun _ => ?_)
def q55.f (a0 : Int) (a1 : Int) (a2 : Int) : Option (Bool) := if a0 ≥ a1 then (some (decide (a0 ≤ a2))) else (some false)
def q52.f (a0 : Int) : Option (Bool) := if a0 = 1 then (some true) else (if a0 = 2 then (some true) else (some (a0 == 4)))
def q60.f (a0_0 : Int) (l0_1 : List (List Int)) (a1 : Int) (a2 : Int) : Option (Int) := (q55.f a1 1 6).bind fun t102 => (if t102 = true then ((q52.f a1).bind fun t103 => (if t103 = true then ((q38.f a2 (wrap64 (a0_0 - 1))).bind fun t104 => (if t104 = true then (some 0) else (some 3))) else (some 0))) else (some 1))
def q37.l0 : Nat → List Int → List Int → Int → Option (List Int)
 | 0, _, _, _ => none
 | k + 1, x0, x3, x4 => if x4 < (x0.length : Int) then (if 0 ≤ x4 then (if x3.length < 17592186044416 then (q37.l0 k x0 (x3 ++ [rd x0 x4]) (wrap64 (x4 + 1))) else (none)) else (none)) else (some x3)
def q37.f (k : Nat) (l0 : List Int) : Option (List Int) := q37.l0 k l0 ([] : List Int) 0
mutual
def q32.l0 : Nat → List (S78) → Int → Int → List (List Int) → Option ((List (S78)))
 | 0, _, _, _, _ => none
 | k + 1, x3, x4, x102000, x102001 => if x4 < x102000 then (q32.l1 k x3 x4 0 x102000 x102001) else (some x3)
def q32.l1 : Nat → List (S78) → Int → Int → Int → List (List Int) → Option ((List (S78)))
 | 0, _, _, _, _, _ => none
 | k + 1, x3, x4, x5, x102000, x102001 => if 0 ≤ x4 then (if x4 < (x102001.length : Int) then (if x5 < ((rd_L1 x102001 x4).length : Int) then (if 0 ≤ x5 then (if x3.length < 8796093022208 then (q32.l1 k (x3 ++ [(⟨x4, rd (rd_L1 x102001 x4) x5⟩ : S78)]) x4 (wrap64 (x5 + 1)) x102000 x102001) else (none)) else (none)) else (q32.l0 k x3 (wrap64 (x4 + 1)) x102000 x102001)) else (none)) else (none)
end
def q32.f (k : Nat) (a0_0 : Int) (l0_1 : List (List Int)) : Option ((List (S78))) := q32.l0 k ([] : List (S78)) 0 a0_0 l0_1
def q65.f (a0 : Int) : Option (Int × (List (List Int))) := if 0 ≤ a0 then (if (a0 : Int).toNat ≤ 11728124029610 then (some (a0, (List.replicate (a0 : Int).toNat []))) else (none)) else (none)
def q42.l0 : Nat → List (S78) → Int → Int → List (List Int) → Option (Int × (List (List Int)))
 | 0, _, _, _, _ => none
 | k + 1, x4, x5, x108000, x108001 => if x5 < (x4.length : Int) then (if 0 ≤ x5 then (if 0 ≤ ((rd_T78 x4 x5).f1) then (if ((rd_T78 x4 x5).f1) < (x108001.length : Int) then (if (rd_L1 x108001 ((rd_T78 x4 x5).f1)).length < 17592186044416 then (q42.l0 k x4 (wrap64 (x5 + 1)) x108000 (x108001.set (((rd_T78 x4 x5).f1) : Int).toNat ((rd_L1 x108001 ((rd_T78 x4 x5).f1)) ++ [(rd_T78 x4 x5).f0]))) else (none)) else (none)) else (none)) else (none)) else (some (x108000, x108001))
def q42.f (k : Nat) (a0_0 : Int) (l0_1 : List (List Int)) : Option (Int × (List (List Int))) := (q65.f a0_0).bind fun bt103 => ((q32.f k a0_0 l0_1).bind fun t108 => (q42.l0 k t108 0 bt103.1 bt103.2))
mutual
def q36.l0 : Nat → List Int → Int → Int → List (List Int) → Option (List Int)
 | 0, _, _, _, _ => none
 | k + 1, x3, x4, x102000, x102001 => if x4 < x102000 then (q36.l1 k x3 x4 x102000 x102001) else (some x3)
def q36.l1 : Nat → List Int → Int → Int → List (List Int) → Option (List Int)
 | 0, _, _, _, _ => none
 | k + 1, x3, x4, x102000, x102001 => if 0 ≤ x4 then (if x4 < (x102001.length : Int) then (if (x3.length : Int) ≤ ((rd_L1 x102001 x4).length : Int) then (if x3.length < 17592186044416 then (q36.l1 k (x3 ++ [0]) x4 x102000 x102001) else (none)) else (if 0 ≤ ((rd_L1 x102001 x4).length : Int) then (if ((rd_L1 x102001 x4).length : Int) < (x3.length : Int) then (q36.l0 k (x3.set (((rd_L1 x102001 x4).length : Int) : Int).toNat (wrap64 ((rd x3 ((rd_L1 x102001 x4).length : Int)) + 1))) (wrap64 (x4 + 1)) x102000 x102001) else (none)) else (none))) else (none)) else (none)
end
def q36.f (k : Nat) (a0_0 : Int) (l0_1 : List (List Int)) : Option (List Int) := q36.l0 k ([] : List Int) 0 a0_0 l0_1
mutual
def q7.l0 : Nat → Int → List Int → Int → Int → List (List Int) → Option (List Int)
 | 0, _, _, _, _, _ => none
 | k + 1, x1, x5, x6, x102000, x102001 => if x6 < x102000 then (if 0 ≤ x6 then (if x6 < (x5.length : Int) then (q7.l0 k x1 (x5.set (x6 : Int).toNat (-1)) (wrap64 (x6 + 1)) x102000 x102001) else (none)) else (none)) else (if 0 ≤ x1 then (if x1 < (x5.length : Int) then (q7.l1 k (x5.set (x1 : Int).toNat 0) 0 x102000 x102001) else (none)) else (none))
def q7.l1 : Nat → List Int → Int → Int → List (List Int) → Option (List Int)
 | 0, _, _, _, _ => none
 | k + 1, x5, x7, x102000, x102001 => if x7 < x102000 then (q7.l2 k x5 x7 0 x102000 x102001) else (some x5)
def q7.l2 : Nat → List Int → Int → Int → Int → List (List Int) → Option (List Int)
 | 0, _, _, _, _, _ => none
 | k + 1, x5, x7, x8, x102000, x102001 => if x8 < x102000 then (q7.l3 k x5 x7 x8 0 x102000 x102001) else (q7.l1 k x5 (wrap64 (x7 + 1)) x102000 x102001)
def q7.l3 : Nat → List Int → Int → Int → Int → Int → List (List Int) → Option (List Int)
 | 0, _, _, _, _, _, _ => none
 | k + 1, x5, x7, x8, x9, x102000, x102001 => if 0 ≤ x8 then (if x8 < (x102001.length : Int) then (if x9 < ((rd_L1 x102001 x8).length : Int) then (if x8 < (x5.length : Int) then (q7.j4 k x5 x7 x8 x9 ((rd x5 x8) == x7) x102000 x102001) else (none)) else (q7.j4 k x5 x7 x8 x9 false x102000 x102001)) else (none)) else (none)
def q7.j4 : Nat → List Int → Int → Int → Int → Bool → Int → List (List Int) → Option (List Int)
 | 0, _, _, _, _, _, _, _ => none
 | k + 1, x5, x7, x8, x9, x52, x102000, x102001 => if x52 = true then (if 0 ≤ x8 then (if x8 < (x102001.length : Int) then (if 0 ≤ x9 then (if x9 < ((rd_L1 x102001 x8).length : Int) then (if 0 ≤ (rd (rd_L1 x102001 x8) x9) then (if (rd (rd_L1 x102001 x8) x9) < (x5.length : Int) then (if (rd x5 (rd (rd_L1 x102001 x8) x9)) < 0 then (q7.l3 k (x5.set ((rd (rd_L1 x102001 x8) x9) : Int).toNat (wrap64 (x7 + 1))) x7 x8 (wrap64 (x9 + 1)) x102000 x102001) else (q7.l3 k x5 x7 x8 (wrap64 (x9 + 1)) x102000 x102001)) else (none)) else (none)) else (none)) else (none)) else (none)) else (none)) else (q7.l2 k x5 x7 (wrap64 (x8 + 1)) x102000 x102001)
end
def q7.f (k : Nat) (a0_0 : Int) (l0_1 : List (List Int)) (a1 : Int) : Option (List Int) := if 0 ≤ a0_0 then (if (a0_0 : Int).toNat ≤ 35184372088832 then (q7.l0 k a1 (List.replicate (a0_0 : Int).toNat 0) 0 a0_0 l0_1) else (none)) else (none)
mutual
def q20.l0 : Nat → List Int → Int → Int → List (List Int) → Option (List Int)
 | 0, _, _, _, _ => none
 | k + 1, x3, x4, x102000, x102001 => if x4 < x102000 then (if 0 ≤ x4 then (if x4 < (x3.length : Int) then (q20.l0 k (x3.set (x4 : Int).toNat x4) (wrap64 (x4 + 1)) x102000 x102001) else (none)) else (none)) else (q20.l1 k x3 0 x102000 x102001)
def q20.l1 : Nat → List Int → Int → Int → List (List Int) → Option (List Int)
 | 0, _, _, _, _ => none
 | k + 1, x3, x5, x102000, x102001 => if x5 < x102000 then (q20.l2 k x3 x5 0 x102000 x102001) else (some x3)
def q20.l2 : Nat → List Int → Int → Int → Int → List (List Int) → Option (List Int)
 | 0, _, _, _, _, _ => none
 | k + 1, x3, x5, x6, x102000, x102001 => if x6 < x102000 then (q20.l3 k x3 x5 x6 0 x102000 x102001) else (q20.l1 k x3 (wrap64 (x5 + 1)) x102000 x102001)
def q20.l3 : Nat → List Int → Int → Int → Int → Int → List (List Int) → Option (List Int)
 | 0, _, _, _, _, _, _ => none
 | k + 1, x3, x5, x6, x7, x102000, x102001 => if 0 ≤ x6 then (if x6 < (x102001.length : Int) then (if x7 < ((rd_L1 x102001 x6).length : Int) then (if 0 ≤ x7 then (if x6 < (x3.length : Int) then (if 0 ≤ (rd (rd_L1 x102001 x6) x7) then (if (rd (rd_L1 x102001 x6) x7) < (x3.length : Int) then (q20.l3 k ((x3.set (x6 : Int).toNat (mn (rd x3 x6) (rd x3 (rd (rd_L1 x102001 x6) x7)))).set ((rd (rd_L1 x102001 x6) x7) : Int).toNat (mn (rd x3 x6) (rd x3 (rd (rd_L1 x102001 x6) x7)))) x5 x6 (wrap64 (x7 + 1)) x102000 x102001) else (none)) else (none)) else (none)) else (none)) else (q20.l2 k x3 x5 (wrap64 (x6 + 1)) x102000 x102001)) else (none)) else (none)
end
def q20.f (k : Nat) (a0_0 : Int) (l0_1 : List (List Int)) : Option (List Int) := if 0 ≤ a0_0 then (if (a0_0 : Int).toNat ≤ 35184372088832 then (q20.l0 k (List.replicate (a0_0 : Int).toNat 0) 0 a0_0 l0_1) else (none)) else (none)
def q39.l0 : Nat → List Int → List (S78) → Int → Option (List Int)
 | 0, _, _, _ => none
 | k + 1, x7, x8, x9 => if x9 < (x8.length : Int) then (if 0 ≤ x9 then ((some (([(rd_T78 x8 x9).f0, (rd_T78 x8 x9).f1] : List Int) : List Int)).bind fun y128 => (if x7.length + y128.length < 17592186044416 then (q39.l0 k (x7 ++ y128) x8 (wrap64 (x9 + 1))) else (none))) else (none)) else (some x7)
def q39.f (k : Nat) (a0_0 : Int) (l0_1 : List (List Int)) (a1 : Int) (a2 : Int) : Option (List Int) := if a1 = 1 then (if 0 ≤ a2 then (if a2 < (l0_1.length : Int) then ((q37.f k (rd_L1 l0_1 a2)).bind fun t103 => (some t103)) else (none)) else (none)) else (if a1 = 2 then ((q42.f k a0_0 l0_1).bind fun bt106 => (if 0 ≤ a2 then (if a2 < (bt106.2.length : Int) then ((q37.f k (rd_L1 bt106.2 a2)).bind fun t111 => (some t111)) else (none)) else (none))) else (if a1 = 3 then ((q36.f k a0_0 l0_1).bind fun t114 => (some t114)) else (if a1 = 4 then ((q7.f k a0_0 l0_1 a2).bind fun t117 => (some t117)) else (if a1 = 5 then ((q20.f k a0_0 l0_1).bind fun t120 => (some t120)) else ((q32.f k a0_0 l0_1).bind fun t123 => (q39.l0 k ([] : List Int) t123 0))))))
def q44.f (a0 : Int) : Option (Int) := some a0
def q17.l0 : Nat → List Int → List Int → Int → Option (Bool)
 | 0, _, _, _ => none
 | k + 1, x0, x1, x5 => if x5 < (x0.length : Int) then (if 0 ≤ x5 then (if x5 < (x1.length : Int) then (if (rd x0 x5) = (rd x1 x5) then (q17.l0 k x0 x1 (wrap64 (x5 + 1))) else (some false)) else (none)) else (none)) else (some true)
def q17.f (k : Nat) (l0 : List Int) (l1 : List Int) : Option (Bool) := if (l0.length : Int) = (l1.length : Int) then (q17.l0 k l0 l1 0) else (some false)
theorem q17.mono_l : ∀ k, (∀ y0 y1 y2, LeO (q17.l0 k y0 y1 y2) (q17.l0 (k + 1) y0 y1 y2))
 | 0 => fun _ _ _ r h => by simp [q17.l0] at h
 | k + 1 => by
  have ih0 := q17.mono_l k
  ·intro y0 y1 y2
   unfold q17.l0
   repeat' first
   | (with_reducible exact ih0 _ _ _)
   | (with_reducible exact LeO.refl _)
   | (with_reducible exact LeO.none _)
   | (with_reducible refine LeO.ite ?_ ?_)
   | (with_reducible refine LeO.bind ?_ (fun _ => ?_))
   | exact ih0 _ _ _
   | exact LeO.none _
   | refine LeO.ite ?_ ?_
   | refine LeO.bind ?_ (fun _ => ?_)
theorem q17.mono : ∀ a0 a1 k, LeO (q17.f k a0 a1) (q17.f (k + 1) a0 a1) := by
 intro a0 a1 k
 have ih0 := q17.mono_l k
 unfold q17.f
 repeat' first
  | (with_reducible exact ih0 _ _ _)
  | (with_reducible exact LeO.refl _)
  | (with_reducible exact LeO.none _)
  | (with_reducible refine LeO.ite ?_ ?_)
  | (with_reducible refine LeO.bind ?_ (fun _ => ?_))
  | exact ih0 _ _ _
  | exact LeO.none _
  | refine LeO.ite ?_ ?_
  | refine LeO.bind ?_ (fun _ => ?_)
def q48.f (k : Nat) (a0_0 : Int) (l0_1 : List (List Int)) (a1 : Int) : Option (List Int × Int) := (q27.f k a0_0 l0_1 4 a1).bind fun bt102 => (some (bt102.1, bt102.2))
theorem q48.mono : ∀ a0 a1 a2 k, LeO (q48.f k a0 a1 a2) (q48.f (k + 1) a0 a1 a2) := by
 intro a0 a1 a2 k
 unfold q48.f
 repeat' first
  | (with_reducible exact q27.mono _ _ _ _ _)
  | (with_reducible exact LeO.refl _)
  | (with_reducible exact LeO.none _)
  | (with_reducible refine LeO.ite ?_ ?_)
  | (with_reducible refine LeO.bind ?_ (fun _ => ?_))
  | exact q27.mono _ _ _ _ _
  | exact LeO.none _
  | refine LeO.ite ?_ ?_
  | refine LeO.bind ?_ (fun _ => ?_)
def q56.f (k : Nat)  : Option (Bool) := (q48.f k 1 (([[]] : List (List Int))) 0).bind fun bt104 => ((q44.f bt104.2).bind fun t108 => (if t108 = 0 then ((q17.f k bt104.1 (([0] : List Int))).bind fun t112 => (some t112)) else (some false)))
theorem q56.mono : ∀ k, LeO (q56.f k ) (q56.f (k + 1) ) := by
 intro  k
 unfold q56.f
 repeat' first
  | (with_reducible exact q17.mono _ _ _)
  | (with_reducible exact q48.mono _ _ _ _)
  | (with_reducible exact LeO.refl _)
  | (with_reducible exact LeO.none _)
  | (with_reducible refine LeO.ite ?_ ?_)
  | (with_reducible refine LeO.bind ?_ (fun _ => ?_))
  | exact q17.mono _ _ _
  | exact q48.mono _ _ _ _
  | exact LeO.none _
  | refine LeO.ite ?_ ?_
  | refine LeO.bind ?_ (fun _ => ?_)
def q45.l0 : Nat → List (List Int) → List (List Int) → Int → Option ((List (List Int)))
 | 0, _, _, _ => none
 | k + 1, x0, x3, x4 => if x4 < (x0.length : Int) then (if 0 ≤ x4 then ((q37.f k (rd_L1 x0 x4)).bind fun t102 => (if x3.length < 5864062014805 then (q45.l0 k x0 (x3 ++ [t102]) (wrap64 (x4 + 1))) else (none))) else (none)) else (some x3)
def q45.f (k : Nat) (l0 : List (List Int)) : Option ((List (List Int))) := q45.l0 k l0 ([] : List (List Int)) 0
def q66.f (k : Nat) (a0_0 : Int) (l0_1 : List (List Int)) : Option (Int × (List (List Int))) := (q45.f k l0_1).bind fun t104 => (some (a0_0, t104))
def q67.f (k : Nat) (a0_0 : Int) (l0_1 : List (List Int)) (a1 : Int) : Option (List Int × Int) := (q27.f k a0_0 l0_1 1 a1).bind fun bt102 => (some (bt102.1, bt102.2))
def q68.f (k : Nat) (a0_0 : Int) (l0_1 : List (List Int)) (a1 : Int) : Option (List Int × Int) := (q27.f k a0_0 l0_1 2 a1).bind fun bt102 => (some (bt102.1, bt102.2))
def q69.f (k : Nat) (a0_0 : Int) (l0_1 : List (List Int)) : Option (List Int × Int) := (q27.f k a0_0 l0_1 3 0).bind fun bt102 => (some (bt102.1, bt102.2))
def q70.f (k : Nat) (a0_0 : Int) (l0_1 : List (List Int)) : Option (List Int × Int) := (q27.f k a0_0 l0_1 5 0).bind fun bt102 => (some (bt102.1, bt102.2))
def q71.f (k : Nat) (a0_0 : Int) (l0_1 : List (List Int)) : Option (List Int × Int) := (q27.f k a0_0 l0_1 6 0).bind fun bt102 => (some (bt102.1, bt102.2))
def q46.l0 : Nat → List (List Int) → List (List Int) → Int → Option (Bool)
 | 0, _, _, _ => none
 | k + 1, x0, x1, x5 => if x5 < (x0.length : Int) then (if 0 ≤ x5 then (if x5 < (x1.length : Int) then ((q17.f k (rd_L1 x0 x5) (rd_L1 x1 x5)).bind fun t103 => (if t103 = true then (q46.l0 k x0 x1 (wrap64 (x5 + 1))) else (some false))) else (none)) else (none)) else (some true)
def q46.f (k : Nat) (l0 : List (List Int)) (l1 : List (List Int)) : Option (Bool) := if (l0.length : Int) = (l1.length : Int) then (q46.l0 k l0 l1 0) else (some false)
def q49.f (k : Nat) (a0_0 : Int) (l0_1 : List (List Int)) (a1_0 : Int) (l1_1 : List (List Int)) : Option (Bool) := if a0_0 = a1_0 then ((q46.f k l0_1 l1_1).bind fun t103 => (some t103)) else (some false)
def q47.l0 : Nat → List Int → Int → Option (List Int)
 | 0, _, _ => none
 | k + 1, x0, x2 => if x2 < (x0.length : Int) then (if 0 ≤ x2 then (q47.l0 k (x0.set (x2 : Int).toNat (-99)) (wrap64 (x2 + 1))) else (none)) else (some x0)
def q47.f (k : Nat) (l0 : List Int) : Option (List Int) := q47.l0 k l0 0
mutual
def q3.l0 : Nat → Int → List (S42) → List (S119) → Option (Bool)
 | 0, _, _, _ => none
 | k + 1, x3, x102000, x102001 => if x3 < (x102000.length : Int) then (q3.j1 k x3 (decide (x3 < 4)) x102000 x102001) else (q3.j1 k x3 false x102000 x102001)
def q3.j1 : Nat → Int → Bool → List (S42) → List (S119) → Option (Bool)
 | 0, _, _, _, _ => none
 | k + 1, x3, x24, x102000, x102001 => if x24 = true then (if 0 ≤ x3 then (if x3 < (x102000.length : Int) then ((q66.f k ((rd_T42 x102000 x3).f0) ((rd_T42 x102000 x3).f1)).bind fun bt105 => ((q25.f k ((rd_T42 x102000 x3).f0) ((rd_T42 x102000 x3).f1)).bind fun t111 => (q3.l1 k x3 t111 (-1) x102000 x102001 bt105.1 bt105.2))) else (none)) else (none)) else ((q56.f k).bind fun t103 => (some t103))
def q3.l1 : Nat → Int → Bool → Int → List (S42) → List (S119) → Int → List (List Int) → Option (Bool)
 | 0, _, _, _, _, _, _, _ => none
 | k + 1, x3, x5, x6, x102000, x102001, x110000, x110001 => if x6 ≤ 16 then (q3.l2 k x3 x5 x6 (-1) x102000 x102001 x110000 x110001) else (q3.l0 k (wrap64 (x3 + 1)) x102000 x102001)
def q3.l2 : Nat → Int → Bool → Int → Int → List (S42) → List (S119) → Int → List (List Int) → Option (Bool)
 | 0, _, _, _, _, _, _, _, _ => none
 | k + 1, x3, x5, x6, x7, x102000, x102001, x110000, x110001 => if x7 ≤ 7 then ((q27.f k x110000 x110001 x7 x6).bind fun bt112 => (if x5 = true then (if 0 ≤ x3 then (if x3 < (x102000.length : Int) then ((q60.f ((rd_T42 x102000 x3).f0) ((rd_T42 x102000 x3).f1) x7 x6).bind fun t117 => (if t117 = 0 then ((q39.f k ((rd_T42 x102000 x3).f0) ((rd_T42 x102000 x3).f1) x7 x6).bind fun t119 => (q3.j4 k x3 x5 x6 x7 bt112.1 bt112.2 t117 t119 x102000 x102001 x110000 x110001)) else (q3.j4 k x3 x5 x6 x7 bt112.1 bt112.2 t117 ([] : List Int) x102000 x102001 x110000 x110001))) else (none)) else (none)) else (q3.j4 k x3 x5 x6 x7 bt112.1 bt112.2 1 ([] : List Int) x102000 x102001 x110000 x110001))) else (q3.l1 k x3 x5 (wrap64 (x6 + 1)) x102000 x102001 x110000 x110001)
def q3.j4 : Nat → Int → Bool → Int → Int → List Int → Int → Int → List Int → List (S42) → List (S119) → Int → List (List Int) → Option (Bool)
 | 0, _, _, _, _, _, _, _, _, _, _, _, _ => none
 | k + 1, x3, x5, x6, x7, x8, x9, x10, x11, x102000, x102001, x110000, x110001 => (q44.f x9).bind fun t122 => (if t122 = x10 then ((q17.f k x8 x11).bind fun t123 => (q3.j5 k x3 x5 x6 x7 x10 x11 (!t123) x102000 x102001 x110000 x110001)) else (q3.j5 k x3 x5 x6 x7 x10 x11 true x102000 x102001 x110000 x110001))
def q3.j5 : Nat → Int → Bool → Int → Int → Int → List Int → Bool → List (S42) → List (S119) → Int → List (List Int) → Option (Bool)
 | 0, _, _, _, _, _, _, _, _, _, _, _ => none
 | k + 1, x3, x5, x6, x7, x10, x11, x82, x102000, x102001, x110000, x110001 => if x82 = true then (some false) else (if x7 = 1 then ((q67.f k x110000 x110001 x6).bind fun bt124 => (q3.j6 k x3 x5 x6 x7 x10 x11 bt124.1 bt124.2 x102000 x102001 x110000 x110001)) else (if x7 = 2 then ((q68.f k x110000 x110001 x6).bind fun bt128 => (q3.j6 k x3 x5 x6 x7 x10 x11 bt128.1 bt128.2 x102000 x102001 x110000 x110001)) else (if x7 = 3 then ((q69.f k x110000 x110001).bind fun bt132 => (q3.j6 k x3 x5 x6 x7 x10 x11 bt132.1 bt132.2 x102000 x102001 x110000 x110001)) else (if x7 = 4 then ((q48.f k x110000 x110001 x6).bind fun bt136 => (q3.j6 k x3 x5 x6 x7 x10 x11 bt136.1 bt136.2 x102000 x102001 x110000 x110001)) else (if x7 = 5 then ((q70.f k x110000 x110001).bind fun bt140 => (q3.j6 k x3 x5 x6 x7 x10 x11 bt140.1 bt140.2 x102000 x102001 x110000 x110001)) else (if x7 = 6 then ((q71.f k x110000 x110001).bind fun bt144 => (q3.j6 k x3 x5 x6 x7 x10 x11 bt144.1 bt144.2 x102000 x102001 x110000 x110001)) else (q3.l2 k x3 x5 x6 (wrap64 (x7 + 1)) x102000 x102001 x110000 x110001)))))))
def q3.j6 : Nat → Int → Bool → Int → Int → Int → List Int → List Int → Int → List (S42) → List (S119) → Int → List (List Int) → Option (Bool)
 | 0, _, _, _, _, _, _, _, _, _, _, _, _ => none
 | k + 1, x3, x5, x6, x7, x10, x11, x12, x13, x102000, x102001, x110000, x110001 => (q44.f x13).bind fun t148 => (if t148 = x10 then ((q17.f k x12 x11).bind fun t149 => (if t149 = true then (if 0 ≤ x3 then (if x3 < (x102000.length : Int) then ((q49.f k x110000 x110001 ((rd_T42 x102000 x3).f0) ((rd_T42 x102000 x3).f1)).bind fun t151 => (q3.j7 k x3 x5 x6 x7 x12 (!t151) x102000 x102001 x110000 x110001)) else (none)) else (none)) else (q3.j7 k x3 x5 x6 x7 x12 true x102000 x102001 x110000 x110001))) else (q3.j7 k x3 x5 x6 x7 x12 true x102000 x102001 x110000 x110001))
def q3.j7 : Nat → Int → Bool → Int → Int → List Int → Bool → List (S42) → List (S119) → Int → List (List Int) → Option (Bool)
 | 0, _, _, _, _, _, _, _, _, _, _ => none
 | k + 1, x3, x5, x6, x7, x12, x148, x102000, x102001, x110000, x110001 => if x148 = true then (some false) else ((q47.f k x12).bind fun t152 => (if 0 ≤ x3 then (if x3 < (x102000.length : Int) then ((q49.f k x110000 x110001 ((rd_T42 x102000 x3).f0) ((rd_T42 x102000 x3).f1)).bind fun t154 => (if t154 = true then (q3.l2 k x3 x5 x6 (wrap64 (x7 + 1)) x102000 x102001 x110000 x110001) else (some false))) else (none)) else (none)))
end
def q3.f (k : Nat) (l0_0 : List (S42)) (l0_1 : List (S119)) : Option (Bool) := (q61.f k l0_0 l0_1).bind fun t102 => (if t102 = true then (some true) else (q3.l0 k 0 l0_0 l0_1))
end Go.Proofs.Ytcfhffhmpalkbaa.P
