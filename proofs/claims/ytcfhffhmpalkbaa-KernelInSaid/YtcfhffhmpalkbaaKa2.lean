import Derived.Test.YtcfhffhmpalkbaaKa1
namespace Go.Proofs.Ytcfhffhmpalkbaa.P
open Go.RowKit Go.Proofs.YtcfhffhmpalkbaaM Go.Proofs.YtcfhffhmpalkbaaW.PrintWords Go.Proofs.YtcfhffhmpalkbaaW.PrintLast Go.Proofs.YtcfhffhmpalkbaaW.PrintMore
attribute [local go_sem] Go.Instr.field Go.asAgg max2_int min2_int max_two min_two max_three min_three max_four min_four
set_option linter.unusedVariables false
set_option linter.unusedSimpArgs false
def q49.l0 : Nat → List (List Int) → Int → Int → Option (Int)
 | 0, _, _, _ => none
 | k + 1, x0, x3, x4 => if x4 < (x0.length : Int) then (if x3 < 1048576 then (if 0 ≤ x4 then (q49.l0 k x0 (wrap64 (x3 + ((rd_L1 x0 x4).length : Int))) (wrap64 (x4 + 1))) else (none)) else (some x3)) else (some x3)
def q49.f (k : Nat) (l0 : List (List Int)) : Option (Int) := q49.l0 k l0 (l0.length : Int) 0
def q47.l0 : Nat → List (S42) → Int → Int → Option (Int)
 | 0, _, _, _ => none
 | k + 1, x0, x3, x4 => if x4 < (x0.length : Int) then (if x3 < 1048576 then (if 0 ≤ x4 then ((q49.f k ((rd_T42 x0 x4).f1)).bind fun t102 => (q47.l0 k x0 (wrap64 (x3 + t102)) (wrap64 (x4 + 1)))) else (none)) else (some x3)) else (some x3)
def q47.f (k : Nat) (l0 : List (S42)) : Option (Int) := q47.l0 k l0 (l0.length : Int) 0
def q63.f (k : Nat) (l0_0 : List (S42)) (l0_1 : List (S119)) : Option (Bool) := (q47.f k l0_0).bind fun t102 => (some (decide ((wrap64 (t102 + (l0_1.length : Int))) > 1200)))
def q43.f (a0 : Int) (a1 : Int) : Option (Bool) := if a0 ≥ 0 then (some (decide (a0 ≤ a1))) else (some false)
def q45.f (a0 : Int) : Option (Bool) := (q43.f a0 15).bind fun t101 => (some t101)
mutual
def q27.l0 : Nat → List Int → Int → Option (Bool)
 | 0, _, _ => none
 | k + 1, x0, x3 => if x3 < (x0.length : Int) then (q27.j1 k x0 x3 (decide (x3 ≤ 16))) else (q27.j1 k x0 x3 false)
def q27.j1 : Nat → List Int → Int → Bool → Option (Bool)
 | 0, _, _, _ => none
 | k + 1, x0, x3, x11 => if x11 = true then (if 0 ≤ x3 then (if x3 < (x0.length : Int) then ((q45.f (rd x0 x3)).bind fun t102 => (if t102 = true then (if x3 > 0 then (if 0 ≤ (wrap64 (x3 - 1)) then (if (wrap64 (x3 - 1)) < (x0.length : Int) then (if (rd x0 (wrap64 (x3 - 1))) ≥ (rd x0 x3) then (some false) else (q27.l0 k x0 (wrap64 (x3 + 1)))) else (none)) else (none)) else (q27.l0 k x0 (wrap64 (x3 + 1)))) else (some false))) else (none)) else (none)) else (some (decide ((x0.length : Int) ≤ 16)))
end
def q27.f (k : Nat) (l0 : List Int) : Option (Bool) := q27.l0 k l0 0
def q50.l0 : Nat → Int → Int → Int → List (List Int) → Option (Int)
 | 0, _, _, _, _ => none
 | k + 1, x3, x4, x102000, x102001 => if x4 < (x102001.length : Int) then (if 0 ≤ x4 then (q50.l0 k (wrap64 (x3 + ((rd_L1 x102001 x4).length : Int))) (wrap64 (x4 + 1)) x102000 x102001) else (none)) else (some x3)
def q50.f (k : Nat) (a0_0 : Int) (l0_1 : List (List Int)) : Option (Int) := q50.l0 k 0 0 a0_0 l0_1
mutual
def q26.j0 : Nat → Bool → Int → List (List Int) → Option (Bool)
 | 0, _, _, _ => none
 | k + 1, x15, x102000, x102001 => if x15 = true then (some false) else (q26.l0 k 0 x102000 x102001)
def q26.l0 : Nat → Int → Int → List (List Int) → Option (Bool)
 | 0, _, _, _ => none
 | k + 1, x3, x102000, x102001 => if x3 < x102000 then (if 0 ≤ x3 then (if x3 < (x102001.length : Int) then ((q27.f k (rd_L1 x102001 x3)).bind fun t104 => (if t104 = true then (if ((rd_L1 x102001 x3).length : Int) > 0 then (if 0 ≤ (wrap64 (((rd_L1 x102001 x3).length : Int) - 1)) then (if (wrap64 (((rd_L1 x102001 x3).length : Int) - 1)) < ((rd_L1 x102001 x3).length : Int) then (if (rd (rd_L1 x102001 x3) (wrap64 (((rd_L1 x102001 x3).length : Int) - 1))) ≥ x102000 then (some false) else (q26.l0 k (wrap64 (x3 + 1)) x102000 x102001)) else (none)) else (none)) else (q26.l0 k (wrap64 (x3 + 1)) x102000 x102001)) else (some false))) else (none)) else (none)) else ((q50.f k x102000 x102001).bind fun t109 => (some (decide (t109 ≤ 120))))
end
def q26.f (k : Nat) (a0_0 : Int) (l0_1 : List (List Int)) : Option (Bool) := (q43.f a0_0 16).bind fun t102 => (if t102 = true then (q26.j0 k ((l0_1.length : Int) != a0_0) a0_0 l0_1) else (q26.j0 k true a0_0 l0_1))
def q59.f (a0 : Int) : Option (Bool) := if a0 ≥ 0 then (some (decide (a0 < 16))) else (some false)
def q15.l0 : Nat → List Int → List Int → Int → Int → Option (Bool)
 | 0, _, _, _, _ => none
 | k + 1, x0, x5, x6, x7 => if x7 < x6 then (if 0 ≤ x7 then (if x7 < (x5.length : Int) then ((q59.f (rd x5 x7)).bind fun t102 => (if t102 = true then (if x7 > 0 then (if 0 ≤ (wrap64 (x7 - 1)) then (if (wrap64 (x7 - 1)) < (x0.length : Int) then (if (rd x5 x7) ≤ (rd x0 (wrap64 (x7 - 1))) then (some false) else (q15.l0 k x0 x5 x6 (wrap64 (x7 + 1)))) else (none)) else (none)) else (q15.l0 k x0 x5 x6 (wrap64 (x7 + 1)))) else (some false))) else (none)) else (none)) else (some true)
def q15.f (k : Nat) (l0 : List Int) : Option (Bool) := q15.l0 k l0 l0 (l0.length : Int) 0
theorem q15.mono_l : ∀ k, (∀ y0 y1 y2 y3, LeO (q15.l0 k y0 y1 y2 y3) (q15.l0 (k + 1) y0 y1 y2 y3))
 | 0 => fun _ _ _ _ r h => by simp [q15.l0] at h
 | k + 1 => by
  have ih0 := q15.mono_l k
  ·intro y0 y1 y2 y3
   unfold q15.l0
   repeat' first
   | (with_reducible exact ih0 _ _ _ _)
   | (with_reducible exact LeO.refl _)
   | (with_reducible exact LeO.none _)
   | (with_reducible refine LeO.ite ?_ ?_)
   | (with_reducible refine LeO.bind ?_ (fun _ => ?_))
   | exact ih0 _ _ _ _
   | exact LeO.none _
   | refine LeO.ite ?_ ?_
   | refine LeO.bind ?_ (fun _ => ?_)
theorem q15.mono : ∀ a0 k, LeO (q15.f k a0) (q15.f (k + 1) a0) := by
 intro a0 k
 have ih0 := q15.mono_l k
 unfold q15.f
 repeat' first
  | (with_reducible exact ih0 _ _ _ _)
  | (with_reducible exact LeO.refl _)
  | (with_reducible exact LeO.none _)
  | (with_reducible refine LeO.ite ?_ ?_)
  | (with_reducible refine LeO.bind ?_ (fun _ => ?_))
  | exact ih0 _ _ _ _
  | exact LeO.none _
  | refine LeO.ite ?_ ?_
  | refine LeO.bind ?_ (fun _ => ?_)
def q39.l0 : Nat → Int → List (List Int) → Int → Int → Option (Int)
 | 0, _, _, _, _ => none
 | k + 1, x3, x7, x8, x9 => if x9 < x8 then (if 0 ≤ x9 then (if x9 < (x7.length : Int) then (q39.l0 k (wrap64 (x3 + ((rd_L1 x7 x9).length : Int))) x7 x8 (wrap64 (x9 + 1))) else (none)) else (none)) else (some x3)
def q39.f (k : Nat) (a0_0 : Int) (l0_1 : List (List Int)) : Option (Int) := q39.l0 k 0 l0_1 (l0_1.length : Int) 0
theorem q39.mono_l : ∀ k, (∀ y0 y1 y2 y3, LeO (q39.l0 k y0 y1 y2 y3) (q39.l0 (k + 1) y0 y1 y2 y3))
 | 0 => fun _ _ _ _ r h => by simp [q39.l0] at h
 | k + 1 => by
  have ih0 := q39.mono_l k
  ·intro y0 y1 y2 y3
   unfold q39.l0
   repeat' first
   | (with_reducible exact ih0 _ _ _ _)
   | (with_reducible exact LeO.refl _)
   | (with_reducible exact LeO.none _)
   | (with_reducible refine LeO.ite ?_ ?_)
   | (with_reducible refine LeO.bind ?_ (fun _ => ?_))
   | exact ih0 _ _ _ _
   | exact LeO.none _
   | refine LeO.ite ?_ ?_
   | refine LeO.bind ?_ (fun _ => ?_)
theorem q39.mono : ∀ a0 a1 k, LeO (q39.f k a0 a1) (q39.f (k + 1) a0 a1) := by
 intro a0 a1 k
 have ih0 := q39.mono_l k
 unfold q39.f
 repeat' first
  | (with_reducible exact ih0 _ _ _ _)
  | (with_reducible exact LeO.refl _)
  | (with_reducible exact LeO.none _)
  | (with_reducible refine LeO.ite ?_ ?_)
  | (with_reducible refine LeO.bind ?_ (fun _ => ?_))
  | exact ih0 _ _ _ _
  | exact LeO.none _
  | refine LeO.ite ?_ ?_
  | refine LeO.bind ?_ (fun _ => ?_)
mutual
def q7.j0 : Nat → Bool → Int → List (List Int) → Option (Bool)
 | 0, _, _, _ => none
 | k + 1, x20, x102000, x102001 => if x20 = true then (some false) else (q7.l0 k x102001 (x102001.length : Int) 0 x102000 x102001)
def q7.l0 : Nat → List (List Int) → Int → Int → Int → List (List Int) → Option (Bool)
 | 0, _, _, _, _, _ => none
 | k + 1, x22, x23, x24, x102000, x102001 => if x24 < x23 then (if 0 ≤ x24 then (if x24 < (x22.length : Int) then ((q15.f k (rd_L1 x22 x24)).bind fun t103 => (if t103 = true then (if ((rd_L1 x22 x24).length : Int) > 0 then (if 0 ≤ (wrap64 (((rd_L1 x22 x24).length : Int) - 1)) then (if (wrap64 (((rd_L1 x22 x24).length : Int) - 1)) < ((rd_L1 x22 x24).length : Int) then (if (rd (rd_L1 x22 x24) (wrap64 (((rd_L1 x22 x24).length : Int) - 1))) ≥ x102000 then (some false) else (q7.l0 k x22 x23 (wrap64 (x24 + 1)) x102000 x102001)) else (none)) else (none)) else (q7.l0 k x22 x23 (wrap64 (x24 + 1)) x102000 x102001)) else (some false))) else (none)) else (none)) else ((q39.f k x102000 x102001).bind fun t105 => (some (decide (t105 ≤ 120))))
end
def q7.f (k : Nat) (a0_0 : Int) (l0_1 : List (List Int)) : Option (Bool) := if a0_0 < 0 then (q7.j0 k true a0_0 l0_1) else (if a0_0 > 16 then (q7.j0 k true a0_0 l0_1) else (q7.j0 k ((l0_1.length : Int) != a0_0) a0_0 l0_1))
theorem q7.mono_l : ∀ k, (∀ y0 y1 y2, LeO (q7.j0 k y0 y1 y2) (q7.j0 (k + 1) y0 y1 y2)) ∧ (∀ y0 y1 y2 y3 y4, LeO (q7.l0 k y0 y1 y2 y3 y4) (q7.l0 (k + 1) y0 y1 y2 y3 y4))
 | 0 => ⟨fun _ _ _ r h => by simp [q7.j0] at h, fun _ _ _ _ _ r h => by simp [q7.l0] at h⟩
 | k + 1 => by
  obtain ⟨ih0, ih1⟩ := q7.mono_l k
  refine ⟨?_, ?_⟩
  ·intro y0 y1 y2
   unfold q7.j0
   repeat' first
   | (with_reducible exact ih0 _ _ _)
   | (with_reducible exact ih1 _ _ _ _ _)
   | (with_reducible exact q15.mono _ _)
   | (with_reducible exact q39.mono _ _ _)
   | (with_reducible exact LeO.refl _)
   | (with_reducible exact LeO.none _)
   | (with_reducible refine LeO.ite ?_ ?_)
   | (with_reducible refine LeO.bind ?_ (fun _ => ?_))
   | exact ih0 _ _ _
   | exact ih1 _ _ _ _ _
   | exact q15.mono _ _
   | exact q39.mono _ _ _
   | exact LeO.none _
   | refine LeO.ite ?_ ?_
   | refine LeO.bind ?_ (fun _ => ?_)
  ·intro y0 y1 y2 y3 y4
   unfold q7.l0
   repeat' first
   | (with_reducible exact ih0 _ _ _)
   | (with_reducible exact ih1 _ _ _ _ _)
   | (with_reducible exact q15.mono _ _)
   | (with_reducible exact q39.mono _ _ _)
   | (with_reducible exact LeO.refl _)
   | (with_reducible exact LeO.none _)
   | (with_reducible refine LeO.ite ?_ ?_)
   | (with_reducible refine LeO.bind ?_ (fun _ => ?_))
   | exact ih0 _ _ _
   | exact ih1 _ _ _ _ _
   | exact q15.mono _ _
   | exact q39.mono _ _ _
   | exact LeO.none _
   | refine LeO.ite ?_ ?_
   | refine LeO.bind ?_ (fun _ => ?_)
theorem q7.mono : ∀ a0 a1 k, LeO (q7.f k a0 a1) (q7.f (k + 1) a0 a1) := by
 intro a0 a1 k
 obtain ⟨ih0, ih1⟩ := q7.mono_l k
 unfold q7.f
 repeat' first
  | (with_reducible exact ih0 _ _ _)
  | (with_reducible exact ih1 _ _ _ _ _)
  | (with_reducible exact q15.mono _ _)
  | (with_reducible exact q39.mono _ _ _)
  | (with_reducible exact LeO.refl _)
  | (with_reducible exact LeO.none _)
  | (with_reducible refine LeO.ite ?_ ?_)
  | (with_reducible refine LeO.bind ?_ (fun _ => ?_))
  | exact ih0 _ _ _
  | exact ih1 _ _ _ _ _
  | exact q15.mono _ _
  | exact q39.mono _ _ _
  | exact LeO.none _
  | refine LeO.ite ?_ ?_
  | refine LeO.bind ?_ (fun _ => ?_)
def q60.f (a0 : Int) : Option (Bool) := if a0 = 1 then (some true) else (if a0 = 2 then (some true) else (some (a0 == 4)))
def q54.f (a0_0 : Int) (l0_1 : List (List Int)) (a1 : Int) : Option (Bool) := if a1 ≥ 0 then (some (decide (a1 < a0_0))) else (some false)
def q24.j0 : Nat → Int → Int → Bool → Int → List (List Int) → Option (Int)
 | 0, _, _, _, _, _ => none
 | k + 1, x1, x2, x7, x102000, x102001 => if x7 = true then (some 1) else ((q60.f x1).bind fun t103 => (if t103 = true then ((q54.f x102000 x102001 x2).bind fun t104 => (if t104 = true then (some 0) else (some 3))) else (some 0)))
def q24.f (k : Nat) (a0_0 : Int) (l0_1 : List (List Int)) (a1 : Int) (a2 : Int) : Option (Int) := (q7.f k a0_0 l0_1).bind fun t102 => (if t102 = true then (if a1 < 1 then (q24.j0 k a1 a2 true a0_0 l0_1) else (q24.j0 k a1 a2 (decide (a1 > 6)) a0_0 l0_1)) else (q24.j0 k a1 a2 true a0_0 l0_1))
theorem q24.mono_l : ∀ k, (∀ y0 y1 y2 y3 y4, LeO (q24.j0 k y0 y1 y2 y3 y4) (q24.j0 (k + 1) y0 y1 y2 y3 y4))
 | 0 => fun _ _ _ _ _ r h => by simp [q24.j0] at h
 | k + 1 => by
  have ih0 := q24.mono_l k
  ·intro y0 y1 y2 y3 y4
   unfold q24.j0
   repeat' first
   | (with_reducible exact ih0 _ _ _ _ _)
   | (with_reducible exact q7.mono _ _ _)
   | (with_reducible exact LeO.refl _)
   | (with_reducible exact LeO.none _)
   | (with_reducible refine LeO.ite ?_ ?_)
   | (with_reducible refine LeO.bind ?_ (fun _ => ?_))
   | exact ih0 _ _ _ _ _
   | exact q7.mono _ _ _
   | exact LeO.none _
   | refine LeO.ite ?_ ?_
   | refine LeO.bind ?_ (fun _ => ?_)
theorem q24.mono : ∀ a0 a1 a2 a3 k, LeO (q24.f k a0 a1 a2 a3) (q24.f (k + 1) a0 a1 a2 a3) := by
 intro a0 a1 a2 a3 k
 have ih0 := q24.mono_l k
 unfold q24.f
 repeat' first
  | (with_reducible exact ih0 _ _ _ _ _)
  | (with_reducible exact q7.mono _ _ _)
  | (with_reducible exact LeO.refl _)
  | (with_reducible exact LeO.none _)
  | (with_reducible refine LeO.ite ?_ ?_)
  | (with_reducible refine LeO.bind ?_ (fun _ => ?_))
  | exact ih0 _ _ _ _ _
  | exact q7.mono _ _ _
  | exact LeO.none _
  | refine LeO.ite ?_ ?_
  | refine LeO.bind ?_ (fun _ => ?_)
def q55.f (l0 : List Int) : Option (List Int) := (some (([] : List Int) : List Int)).bind fun y101 => (if y101.length + l0.length < 17592186044416 then (some (y101 ++ l0)) else (none))
def q66.f (a0 : Int) : Option (Int × (List (List Int))) := if 0 ≤ a0 then (if (a0 : Int).toNat ≤ 11728124029610 then (some (a0, (List.replicate (a0 : Int).toNat []))) else (none)) else (none)
mutual
def q8.l0 : Nat → List (S78) → List (List Int) → Int → Int → Option ((List (S78)))
 | 0, _, _, _, _ => none
 | k + 1, x2, x8, x9, x10 => if x10 < x9 then (if 0 ≤ x10 then (if x10 < (x8.length : Int) then (q8.l1 k x2 x10 x8 x9 x10 (rd_L1 x8 x10) ((rd_L1 x8 x10).length : Int) 0) else (none)) else (none)) else (some x2)
def q8.l1 : Nat → List (S78) → Int → List (List Int) → Int → Int → List Int → Int → Int → Option ((List (S78)))
 | 0, _, _, _, _, _, _, _, _ => none
 | k + 1, x2, x3, x8, x9, x10, x15, x16, x17 => if x17 < x16 then (if 0 ≤ x17 then (if x17 < (x15.length : Int) then (if x2.length < 8796093022208 then (q8.l1 k (x2 ++ [(⟨x3, rd x15 x17⟩ : S78)]) x3 x8 x9 x10 x15 x16 (wrap64 (x17 + 1))) else (none)) else (none)) else (none)) else (q8.l0 k x2 x8 x9 (wrap64 (x10 + 1)))
end
def q8.f (k : Nat) (a0_0 : Int) (l0_1 : List (List Int)) : Option ((List (S78))) := q8.l0 k ([] : List (S78)) l0_1 (l0_1.length : Int) 0
theorem q8.mono_l : ∀ k, (∀ y0 y1 y2 y3, LeO (q8.l0 k y0 y1 y2 y3) (q8.l0 (k + 1) y0 y1 y2 y3)) ∧ (∀ y0 y1 y2 y3 y4 y5 y6 y7, LeO (q8.l1 k y0 y1 y2 y3 y4 y5 y6 y7) (q8.l1 (k + 1) y0 y1 y2 y3 y4 y5 y6 y7))
 | 0 => ⟨fun _ _ _ _ r h => by simp [q8.l0] at h, fun _ _ _ _ _ _ _ _ r h => by simp [q8.l1] at h⟩
 | k + 1 => by
  obtain ⟨ih0, ih1⟩ := q8.mono_l k
  refine ⟨?_, ?_⟩
  ·intro y0 y1 y2 y3
   unfold q8.l0
   repeat' first
   | (with_reducible exact ih0 _ _ _ _)
   | (with_reducible exact ih1 _ _ _ _ _ _ _ _)
   | (with_reducible exact LeO.refl _)
   | (with_reducible exact LeO.none _)
   | (with_reducible refine LeO.ite ?_ ?_)
   | (with_reducible refine LeO.bind ?_ (fun _ => ?_))
   | exact ih0 _ _ _ _
   | exact ih1 _ _ _ _ _ _ _ _
   | exact LeO.none _
   | refine LeO.ite ?_ ?_
   | refine LeO.bind ?_ (fun _ => ?_)
  ·intro y0 y1 y2 y3 y4 y5 y6 y7
   unfold q8.l1
   repeat' first
   | (with_reducible exact ih0 _ _ _ _)
   | (with_reducible exact ih1 _ _ _ _ _ _ _ _)
   | (with_reducible exact LeO.refl _)
   | (with_reducible exact LeO.none _)
   | (with_reducible refine LeO.ite ?_ ?_)
   | (with_reducible refine LeO.bind ?_ (fun _ => ?_))
   | exact ih0 _ _ _ _
   | exact ih1 _ _ _ _ _ _ _ _
   | exact LeO.none _
   | refine LeO.ite ?_ ?_
   | refine LeO.bind ?_ (fun _ => ?_)
theorem q8.mono : ∀ a0 a1 k, LeO (q8.f k a0 a1) (q8.f (k + 1) a0 a1) := by
 intro a0 a1 k
 obtain ⟨ih0, ih1⟩ := q8.mono_l k
 unfold q8.f
 repeat' first
  | (with_reducible exact ih0 _ _ _ _)
  | (with_reducible exact ih1 _ _ _ _ _ _ _ _)
  | (with_reducible exact LeO.refl _)
  | (with_reducible exact LeO.none _)
  | (with_reducible refine LeO.ite ?_ ?_)
  | (with_reducible refine LeO.bind ?_ (fun _ => ?_))
  | exact ih0 _ _ _ _
  | exact ih1 _ _ _ _ _ _ _ _
  | exact LeO.none _
  | refine LeO.ite ?_ ?_
  | refine LeO.bind ?_ (fun _ => ?_)
def q31.l0 : Nat → List (S78) → Int → Int → Int → List (List Int) → Option (Int × (List (List Int)))
 | 0, _, _, _, _, _ => none
 | k + 1, x10, x11, x12, x108000, x108001 => if x12 < x11 then (if 0 ≤ x12 then (if x12 < (x10.length : Int) then (if 0 ≤ ((rd_T78 x10 x12).f1) then (if ((rd_T78 x10 x12).f1) < (x108001.length : Int) then (if (rd_L1 x108001 ((rd_T78 x10 x12).f1)).length < 17592186044416 then (q31.l0 k x10 x11 (wrap64 (x12 + 1)) x108000 (x108001.set (((rd_T78 x10 x12).f1) : Int).toNat ((rd_L1 x108001 ((rd_T78 x10 x12).f1)) ++ [(rd_T78 x10 x12).f0]))) else (none)) else (none)) else (none)) else (none)) else (none)) else (some (x108000, x108001))
def q31.f (k : Nat) (a0_0 : Int) (l0_1 : List (List Int)) : Option (Int × (List (List Int))) := (q66.f a0_0).bind fun bt103 => ((q8.f k a0_0 l0_1).bind fun t108 => (q31.l0 k t108 (t108.length : Int) 0 bt103.1 bt103.2))
theorem q31.mono_l : ∀ k, (∀ y0 y1 y2 y3 y4, LeO (q31.l0 k y0 y1 y2 y3 y4) (q31.l0 (k + 1) y0 y1 y2 y3 y4))
 | 0 => fun _ _ _ _ _ r h => by simp [q31.l0] at h
 | k + 1 => by
  have ih0 := q31.mono_l k
  ·intro y0 y1 y2 y3 y4
   unfold q31.l0
   repeat' first
   | (with_reducible exact ih0 _ _ _ _ _)
   | (with_reducible exact q8.mono _ _ _)
   | (with_reducible exact LeO.refl _)
   | (with_reducible exact LeO.none _)
   | (with_reducible refine LeO.ite ?_ ?_)
   | (with_reducible refine LeO.bind ?_ (fun _ => ?_))
   | exact ih0 _ _ _ _ _
   | exact q8.mono _ _ _
   | exact LeO.none _
   | refine LeO.ite ?_ ?_
   | refine LeO.bind ?_ (fun _ => ?_)
theorem q31.mono : ∀ a0 a1 k, LeO (q31.f k a0 a1) (q31.f (k + 1) a0 a1) := by
 intro a0 a1 k
 have ih0 := q31.mono_l k
 unfold q31.f
 repeat' first
  | (with_reducible exact ih0 _ _ _ _ _)
  | (with_reducible exact q8.mono _ _ _)
  | (with_reducible exact LeO.refl _)
  | (with_reducible exact LeO.none _)
  | (with_reducible refine LeO.ite ?_ ?_)
  | (with_reducible refine LeO.bind ?_ (fun _ => ?_))
  | exact ih0 _ _ _ _ _
  | exact q8.mono _ _ _
  | exact LeO.none _
  | refine LeO.ite ?_ ?_
  | refine LeO.bind ?_ (fun _ => ?_)
mutual
def q25.l0 : Nat → List Int → List (List Int) → Int → Int → Option (List Int)
 | 0, _, _, _, _ => none
 | k + 1, x2, x6, x7, x8 => if x8 < x7 then (if 0 ≤ x8 then (if x8 < (x6.length : Int) then (q25.l1 k x2 (rd_L1 x6 x8) x6 x7 x8) else (none)) else (none)) else (some x2)
def q25.l1 : Nat → List Int → List Int → List (List Int) → Int → Int → Option (List Int)
 | 0, _, _, _, _, _ => none
 | k + 1, x2, x4, x6, x7, x8 => if (x2.length : Int) ≤ (x4.length : Int) then (if x2.length < 17592186044416 then (q25.l1 k (x2 ++ [0]) x4 x6 x7 x8) else (none)) else (if 0 ≤ (x4.length : Int) then (if (x4.length : Int) < (x2.length : Int) then (q25.l0 k (x2.set ((x4.length : Int) : Int).toNat (wrap64 ((rd x2 (x4.length : Int)) + 1))) x6 x7 (wrap64 (x8 + 1))) else (none)) else (none))
end
def q25.f (k : Nat) (a0_0 : Int) (l0_1 : List (List Int)) : Option (List Int) := q25.l0 k ([] : List Int) l0_1 (l0_1.length : Int) 0
theorem q25.mono_l : ∀ k, (∀ y0 y1 y2 y3, LeO (q25.l0 k y0 y1 y2 y3) (q25.l0 (k + 1) y0 y1 y2 y3)) ∧ (∀ y0 y1 y2 y3 y4, LeO (q25.l1 k y0 y1 y2 y3 y4) (q25.l1 (k + 1) y0 y1 y2 y3 y4))
 | 0 => ⟨fun _ _ _ _ r h => by simp [q25.l0] at h, fun _ _ _ _ _ r h => by simp [q25.l1] at h⟩
 | k + 1 => by
  obtain ⟨ih0, ih1⟩ := q25.mono_l k
  refine ⟨?_, ?_⟩
  ·intro y0 y1 y2 y3
   unfold q25.l0
   repeat' first
   | (with_reducible exact ih0 _ _ _ _)
   | (with_reducible exact ih1 _ _ _ _ _)
   | (with_reducible exact LeO.refl _)
   | (with_reducible exact LeO.none _)
   | (with_reducible refine LeO.ite ?_ ?_)
   | (with_reducible refine LeO.bind ?_ (fun _ => ?_))
   | exact ih0 _ _ _ _
   | exact ih1 _ _ _ _ _
   | exact LeO.none _
   | refine LeO.ite ?_ ?_
   | refine LeO.bind ?_ (fun _ => ?_)
  ·intro y0 y1 y2 y3 y4
   unfold q25.l1
   repeat' first
   | (with_reducible exact ih0 _ _ _ _)
   | (with_reducible exact ih1 _ _ _ _ _)
   | (with_reducible exact LeO.refl _)
   | (with_reducible exact LeO.none _)
   | (with_reducible refine LeO.ite ?_ ?_)
   | (with_reducible refine LeO.bind ?_ (fun _ => ?_))
   | exact ih0 _ _ _ _
   | exact ih1 _ _ _ _ _
   | exact LeO.none _
   | refine LeO.ite ?_ ?_
   | refine LeO.bind ?_ (fun _ => ?_)
theorem q25.mono : ∀ a0 a1 k, LeO (q25.f k a0 a1) (q25.f (k + 1) a0 a1) := by
 intro a0 a1 k
 obtain ⟨ih0, ih1⟩ := q25.mono_l k
 unfold q25.f
 repeat' first
  | (with_reducible exact ih0 _ _ _ _)
  | (with_reducible exact ih1 _ _ _ _ _)
  | (with_reducible exact LeO.refl _)
  | (with_reducible exact LeO.none _)
  | (with_reducible refine LeO.ite ?_ ?_)
  | (with_reducible refine LeO.bind ?_ (fun _ => ?_))
  | exact ih0 _ _ _ _
  | exact ih1 _ _ _ _ _
  | exact LeO.none _
  | refine LeO.ite ?_ ?_
  | refine LeO.bind ?_ (fun _ => ?_)
def q64.f (a0 : Int) (a1 : Int) : Option (Int × Int) := some (IntKind.u64.wrap ((IntKind.u64.wrap ((IntKind.u64.wrap ((a0 / 4294967296) * (a1 / 4294967296))) + ((IntKind.u64.wrap ((IntKind.u64.wrap ((a0 / 4294967296) * (Go.bits .and .u64 a1 4294967295))) + ((IntKind.u64.wrap ((Go.bits .and .u64 a0 4294967295) * (Go.bits .and .u64 a1 4294967295))) / 4294967296))) / 4294967296))) + ((IntKind.u64.wrap ((Go.bits .and .u64 (IntKind.u64.wrap ((IntKind.u64.wrap ((a0 / 4294967296) * (Go.bits .and .u64 a1 4294967295))) + ((IntKind.u64.wrap ((Go.bits .and .u64 a0 4294967295) * (Go.bits .and .u64 a1 4294967295))) / 4294967296))) 4294967295) + (IntKind.u64.wrap ((Go.bits .and .u64 a0 4294967295) * (a1 / 4294967296))))) / 4294967296)), IntKind.u64.wrap (a0 * a1))
def q65.f (a0 : Int) (a1 : Int) : Option (Int × Int) := (q64.f a0 a1).bind fun bt101 => (some (bt101.1, bt101.2))
def q61.f (l0 : List Int) (a1 : Int) : Option (List Int) := if l0.length = 1 then (if 0 ≤ a1 then (if a1 ≤ 1000000 then (some (List.replicate (a1 : Int).toNat (rd l0 0))) else (none)) else (none)) else (none)
theorem q61.mul_one (n : Nat) (h : n ≤ 1000000) : q65.f 1 (n : Int) = some ((0 : Int), (n : Int)) := by
 have h1 : Go.bits .and .u64 1 4294967295 = 1 := by rw [and_low32 1 (by omega) (by omega)]; omega
 have h2 : Go.bits .and .u64 (n : Int) 4294967295 = n := by rw [and_low32 n (by omega) (by omega)]; omega
 unfold q65.f q64.f
 simp only [h1, h2, Option.bind_some, show (1 : Int) / 4294967296 = 0 from by decide, show (n : Int) / 4294967296 = 0 from by omega, Int.zero_mul, Int.mul_zero, Int.one_mul, wrap_u64_]
 simp only [show (0 : Int) % 18446744073709551616 = 0 from by decide, show (n : Int) % 18446744073709551616 = n from by omega, show (n : Int) / 4294967296 = 0 from by omega, Int.add_zero, Int.zero_add]
 rw [show Go.bits .and .u64 0 4294967295 = 0 from by rw [and_low32 0 (by omega) (by omega)]; omega]
 simp
mutual
def q9.l0 : Nat → List Int → List Int → Int → List (List Int) → Option (List Int)
 | 0, _, _, _, _ => none
 | k + 1, x5, x6, x102000, x102001 => if (x6.length : Int) > 0 then (if 0 < (x6.length : Int) then (if 1 ≤ (x6.length : Int) then (if 0 ≤ (rd x6 0) then (if (rd x6 0) < (x102001.length : Int) then (q9.l1 k x5 (x6.drop (1 : Int).toNat) (rd x6 0) (rd_L1 x102001 (rd x6 0)) ((rd_L1 x102001 (rd x6 0)).length : Int) 0 x102000 x102001) else (none)) else (none)) else (none)) else (none)) else (some x5)
def q9.l1 : Nat → List Int → List Int → Int → List Int → Int → Int → Int → List (List Int) → Option (List Int)
 | 0, _, _, _, _, _, _, _, _ => none
 | k + 1, x5, x6, x7, x31, x32, x33, x102000, x102001 => if x33 < x32 then (if 0 ≤ x33 then (if x33 < (x31.length : Int) then (if 0 ≤ (rd x31 x33) then (if (rd x31 x33) < (x5.length : Int) then (if (rd x5 (rd x31 x33)) < 0 then (if 0 ≤ x7 then (if x7 < (x5.length : Int) then (if x6.length < 17592186044416 then (q9.l1 k (x5.set ((rd x31 x33) : Int).toNat (wrap64 ((rd x5 x7) + 1))) (x6 ++ [rd x31 x33]) x7 x31 x32 (wrap64 (x33 + 1)) x102000 x102001) else (none)) else (none)) else (none)) else (q9.l1 k x5 x6 x7 x31 x32 (wrap64 (x33 + 1)) x102000 x102001)) else (none)) else (none)) else (none)) else (none)) else (q9.l0 k x5 x6 x102000 x102001)
end
def q9.f (k : Nat) (a0_0 : Int) (l0_1 : List (List Int)) (a1 : Int) : Option (List Int) := (q61.f (([(-1)] : List Int)) a0_0).bind fun t105 => (if 0 ≤ a1 then (if a1 < (t105.length : Int) then (q9.l0 k (t105.set (a1 : Int).toNat 0) (([a1] : List Int)) a0_0 l0_1) else (none)) else (none))
theorem q9.mono_l : ∀ k, (∀ y0 y1 y2 y3, LeO (q9.l0 k y0 y1 y2 y3) (q9.l0 (k + 1) y0 y1 y2 y3)) ∧ (∀ y0 y1 y2 y3 y4 y5 y6 y7, LeO (q9.l1 k y0 y1 y2 y3 y4 y5 y6 y7) (q9.l1 (k + 1) y0 y1 y2 y3 y4 y5 y6 y7))
 | 0 => ⟨fun _ _ _ _ r h => by simp [q9.l0] at h, fun _ _ _ _ _ _ _ _ r h => by simp [q9.l1] at h⟩
 | k + 1 => by
  obtain ⟨ih0, ih1⟩ := q9.mono_l k
  refine ⟨?_, ?_⟩
  ·intro y0 y1 y2 y3
   unfold q9.l0
   repeat' first
   | (with_reducible exact ih0 _ _ _ _)
   | (with_reducible exact ih1 _ _ _ _ _ _ _ _)
   | (with_reducible exact LeO.refl _)
   | (with_reducible exact LeO.none _)
   | (with_reducible refine LeO.ite ?_ ?_)
   | (with_reducible refine LeO.bind ?_ (fun _ => ?_))
   | exact ih0 _ _ _ _
   | exact ih1 _ _ _ _ _ _ _ _
   | exact LeO.none _
   | refine LeO.ite ?_ ?_
   | refine LeO.bind ?_ (fun _ => ?_)
  ·intro y0 y1 y2 y3 y4 y5 y6 y7
   unfold q9.l1
   repeat' first
   | (with_reducible exact ih0 _ _ _ _)
   | (with_reducible exact ih1 _ _ _ _ _ _ _ _)
   | (with_reducible exact LeO.refl _)
   | (with_reducible exact LeO.none _)
   | (with_reducible refine LeO.ite ?_ ?_)
   | (with_reducible refine LeO.bind ?_ (fun _ => ?_))
   | exact ih0 _ _ _ _
   | exact ih1 _ _ _ _ _ _ _ _
   | exact LeO.none _
   | refine LeO.ite ?_ ?_
   | refine LeO.bind ?_ (fun _ => ?_)
theorem q9.mono : ∀ a0 a1 a2 k, LeO (q9.f k a0 a1 a2) (q9.f (k + 1) a0 a1 a2) := by
 intro a0 a1 a2 k
 obtain ⟨ih0, ih1⟩ := q9.mono_l k
 unfold q9.f
 repeat' first
  | (with_reducible exact ih0 _ _ _ _)
  | (with_reducible exact ih1 _ _ _ _ _ _ _ _)
  | (with_reducible exact LeO.refl _)
  | (with_reducible exact LeO.none _)
  | (with_reducible refine LeO.ite ?_ ?_)
  | (with_reducible refine LeO.bind ?_ (fun _ => ?_))
  | exact ih0 _ _ _ _
  | exact ih1 _ _ _ _ _ _ _ _
  | exact LeO.none _
  | refine LeO.ite ?_ ?_
  | refine LeO.bind ?_ (fun _ => ?_)
mutual
def q4.l0 : Nat → List Int → Int → Int → Int → List (List Int) → Option (List Int)
 | 0, _, _, _, _, _ => none
 | k + 1, x3, x14, x15, x102000, x102001 => if x15 < x14 then (if 0 ≤ x15 then (if x15 < (x3.length : Int) then (q4.l0 k (x3.set (x15 : Int).toNat x15) x14 (wrap64 (x15 + 1)) x102000 x102001) else (none)) else (none)) else ((q8.f k x102000 x102001).bind fun t106 => (q4.l1 k x3 t106 (t106.length : Int) 0))
def q4.l1 : Nat → List Int → List (S78) → Int → Int → Option (List Int)
 | 0, _, _, _, _ => none
 | k + 1, x3, x24, x25, x26 => if x26 < x25 then (if 0 ≤ x26 then (if x26 < (x24.length : Int) then (if 0 ≤ ((rd_T78 x24 x26).f0) then (if ((rd_T78 x24 x26).f0) < (x3.length : Int) then (if 0 ≤ ((rd_T78 x24 x26).f1) then (if ((rd_T78 x24 x26).f1) < (x3.length : Int) then (q4.l2 k x3 (mn (rd x3 ((rd_T78 x24 x26).f0)) (rd x3 ((rd_T78 x24 x26).f1))) (mx (rd x3 ((rd_T78 x24 x26).f0)) (rd x3 ((rd_T78 x24 x26).f1))) x24 x25 x26 (x3.length : Int) 0) else (none)) else (none)) else (none)) else (none)) else (none)) else (none)) else (some x3)
def q4.l2 : Nat → List Int → Int → Int → List (S78) → Int → Int → Int → Int → Option (List Int)
 | 0, _, _, _, _, _, _, _, _ => none
 | k + 1, x3, x7, x8, x24, x25, x26, x53, x54 => if x54 < x53 then (if 0 ≤ x54 then (if x54 < (x3.length : Int) then (if (rd x3 x54) = x8 then (q4.l2 k (x3.set (x54 : Int).toNat x7) x7 x8 x24 x25 x26 x53 (wrap64 (x54 + 1))) else (q4.l2 k x3 x7 x8 x24 x25 x26 x53 (wrap64 (x54 + 1)))) else (none)) else (none)) else (q4.l1 k x3 x24 x25 (wrap64 (x26 + 1)))
end
def q4.f (k : Nat) (a0_0 : Int) (l0_1 : List (List Int)) : Option (List Int) := if 0 ≤ a0_0 then (if (a0_0 : Int).toNat ≤ 35184372088832 then ((some (List.replicate (a0_0 : Int).toNat 0 : List Int)).bind fun y102 => (q4.l0 k y102 (y102.length : Int) 0 a0_0 l0_1)) else (none)) else (none)
theorem q4.mono_l : ∀ k, (∀ y0 y1 y2 y3 y4, LeO (q4.l0 k y0 y1 y2 y3 y4) (q4.l0 (k + 1) y0 y1 y2 y3 y4)) ∧ (∀ y0 y1 y2 y3, LeO (q4.l1 k y0 y1 y2 y3) (q4.l1 (k + 1) y0 y1 y2 y3)) ∧ (∀ y0 y1 y2 y3 y4 y5 y6 y7, LeO (q4.l2 k y0 y1 y2 y3 y4 y5 y6 y7) (q4.l2 (k + 1) y0 y1 y2 y3 y4 y5 y6 y7))
 | 0 => ⟨fun _ _ _ _ _ r h => by simp [q4.l0] at h, fun _ _ _ _ r h => by simp [q4.l1] at h, fun _ _ _ _ _ _ _ _ r h => by simp [q4.l2] at h⟩
 | k + 1 => by
  obtain ⟨ih0, ih1, ih2⟩ := q4.mono_l k
  refine ⟨?_, ?_, ?_⟩
  ·intro y0 y1 y2 y3 y4
   unfold q4.l0
   repeat' first
   | (with_reducible exact ih0 _ _ _ _ _)
   | (with_reducible exact ih1 _ _ _ _)
   | (with_reducible exact ih2 _ _ _ _ _ _ _ _)
   | (with_reducible exact q8.mono _ _ _)
   | (with_reducible exact LeO.refl _)
   | (with_reducible exact LeO.none _)
   | (with_reducible refine LeO.ite ?_ ?_)
   | (with_reducible refine LeO.bind ?_ (fun _ => ?_))
   | exact ih0 _ _ _ _ _
   | exact ih1 _ _ _ _
   | exact ih2 _ _ _ _ _ _ _ _
   | exact q8.mono _ _ _
   | exact LeO.none _
   | refine LeO.ite ?_ ?_
   | refine LeO.bind ?_ (fun _ => ?_)
  ·intro y0 y1 y2 y3
   unfold q4.l1
   repeat' first
   | (with_reducible exact ih0 _ _ _ _ _)
   | (with_reducible exact ih1 _ _ _ _)
   | (with_reducible exact ih2 _ _ _ _ _ _ _ _)
   | (with_reducible exact q8.mono _ _ _)
   | (with_reducible exact LeO.refl _)
   | (with_reducible exact LeO.none _)
   | (with_reducible refine LeO.ite ?_ ?_)
   | (with_reducible refine LeO.bind ?_ (fun _ => ?_))
   | exact ih0 _ _ _ _ _
   | exact ih1 _ _ _ _
   | exact ih2 _ _ _ _ _ _ _ _
   | exact q8.mono _ _ _
   | exact LeO.none _
   | refine LeO.ite ?_ ?_
   | refine LeO.bind ?_ (fun _ => ?_)
  ·intro y0 y1 y2 y3 y4 y5 y6 y7
   unfold q4.l2
   repeat' first
   | (with_reducible exact ih0 _ _ _ _ _)
   | (with_reducible exact ih1 _ _ _ _)
   | (with_reducible exact ih2 _ _ _ _ _ _ _ _)
   | (with_reducible exact q8.mono _ _ _)
   | (with_reducible exact LeO.refl _)
   | (with_reducible exact LeO.none _)
   | (with_reducible refine LeO.ite ?_ ?_)
   | (with_reducible refine LeO.bind ?_ (fun _ => ?_))
   | exact ih0 _ _ _ _ _
   | exact ih1 _ _ _ _
   | exact ih2 _ _ _ _ _ _ _ _
   | exact q8.mono _ _ _
   | exact LeO.none _
   | refine LeO.ite ?_ ?_
   | refine LeO.bind ?_ (fun _ => ?_)
theorem q4.mono : ∀ a0 a1 k, LeO (q4.f k a0 a1) (q4.f (k + 1) a0 a1) := by
 intro a0 a1 k
 obtain ⟨ih0, ih1, ih2⟩ := q4.mono_l k
 unfold q4.f
 repeat' first
  | (with_reducible exact ih0 _ _ _ _ _)
  | (with_reducible exact ih1 _ _ _ _)
  | (with_reducible exact ih2 _ _ _ _ _ _ _ _)
  | (with_reducible exact q8.mono _ _ _)
  | (with_reducible exact LeO.refl _)
  | (with_reducible exact LeO.none _)
  | (with_reducible refine LeO.ite ?_ ?_)
  | (with_reducible refine LeO.bind ?_ (fun _ => ?_))
  | exact ih0 _ _ _ _ _
  | exact ih1 _ _ _ _
  | exact ih2 _ _ _ _ _ _ _ _
  | exact q8.mono _ _ _
  | exact LeO.none _
  | refine LeO.ite ?_ ?_
  | refine LeO.bind ?_ (fun _ => ?_)
def q32.l0 : Nat → List Int → List (S78) → Int → Int → Option (List Int)
 | 0, _, _, _, _ => none
 | k + 1, x2, x6, x7, x8 => if x8 < x7 then (if 0 ≤ x8 then (if x8 < (x6.length : Int) then ((some (([(rd_T78 x6 x8).f0, (rd_T78 x6 x8).f1] : List Int) : List Int)).bind fun y107 => (if x2.length + y107.length < 17592186044416 then (q32.l0 k (x2 ++ y107) x6 x7 (wrap64 (x8 + 1))) else (none))) else (none)) else (none)) else (some x2)
def q32.f (k : Nat) (a0_0 : Int) (l0_1 : List (List Int)) : Option (List Int) := (q8.f k a0_0 l0_1).bind fun t102 => (q32.l0 k ([] : List Int) t102 (t102.length : Int) 0)
theorem q32.mono_l : ∀ k, (∀ y0 y1 y2 y3, LeO (q32.l0 k y0 y1 y2 y3) (q32.l0 (k + 1) y0 y1 y2 y3))
 | 0 => fun _ _ _ _ r h => by simp [q32.l0] at h
 | k + 1 => by
  have ih0 := q32.mono_l k
  ·intro y0 y1 y2 y3
   unfold q32.l0
   repeat' first
   | (with_reducible exact ih0 _ _ _ _)
   | (with_reducible exact q8.mono _ _ _)
   | (with_reducible exact LeO.refl _)
   | (with_reducible exact LeO.none _)
   | (with_reducible refine LeO.ite ?_ ?_)
   | (with_reducible refine LeO.bind ?_ (fun _ => ?_))
   | exact ih0 _ _ _ _
   | exact q8.mono _ _ _
   | exact LeO.none _
   | refine LeO.ite ?_ ?_
   | refine LeO.bind ?_ (fun _ => ?_)
theorem q32.mono : ∀ a0 a1 k, LeO (q32.f k a0 a1) (q32.f (k + 1) a0 a1) := by
 intro a0 a1 k
 have ih0 := q32.mono_l k
 unfold q32.f
 repeat' first
  | (with_reducible exact ih0 _ _ _ _)
  | (with_reducible exact q8.mono _ _ _)
  | (with_reducible exact LeO.refl _)
  | (with_reducible exact LeO.none _)
  | (with_reducible refine LeO.ite ?_ ?_)
  | (with_reducible refine LeO.bind ?_ (fun _ => ?_))
  | exact ih0 _ _ _ _
  | exact q8.mono _ _ _
  | exact LeO.none _
  | refine LeO.ite ?_ ?_
  | refine LeO.bind ?_ (fun _ => ?_)
def q51.f (k : Nat) (a0_0 : Int) (l0_1 : List (List Int)) (a1 : Int) (a2 : Int) : Option (List Int × Int) := (q24.f k a0_0 l0_1 a1 a2).bind fun t102 => (if t102 = 0 then (if a1 = 1 then (if 0 ≤ a2 then (if a2 < (l0_1.length : Int) then ((q55.f (rd_L1 l0_1 a2)).bind fun t104 => (some (t104, 0))) else (none)) else (none)) else (if a1 = 2 then ((q31.f k a0_0 l0_1).bind fun bt107 => (if 0 ≤ a2 then (if a2 < (bt107.2.length : Int) then (some (rd_L1 bt107.2 a2, 0)) else (none)) else (none))) else (if a1 = 3 then ((q25.f k a0_0 l0_1).bind fun t112 => (some (t112, 0))) else (if a1 = 4 then ((q9.f k a0_0 l0_1 a2).bind fun t115 => (some (t115, 0))) else (if a1 = 5 then ((q4.f k a0_0 l0_1).bind fun t118 => (some (t118, 0))) else ((q32.f k a0_0 l0_1).bind fun t121 => (some (t121, 0)))))))) else (some (([] : List Int), t102)))
theorem q51.mono : ∀ a0 a1 a2 a3 k, LeO (q51.f k a0 a1 a2 a3) (q51.f (k + 1) a0 a1 a2 a3) := by
 intro a0 a1 a2 a3 k
 unfold q51.f
 repeat' first
  | (with_reducible exact q31.mono _ _ _)
  | (with_reducible exact q24.mono _ _ _ _ _)
  | (with_reducible exact q32.mono _ _ _)
  | (with_reducible exact q25.mono _ _ _)
  | (with_reducible exact q9.mono _ _ _ _)
  | (with_reducible exact q4.mono _ _ _)
  | (with_reducible exact LeO.refl _)
  | (with_reducible exact LeO.none _)
  | (with_reducible refine LeO.ite ?_ ?_)
  | (with_reducible refine LeO.bind ?_ (fun _ => ?_))
  | exact q31.mono _ _ _
  | exact q24.mono _ _ _ _ _
  | exact q32.mono _ _ _
  | exact q25.mono _ _ _
  | exact q9.mono _ _ _ _
  | exact q4.mono _ _ _
  | exact LeO.none _
  | refine LeO.ite ?_ ?_
  | refine LeO.bind ?_ (fun _ => ?_)
def q56.f (a0 : Int) (a1 : Int) (a2 : Int) : Option (Bool) := if a0 ≥ a1 then (some (decide (a0 ≤ a2))) else (some false)
def q53.f (a0 : Int) : Option (Bool) := if a0 = 1 then (some true) else (if a0 = 2 then (some true) else (some (a0 == 4)))
def q57.f (a0_0 : Int) (l0_1 : List (List Int)) (a1 : Int) (a2 : Int) : Option (Int) := (q56.f a1 1 6).bind fun t102 => (if t102 = true then ((q53.f a1).bind fun t103 => (if t103 = true then ((q43.f a2 (wrap64 (a0_0 - 1))).bind fun t104 => (if t104 = true then (some 0) else (some 3))) else (some 0))) else (some 1))
def q44.l0 : Nat → List Int → List Int → Int → Option (List Int)
 | 0, _, _, _ => none
 | k + 1, x0, x3, x4 => if x4 < (x0.length : Int) then (if 0 ≤ x4 then (if x3.length < 17592186044416 then (q44.l0 k x0 (x3 ++ [rd x0 x4]) (wrap64 (x4 + 1))) else (none)) else (none)) else (some x3)
def q44.f (k : Nat) (l0 : List Int) : Option (List Int) := q44.l0 k l0 ([] : List Int) 0
mutual
def q34.l0 : Nat → List (S78) → Int → Int → List (List Int) → Option ((List (S78)))
 | 0, _, _, _, _ => none
 | k + 1, x3, x4, x102000, x102001 => if x4 < x102000 then (q34.l1 k x3 x4 0 x102000 x102001) else (some x3)
def q34.l1 : Nat → List (S78) → Int → Int → Int → List (List Int) → Option ((List (S78)))
 | 0, _, _, _, _, _ => none
 | k + 1, x3, x4, x5, x102000, x102001 => if 0 ≤ x4 then (if x4 < (x102001.length : Int) then (if x5 < ((rd_L1 x102001 x4).length : Int) then (if 0 ≤ x5 then (if x3.length < 8796093022208 then (q34.l1 k (x3 ++ [(⟨x4, rd (rd_L1 x102001 x4) x5⟩ : S78)]) x4 (wrap64 (x5 + 1)) x102000 x102001) else (none)) else (none)) else (q34.l0 k x3 (wrap64 (x4 + 1)) x102000 x102001)) else (none)) else (none)
end
def q34.f (k : Nat) (a0_0 : Int) (l0_1 : List (List Int)) : Option ((List (S78))) := q34.l0 k ([] : List (S78)) 0 a0_0 l0_1
def q67.f (a0 : Int) : Option (Int × (List (List Int))) := if 0 ≤ a0 then (if (a0 : Int).toNat ≤ 11728124029610 then (some (a0, (List.replicate (a0 : Int).toNat []))) else (none)) else (none)
def q46.l0 : Nat → List (S78) → Int → Int → List (List Int) → Option (Int × (List (List Int)))
 | 0, _, _, _, _ => none
 | k + 1, x4, x5, x108000, x108001 => if x5 < (x4.length : Int) then (if 0 ≤ x5 then (if 0 ≤ ((rd_T78 x4 x5).f1) then (if ((rd_T78 x4 x5).f1) < (x108001.length : Int) then (if (rd_L1 x108001 ((rd_T78 x4 x5).f1)).length < 17592186044416 then (q46.l0 k x4 (wrap64 (x5 + 1)) x108000 (x108001.set (((rd_T78 x4 x5).f1) : Int).toNat ((rd_L1 x108001 ((rd_T78 x4 x5).f1)) ++ [(rd_T78 x4 x5).f0]))) else (none)) else (none)) else (none)) else (none)) else (some (x108000, x108001))
def q46.f (k : Nat) (a0_0 : Int) (l0_1 : List (List Int)) : Option (Int × (List (List Int))) := (q67.f a0_0).bind fun bt103 => ((q34.f k a0_0 l0_1).bind fun t108 => (q46.l0 k t108 0 bt103.1 bt103.2))
mutual
def q40.l0 : Nat → List Int → Int → Int → List (List Int) → Option (List Int)
 | 0, _, _, _, _ => none
 | k + 1, x3, x4, x102000, x102001 => if x4 < x102000 then (q40.l1 k x3 x4 x102000 x102001) else (some x3)
def q40.l1 : Nat → List Int → Int → Int → List (List Int) → Option (List Int)
 | 0, _, _, _, _ => none
 | k + 1, x3, x4, x102000, x102001 => if 0 ≤ x4 then (if x4 < (x102001.length : Int) then (if (x3.length : Int) ≤ ((rd_L1 x102001 x4).length : Int) then (if x3.length < 17592186044416 then (q40.l1 k (x3 ++ [0]) x4 x102000 x102001) else (none)) else (if 0 ≤ ((rd_L1 x102001 x4).length : Int) then (if ((rd_L1 x102001 x4).length : Int) < (x3.length : Int) then (q40.l0 k (x3.set (((rd_L1 x102001 x4).length : Int) : Int).toNat (wrap64 ((rd x3 ((rd_L1 x102001 x4).length : Int)) + 1))) (wrap64 (x4 + 1)) x102000 x102001) else (none)) else (none))) else (none)) else (none)
end
def q40.f (k : Nat) (a0_0 : Int) (l0_1 : List (List Int)) : Option (List Int) := q40.l0 k ([] : List Int) 0 a0_0 l0_1
mutual
def q5.l0 : Nat → Int → List Int → Int → Int → List (List Int) → Option (List Int)
 | 0, _, _, _, _, _ => none
 | k + 1, x1, x5, x6, x102000, x102001 => if x6 < x102000 then (if 0 ≤ x6 then (if x6 < (x5.length : Int) then (q5.l0 k x1 (x5.set (x6 : Int).toNat (-1)) (wrap64 (x6 + 1)) x102000 x102001) else (none)) else (none)) else (if 0 ≤ x1 then (if x1 < (x5.length : Int) then (q5.l1 k (x5.set (x1 : Int).toNat 0) 0 x102000 x102001) else (none)) else (none))
def q5.l1 : Nat → List Int → Int → Int → List (List Int) → Option (List Int)
 | 0, _, _, _, _ => none
 | k + 1, x5, x7, x102000, x102001 => if x7 < x102000 then (q5.l2 k x5 x7 0 x102000 x102001) else (some x5)
def q5.l2 : Nat → List Int → Int → Int → Int → List (List Int) → Option (List Int)
 | 0, _, _, _, _, _ => none
 | k + 1, x5, x7, x8, x102000, x102001 => if x8 < x102000 then (q5.l3 k x5 x7 x8 0 x102000 x102001) else (q5.l1 k x5 (wrap64 (x7 + 1)) x102000 x102001)
def q5.l3 : Nat → List Int → Int → Int → Int → Int → List (List Int) → Option (List Int)
 | 0, _, _, _, _, _, _ => none
 | k + 1, x5, x7, x8, x9, x102000, x102001 => if 0 ≤ x8 then (if x8 < (x102001.length : Int) then (if x9 < ((rd_L1 x102001 x8).length : Int) then (if x8 < (x5.length : Int) then (q5.j4 k x5 x7 x8 x9 ((rd x5 x8) == x7) x102000 x102001) else (none)) else (q5.j4 k x5 x7 x8 x9 false x102000 x102001)) else (none)) else (none)
def q5.j4 : Nat → List Int → Int → Int → Int → Bool → Int → List (List Int) → Option (List Int)
 | 0, _, _, _, _, _, _, _ => none
 | k + 1, x5, x7, x8, x9, x52, x102000, x102001 => if x52 = true then (if 0 ≤ x8 then (if x8 < (x102001.length : Int) then (if 0 ≤ x9 then (if x9 < ((rd_L1 x102001 x8).length : Int) then (if 0 ≤ (rd (rd_L1 x102001 x8) x9) then (if (rd (rd_L1 x102001 x8) x9) < (x5.length : Int) then (if (rd x5 (rd (rd_L1 x102001 x8) x9)) < 0 then (q5.l3 k (x5.set ((rd (rd_L1 x102001 x8) x9) : Int).toNat (wrap64 (x7 + 1))) x7 x8 (wrap64 (x9 + 1)) x102000 x102001) else (q5.l3 k x5 x7 x8 (wrap64 (x9 + 1)) x102000 x102001)) else (none)) else (none)) else (none)) else (none)) else (none)) else (none)) else (q5.l2 k x5 x7 (wrap64 (x8 + 1)) x102000 x102001)
end
def q5.f (k : Nat) (a0_0 : Int) (l0_1 : List (List Int)) (a1 : Int) : Option (List Int) := if 0 ≤ a0_0 then (if (a0_0 : Int).toNat ≤ 35184372088832 then (q5.l0 k a1 (List.replicate (a0_0 : Int).toNat 0) 0 a0_0 l0_1) else (none)) else (none)
mutual
def q17.l0 : Nat → List Int → Int → Int → List (List Int) → Option (List Int)
 | 0, _, _, _, _ => none
 | k + 1, x3, x4, x102000, x102001 => if x4 < x102000 then (if 0 ≤ x4 then (if x4 < (x3.length : Int) then (q17.l0 k (x3.set (x4 : Int).toNat x4) (wrap64 (x4 + 1)) x102000 x102001) else (none)) else (none)) else (q17.l1 k x3 0 x102000 x102001)
def q17.l1 : Nat → List Int → Int → Int → List (List Int) → Option (List Int)
 | 0, _, _, _, _ => none
 | k + 1, x3, x5, x102000, x102001 => if x5 < x102000 then (q17.l2 k x3 x5 0 x102000 x102001) else (some x3)
def q17.l2 : Nat → List Int → Int → Int → Int → List (List Int) → Option (List Int)
 | 0, _, _, _, _, _ => none
 | k + 1, x3, x5, x6, x102000, x102001 => if x6 < x102000 then (q17.l3 k x3 x5 x6 0 x102000 x102001) else (q17.l1 k x3 (wrap64 (x5 + 1)) x102000 x102001)
def q17.l3 : Nat → List Int → Int → Int → Int → Int → List (List Int) → Option (List Int)
 | 0, _, _, _, _, _, _ => none
 | k + 1, x3, x5, x6, x7, x102000, x102001 => if 0 ≤ x6 then (if x6 < (x102001.length : Int) then (if x7 < ((rd_L1 x102001 x6).length : Int) then (if 0 ≤ x7 then (if x6 < (x3.length : Int) then (if 0 ≤ (rd (rd_L1 x102001 x6) x7) then (if (rd (rd_L1 x102001 x6) x7) < (x3.length : Int) then (q17.l3 k ((x3.set (x6 : Int).toNat (mn (rd x3 x6) (rd x3 (rd (rd_L1 x102001 x6) x7)))).set ((rd (rd_L1 x102001 x6) x7) : Int).toNat (mn (rd x3 x6) (rd x3 (rd (rd_L1 x102001 x6) x7)))) x5 x6 (wrap64 (x7 + 1)) x102000 x102001) else (none)) else (none)) else (none)) else (none)) else (q17.l2 k x3 x5 (wrap64 (x6 + 1)) x102000 x102001)) else (none)) else (none)
end
def q17.f (k : Nat) (a0_0 : Int) (l0_1 : List (List Int)) : Option (List Int) := if 0 ≤ a0_0 then (if (a0_0 : Int).toNat ≤ 35184372088832 then (q17.l0 k (List.replicate (a0_0 : Int).toNat 0) 0 a0_0 l0_1) else (none)) else (none)
def q42.l0 : Nat → List Int → List (S78) → Int → Option (List Int)
 | 0, _, _, _ => none
 | k + 1, x7, x8, x9 => if x9 < (x8.length : Int) then (if 0 ≤ x9 then ((some (([(rd_T78 x8 x9).f0, (rd_T78 x8 x9).f1] : List Int) : List Int)).bind fun y128 => (if x7.length + y128.length < 17592186044416 then (q42.l0 k (x7 ++ y128) x8 (wrap64 (x9 + 1))) else (none))) else (none)) else (some x7)
def q42.f (k : Nat) (a0_0 : Int) (l0_1 : List (List Int)) (a1 : Int) (a2 : Int) : Option (List Int) := if a1 = 1 then (if 0 ≤ a2 then (if a2 < (l0_1.length : Int) then ((q44.f k (rd_L1 l0_1 a2)).bind fun t103 => (some t103)) else (none)) else (none)) else (if a1 = 2 then ((q46.f k a0_0 l0_1).bind fun bt106 => (if 0 ≤ a2 then (if a2 < (bt106.2.length : Int) then ((q44.f k (rd_L1 bt106.2 a2)).bind fun t111 => (some t111)) else (none)) else (none))) else (if a1 = 3 then ((q40.f k a0_0 l0_1).bind fun t114 => (some t114)) else (if a1 = 4 then ((q5.f k a0_0 l0_1 a2).bind fun t117 => (some t117)) else (if a1 = 5 then ((q17.f k a0_0 l0_1).bind fun t120 => (some t120)) else ((q34.f k a0_0 l0_1).bind fun t123 => (q42.l0 k ([] : List Int) t123 0))))))
def q48.f (a0 : Int) : Option (Int) := some a0
def q30.l0 : Nat → List Int → List Int → Int → Option (Bool)
 | 0, _, _, _ => none
 | k + 1, x0, x1, x5 => if x5 < (x0.length : Int) then (if 0 ≤ x5 then (if x5 < (x1.length : Int) then (if (rd x0 x5) = (rd x1 x5) then (q30.l0 k x0 x1 (wrap64 (x5 + 1))) else (some false)) else (none)) else (none)) else (some true)
def q30.f (k : Nat) (l0 : List Int) (l1 : List Int) : Option (Bool) := if (l0.length : Int) = (l1.length : Int) then (q30.l0 k l0 l1 0) else (some false)
theorem q30.mono_l : ∀ k, (∀ y0 y1 y2, LeO (q30.l0 k y0 y1 y2) (q30.l0 (k + 1) y0 y1 y2))
 | 0 => fun _ _ _ r h => by simp [q30.l0] at h
 | k + 1 => by
  have ih0 := q30.mono_l k
  ·intro y0 y1 y2
   unfold q30.l0
   repeat' first
   | (with_reducible exact ih0 _ _ _)
   | (with_reducible exact LeO.refl _)
   | (with_reducible exact LeO.none _)
   | (with_reducible refine LeO.ite ?_ ?_)
   | (with_reducible refine LeO.bind ?_ (fun _ => ?_))
   | exact ih0 _ _ _
   | exact LeO.none _
   | refine LeO.ite ?_ ?_
   | refine LeO.bind ?_ (fun _ => ?_)
theorem q30.mono : ∀ a0 a1 k, LeO (q30.f k a0 a1) (q30.f (k + 1) a0 a1) := by
 intro a0 a1 k
 have ih0 := q30.mono_l k
 unfold q30.f
 repeat' first
  | (with_reducible exact ih0 _ _ _)
  | (with_reducible exact LeO.refl _)
  | (with_reducible exact LeO.none _)
  | (with_reducible refine LeO.ite ?_ ?_)
  | (with_reducible refine LeO.bind ?_ (fun _ => ?_))
  | exact ih0 _ _ _
  | exact LeO.none _
  | refine LeO.ite ?_ ?_
  | refine LeO.bind ?_ (fun _ => ?_)
def q52.f (k : Nat) (a0_0 : Int) (l0_1 : List (List Int)) (a1 : Int) : Option (List Int × Int) := (q51.f k a0_0 l0_1 4 a1).bind fun bt102 => (some (bt102.1, bt102.2))
theorem q52.mono : ∀ a0 a1 a2 k, LeO (q52.f k a0 a1 a2) (q52.f (k + 1) a0 a1 a2) := by
 intro a0 a1 a2 k
 unfold q52.f
 repeat' first
  | (with_reducible exact q51.mono _ _ _ _ _)
  | (with_reducible exact LeO.refl _)
  | (with_reducible exact LeO.none _)
  | (with_reducible refine LeO.ite ?_ ?_)
  | (with_reducible refine LeO.bind ?_ (fun _ => ?_))
  | exact q51.mono _ _ _ _ _
  | exact LeO.none _
  | refine LeO.ite ?_ ?_
  | refine LeO.bind ?_ (fun _ => ?_)
def q62.f (k : Nat)  : Option (Bool) := (q52.f k 1 (([[]] : List (List Int))) 0).bind fun bt104 => ((q48.f bt104.2).bind fun t108 => (if t108 = 0 then ((q30.f k bt104.1 (([0] : List Int))).bind fun t112 => (some t112)) else (some false)))
theorem q62.mono : ∀ k, LeO (q62.f k ) (q62.f (k + 1) ) := by
 intro  k
 unfold q62.f
 repeat' first
  | (with_reducible exact q30.mono _ _ _)
  | (with_reducible exact q52.mono _ _ _ _)
  | (with_reducible exact LeO.refl _)
  | (with_reducible exact LeO.none _)
  | (with_reducible refine LeO.ite ?_ ?_)
  | (with_reducible refine LeO.bind ?_ (fun _ => ?_))
  | exact q30.mono _ _ _
  | exact q52.mono _ _ _ _
  | exact LeO.none _
  | refine LeO.ite ?_ ?_
  | refine LeO.bind ?_ (fun _ => ?_)
def q38.l0 : Nat → Int → Int → Int → List (List Int) → Option (Int × (List (List Int)))
 | 0, _, _, _, _ => none
 | k + 1, x0, x6, x106000, x106001 => if x6 < x0 then (if x0 = 0 then (none) else (if 0 ≤ x6 then (if x6 < (x106001.length : Int) then (q38.l0 k x0 (wrap64 (x6 + 1)) x106000 (x106001.set (x6 : Int).toNat (([Int.tmod (wrap64 (x6 + 1)) x0] : List Int)))) else (none)) else (none))) else (some (x106000, x106001))
def q38.f (k : Nat) (a0 : Int) (a1 : Int) : Option (Int × (List (List Int))) := if 0 ≤ a0 then (if (a0 : Int).toNat ≤ 11728124029610 then (q38.l0 k a0 0 a0 (List.replicate (a0 : Int).toNat [])) else (none)) else (none)
theorem q38.mono_l : ∀ k, (∀ y0 y1 y2 y3, LeO (q38.l0 k y0 y1 y2 y3) (q38.l0 (k + 1) y0 y1 y2 y3))
 | 0 => fun _ _ _ _ r h => by simp [q38.l0] at h
 | k + 1 => by
  have ih0 := q38.mono_l k
  ·intro y0 y1 y2 y3
   unfold q38.l0
   repeat' first
   | (with_reducible exact ih0 _ _ _ _)
   | (with_reducible exact LeO.refl _)
   | (with_reducible exact LeO.none _)
   | (with_reducible refine LeO.ite ?_ ?_)
   | (with_reducible refine LeO.bind ?_ (fun _ => ?_))
   | exact ih0 _ _ _ _
   | exact LeO.none _
   | refine LeO.ite ?_ ?_
   | refine LeO.bind ?_ (fun _ => ?_)
theorem q38.mono : ∀ a0 a1 k, LeO (q38.f k a0 a1) (q38.f (k + 1) a0 a1) := by
 intro a0 a1 k
 have ih0 := q38.mono_l k
 unfold q38.f
 repeat' first
  | (with_reducible exact ih0 _ _ _ _)
  | (with_reducible exact LeO.refl _)
  | (with_reducible exact LeO.none _)
  | (with_reducible refine LeO.ite ?_ ?_)
  | (with_reducible refine LeO.bind ?_ (fun _ => ?_))
  | exact ih0 _ _ _ _
  | exact LeO.none _
  | refine LeO.ite ?_ ?_
  | refine LeO.bind ?_ (fun _ => ?_)
def q36.l0 : Nat → Int → Int → Int → List (List Int) → Option (Int × (List (List Int)))
 | 0, _, _, _, _ => none
 | k + 1, x0, x6, x115000, x115001 => if x6 < x0 then (if (wrap64 (x6 + 1)) < x0 then (if 0 ≤ x6 then (if x6 < (x115001.length : Int) then (q36.l0 k x0 (wrap64 (x6 + 1)) x115000 (x115001.set (x6 : Int).toNat (([wrap64 (x6 + 1)] : List Int)))) else (none)) else (none)) else (q36.l0 k x0 (wrap64 (x6 + 1)) x115000 x115001)) else (some (x115000, x115001))
def q36.f (k : Nat) (a0 : Int) (a1 : Int) : Option (Int × (List (List Int))) := if 0 ≤ a0 then (if (a0 : Int).toNat ≤ 11728124029610 then (q36.l0 k a0 0 a0 (List.replicate (a0 : Int).toNat [])) else (none)) else (none)
theorem q36.mono_l : ∀ k, (∀ y0 y1 y2 y3, LeO (q36.l0 k y0 y1 y2 y3) (q36.l0 (k + 1) y0 y1 y2 y3))
 | 0 => fun _ _ _ _ r h => by simp [q36.l0] at h
 | k + 1 => by
  have ih0 := q36.mono_l k
  ·intro y0 y1 y2 y3
   unfold q36.l0
   repeat' first
   | (with_reducible exact ih0 _ _ _ _)
   | (with_reducible exact LeO.refl _)
   | (with_reducible exact LeO.none _)
   | (with_reducible refine LeO.ite ?_ ?_)
   | (with_reducible refine LeO.bind ?_ (fun _ => ?_))
   | exact ih0 _ _ _ _
   | exact LeO.none _
   | refine LeO.ite ?_ ?_
   | refine LeO.bind ?_ (fun _ => ?_)
theorem q36.mono : ∀ a0 a1 k, LeO (q36.f k a0 a1) (q36.f (k + 1) a0 a1) := by
 intro a0 a1 k
 have ih0 := q36.mono_l k
 unfold q36.f
 repeat' first
  | (with_reducible exact ih0 _ _ _ _)
  | (with_reducible exact LeO.refl _)
  | (with_reducible exact LeO.none _)
  | (with_reducible refine LeO.ite ?_ ?_)
  | (with_reducible refine LeO.bind ?_ (fun _ => ?_))
  | exact ih0 _ _ _ _
  | exact LeO.none _
  | refine LeO.ite ?_ ?_
  | refine LeO.bind ?_ (fun _ => ?_)
def q37.l0 : Nat → Int → Int → Int → List (List Int) → Option (Int × (List (List Int)))
 | 0, _, _, _, _ => none
 | k + 1, x0, x6, x124000, x124001 => if x6 < x0 then (if x6 > 0 then (if 0 < (x124001.length : Int) then (if (rd_L1 x124001 0).length < 17592186044416 then (q37.l0 k x0 (wrap64 (x6 + 1)) x124000 (x124001.set (0 : Int).toNat ((rd_L1 x124001 0) ++ [x6]))) else (none)) else (none)) else (q37.l0 k x0 (wrap64 (x6 + 1)) x124000 x124001)) else (some (x124000, x124001))
def q37.f (k : Nat) (a0 : Int) (a1 : Int) : Option (Int × (List (List Int))) := if 0 ≤ a0 then (if (a0 : Int).toNat ≤ 11728124029610 then (q37.l0 k a0 0 a0 (List.replicate (a0 : Int).toNat [])) else (none)) else (none)
theorem q37.mono_l : ∀ k, (∀ y0 y1 y2 y3, LeO (q37.l0 k y0 y1 y2 y3) (q37.l0 (k + 1) y0 y1 y2 y3))
 | 0 => fun _ _ _ _ r h => by simp [q37.l0] at h
 | k + 1 => by
  have ih0 := q37.mono_l k
  ·intro y0 y1 y2 y3
   unfold q37.l0
   repeat' first
   | (with_reducible exact ih0 _ _ _ _)
   | (with_reducible exact LeO.refl _)
   | (with_reducible exact LeO.none _)
   | (with_reducible refine LeO.ite ?_ ?_)
   | (with_reducible refine LeO.bind ?_ (fun _ => ?_))
   | exact ih0 _ _ _ _
   | exact LeO.none _
   | refine LeO.ite ?_ ?_
   | refine LeO.bind ?_ (fun _ => ?_)
theorem q37.mono : ∀ a0 a1 k, LeO (q37.f k a0 a1) (q37.f (k + 1) a0 a1) := by
 intro a0 a1 k
 have ih0 := q37.mono_l k
 unfold q37.f
 repeat' first
  | (with_reducible exact ih0 _ _ _ _)
  | (with_reducible exact LeO.refl _)
  | (with_reducible exact LeO.none _)
  | (with_reducible refine LeO.ite ?_ ?_)
  | (with_reducible refine LeO.bind ?_ (fun _ => ?_))
  | exact ih0 _ _ _ _
  | exact LeO.none _
  | refine LeO.ite ?_ ?_
  | refine LeO.bind ?_ (fun _ => ?_)
mutual
def q22.l0 : Nat → Int → Int → Int → List (List Int) → Option (Int × (List (List Int)))
 | 0, _, _, _, _ => none
 | k + 1, x0, x6, x134000, x134001 => if x6 < x0 then (q22.l1 k x0 x6 0 x134000 x134001) else (some (x134000, x134001))
def q22.l1 : Nat → Int → Int → Int → Int → List (List Int) → Option (Int × (List (List Int)))
 | 0, _, _, _, _, _ => none
 | k + 1, x0, x6, x7, x134000, x134001 => if x7 < (mn x0 10) then (if x6 < 10 then (if 0 ≤ x6 then (if x6 < (x134001.length : Int) then (if (rd_L1 x134001 x6).length < 17592186044416 then (q22.l1 k x0 x6 (wrap64 (x7 + 1)) x134000 (x134001.set (x6 : Int).toNat ((rd_L1 x134001 x6) ++ [x7]))) else (none)) else (none)) else (none)) else (q22.l0 k x0 (wrap64 (x6 + 1)) x134000 x134001)) else (q22.l0 k x0 (wrap64 (x6 + 1)) x134000 x134001)
end
def q22.f (k : Nat) (a0 : Int) (a1 : Int) : Option (Int × (List (List Int))) := if 0 ≤ a0 then (if (a0 : Int).toNat ≤ 11728124029610 then (q22.l0 k a0 0 a0 (List.replicate (a0 : Int).toNat [])) else (none)) else (none)
theorem q22.mono_l : ∀ k, (∀ y0 y1 y2 y3, LeO (q22.l0 k y0 y1 y2 y3) (q22.l0 (k + 1) y0 y1 y2 y3)) ∧ (∀ y0 y1 y2 y3 y4, LeO (q22.l1 k y0 y1 y2 y3 y4) (q22.l1 (k + 1) y0 y1 y2 y3 y4))
 | 0 => ⟨fun _ _ _ _ r h => by simp [q22.l0] at h, fun _ _ _ _ _ r h => by simp [q22.l1] at h⟩
 | k + 1 => by
  obtain ⟨ih0, ih1⟩ := q22.mono_l k
  refine ⟨?_, ?_⟩
  ·intro y0 y1 y2 y3
   unfold q22.l0
   repeat' first
   | (with_reducible exact ih0 _ _ _ _)
   | (with_reducible exact ih1 _ _ _ _ _)
   | (with_reducible exact LeO.refl _)
   | (with_reducible exact LeO.none _)
   | (with_reducible refine LeO.ite ?_ ?_)
   | (with_reducible refine LeO.bind ?_ (fun _ => ?_))
   | exact ih0 _ _ _ _
   | exact ih1 _ _ _ _ _
   | exact LeO.none _
   | refine LeO.ite ?_ ?_
   | refine LeO.bind ?_ (fun _ => ?_)
  ·intro y0 y1 y2 y3 y4
   unfold q22.l1
   repeat' first
   | (with_reducible exact ih0 _ _ _ _)
   | (with_reducible exact ih1 _ _ _ _ _)
   | (with_reducible exact LeO.refl _)
   | (with_reducible exact LeO.none _)
   | (with_reducible refine LeO.ite ?_ ?_)
   | (with_reducible refine LeO.bind ?_ (fun _ => ?_))
   | exact ih0 _ _ _ _
   | exact ih1 _ _ _ _ _
   | exact LeO.none _
   | refine LeO.ite ?_ ?_
   | refine LeO.bind ?_ (fun _ => ?_)
theorem q22.mono : ∀ a0 a1 k, LeO (q22.f k a0 a1) (q22.f (k + 1) a0 a1) := by
 intro a0 a1 k
 obtain ⟨ih0, ih1⟩ := q22.mono_l k
 unfold q22.f
 repeat' first
  | (with_reducible exact ih0 _ _ _ _)
  | (with_reducible exact ih1 _ _ _ _ _)
  | (with_reducible exact LeO.refl _)
  | (with_reducible exact LeO.none _)
  | (with_reducible refine LeO.ite ?_ ?_)
  | (with_reducible refine LeO.bind ?_ (fun _ => ?_))
  | exact ih0 _ _ _ _
  | exact ih1 _ _ _ _ _
  | exact LeO.none _
  | refine LeO.ite ?_ ?_
  | refine LeO.bind ?_ (fun _ => ?_)
def q58.f (k : Nat) (a0 : Int) (a1 : Int) : Option (Int × (List (List Int))) := if a1 = 0 then (q38.f k a0 a1) else (if a1 = 1 then (q36.f k a0 a1) else (if a1 = 2 then (q37.f k a0 a1) else (q22.f k a0 a1)))
theorem q58.mono : ∀ a0 a1 k, LeO (q58.f k a0 a1) (q58.f (k + 1) a0 a1) := by
 intro a0 a1 k
 unfold q58.f
 repeat' first
  | (with_reducible exact q38.mono _ _ _)
  | (with_reducible exact q36.mono _ _ _)
  | (with_reducible exact q37.mono _ _ _)
  | (with_reducible exact q22.mono _ _ _)
  | (with_reducible refine LeO.ite ?_ ?_)
mutual
def q3.j0 : Nat → Int → List (S42) → Option (Bool)
 | 0, _, _ => none
 | k + 1, x1, x5 => q3.l0 k x1 x5 0
def q3.l0 : Nat → Int → List (S42) → Int → Option (Bool)
 | 0, _, _, _ => none
 | k + 1, x1, x5, x6 => if x6 ≤ 16 then (q3.l1 k x1 x5 x6 0) else (q3.l2 k x1 x5 0)
def q3.l1 : Nat → Int → List (S42) → Int → Int → Option (Bool)
 | 0, _, _, _, _ => none
 | k + 1, x1, x5, x6, x7 => if x7 < 4 then ((q58.f k x6 x7).bind fun bt112 => (if x5.length < 4398046511104 then (q3.l1 k x1 (x5 ++ [(⟨bt112.1, bt112.2⟩ : S42)]) x6 (wrap64 (x7 + 1))) else (none))) else (q3.l0 k x1 x5 (wrap64 (x6 + 5)))
def q3.l2 : Nat → Int → List (S42) → Int → Option (Bool)
 | 0, _, _, _ => none
 | k + 1, x1, x5, x8 => if x8 < (x5.length : Int) then (q3.l3 k x1 x5 x8 (-1)) else ((q62.f k).bind fun t119 => (some t119))
def q3.l3 : Nat → Int → List (S42) → Int → Int → Option (Bool)
 | 0, _, _, _, _ => none
 | k + 1, x1, x5, x8, x9 => if x9 ≤ 16 then (if 0 ≤ x8 then (if x8 < (x5.length : Int) then ((q51.f k ((rd_T42 x5 x8).f0) ((rd_T42 x5 x8).f1) x1 x9).bind fun bt121 => ((q26.f k ((rd_T42 x5 x8).f0) ((rd_T42 x5 x8).f1)).bind fun t126 => (if t126 = true then ((q57.f ((rd_T42 x5 x8).f0) ((rd_T42 x5 x8).f1) x1 x9).bind fun t128 => (if t128 = 0 then ((q42.f k ((rd_T42 x5 x8).f0) ((rd_T42 x5 x8).f1) x1 x9).bind fun t130 => (q3.j5 k x1 x5 x8 x9 bt121.1 bt121.2 t128 t130)) else (q3.j5 k x1 x5 x8 x9 bt121.1 bt121.2 t128 ([] : List Int)))) else (q3.j5 k x1 x5 x8 x9 bt121.1 bt121.2 1 ([] : List Int))))) else (none)) else (none)) else (q3.l2 k x1 x5 (wrap64 (x8 + 1)))
def q3.j5 : Nat → Int → List (S42) → Int → Int → List Int → Int → Int → List Int → Option (Bool)
 | 0, _, _, _, _, _, _, _, _ => none
 | k + 1, x1, x5, x8, x9, x10, x11, x12, x13 => (q48.f x11).bind fun t133 => (if t133 = x12 then ((q30.f k x10 x13).bind fun t134 => (if t134 = true then (q3.l3 k x1 x5 x8 (wrap64 (x9 + 1))) else (some false))) else (some false))
end
def q3.f (k : Nat) (l0_0 : List (S42)) (l0_1 : List (S119)) (a1 : Int) : Option (Bool) := (q63.f k l0_0 l0_1).bind fun t102 => (if t102 = true then (some true) else ((some (([] : List (S42)) : List (S42))).bind fun y103 => (if y103.length + l0_0.length < 4398046511104 then ((some (y103 ++ l0_0 : List (S42))).bind fun y106 => (if (y106.length : Int) > 4 then (if 4 ≤ (y106.length : Int) then (q3.j0 k a1 (y106.take (4 : Int).toNat)) else (none)) else (q3.j0 k a1 y106))) else (none))))
def q68.f (k : Nat) (l0_0 : List (S42)) (l0_1 : List (S119)) : Option (Bool) := (q3.f k l0_0 l0_1 1).bind fun t102 => (some t102)
def q69.f (k : Nat) (l0_0 : List (S42)) (l0_1 : List (S119)) : Option (Bool) := (q3.f k l0_0 l0_1 2).bind fun t102 => (some t102)
def q70.f (k : Nat) (l0_0 : List (S42)) (l0_1 : List (S119)) : Option (Bool) := (q3.f k l0_0 l0_1 3).bind fun t102 => (some t102)
def q71.f (k : Nat) (l0_0 : List (S42)) (l0_1 : List (S119)) : Option (Bool) := (q3.f k l0_0 l0_1 4).bind fun t102 => (some t102)
def q72.f (k : Nat) (l0_0 : List (S42)) (l0_1 : List (S119)) : Option (Bool) := (q3.f k l0_0 l0_1 5).bind fun t102 => (some t102)
def q73.f (k : Nat) (l0_0 : List (S42)) (l0_1 : List (S119)) : Option (Bool) := (q3.f k l0_0 l0_1 6).bind fun t102 => (some t102)
end Go.Proofs.Ytcfhffhmpalkbaa.P
