import Derived.Test.YtcfhffhmpalkbaaProg
import Derived.Below
import Derived.Deep.Draws
import Derived.Deep.AppendLies
import Derived.Maps.AppendAt
import Derived.OwnWalk
import Derived.Laws.BytesArg
import Derived.Laws.MakeOwn
import Derived.Laws.OwnMore
import Derived.Deep.OwnRows
import Derived.Tactics
import Derived.Lib.ConvBytes
import Derived.Laws.Slices
import Derived.WalkKit
import Derived.KernelRfl
import Derived.RowKit3
import Derived.Deep.LoopGhost
import Derived.Deep.QuietTactic
import Derived.BigQuiet
import Derived.WideLaws
import Derived.Deep.DeepCutAuto
import Derived.Deep.CutBlock
import Derived.Deep.RegionHeld3
import Derived.Laws.Rows
import Derived.Lib.AppendStr
import Derived.ArgAppend
import Derived.Laws.IdiomCopy
import Derived.OrdersHeld
import Derived.Laws.BitsLemmas
import Derived.RowKit
import Derived.Lib.SliceRun
import Derived.Test.YtcfhffhmpalkbaaKc0
section
namespace Go.Proofs.Ytcfhffhmpalkbaa.P
open Go.RowKit Go.Proofs.YtcfhffhmpalkbaaM Go.Proofs.YtcfhffhmpalkbaaW.PrintWords Go.Proofs.YtcfhffhmpalkbaaW.PrintLast Go.Proofs.YtcfhffhmpalkbaaW.PrintMore
attribute [local go_sem] Go.Instr.field Go.asAgg max2_int min2_int max_two min_two max_three min_three max_four min_four
set_option linter.unusedVariables false
set_option linter.unusedSimpArgs false
def errW : Option Int → Value
 | none => .nilIface
 | some c => .iface 0 (.int .i64 c)
theorem errW_none : errW none = .nilIface := rfl
theorem errW_some (c : Int) : errW (some c) = .iface 0 (.int .i64 c) := rfl
theorem info3 : (Try.prog.info? 3).map (fun i => (i.zero, i.size, i.bytes)) = some (some (.int .i64 0), 1, 8) := by kernel_rfl
theorem info45 : (Try.prog.info? 45).map (fun i => (i.zero, i.size, i.bytes)) = some (some (.slice none 0 0), 1, 24) := by kernel_rfl
theorem info78 : (Try.prog.info? 78).map (fun i => (i.zero, i.size, i.bytes)) = some (some (.agg #[(.int .i64 0), (.int .i64 0)]), 2, 16) := by kernel_rfl
def rd_L1 (xs : List (List Int)) (i : Int) : (List Int) := xs.getD i.toNat ([] : List Int)
theorem at_L1 {w : World} {A : Option Addr} {n : Nat} {xs : List (List Int)} (h : Kd.C (Kd.slice 3 (Kd.int .i64)) w A n xs) (i : Int) (h0 : 0 ≤ i) (h1 : i < n) : ∃ ad A0 c0, A = some ad ∧ w.cell? (ad.add i.toNat) = some (.slice A0 (rd_L1 xs i).length c0) ∧ (rd_L1 xs i).length ≤ c0 ∧ (Kd.int .i64).C w A0 (rd_L1 xs i).length (rd_L1 xs i) := by
 obtain ⟨ad, c, e, _, hK, hc0⟩ := Kd.C_get h ([] : List Int) i h0 h1
 have hc : ∀ j u, c[j]? = some u → w.cell? (ad.add (i.toNat * 1 + j)) = some u := hc0
 obtain ⟨A0, c0, rfl, l0, g0⟩ := hK
 exact ⟨ad, A0, c0, e, by have hq := hc 0 _ rfl; rwa [Nat.mul_one, Nat.add_zero] at hq, l0, g0⟩
structure S42 where
 f0 : Int
 f1 : (List (List Int))
def z42 : S42 := ⟨(0 : Int), ([] : List (List Int))⟩
def k42 : Kd S42 := Kd.iso (Kd.pair (Kd.int .i64) (Kd.slice 45 (Kd.slice 3 (Kd.int .i64)))) (fun x : S42 => (x.f0, x.f1))
theorem k42_open {w : World} {x : S42} {cs : List Value} (h : k42.K w x cs) : ∃ A1 c1, cs = [.int .i64 x.f0, .slice A1 x.f1.length c1] ∧ x.f1.length ≤ c1 ∧ (Kd.slice 3 (Kd.int .i64)).C w A1 x.f1.length x.f1 := by
 obtain ⟨_, _, rfl, rfl, ⟨A1, c1, rfl, l1, g1⟩⟩ := h
 exact ⟨A1, c1, rfl, l1, g1⟩
def rd_T42 (xs : List S42) (i : Int) : S42 := xs.getD i.toNat z42
theorem at_T42 {w : World} {A : Option Addr} {n : Nat} {xs : List S42} (h : Kd.C k42 w A n xs) (i : Int) (h0 : 0 ≤ i) (h1 : i < n) : ∃ ad A1 c1, A = some ad ∧ w.cell? (ad.add (i.toNat * 2)) = some (.int .i64 (rd_T42 xs i).f0) ∧ w.cell? ⟨(ad.add (i.toNat * 2)).block, (ad.add (i.toNat * 2)).off + 1, none⟩ = some (.slice A1 (rd_T42 xs i).f1.length c1) ∧ (rd_T42 xs i).f1.length ≤ c1 ∧ (Kd.slice 3 (Kd.int .i64)).C w A1 (rd_T42 xs i).f1.length (rd_T42 xs i).f1 := by
 obtain ⟨ad, c, e, _, hK, hc0⟩ := Kd.C_get h z42 i h0 h1
 have hc : ∀ j u, c[j]? = some u → w.cell? (ad.add (i.toNat * 2 + j)) = some u := hc0
 obtain ⟨A1, c1, rfl, l1, g1⟩ := k42_open hK
 exact ⟨ad, A1, c1, e, hc 0 _ rfl, by rw [← add_field _ _ 1 (by omega)]; exact hc 1 _ rfl, l1, g1⟩
structure S119 where
 f0 : Int
 f1 : Int
 f2 : Int
def k119 : Kd S119 := Kd.iso (Kd.pair (Kd.int .i64) (Kd.pair (Kd.int .i64) (Kd.int .i64))) (fun x : S119 => (x.f0, x.f1, x.f2))
structure S78 where
 f0 : Int
 f1 : Int
def z78 : S78 := ⟨(0 : Int), (0 : Int)⟩
def k78 : Kd S78 := Kd.iso (Kd.pair (Kd.int .i64) (Kd.int .i64)) (fun x : S78 => (x.f0, x.f1))
theorem k78_open {w : World} {x : S78} {cs : List Value} (h : k78.K w x cs) : cs = [.int .i64 x.f0, .int .i64 x.f1] := by
 obtain ⟨_, _, rfl, rfl, rfl⟩ := h
 exact rfl
theorem k78_mkM (w : World) (base : Nat) (ok : Nat → Prop) (x : S78)  : k78.M w base ok x [.int .i64 x.f0, .int .i64 x.f1] := ⟨[.int .i64 x.f0], [.int .i64 x.f1], rfl, rfl, rfl⟩
def rd_T78 (xs : List S78) (i : Int) : S78 := xs.getD i.toNat z78
theorem at_T78 {w : World} {A : Option Addr} {n : Nat} {xs : List S78} (h : Kd.C k78 w A n xs) (i : Int) (h0 : 0 ≤ i) (h1 : i < n) : ∃ ad , A = some ad ∧ w.cell? (ad.add (i.toNat * 2)) = some (.int .i64 (rd_T78 xs i).f0) ∧ w.cell? ⟨(ad.add (i.toNat * 2)).block, (ad.add (i.toNat * 2)).off + 1, none⟩ = some (.int .i64 (rd_T78 xs i).f1) := by
 obtain ⟨ad, c, e, _, hK, hc0⟩ := Kd.C_get h z78 i h0 h1
 have hc : ∀ j u, c[j]? = some u → w.cell? (ad.add (i.toNat * 2 + j)) = some u := hc0
 obtain rfl := k78_open hK
 exact ⟨ad, e, hc 0 _ rfl, by rw [← add_field _ _ 1 (by omega)]; exact hc 1 _ rfl⟩
structure S37 where
 f0 : (List S42)
 f1 : (List S119)
def k37 : Kd S37 := Kd.iso (Kd.pair (Kd.slice 42 k42) (Kd.slice 119 k119)) (fun x : S37 => (x.f0, x.f1))
theorem k37_open {w : World} {x : S37} {cs : List Value} (h : k37.K w x cs) : ∃ A0 c0 A1 c1, cs = [.slice A0 x.f0.length c0, .slice A1 x.f1.length c1] ∧ x.f0.length ≤ c0 ∧ k42.C w A0 x.f0.length x.f0 ∧ x.f1.length ≤ c1 ∧ k119.C w A1 x.f1.length x.f1 := by
 obtain ⟨_, _, rfl, ⟨A0, c0, rfl, l0, g0⟩, ⟨A1, c1, rfl, l1, g1⟩⟩ := h
 exact ⟨A0, c0, A1, c1, rfl, l0, g0, l1, g1⟩
end Go.Proofs.Ytcfhffhmpalkbaa.P
end
section
namespace Go.Proofs.Ytcfhffhmpalkbaa.P
open Go.RowKit Go.Proofs.YtcfhffhmpalkbaaM Go.Proofs.YtcfhffhmpalkbaaW.PrintWords Go.Proofs.YtcfhffhmpalkbaaW.PrintLast Go.Proofs.YtcfhffhmpalkbaaW.PrintMore
attribute [local go_sem] Go.Instr.field Go.asAgg max2_int min2_int max_two min_two max_three min_three max_four min_four
set_option linter.unusedVariables false
set_option linter.unusedSimpArgs false
def q28.l0 : Nat → List (List Int) → Int → Int → Option (Int)
 | 0, _, _, _ => none
 | k + 1, x0, x3, x4 => if x4 < (x0.length : Int) then (if x3 < 1048576 then (if 0 ≤ x4 then (q28.l0 k x0 (wrap64 (x3 + ((rd_L1 x0 x4).length : Int))) (wrap64 (x4 + 1))) else (none)) else (some x3)) else (some x3)
def q28.f (k : Nat) (l0 : List (List Int)) : Option (Int) := q28.l0 k l0 (l0.length : Int) 0
def q27.l0 : Nat → List (S42) → Int → Int → Option (Int)
 | 0, _, _, _ => none
 | k + 1, x0, x3, x4 => if x4 < (x0.length : Int) then (if x3 < 1048576 then (if 0 ≤ x4 then ((q28.f k ((rd_T42 x0 x4).f1)).bind fun t102 => (q27.l0 k x0 (wrap64 (x3 + t102)) (wrap64 (x4 + 1)))) else (none)) else (some x3)) else (some x3)
def q27.f (k : Nat) (l0 : List (S42)) : Option (Int) := q27.l0 k l0 (l0.length : Int) 0
def q30.f (k : Nat) (l0_0 : List (S42)) (l0_1 : List (S119)) : Option (Bool) := (q27.f k l0_0).bind fun t102 => (some (decide ((wrap64 (t102 + (l0_1.length : Int))) > 1200)))
def q37.f (a0 : Int) : Option (Bool) := if a0 ≥ 0 then (some (decide (a0 < 16))) else (some false)
def q17.l0 : Nat → List Int → List Int → Int → Int → Option (Bool)
 | 0, _, _, _, _ => none
 | k + 1, x0, x5, x6, x7 => if x7 < x6 then (if 0 ≤ x7 then (if x7 < (x5.length : Int) then ((q37.f (rd x5 x7)).bind fun t102 => (if t102 = true then (if x7 > 0 then (if 0 ≤ (wrap64 (x7 - 1)) then (if (wrap64 (x7 - 1)) < (x0.length : Int) then (if (rd x5 x7) ≤ (rd x0 (wrap64 (x7 - 1))) then (some false) else (q17.l0 k x0 x5 x6 (wrap64 (x7 + 1)))) else (none)) else (none)) else (q17.l0 k x0 x5 x6 (wrap64 (x7 + 1)))) else (some false))) else (none)) else (none)) else (some true)
def q17.f (k : Nat) (l0 : List Int) : Option (Bool) := q17.l0 k l0 l0 (l0.length : Int) 0
theorem q17.mono_l : ∀ k, (∀ y0 y1 y2 y3, LeO (q17.l0 k y0 y1 y2 y3) (q17.l0 (k + 1) y0 y1 y2 y3))
 | 0 => fun _ _ _ _ r h => by simp [q17.l0] at h
 | k + 1 => by
  have ih0 := q17.mono_l k
  ·intro y0 y1 y2 y3
   unfold q17.l0
   repeat' first
   | (with_reducible exact ih0 _ _ _ _)
   | (with_reducible exact LeO.refl _)
   | (with_reducible exact LeO.none _)
   | (with_reducible refine LeO.ite ?_ ?_)
   | (with_reducible refine LeO.bind ?_ (fun _ => ?_))
   | exact ih0 _ _ _ _
   | exact LeO.none _
   | refine LeO.ite ?_ ?_
   | refine LeO.bind ?_ (fun _ => ?_)
theorem q17.mono : ∀ a0 k, LeO (q17.f k a0) (q17.f (k + 1) a0) := by
 intro a0 k
 have ih0 := q17.mono_l k
 unfold q17.f
 repeat' first
  | (with_reducible exact ih0 _ _ _ _)
  | (with_reducible exact LeO.refl _)
  | (with_reducible exact LeO.none _)
  | (with_reducible refine LeO.ite ?_ ?_)
  | (with_reducible refine LeO.bind ?_ (fun _ => ?_))
  | exact ih0 _ _ _ _
  | exact LeO.none _
  | refine LeO.ite ?_ ?_
  | refine LeO.bind ?_ (fun _ => ?_)
def q22.l0 : Nat → Int → List (List Int) → Int → Int → Option (Int)
 | 0, _, _, _, _ => none
 | k + 1, x3, x7, x8, x9 => if x9 < x8 then (if 0 ≤ x9 then (if x9 < (x7.length : Int) then (q22.l0 k (wrap64 (x3 + ((rd_L1 x7 x9).length : Int))) x7 x8 (wrap64 (x9 + 1))) else (none)) else (none)) else (some x3)
def q22.f (k : Nat) (a0_0 : Int) (l0_1 : List (List Int)) : Option (Int) := q22.l0 k 0 l0_1 (l0_1.length : Int) 0
theorem q22.mono_l : ∀ k, (∀ y0 y1 y2 y3, LeO (q22.l0 k y0 y1 y2 y3) (q22.l0 (k + 1) y0 y1 y2 y3))
 | 0 => fun _ _ _ _ r h => by simp [q22.l0] at h
 | k + 1 => by
  have ih0 := q22.mono_l k
  ·intro y0 y1 y2 y3
   unfold q22.l0
   repeat' first
   | (with_reducible exact ih0 _ _ _ _)
   | (with_reducible exact LeO.refl _)
   | (with_reducible exact LeO.none _)
   | (with_reducible refine LeO.ite ?_ ?_)
   | (with_reducible refine LeO.bind ?_ (fun _ => ?_))
   | exact ih0 _ _ _ _
   | exact LeO.none _
   | refine LeO.ite ?_ ?_
   | refine LeO.bind ?_ (fun _ => ?_)
theorem q22.mono : ∀ a0 a1 k, LeO (q22.f k a0 a1) (q22.f (k + 1) a0 a1) := by
 intro a0 a1 k
 have ih0 := q22.mono_l k
 unfold q22.f
 repeat' first
  | (with_reducible exact ih0 _ _ _ _)
  | (with_reducible exact LeO.refl _)
  | (with_reducible exact LeO.none _)
  | (with_reducible refine LeO.ite ?_ ?_)
  | (with_reducible refine LeO.bind ?_ (fun _ => ?_))
  | exact ih0 _ _ _ _
  | exact LeO.none _
  | refine LeO.ite ?_ ?_
  | refine LeO.bind ?_ (fun _ => ?_)
mutual
def q8.j0 : Nat → Bool → Int → List (List Int) → Option (Bool)
 | 0, _, _, _ => none
 | k + 1, x20, x102000, x102001 => if x20 = true then (some false) else (q8.l0 k x102001 (x102001.length : Int) 0 x102000 x102001)
def q8.l0 : Nat → List (List Int) → Int → Int → Int → List (List Int) → Option (Bool)
 | 0, _, _, _, _, _ => none
 | k + 1, x22, x23, x24, x102000, x102001 => if x24 < x23 then (if 0 ≤ x24 then (if x24 < (x22.length : Int) then ((q17.f k (rd_L1 x22 x24)).bind fun t103 => (if t103 = true then (if ((rd_L1 x22 x24).length : Int) > 0 then (if 0 ≤ (wrap64 (((rd_L1 x22 x24).length : Int) - 1)) then (if (wrap64 (((rd_L1 x22 x24).length : Int) - 1)) < ((rd_L1 x22 x24).length : Int) then (if (rd (rd_L1 x22 x24) (wrap64 (((rd_L1 x22 x24).length : Int) - 1))) ≥ x102000 then (some false) else (q8.l0 k x22 x23 (wrap64 (x24 + 1)) x102000 x102001)) else (none)) else (none)) else (q8.l0 k x22 x23 (wrap64 (x24 + 1)) x102000 x102001)) else (some false))) else (none)) else (none)) else ((q22.f k x102000 x102001).bind fun t105 => (some (decide (t105 ≤ 120))))
end
def q8.f (k : Nat) (a0_0 : Int) (l0_1 : List (List Int)) : Option (Bool) := if a0_0 < 0 then (q8.j0 k true a0_0 l0_1) else (if a0_0 > 16 then (q8.j0 k true a0_0 l0_1) else (q8.j0 k ((l0_1.length : Int) != a0_0) a0_0 l0_1))
theorem q8.mono_l : ∀ k, (∀ y0 y1 y2, LeO (q8.j0 k y0 y1 y2) (q8.j0 (k + 1) y0 y1 y2)) ∧ (∀ y0 y1 y2 y3 y4, LeO (q8.l0 k y0 y1 y2 y3 y4) (q8.l0 (k + 1) y0 y1 y2 y3 y4))
 | 0 => ⟨fun _ _ _ r h => by simp [q8.j0] at h, fun _ _ _ _ _ r h => by simp [q8.l0] at h⟩
 | k + 1 => by
  obtain ⟨ih0, ih1⟩ := q8.mono_l k
  refine ⟨?_, ?_⟩
  ·intro y0 y1 y2
   unfold q8.j0
   repeat' first
   | (with_reducible exact ih0 _ _ _)
   | (with_reducible exact ih1 _ _ _ _ _)
   | (with_reducible exact q17.mono _ _)
   | (with_reducible exact q22.mono _ _ _)
   | (with_reducible exact LeO.refl _)
   | (with_reducible exact LeO.none _)
   | (with_reducible refine LeO.ite ?_ ?_)
   | (with_reducible refine LeO.bind ?_ (fun _ => ?_))
   | exact ih0 _ _ _
   | exact ih1 _ _ _ _ _
   | exact q17.mono _ _
   | exact q22.mono _ _ _
   | exact LeO.none _
   | refine LeO.ite ?_ ?_
   | refine LeO.bind ?_ (fun _ => ?_)
  ·intro y0 y1 y2 y3 y4
   unfold q8.l0
   repeat' first
   | (with_reducible exact ih0 _ _ _)
   | (with_reducible exact ih1 _ _ _ _ _)
   | (with_reducible exact q17.mono _ _)
   | (with_reducible exact q22.mono _ _ _)
   | (with_reducible exact LeO.refl _)
   | (with_reducible exact LeO.none _)
   | (with_reducible refine LeO.ite ?_ ?_)
   | (with_reducible refine LeO.bind ?_ (fun _ => ?_))
   | exact ih0 _ _ _
   | exact ih1 _ _ _ _ _
   | exact q17.mono _ _
   | exact q22.mono _ _ _
   | exact LeO.none _
   | refine LeO.ite ?_ ?_
   | refine LeO.bind ?_ (fun _ => ?_)
theorem q8.mono : ∀ a0 a1 k, LeO (q8.f k a0 a1) (q8.f (k + 1) a0 a1) := by
 intro a0 a1 k
 obtain ⟨ih0, ih1⟩ := q8.mono_l k
 unfold q8.f
 repeat' first
  | (with_reducible exact ih0 _ _ _)
  | (with_reducible exact ih1 _ _ _ _ _)
  | (with_reducible exact q17.mono _ _)
  | (with_reducible exact q22.mono _ _ _)
  | (with_reducible exact LeO.refl _)
  | (with_reducible exact LeO.none _)
  | (with_reducible refine LeO.ite ?_ ?_)
  | (with_reducible refine LeO.bind ?_ (fun _ => ?_))
  | exact ih0 _ _ _
  | exact ih1 _ _ _ _ _
  | exact q17.mono _ _
  | exact q22.mono _ _ _
  | exact LeO.none _
  | refine LeO.ite ?_ ?_
  | refine LeO.bind ?_ (fun _ => ?_)
def q38.f (a0 : Int) : Option (Bool) := if a0 = 1 then (some true) else (if a0 = 2 then (some true) else (some (a0 == 4)))
def q34.f (a0_0 : Int) (l0_1 : List (List Int)) (a1 : Int) : Option (Bool) := if a1 ≥ 0 then (some (decide (a1 < a0_0))) else (some false)
def q18.j0 : Nat → Int → Int → Bool → Int → List (List Int) → Option (Int)
 | 0, _, _, _, _, _ => none
 | k + 1, x1, x2, x7, x102000, x102001 => if x7 = true then (some 1) else ((q38.f x1).bind fun t103 => (if t103 = true then ((q34.f x102000 x102001 x2).bind fun t104 => (if t104 = true then (some 0) else (some 3))) else (some 0)))
def q18.f (k : Nat) (a0_0 : Int) (l0_1 : List (List Int)) (a1 : Int) (a2 : Int) : Option (Int) := (q8.f k a0_0 l0_1).bind fun t102 => (if t102 = true then (if a1 < 1 then (q18.j0 k a1 a2 true a0_0 l0_1) else (q18.j0 k a1 a2 (decide (a1 > 6)) a0_0 l0_1)) else (q18.j0 k a1 a2 true a0_0 l0_1))
theorem q18.mono_l : ∀ k, (∀ y0 y1 y2 y3 y4, LeO (q18.j0 k y0 y1 y2 y3 y4) (q18.j0 (k + 1) y0 y1 y2 y3 y4))
 | 0 => fun _ _ _ _ _ r h => by simp [q18.j0] at h
 | k + 1 => by
  have ih0 := q18.mono_l k
  ·intro y0 y1 y2 y3 y4
   unfold q18.j0
   repeat' first
   | (with_reducible exact ih0 _ _ _ _ _)
   | (with_reducible exact q8.mono _ _ _)
   | (with_reducible exact LeO.refl _)
   | (with_reducible exact LeO.none _)
   | (with_reducible refine LeO.ite ?_ ?_)
   | (with_reducible refine LeO.bind ?_ (fun _ => ?_))
   | exact ih0 _ _ _ _ _
   | exact q8.mono _ _ _
   | exact LeO.none _
   | refine LeO.ite ?_ ?_
   | refine LeO.bind ?_ (fun _ => ?_)
theorem q18.mono : ∀ a0 a1 a2 a3 k, LeO (q18.f k a0 a1 a2 a3) (q18.f (k + 1) a0 a1 a2 a3) := by
 intro a0 a1 a2 a3 k
 have ih0 := q18.mono_l k
 unfold q18.f
 repeat' first
  | (with_reducible exact ih0 _ _ _ _ _)
  | (with_reducible exact q8.mono _ _ _)
  | (with_reducible exact LeO.refl _)
  | (with_reducible exact LeO.none _)
  | (with_reducible refine LeO.ite ?_ ?_)
  | (with_reducible refine LeO.bind ?_ (fun _ => ?_))
  | exact ih0 _ _ _ _ _
  | exact q8.mono _ _ _
  | exact LeO.none _
  | refine LeO.ite ?_ ?_
  | refine LeO.bind ?_ (fun _ => ?_)
def q36.f (l0 : List Int) : Option (List Int) := (some (([] : List Int) : List Int)).bind fun y101 => (if y101.length + l0.length < 17592186044416 then (some (y101 ++ l0)) else (none))
def q44.f (a0 : Int) : Option (Int × (List (List Int))) := if 0 ≤ a0 then (if (a0 : Int).toNat ≤ 11728124029610 then (some (a0, (List.replicate (a0 : Int).toNat []))) else (none)) else (none)
mutual
def q9.l0 : Nat → List (S78) → List (List Int) → Int → Int → Option ((List (S78)))
 | 0, _, _, _, _ => none
 | k + 1, x2, x8, x9, x10 => if x10 < x9 then (if 0 ≤ x10 then (if x10 < (x8.length : Int) then (q9.l1 k x2 x10 x8 x9 x10 (rd_L1 x8 x10) ((rd_L1 x8 x10).length : Int) 0) else (none)) else (none)) else (some x2)
def q9.l1 : Nat → List (S78) → Int → List (List Int) → Int → Int → List Int → Int → Int → Option ((List (S78)))
 | 0, _, _, _, _, _, _, _, _ => none
 | k + 1, x2, x3, x8, x9, x10, x15, x16, x17 => if x17 < x16 then (if 0 ≤ x17 then (if x17 < (x15.length : Int) then (if x2.length < 8796093022208 then (q9.l1 k (x2 ++ [(⟨x3, rd x15 x17⟩ : S78)]) x3 x8 x9 x10 x15 x16 (wrap64 (x17 + 1))) else (none)) else (none)) else (none)) else (q9.l0 k x2 x8 x9 (wrap64 (x10 + 1)))
end
def q9.f (k : Nat) (a0_0 : Int) (l0_1 : List (List Int)) : Option ((List (S78))) := q9.l0 k ([] : List (S78)) l0_1 (l0_1.length : Int) 0
theorem q9.mono_l : ∀ k, (∀ y0 y1 y2 y3, LeO (q9.l0 k y0 y1 y2 y3) (q9.l0 (k + 1) y0 y1 y2 y3)) ∧ (∀ y0 y1 y2 y3 y4 y5 y6 y7, LeO (q9.l1 k y0 y1 y2 y3 y4 y5 y6 y7) (q9.l1 (k + 1) y0 y1 y2 y3 y4 y5 y6 y7))
 | 0 => ⟨fun _ _ _ _ r h => by simp [q9.l0] at h, fun _ _ _ _ _ _ _ _ r h => by simp [q9.l1] at h⟩
 | k + 1 => by
  obtain ⟨ih0, ih1⟩ := q9.mono_l k
  refine ⟨?_, ?_⟩
  ·intro y0 y1 y2 y3
   unfold q9.l0
   repeat' first
   | (with_reducible exact ih0 _ _ _ _)
   | (with_reducible exact ih1 _ _ _ _ _ _ _ _)
   | (with_reducible exact LeO.refl _)
   | (with_reducible exact LeO.none _)
   | (with_reducible refine LeO.ite ?_ ?_)
   | (with_reducible refine LeO.bind ?_ (fun _ => ?_))
   | exact ih0 _ _ _ _
   | exact ih1 _ _ _ _ _ _ _ _
   | exact LeO.none _
   | refine LeO.ite ?_ ?_
   | refine LeO.bind ?_ (fun _ => ?_)
  ·intro y0 y1 y2 y3 y4 y5 y6 y7
   unfold q9.l1
   repeat' first
   | (with_reducible exact ih0 _ _ _ _)
   | (with_reducible exact ih1 _ _ _ _ _ _ _ _)
   | (with_reducible exact LeO.refl _)
   | (with_reducible exact LeO.none _)
   | (with_reducible refine LeO.ite ?_ ?_)
   | (with_reducible refine LeO.bind ?_ (fun _ => ?_))
   | exact ih0 _ _ _ _
   | exact ih1 _ _ _ _ _ _ _ _
   | exact LeO.none _
   | refine LeO.ite ?_ ?_
   | refine LeO.bind ?_ (fun _ => ?_)
theorem q9.mono : ∀ a0 a1 k, LeO (q9.f k a0 a1) (q9.f (k + 1) a0 a1) := by
 intro a0 a1 k
 obtain ⟨ih0, ih1⟩ := q9.mono_l k
 unfold q9.f
 repeat' first
  | (with_reducible exact ih0 _ _ _ _)
  | (with_reducible exact ih1 _ _ _ _ _ _ _ _)
  | (with_reducible exact LeO.refl _)
  | (with_reducible exact LeO.none _)
  | (with_reducible refine LeO.ite ?_ ?_)
  | (with_reducible refine LeO.bind ?_ (fun _ => ?_))
  | exact ih0 _ _ _ _
  | exact ih1 _ _ _ _ _ _ _ _
  | exact LeO.none _
  | refine LeO.ite ?_ ?_
  | refine LeO.bind ?_ (fun _ => ?_)
def q20.l0 : Nat → List (S78) → Int → Int → Int → List (List Int) → Option (Int × (List (List Int)))
 | 0, _, _, _, _, _ => none
 | k + 1, x10, x11, x12, x108000, x108001 => if x12 < x11 then (if 0 ≤ x12 then (if x12 < (x10.length : Int) then (if 0 ≤ ((rd_T78 x10 x12).f1) then (if ((rd_T78 x10 x12).f1) < (x108001.length : Int) then (if (rd_L1 x108001 ((rd_T78 x10 x12).f1)).length < 17592186044416 then (q20.l0 k x10 x11 (wrap64 (x12 + 1)) x108000 (x108001.set (((rd_T78 x10 x12).f1) : Int).toNat ((rd_L1 x108001 ((rd_T78 x10 x12).f1)) ++ [(rd_T78 x10 x12).f0]))) else (none)) else (none)) else (none)) else (none)) else (none)) else (some (x108000, x108001))
def q20.f (k : Nat) (a0_0 : Int) (l0_1 : List (List Int)) : Option (Int × (List (List Int))) := (q44.f a0_0).bind fun bt103 => ((q9.f k a0_0 l0_1).bind fun t108 => (q20.l0 k t108 (t108.length : Int) 0 bt103.1 bt103.2))
theorem q20.mono_l : ∀ k, (∀ y0 y1 y2 y3 y4, LeO (q20.l0 k y0 y1 y2 y3 y4) (q20.l0 (k + 1) y0 y1 y2 y3 y4))
 | 0 => fun _ _ _ _ _ r h => by simp [q20.l0] at h
 | k + 1 => by
  have ih0 := q20.mono_l k
  ·intro y0 y1 y2 y3 y4
   unfold q20.l0
   repeat' first
   | (with_reducible exact ih0 _ _ _ _ _)
   | (with_reducible exact q9.mono _ _ _)
   | (with_reducible exact LeO.refl _)
   | (with_reducible exact LeO.none _)
   | (with_reducible refine LeO.ite ?_ ?_)
   | (with_reducible refine LeO.bind ?_ (fun _ => ?_))
   | exact ih0 _ _ _ _ _
   | exact q9.mono _ _ _
   | exact LeO.none _
   | refine LeO.ite ?_ ?_
   | refine LeO.bind ?_ (fun _ => ?_)
theorem q20.mono : ∀ a0 a1 k, LeO (q20.f k a0 a1) (q20.f (k + 1) a0 a1) := by
 intro a0 a1 k
 have ih0 := q20.mono_l k
 unfold q20.f
 repeat' first
  | (with_reducible exact ih0 _ _ _ _ _)
  | (with_reducible exact q9.mono _ _ _)
  | (with_reducible exact LeO.refl _)
  | (with_reducible exact LeO.none _)
  | (with_reducible refine LeO.ite ?_ ?_)
  | (with_reducible refine LeO.bind ?_ (fun _ => ?_))
  | exact ih0 _ _ _ _ _
  | exact q9.mono _ _ _
  | exact LeO.none _
  | refine LeO.ite ?_ ?_
  | refine LeO.bind ?_ (fun _ => ?_)
mutual
def q19.l0 : Nat → List Int → List (List Int) → Int → Int → Option (List Int)
 | 0, _, _, _, _ => none
 | k + 1, x2, x6, x7, x8 => if x8 < x7 then (if 0 ≤ x8 then (if x8 < (x6.length : Int) then (q19.l1 k x2 (rd_L1 x6 x8) x6 x7 x8) else (none)) else (none)) else (some x2)
def q19.l1 : Nat → List Int → List Int → List (List Int) → Int → Int → Option (List Int)
 | 0, _, _, _, _, _ => none
 | k + 1, x2, x4, x6, x7, x8 => if (x2.length : Int) ≤ (x4.length : Int) then (if x2.length < 17592186044416 then (q19.l1 k (x2 ++ [0]) x4 x6 x7 x8) else (none)) else (if 0 ≤ (x4.length : Int) then (if (x4.length : Int) < (x2.length : Int) then (q19.l0 k (x2.set ((x4.length : Int) : Int).toNat (wrap64 ((rd x2 (x4.length : Int)) + 1))) x6 x7 (wrap64 (x8 + 1))) else (none)) else (none))
end
def q19.f (k : Nat) (a0_0 : Int) (l0_1 : List (List Int)) : Option (List Int) := q19.l0 k ([] : List Int) l0_1 (l0_1.length : Int) 0
theorem q19.mono_l : ∀ k, (∀ y0 y1 y2 y3, LeO (q19.l0 k y0 y1 y2 y3) (q19.l0 (k + 1) y0 y1 y2 y3)) ∧ (∀ y0 y1 y2 y3 y4, LeO (q19.l1 k y0 y1 y2 y3 y4) (q19.l1 (k + 1) y0 y1 y2 y3 y4))
 | 0 => ⟨fun _ _ _ _ r h => by simp [q19.l0] at h, fun _ _ _ _ _ r h => by simp [q19.l1] at h⟩
 | k + 1 => by
  obtain ⟨ih0, ih1⟩ := q19.mono_l k
  refine ⟨?_, ?_⟩
  ·intro y0 y1 y2 y3
   unfold q19.l0
   repeat' first
   | (with_reducible exact ih0 _ _ _ _)
   | (with_reducible exact ih1 _ _ _ _ _)
   | (with_reducible exact LeO.refl _)
   | (with_reducible exact LeO.none _)
   | (with_reducible refine LeO.ite ?_ ?_)
   | (with_reducible refine LeO.bind ?_ (fun _ => ?_))
   | exact ih0 _ _ _ _
   | exact ih1 _ _ _ _ _
   | exact LeO.none _
   | refine LeO.ite ?_ ?_
   | refine LeO.bind ?_ (fun _ => ?_)
  ·intro y0 y1 y2 y3 y4
   unfold q19.l1
   repeat' first
   | (with_reducible exact ih0 _ _ _ _)
   | (with_reducible exact ih1 _ _ _ _ _)
   | (with_reducible exact LeO.refl _)
   | (with_reducible exact LeO.none _)
   | (with_reducible refine LeO.ite ?_ ?_)
   | (with_reducible refine LeO.bind ?_ (fun _ => ?_))
   | exact ih0 _ _ _ _
   | exact ih1 _ _ _ _ _
   | exact LeO.none _
   | refine LeO.ite ?_ ?_
   | refine LeO.bind ?_ (fun _ => ?_)
theorem q19.mono : ∀ a0 a1 k, LeO (q19.f k a0 a1) (q19.f (k + 1) a0 a1) := by
 intro a0 a1 k
 obtain ⟨ih0, ih1⟩ := q19.mono_l k
 unfold q19.f
 repeat' first
  | (with_reducible exact ih0 _ _ _ _)
  | (with_reducible exact ih1 _ _ _ _ _)
  | (with_reducible exact LeO.refl _)
  | (with_reducible exact LeO.none _)
  | (with_reducible refine LeO.ite ?_ ?_)
  | (with_reducible refine LeO.bind ?_ (fun _ => ?_))
  | exact ih0 _ _ _ _
  | exact ih1 _ _ _ _ _
  | exact LeO.none _
  | refine LeO.ite ?_ ?_
  | refine LeO.bind ?_ (fun _ => ?_)
def q41.f (a0 : Int) (a1 : Int) : Option (Int × Int) := some (IntKind.u64.wrap ((IntKind.u64.wrap ((IntKind.u64.wrap ((a0 / 4294967296) * (a1 / 4294967296))) + ((IntKind.u64.wrap ((IntKind.u64.wrap ((a0 / 4294967296) * (Go.bits .and .u64 a1 4294967295))) + ((IntKind.u64.wrap ((Go.bits .and .u64 a0 4294967295) * (Go.bits .and .u64 a1 4294967295))) / 4294967296))) / 4294967296))) + ((IntKind.u64.wrap ((Go.bits .and .u64 (IntKind.u64.wrap ((IntKind.u64.wrap ((a0 / 4294967296) * (Go.bits .and .u64 a1 4294967295))) + ((IntKind.u64.wrap ((Go.bits .and .u64 a0 4294967295) * (Go.bits .and .u64 a1 4294967295))) / 4294967296))) 4294967295) + (IntKind.u64.wrap ((Go.bits .and .u64 a0 4294967295) * (a1 / 4294967296))))) / 4294967296)), IntKind.u64.wrap (a0 * a1))
def q42.f (a0 : Int) (a1 : Int) : Option (Int × Int) := (q41.f a0 a1).bind fun bt101 => (some (bt101.1, bt101.2))
def q39.f (l0 : List Int) (a1 : Int) : Option (List Int) := if l0.length = 1 then (if 0 ≤ a1 then (if a1 ≤ 1000000 then (some (List.replicate (a1 : Int).toNat (rd l0 0))) else (none)) else (none)) else (none)
theorem q39.mul_one (n : Nat) (h : n ≤ 1000000) : q42.f 1 (n : Int) = some ((0 : Int), (n : Int)) := by
 have h1 : Go.bits .and .u64 1 4294967295 = 1 := by rw [and_low32 1 (by omega) (by omega)]; omega
 have h2 : Go.bits .and .u64 (n : Int) 4294967295 = n := by rw [and_low32 n (by omega) (by omega)]; omega
 unfold q42.f q41.f
 simp only [h1, h2, Option.bind_some, show (1 : Int) / 4294967296 = 0 from by decide, show (n : Int) / 4294967296 = 0 from by omega, Int.zero_mul, Int.mul_zero, Int.one_mul, wrap_u64_]
 simp only [show (0 : Int) % 18446744073709551616 = 0 from by decide, show (n : Int) % 18446744073709551616 = n from by omega, show (n : Int) / 4294967296 = 0 from by omega, Int.add_zero, Int.zero_add]
 rw [show Go.bits .and .u64 0 4294967295 = 0 from by rw [and_low32 0 (by omega) (by omega)]; omega]
 simp
mutual
def q16.l0 : Nat → List Int → List Int → Int → List (List Int) → Option (List Int)
 | 0, _, _, _, _ => none
 | k + 1, x5, x6, x102000, x102001 => if (x6.length : Int) > 0 then (if 0 < (x6.length : Int) then (if 1 ≤ (x6.length : Int) then (if 0 ≤ (rd x6 0) then (if (rd x6 0) < (x102001.length : Int) then (q16.l1 k x5 (x6.drop (1 : Int).toNat) (rd x6 0) (rd_L1 x102001 (rd x6 0)) ((rd_L1 x102001 (rd x6 0)).length : Int) 0 x102000 x102001) else (none)) else (none)) else (none)) else (none)) else (some x5)
def q16.l1 : Nat → List Int → List Int → Int → List Int → Int → Int → Int → List (List Int) → Option (List Int)
 | 0, _, _, _, _, _, _, _, _ => none
 | k + 1, x5, x6, x7, x31, x32, x33, x102000, x102001 => if x33 < x32 then (if 0 ≤ x33 then (if x33 < (x31.length : Int) then (if 0 ≤ (rd x31 x33) then (if (rd x31 x33) < (x5.length : Int) then (if (rd x5 (rd x31 x33)) < 0 then (if 0 ≤ x7 then (if x7 < (x5.length : Int) then (if x6.length < 17592186044416 then (q16.l1 k (x5.set ((rd x31 x33) : Int).toNat (wrap64 ((rd x5 x7) + 1))) (x6 ++ [rd x31 x33]) x7 x31 x32 (wrap64 (x33 + 1)) x102000 x102001) else (none)) else (none)) else (none)) else (q16.l1 k x5 x6 x7 x31 x32 (wrap64 (x33 + 1)) x102000 x102001)) else (none)) else (none)) else (none)) else (none)) else (q16.l0 k x5 x6 x102000 x102001)
end
def q16.f (k : Nat) (a0_0 : Int) (l0_1 : List (List Int)) (a1 : Int) : Option (List Int) := (q39.f (([(-1)] : List Int)) a0_0).bind fun t105 => (if 0 ≤ a1 then (if a1 < (t105.length : Int) then (q16.l0 k (t105.set (a1 : Int).toNat 0) (([a1] : List Int)) a0_0 l0_1) else (none)) else (none))
theorem q16.mono_l : ∀ k, (∀ y0 y1 y2 y3, LeO (q16.l0 k y0 y1 y2 y3) (q16.l0 (k + 1) y0 y1 y2 y3)) ∧ (∀ y0 y1 y2 y3 y4 y5 y6 y7, LeO (q16.l1 k y0 y1 y2 y3 y4 y5 y6 y7) (q16.l1 (k + 1) y0 y1 y2 y3 y4 y5 y6 y7))
 | 0 => ⟨fun _ _ _ _ r h => by simp [q16.l0] at h, fun _ _ _ _ _ _ _ _ r h => by simp [q16.l1] at h⟩
 | k + 1 => by
  obtain ⟨ih0, ih1⟩ := q16.mono_l k
  refine ⟨?_, ?_⟩
  ·intro y0 y1 y2 y3
   unfold q16.l0
   repeat' first
   | (with_reducible exact ih0 _ _ _ _)
   | (with_reducible exact ih1 _ _ _ _ _ _ _ _)
   | (with_reducible exact LeO.refl _)
   | (with_reducible exact LeO.none _)
   | (with_reducible refine LeO.ite ?_ ?_)
   | (with_reducible refine LeO.bind ?_ (fun _ => ?_))
   | exact ih0 _ _ _ _
   | exact ih1 _ _ _ _ _ _ _ _
   | exact LeO.none _
   | refine LeO.ite ?_ ?_
   | refine LeO.bind ?_ (fun _ => ?_)
  ·intro y0 y1 y2 y3 y4 y5 y6 y7
   unfold q16.l1
   repeat' first
   | (with_reducible exact ih0 _ _ _ _)
   | (with_reducible exact ih1 _ _ _ _ _ _ _ _)
   | (with_reducible exact LeO.refl _)
   | (with_reducible exact LeO.none _)
   | (with_reducible refine LeO.ite ?_ ?_)
   | (with_reducible refine LeO.bind ?_ (fun _ => ?_))
   | exact ih0 _ _ _ _
   | exact ih1 _ _ _ _ _ _ _ _
   | exact LeO.none _
   | refine LeO.ite ?_ ?_
   | refine LeO.bind ?_ (fun _ => ?_)
theorem q16.mono : ∀ a0 a1 a2 k, LeO (q16.f k a0 a1 a2) (q16.f (k + 1) a0 a1 a2) := by
 intro a0 a1 a2 k
 obtain ⟨ih0, ih1⟩ := q16.mono_l k
 unfold q16.f
 repeat' first
  | (with_reducible exact ih0 _ _ _ _)
  | (with_reducible exact ih1 _ _ _ _ _ _ _ _)
  | (with_reducible exact LeO.refl _)
  | (with_reducible exact LeO.none _)
  | (with_reducible refine LeO.ite ?_ ?_)
  | (with_reducible refine LeO.bind ?_ (fun _ => ?_))
  | exact ih0 _ _ _ _
  | exact ih1 _ _ _ _ _ _ _ _
  | exact LeO.none _
  | refine LeO.ite ?_ ?_
  | refine LeO.bind ?_ (fun _ => ?_)
mutual
def q7.l0 : Nat → List Int → Int → Int → Int → List (List Int) → Option (List Int)
 | 0, _, _, _, _, _ => none
 | k + 1, x3, x14, x15, x102000, x102001 => if x15 < x14 then (if 0 ≤ x15 then (if x15 < (x3.length : Int) then (q7.l0 k (x3.set (x15 : Int).toNat x15) x14 (wrap64 (x15 + 1)) x102000 x102001) else (none)) else (none)) else ((q9.f k x102000 x102001).bind fun t106 => (q7.l1 k x3 t106 (t106.length : Int) 0))
def q7.l1 : Nat → List Int → List (S78) → Int → Int → Option (List Int)
 | 0, _, _, _, _ => none
 | k + 1, x3, x24, x25, x26 => if x26 < x25 then (if 0 ≤ x26 then (if x26 < (x24.length : Int) then (if 0 ≤ ((rd_T78 x24 x26).f0) then (if ((rd_T78 x24 x26).f0) < (x3.length : Int) then (if 0 ≤ ((rd_T78 x24 x26).f1) then (if ((rd_T78 x24 x26).f1) < (x3.length : Int) then (q7.l2 k x3 (mn (rd x3 ((rd_T78 x24 x26).f0)) (rd x3 ((rd_T78 x24 x26).f1))) (mx (rd x3 ((rd_T78 x24 x26).f0)) (rd x3 ((rd_T78 x24 x26).f1))) x24 x25 x26 (x3.length : Int) 0) else (none)) else (none)) else (none)) else (none)) else (none)) else (none)) else (some x3)
def q7.l2 : Nat → List Int → Int → Int → List (S78) → Int → Int → Int → Int → Option (List Int)
 | 0, _, _, _, _, _, _, _, _ => none
 | k + 1, x3, x7, x8, x24, x25, x26, x53, x54 => if x54 < x53 then (if 0 ≤ x54 then (if x54 < (x3.length : Int) then (if (rd x3 x54) = x8 then (q7.l2 k (x3.set (x54 : Int).toNat x7) x7 x8 x24 x25 x26 x53 (wrap64 (x54 + 1))) else (q7.l2 k x3 x7 x8 x24 x25 x26 x53 (wrap64 (x54 + 1)))) else (none)) else (none)) else (q7.l1 k x3 x24 x25 (wrap64 (x26 + 1)))
end
def q7.f (k : Nat) (a0_0 : Int) (l0_1 : List (List Int)) : Option (List Int) := if 0 ≤ a0_0 then (if (a0_0 : Int).toNat ≤ 35184372088832 then ((some (List.replicate (a0_0 : Int).toNat 0 : List Int)).bind fun y102 => (q7.l0 k y102 (y102.length : Int) 0 a0_0 l0_1)) else (none)) else (none)
theorem q7.mono_l : ∀ k, (∀ y0 y1 y2 y3 y4, LeO (q7.l0 k y0 y1 y2 y3 y4) (q7.l0 (k + 1) y0 y1 y2 y3 y4)) ∧ (∀ y0 y1 y2 y3, LeO (q7.l1 k y0 y1 y2 y3) (q7.l1 (k + 1) y0 y1 y2 y3)) ∧ (∀ y0 y1 y2 y3 y4 y5 y6 y7, LeO (q7.l2 k y0 y1 y2 y3 y4 y5 y6 y7) (q7.l2 (k + 1) y0 y1 y2 y3 y4 y5 y6 y7))
 | 0 => ⟨fun _ _ _ _ _ r h => by simp [q7.l0] at h, fun _ _ _ _ r h => by simp [q7.l1] at h, fun _ _ _ _ _ _ _ _ r h => by simp [q7.l2] at h⟩
 | k + 1 => by
  obtain ⟨ih0, ih1, ih2⟩ := q7.mono_l k
  refine ⟨?_, ?_, ?_⟩
  ·intro y0 y1 y2 y3 y4
   unfold q7.l0
   repeat' first
   | (with_reducible exact ih0 _ _ _ _ _)
   | (with_reducible exact ih1 _ _ _ _)
   | (with_reducible exact ih2 _ _ _ _ _ _ _ _)
   | (with_reducible exact q9.mono _ _ _)
   | (with_reducible exact LeO.refl _)
   | (with_reducible exact LeO.none _)
   | (with_reducible refine LeO.ite ?_ ?_)
   | (with_reducible refine LeO.bind ?_ (fun _ => ?_))
   | exact ih0 _ _ _ _ _
   | exact ih1 _ _ _ _
   | exact ih2 _ _ _ _ _ _ _ _
   | exact q9.mono _ _ _
   | exact LeO.none _
   | refine LeO.ite ?_ ?_
   | refine LeO.bind ?_ (fun _ => ?_)
  ·intro y0 y1 y2 y3
   unfold q7.l1
   repeat' first
   | (with_reducible exact ih0 _ _ _ _ _)
   | (with_reducible exact ih1 _ _ _ _)
   | (with_reducible exact ih2 _ _ _ _ _ _ _ _)
   | (with_reducible exact q9.mono _ _ _)
   | (with_reducible exact LeO.refl _)
   | (with_reducible exact LeO.none _)
   | (with_reducible refine LeO.ite ?_ ?_)
   | (with_reducible refine LeO.bind ?_ (fun _ => ?_))
   | exact ih0 _ _ _ _ _
   | exact ih1 _ _ _ _
   | exact ih2 _ _ _ _ _ _ _ _
   | exact q9.mono _ _ _
   | exact LeO.none _
   | refine LeO.ite ?_ ?_
   | refine LeO.bind ?_ (fun _ => ?_)
  ·intro y0 y1 y2 y3 y4 y5 y6 y7
   unfold q7.l2
   repeat' first
   | (with_reducible exact ih0 _ _ _ _ _)
   | (with_reducible exact ih1 _ _ _ _)
   | (with_reducible exact ih2 _ _ _ _ _ _ _ _)
   | (with_reducible exact q9.mono _ _ _)
   | (with_reducible exact LeO.refl _)
   | (with_reducible exact LeO.none _)
   | (with_reducible refine LeO.ite ?_ ?_)
   | (with_reducible refine LeO.bind ?_ (fun _ => ?_))
   | exact ih0 _ _ _ _ _
   | exact ih1 _ _ _ _
   | exact ih2 _ _ _ _ _ _ _ _
   | exact q9.mono _ _ _
   | exact LeO.none _
   | refine LeO.ite ?_ ?_
   | refine LeO.bind ?_ (fun _ => ?_)
theorem q7.mono : ∀ a0 a1 k, LeO (q7.f k a0 a1) (q7.f (k + 1) a0 a1) := by
 intro a0 a1 k
 obtain ⟨ih0, ih1, ih2⟩ := q7.mono_l k
 unfold q7.f
 repeat' first
  | (with_reducible exact ih0 _ _ _ _ _)
  | (with_reducible exact ih1 _ _ _ _)
  | (with_reducible exact ih2 _ _ _ _ _ _ _ _)
  | (with_reducible exact q9.mono _ _ _)
  | (with_reducible exact LeO.refl _)
  | (with_reducible exact LeO.none _)
  | (with_reducible refine LeO.ite ?_ ?_)
  | (with_reducible refine LeO.bind ?_ (fun _ => ?_))
  | exact ih0 _ _ _ _ _
  | exact ih1 _ _ _ _
  | exact ih2 _ _ _ _ _ _ _ _
  | exact q9.mono _ _ _
  | exact LeO.none _
  | refine LeO.ite ?_ ?_
  | refine LeO.bind ?_ (fun _ => ?_)
def q21.l0 : Nat → List Int → List (S78) → Int → Int → Option (List Int)
 | 0, _, _, _, _ => none
 | k + 1, x2, x6, x7, x8 => if x8 < x7 then (if 0 ≤ x8 then (if x8 < (x6.length : Int) then ((some (([(rd_T78 x6 x8).f0, (rd_T78 x6 x8).f1] : List Int) : List Int)).bind fun y107 => (if x2.length + y107.length < 17592186044416 then (q21.l0 k (x2 ++ y107) x6 x7 (wrap64 (x8 + 1))) else (none))) else (none)) else (none)) else (some x2)
def q21.f (k : Nat) (a0_0 : Int) (l0_1 : List (List Int)) : Option (List Int) := (q9.f k a0_0 l0_1).bind fun t102 => (q21.l0 k ([] : List Int) t102 (t102.length : Int) 0)
theorem q21.mono_l : ∀ k, (∀ y0 y1 y2 y3, LeO (q21.l0 k y0 y1 y2 y3) (q21.l0 (k + 1) y0 y1 y2 y3))
 | 0 => fun _ _ _ _ r h => by simp [q21.l0] at h
 | k + 1 => by
  have ih0 := q21.mono_l k
  ·intro y0 y1 y2 y3
   unfold q21.l0
   repeat' first
   | (with_reducible exact ih0 _ _ _ _)
   | (with_reducible exact q9.mono _ _ _)
   | (with_reducible exact LeO.refl _)
   | (with_reducible exact LeO.none _)
   | (with_reducible refine LeO.ite ?_ ?_)
   | (with_reducible refine LeO.bind ?_ (fun _ => ?_))
   | exact ih0 _ _ _ _
   | exact q9.mono _ _ _
   | exact LeO.none _
   | refine LeO.ite ?_ ?_
   | refine LeO.bind ?_ (fun _ => ?_)
theorem q21.mono : ∀ a0 a1 k, LeO (q21.f k a0 a1) (q21.f (k + 1) a0 a1) := by
 intro a0 a1 k
 have ih0 := q21.mono_l k
 unfold q21.f
 repeat' first
  | (with_reducible exact ih0 _ _ _ _)
  | (with_reducible exact q9.mono _ _ _)
  | (with_reducible exact LeO.refl _)
  | (with_reducible exact LeO.none _)
  | (with_reducible refine LeO.ite ?_ ?_)
  | (with_reducible refine LeO.bind ?_ (fun _ => ?_))
  | exact ih0 _ _ _ _
  | exact q9.mono _ _ _
  | exact LeO.none _
  | refine LeO.ite ?_ ?_
  | refine LeO.bind ?_ (fun _ => ?_)
def q24.f (k : Nat) (a0_0 : Int) (l0_1 : List (List Int)) (a1 : Int) (a2 : Int) : Option (List Int × Int) := (q18.f k a0_0 l0_1 a1 a2).bind fun t102 => (if t102 = 0 then (if a1 = 1 then (if 0 ≤ a2 then (if a2 < (l0_1.length : Int) then ((q36.f (rd_L1 l0_1 a2)).bind fun t104 => (some (t104, 0))) else (none)) else (none)) else (if a1 = 2 then ((q20.f k a0_0 l0_1).bind fun bt107 => (if 0 ≤ a2 then (if a2 < (bt107.2.length : Int) then (some (rd_L1 bt107.2 a2, 0)) else (none)) else (none))) else (if a1 = 3 then ((q19.f k a0_0 l0_1).bind fun t112 => (some (t112, 0))) else (if a1 = 4 then ((q16.f k a0_0 l0_1 a2).bind fun t115 => (some (t115, 0))) else (if a1 = 5 then ((q7.f k a0_0 l0_1).bind fun t118 => (some (t118, 0))) else ((q21.f k a0_0 l0_1).bind fun t121 => (some (t121, 0)))))))) else (some (([] : List Int), t102)))
theorem q24.mono : ∀ a0 a1 a2 a3 k, LeO (q24.f k a0 a1 a2 a3) (q24.f (k + 1) a0 a1 a2 a3) := by
 intro a0 a1 a2 a3 k
 unfold q24.f
 repeat' first
  | (with_reducible exact q20.mono _ _ _)
  | (with_reducible exact q18.mono _ _ _ _ _)
  | (with_reducible exact q21.mono _ _ _)
  | (with_reducible exact q19.mono _ _ _)
  | (with_reducible exact q16.mono _ _ _ _)
  | (with_reducible exact q7.mono _ _ _)
  | (with_reducible exact LeO.refl _)
  | (with_reducible exact LeO.none _)
  | (with_reducible refine LeO.ite ?_ ?_)
  | (with_reducible refine LeO.bind ?_ (fun _ => ?_))
  | exact q20.mono _ _ _
  | exact q18.mono _ _ _ _ _
  | exact q21.mono _ _ _
  | exact q19.mono _ _ _
  | exact q16.mono _ _ _ _
  | exact q7.mono _ _ _
  | exact LeO.none _
  | refine LeO.ite ?_ ?_
  | refine LeO.bind ?_ (fun _ => ?_)
def q4.f (a0 : Int) : Option (Int) := some a0
def q5.l0 : Nat → List Int → List Int → Int → Option (Bool)
 | 0, _, _, _ => none
 | k + 1, x0, x1, x5 => if x5 < (x0.length : Int) then (if 0 ≤ x5 then (if x5 < (x1.length : Int) then (if (rd x0 x5) = (rd x1 x5) then (q5.l0 k x0 x1 (wrap64 (x5 + 1))) else (some false)) else (none)) else (none)) else (some true)
def q5.f (k : Nat) (l0 : List Int) (l1 : List Int) : Option (Bool) := if (l0.length : Int) = (l1.length : Int) then (q5.l0 k l0 l1 0) else (some false)
theorem q5.mono_l : ∀ k, (∀ y0 y1 y2, LeO (q5.l0 k y0 y1 y2) (q5.l0 (k + 1) y0 y1 y2))
 | 0 => fun _ _ _ r h => by simp [q5.l0] at h
 | k + 1 => by
  have ih0 := q5.mono_l k
  ·intro y0 y1 y2
   unfold q5.l0
   repeat' first
   | (with_reducible exact ih0 _ _ _)
   | (with_reducible exact LeO.refl _)
   | (with_reducible exact LeO.none _)
   | (with_reducible refine LeO.ite ?_ ?_)
   | (with_reducible refine LeO.bind ?_ (fun _ => ?_))
   | exact ih0 _ _ _
   | exact LeO.none _
   | refine LeO.ite ?_ ?_
   | refine LeO.bind ?_ (fun _ => ?_)
theorem q5.mono : ∀ a0 a1 k, LeO (q5.f k a0 a1) (q5.f (k + 1) a0 a1) := by
 intro a0 a1 k
 have ih0 := q5.mono_l k
 unfold q5.f
 repeat' first
  | (with_reducible exact ih0 _ _ _)
  | (with_reducible exact LeO.refl _)
  | (with_reducible exact LeO.none _)
  | (with_reducible refine LeO.ite ?_ ?_)
  | (with_reducible refine LeO.bind ?_ (fun _ => ?_))
  | exact ih0 _ _ _
  | exact LeO.none _
  | refine LeO.ite ?_ ?_
  | refine LeO.bind ?_ (fun _ => ?_)
def q26.f (k : Nat) (a0_0 : Int) (l0_1 : List (List Int)) (a1 : Int) : Option (List Int × Int) := (q24.f k a0_0 l0_1 4 a1).bind fun bt102 => (some (bt102.1, bt102.2))
theorem q26.mono : ∀ a0 a1 a2 k, LeO (q26.f k a0 a1 a2) (q26.f (k + 1) a0 a1 a2) := by
 intro a0 a1 a2 k
 unfold q26.f
 repeat' first
  | (with_reducible exact q24.mono _ _ _ _ _)
  | (with_reducible exact LeO.refl _)
  | (with_reducible exact LeO.none _)
  | (with_reducible refine LeO.ite ?_ ?_)
  | (with_reducible refine LeO.bind ?_ (fun _ => ?_))
  | exact q24.mono _ _ _ _ _
  | exact LeO.none _
  | refine LeO.ite ?_ ?_
  | refine LeO.bind ?_ (fun _ => ?_)
def q31.f (k : Nat)  : Option (Bool) := (q26.f k 1 (([[]] : List (List Int))) 0).bind fun bt104 => ((q4.f bt104.2).bind fun t108 => (if t108 = 0 then ((q5.f k bt104.1 (([0] : List Int))).bind fun t112 => (some t112)) else (some false)))
theorem q31.mono : ∀ k, LeO (q31.f k ) (q31.f (k + 1) ) := by
 intro  k
 unfold q31.f
 repeat' first
  | (with_reducible exact q5.mono _ _ _)
  | (with_reducible exact q26.mono _ _ _ _)
  | (with_reducible exact LeO.refl _)
  | (with_reducible exact LeO.none _)
  | (with_reducible refine LeO.ite ?_ ?_)
  | (with_reducible refine LeO.bind ?_ (fun _ => ?_))
  | exact q5.mono _ _ _
  | exact q26.mono _ _ _ _
  | exact LeO.none _
  | refine LeO.ite ?_ ?_
  | refine LeO.bind ?_ (fun _ => ?_)
def q40.f (k : Nat) (a0_0 : Int) (l0_1 : List (List Int)) (a1 : Int) : Option (List Int × Int) := (q24.f k a0_0 l0_1 1 a1).bind fun bt102 => (some (bt102.1, bt102.2))
def q43.f (k : Nat) (a0_0 : Int) (l0_1 : List (List Int)) (a1 : Int) : Option (List Int × Int) := (q24.f k a0_0 l0_1 2 a1).bind fun bt102 => (some (bt102.1, bt102.2))
def q29.f (k : Nat) (a0_0 : Int) (l0_1 : List (List Int)) : Option (List Int × Int) := (q24.f k a0_0 l0_1 3 0).bind fun bt102 => (some (bt102.1, bt102.2))
def q25.f (k : Nat) (a0_0 : Int) (l0_1 : List (List Int)) : Option (List Int × Int) := (q24.f k a0_0 l0_1 5 0).bind fun bt102 => (some (bt102.1, bt102.2))
def q32.f (k : Nat) (a0_0 : Int) (l0_1 : List (List Int)) : Option (Int × (List (List Int)) × Int) := (q8.f k a0_0 l0_1).bind fun t103 => (if t103 = true then ((q20.f k a0_0 l0_1).bind fun bt104 => (some (bt104.1, bt104.2, 0))) else (some (0, ([] : List (List Int)), 1)))
mutual
def q3.l0 : Nat → Int → List (S42) → List (S119) → Option (Bool)
 | 0, _, _, _ => none
 | k + 1, x3, x102000, x102001 => if x3 < (x102000.length : Int) then (q3.j1 k x3 (decide (x3 < 4)) x102000 x102001) else (q3.j1 k x3 false x102000 x102001)
def q3.j1 : Nat → Int → Bool → List (S42) → List (S119) → Option (Bool)
 | 0, _, _, _, _ => none
 | k + 1, x3, x35, x102000, x102001 => if x35 = true then (if 0 ≤ x3 then (if x3 < (x102000.length : Int) then ((q32.f k ((rd_T42 x102000 x3).f0) ((rd_T42 x102000 x3).f1)).bind fun bt106 => ((q4.f bt106.2.2).bind fun t112 => (if t112 = 0 then ((q25.f k ((rd_T42 x102000 x3).f0) ((rd_T42 x102000 x3).f1)).bind fun bt113 => ((q25.f k bt106.1 bt106.2.1).bind fun bt117 => ((q29.f k ((rd_T42 x102000 x3).f0) ((rd_T42 x102000 x3).f1)).bind fun bt121 => ((q4.f bt113.2).bind fun t125 => (if t125 = 0 then ((q4.f bt117.2).bind fun t126 => (if t126 = 0 then ((q4.f bt121.2).bind fun t127 => (if t127 = 0 then ((q5.f k bt113.1 bt117.1).bind fun t128 => (if t128 = true then (q3.j2 k x3 bt113.1 bt121.1 ((bt113.1.length : Int) != ((rd_T42 x102000 x3).f0)) x102000 x102001 ((rd_T42 x102000 x3).f0) ((rd_T42 x102000 x3).f1) bt106.1 bt106.2.1) else (q3.j2 k x3 bt113.1 bt121.1 true x102000 x102001 ((rd_T42 x102000 x3).f0) ((rd_T42 x102000 x3).f1) bt106.1 bt106.2.1))) else (q3.j2 k x3 bt113.1 bt121.1 true x102000 x102001 ((rd_T42 x102000 x3).f0) ((rd_T42 x102000 x3).f1) bt106.1 bt106.2.1))) else (q3.j2 k x3 bt113.1 bt121.1 true x102000 x102001 ((rd_T42 x102000 x3).f0) ((rd_T42 x102000 x3).f1) bt106.1 bt106.2.1))) else (q3.j2 k x3 bt113.1 bt121.1 true x102000 x102001 ((rd_T42 x102000 x3).f0) ((rd_T42 x102000 x3).f1) bt106.1 bt106.2.1)))))) else (q3.l0 k (wrap64 (x3 + 1)) x102000 x102001)))) else (none)) else (none)) else ((q31.f k).bind fun t103 => (some t103))
def q3.j2 : Nat → Int → List Int → List Int → Bool → List (S42) → List (S119) → Int → List (List Int) → Int → List (List Int) → Option (Bool)
 | 0, _, _, _, _, _, _, _, _, _, _ => none
 | k + 1, x3, x7, x11, x91, x102000, x102001, x106000, x106001, x112000, x112001 => if x91 = true then (some false) else (q3.l1 k x3 x7 x11 0 0 x102000 x102001 x106000 x106001 x112000 x112001)
def q3.l1 : Nat → Int → List Int → List Int → Int → Int → List (S42) → List (S119) → Int → List (List Int) → Int → List (List Int) → Option (Bool)
 | 0, _, _, _, _, _, _, _, _, _, _, _ => none
 | k + 1, x3, x7, x11, x13, x14, x102000, x102001, x106000, x106001, x112000, x112001 => if x14 < (x11.length : Int) then (if 0 ≤ x14 then (q3.l1 k x3 x7 x11 (wrap64 (x13 + (rd x11 x14))) (wrap64 (x14 + 1)) x102000 x102001 x106000 x106001 x112000 x112001) else (none)) else (if x13 = x106000 then (q3.l2 k x3 x7 0 x102000 x102001 x106000 x106001 x112000 x112001) else (some false))
def q3.l2 : Nat → Int → List Int → Int → List (S42) → List (S119) → Int → List (List Int) → Int → List (List Int) → Option (Bool)
 | 0, _, _, _, _, _, _, _, _, _ => none
 | k + 1, x3, x7, x15, x102000, x102001, x106000, x106001, x112000, x112001 => if x15 < x106000 then ((q43.f k x106000 x106001 x15).bind fun bt130 => ((q40.f k x112000 x112001 x15).bind fun bt134 => ((q26.f k x106000 x106001 x15).bind fun bt138 => ((q4.f bt130.2).bind fun t142 => (if t142 = 0 then ((q4.f bt134.2).bind fun t143 => (if t143 = 0 then ((q4.f bt138.2).bind fun t144 => (if t144 = 0 then ((q5.f k bt130.1 bt134.1).bind fun t145 => (if t145 = true then (if (bt138.1.length : Int) = x106000 then (if 0 ≤ x15 then (if x15 < (bt138.1.length : Int) then (q3.j5 k x3 x7 x15 bt138.1 ((rd bt138.1 x15) != 0) x102000 x102001 x106000 x106001 x112000 x112001) else (none)) else (none)) else (q3.j5 k x3 x7 x15 bt138.1 true x102000 x102001 x106000 x106001 x112000 x112001)) else (q3.j5 k x3 x7 x15 bt138.1 true x102000 x102001 x106000 x106001 x112000 x112001))) else (q3.j5 k x3 x7 x15 bt138.1 true x102000 x102001 x106000 x106001 x112000 x112001))) else (q3.j5 k x3 x7 x15 bt138.1 true x102000 x102001 x106000 x106001 x112000 x112001))) else (q3.j5 k x3 x7 x15 bt138.1 true x102000 x102001 x106000 x106001 x112000 x112001)))))) else (q3.l0 k (wrap64 (x3 + 1)) x102000 x102001)
def q3.j5 : Nat → Int → List Int → Int → List Int → Bool → List (S42) → List (S119) → Int → List (List Int) → Int → List (List Int) → Option (Bool)
 | 0, _, _, _, _, _, _, _, _, _, _, _ => none
 | k + 1, x3, x7, x15, x20, x164, x102000, x102001, x106000, x106001, x112000, x112001 => if x164 = true then (some false) else (q3.l3 k x3 x7 x15 x20 0 x102000 x102001 x106000 x106001 x112000 x112001)
def q3.l3 : Nat → Int → List Int → Int → List Int → Int → List (S42) → List (S119) → Int → List (List Int) → Int → List (List Int) → Option (Bool)
 | 0, _, _, _, _, _, _, _, _, _, _, _ => none
 | k + 1, x3, x7, x15, x20, x22, x102000, x102001, x106000, x106001, x112000, x112001 => if x22 < x106000 then (if 0 ≤ x22 then (if x22 < (x20.length : Int) then (if (rd x20 x22) ≥ 0 then (if x22 < (x7.length : Int) then (if 0 ≤ x15 then (if x15 < (x7.length : Int) then (if (rd x7 x22) = (rd x7 x15) then (q3.j7 k x3 x7 x15 x20 x22 (decide ((rd x7 x22) > x22)) x102000 x102001 x106000 x106001 x112000 x112001) else (q3.j7 k x3 x7 x15 x20 x22 true x102000 x102001 x106000 x106001 x112000 x112001)) else (none)) else (none)) else (none)) else (if x22 < (x7.length : Int) then (q3.j7 k x3 x7 x15 x20 x22 (decide ((rd x7 x22) > x22)) x102000 x102001 x106000 x106001 x112000 x112001) else (none))) else (none)) else (none)) else (q3.l2 k x3 x7 (wrap64 (x15 + 1)) x102000 x102001 x106000 x106001 x112000 x112001)
def q3.j7 : Nat → Int → List Int → Int → List Int → Int → Bool → List (S42) → List (S119) → Int → List (List Int) → Int → List (List Int) → Option (Bool)
 | 0, _, _, _, _, _, _, _, _, _, _, _, _ => none
 | k + 1, x3, x7, x15, x20, x22, x194, x102000, x102001, x106000, x106001, x112000, x112001 => if x194 = true then (some false) else (q3.l4 k x3 x7 x15 x20 x22 0 x102000 x102001 x106000 x106001 x112000 x112001)
def q3.l4 : Nat → Int → List Int → Int → List Int → Int → Int → List (S42) → List (S119) → Int → List (List Int) → Int → List (List Int) → Option (Bool)
 | 0, _, _, _, _, _, _, _, _, _, _, _, _ => none
 | k + 1, x3, x7, x15, x20, x22, x23, x102000, x102001, x106000, x106001, x112000, x112001 => if 0 ≤ x22 then (if x22 < (x106001.length : Int) then (if x23 < ((rd_L1 x106001 x22).length : Int) then (if 0 ≤ x23 then (if 0 ≤ (rd (rd_L1 x106001 x22) x23) then (if (rd (rd_L1 x106001 x22) x23) < (x7.length : Int) then (if x22 < (x7.length : Int) then (if (rd x7 (rd (rd_L1 x106001 x22) x23)) = (rd x7 x22) then (if x22 < (x20.length : Int) then (if (rd x20 x22) ≥ 0 then (if (rd (rd_L1 x106001 x22) x23) < (x20.length : Int) then (if (rd x20 (rd (rd_L1 x106001 x22) x23)) < 0 then (some false) else (if (rd x20 (rd (rd_L1 x106001 x22) x23)) > (wrap64 ((rd x20 x22) + 1)) then (some false) else (q3.l4 k x3 x7 x15 x20 x22 (wrap64 (x23 + 1)) x102000 x102001 x106000 x106001 x112000 x112001))) else (none)) else (q3.l4 k x3 x7 x15 x20 x22 (wrap64 (x23 + 1)) x102000 x102001 x106000 x106001 x112000 x112001)) else (none)) else (some false)) else (none)) else (none)) else (none)) else (none)) else (q3.l3 k x3 x7 x15 x20 (wrap64 (x22 + 1)) x102000 x102001 x106000 x106001 x112000 x112001)) else (none)) else (none)
end
def q3.f (k : Nat) (l0_0 : List (S42)) (l0_1 : List (S119)) : Option (Bool) := (q30.f k l0_0 l0_1).bind fun t102 => (if t102 = true then (some true) else (q3.l0 k 0 l0_0 l0_1))
end Go.Proofs.Ytcfhffhmpalkbaa.P
end
section
namespace Go.Proofs.Ytcfhffhmpalkbaa.P
open Go.RowKit Go.Proofs.YtcfhffhmpalkbaaM Go.Proofs.YtcfhffhmpalkbaaW.PrintWords Go.Proofs.YtcfhffhmpalkbaaW.PrintLast Go.Proofs.YtcfhffhmpalkbaaW.PrintMore
attribute [local go_sem] Go.Instr.field Go.asAgg max2_int min2_int max_two min_two max_three min_three max_four min_four
set_option linter.unusedVariables false
set_option linter.unusedSimpArgs false
set_option maxHeartbeats 8000000 in
set_option maxRecDepth 100000 in
theorem q37.calls (a0 : Int) (r : Bool) (w : World) (h : q37.f a0 = some r) :
 Calls Try.prog 91 #[.int .i64 a0] w fun e w' => e = .returned (.bool r) ∧ Drawn0 w w' := by
 have H : (if a0 ≥ 0 then (some (decide (a0 < 16))) else (some false)) = some r := h
 clear h
 by_cases c2 : a0 ≥ 0
 ·rw [if_pos c2] at H
  have c2b0 : decide (0 ≤ a0) = true := decide_eq_true c2
  clear c2
  obtain rfl := Option.some.inj H
  go_enter Try.func91, Try.ntmps91
  go_wp2
  go_ret
  exact ⟨by first | rfl | (simp; done) | (simp [*]; done), by repeat (first | exact Drawn0.refl _ | apply Drawn0.step)⟩
 ·rw [if_neg c2] at H
  have c2b0 : decide (0 ≤ a0) = false := decide_eq_false c2
  clear c2
  obtain rfl := Option.some.inj H
  go_enter Try.func91, Try.ntmps91
  go_wp2
  go_ret
  exact ⟨by first | rfl | (simp; done) | (simp [*]; done), by repeat (first | exact Drawn0.refl _ | apply Drawn0.step)⟩
set_option maxHeartbeats 8000000 in
set_option maxRecDepth 100000 in
theorem q17.calls (k : Nat) (A0 : Option Addr) (c0 : Nat) (l0 : List Int) (r : Bool) (w : World) (hr0 : Kd.C (Kd.int .i64) w A0 l0.length l0) (hc0 : l0.length ≤ c0) (h : q17.f k l0 = some r) :
 Calls Try.prog 84 #[.slice A0 l0.length c0] w fun e w' => e = .returned (.bool r) ∧ Drawn0 w w' := by
 have HR0 := Aside0.mk hr0
 have HC0 := Aside0.mk hc0
 clear hr0 hc0
 have H : (q17.l0 k l0 l0 (l0.length : Int) 0) = some r := h
 clear h
 have H' := Aside0.mk H
 clear H
 go_enter Try.func84, Try.ntmps84
 go_wp2
 go_loopg [7] k (fun kq v7 w' => ∃ (x7_1 : Int), v7 = .int .i64 x7_1 ∧ Aside0 (q17.l0 kq l0 l0 (l0.length : Int) x7_1 = some r) ∧ Aside0 (kq ≤ k) ∧ Drawn0 w w')
 case atStart => exact ⟨(0), v12_, H', ⟨Nat.le_refl _⟩, by repeat (first | exact Drawn0.refl _ | apply Drawn0.step)⟩
 case round => as_aux_lemma =>
  clear H'
  obtain ⟨x7_1, rfl, HA, HK1, ⟨m1, rfl⟩⟩ := hrel
  cases gk with
  | zero => exact absurd HA.out (by simp [q17.l0])
  | succ k1 =>
   have H := HA.out
   clear HA
   simp only [q17.l0] at H
   by_cases c2 : x7_1 < (l0.length : Int)
   ·rw [if_pos c2] at H
    have c2b0 : decide (x7_1 < (l0.length : Int)) = true := decide_eq_true c2
    clear c2
    by_cases c3 : 0 ≤ x7_1
    ·rw [if_pos c3] at H
     have c3b0 : decide (0 ≤ x7_1) = true := decide_eq_true c3
     clear c3
     by_cases c4 : x7_1 < (l0.length : Int)
     ·rw [if_pos c4] at H
      have c4b0 : decide (x7_1 < (l0.length : Int)) = true := decide_eq_true c4
      clear c4
      replace H := Option.bind_eq_some_iff.mp H
      obtain ⟨t102, A50, H⟩ := H
      replace H : (if t102 = true then (if x7_1 > 0 then (if 0 ≤ (wrap64 (x7_1 - 1)) then (if (wrap64 (x7_1 - 1)) < (l0.length : Int) then (if (rd l0 x7_1) ≤ (rd l0 (wrap64 (x7_1 - 1))) then (some false) else (q17.l0 k1 l0 l0 (l0.length : Int) (wrap64 (x7_1 + 1)))) else (none)) else (none)) else (q17.l0 k1 l0 l0 (l0.length : Int) (wrap64 (x7_1 + 1)))) else (some false)) = some r := H
      have A5 := Aside0.mk A50
      clear A50
      by_cases c6 : t102 = true
      ·subst c6
       have H1 : (if x7_1 > 0 then (if 0 ≤ (wrap64 (x7_1 - 1)) then (if (wrap64 (x7_1 - 1)) < (l0.length : Int) then (if (rd l0 x7_1) ≤ (rd l0 (wrap64 (x7_1 - 1))) then (some false) else (q17.l0 k1 l0 l0 (l0.length : Int) (wrap64 (x7_1 + 1)))) else (none)) else (none)) else (q17.l0 k1 l0 l0 (l0.length : Int) (wrap64 (x7_1 + 1)))) = some r := by rw [if_pos rfl] at H; exact H
       clear H
       have H := H1
       clear H1
       by_cases c7 : x7_1 > 0
       ·rw [if_pos c7] at H
        have c7b0 : decide (0 < x7_1) = true := decide_eq_true c7
        clear c7
        obtain ⟨ji8, hji8⟩ : ∃ j_ : Int, (wrap64 (x7_1 - 1)) = j_ := ⟨_, rfl⟩
        replace H : (if 0 ≤ (ji8) then (if (ji8) < (l0.length : Int) then (if (rd l0 x7_1) ≤ (rd l0 (ji8)) then (some false) else (q17.l0 k1 l0 l0 (l0.length : Int) (wrap64 (x7_1 + 1)))) else (none)) else (none)) = some r := by first | (rw [hji8] at H; exact H) | (simp only [hji8] at H ⊢; exact H)
        (try rw [hji8] at A5)
        have hji8w : (IntKind.i64.wrap (x7_1 - 1)) = ji8 := (i64_w _).trans hji8
        by_cases c9 : 0 ≤ (ji8)
        ·rw [if_pos c9] at H
         have c9b0 : decide (0 ≤ (ji8)) = true := decide_eq_true c9
         clear c9
         by_cases c10 : (ji8) < (l0.length : Int)
         ·rw [if_pos c10] at H
          have c10b0 : decide ((ji8) < (l0.length : Int)) = true := decide_eq_true c10
          clear c10
          by_cases c11 : (rd l0 x7_1) ≤ (rd l0 (ji8))
          ·rw [if_pos c11] at H
           have c11b0 : decide ((rd l0 x7_1) ≤ (rd l0 (ji8))) = true := decide_eq_true c11
           clear c11
           obtain rfl := Option.some.inj H
           have p101 : 0 ≤ (x7_1 : Int) := of_decide_eq_true v3_
           have q101 : x7_1 < (l0.length : Int) := of_decide_eq_true v3_
           obtain ⟨ad101, e101, hx101_0⟩ := Kd.at_int HR0.out x7_1 p101 q101
           cases e101
           replace p101 := eq_true p101
           replace q101 := eq_true q101
           go_wp2_with (first | ((with_reducible refine gate_callee (f := 91) rfl ?_); refine goesL_ (some 13) rfl rfl Try.func91 v42_ rfl #[.int .i64 (rd l0 x7_1)] rfl v7_ ?_; (with_reducible refine (q37.calls (rd l0 x7_1) true _ A5.out).mono ?_); rintro e w' ⟨rfl, ⟨nd, rfl⟩⟩; refine ⟨_, rfl, ?_⟩; have p103 : 0 ≤ ((ji8) : Int) := of_decide_eq_true v3_; have q103 : (ji8) < (l0.length : Int) := of_decide_eq_true v3_; obtain ⟨ad103, e103, hx103_0⟩ := Kd.at_int HR0.out (ji8) p103 q103; obtain rfl : ad101 = ad103 := (by injection e103); replace p103 := eq_true p103; replace q103 := eq_true q103))
           go_ret
           exact ⟨by first | rfl | (simp; done) | (simp only [← hji8] <;> (first | rfl | simp)) | (simp [*]; done), by repeat (first | exact Drawn0.refl _ | apply Drawn0.step)⟩
          ·rw [if_neg c11] at H
           have c11b0 : decide ((rd l0 x7_1) ≤ (rd l0 (ji8))) = false := decide_eq_false c11
           clear c11
           have H' := Aside0.mk H
           clear H
           have p101 : 0 ≤ (x7_1 : Int) := of_decide_eq_true v3_
           have q101 : x7_1 < (l0.length : Int) := of_decide_eq_true v3_
           obtain ⟨ad101, e101, hx101_0⟩ := Kd.at_int HR0.out x7_1 p101 q101
           cases e101
           replace p101 := eq_true p101
           replace q101 := eq_true q101
           go_wp2_with (first | ((with_reducible refine gate_callee (f := 91) rfl ?_); refine goesL_ (some 13) rfl rfl Try.func91 v42_ rfl #[.int .i64 (rd l0 x7_1)] rfl v7_ ?_; (with_reducible refine (q37.calls (rd l0 x7_1) true _ A5.out).mono ?_); rintro e w' ⟨rfl, ⟨nd, rfl⟩⟩; refine ⟨_, rfl, ?_⟩; have p103 : 0 ≤ ((ji8) : Int) := of_decide_eq_true v3_; have q103 : (ji8) < (l0.length : Int) := of_decide_eq_true v3_; obtain ⟨ad103, e103, hx103_0⟩ := Kd.at_int HR0.out (ji8) p103 q103; obtain rfl : ad101 = ad103 := (by injection e103); replace p103 := eq_true p103; replace q103 := eq_true q103))
           go_roundg k1
           case measure => have := HK1.out; omega
           case rel => exact ⟨(wrap64 (x7_1 + 1)), v12_, H', ⟨v91_⟩, by repeat (first | exact Drawn0.refl _ | apply Drawn0.step)⟩
         ·rw [if_neg c10] at H
          exact absurd H v58_
        ·rw [if_neg c9] at H
         exact absurd H v58_
       ·rw [if_neg c7] at H
        have c7b0 : decide (0 < x7_1) = false := decide_eq_false c7
        clear c7
        have H' := Aside0.mk H
        clear H
        have p101 : 0 ≤ (x7_1 : Int) := of_decide_eq_true v3_
        have q101 : x7_1 < (l0.length : Int) := of_decide_eq_true v3_
        obtain ⟨ad101, e101, hx101_0⟩ := Kd.at_int HR0.out x7_1 p101 q101
        cases e101
        replace p101 := eq_true p101
        replace q101 := eq_true q101
        go_wp2_with (first | ((with_reducible refine gate_callee (f := 91) rfl ?_); refine goesL_ (some 13) rfl rfl Try.func91 v42_ rfl #[.int .i64 (rd l0 x7_1)] rfl v7_ ?_; (with_reducible refine (q37.calls (rd l0 x7_1) true _ A5.out).mono ?_); rintro e w' ⟨rfl, ⟨nd, rfl⟩⟩; refine ⟨_, rfl, ?_⟩))
        go_roundg k1
        case measure => have := HK1.out; omega
        case rel => exact ⟨(wrap64 (x7_1 + 1)), v12_, H', ⟨v91_⟩, by repeat (first | exact Drawn0.refl _ | apply Drawn0.step)⟩
      ·replace c6 := Bool.eq_false_iff.mpr c6
       subst c6
       have H1 : (some false) = some r := by rw [if_neg (show ¬ (false = true) by decide)] at H; exact H
       clear H
       have H := H1
       clear H1
       obtain rfl := Option.some.inj H
       have p101 : 0 ≤ (x7_1 : Int) := of_decide_eq_true v3_
       have q101 : x7_1 < (l0.length : Int) := of_decide_eq_true v3_
       obtain ⟨ad101, e101, hx101_0⟩ := Kd.at_int HR0.out x7_1 p101 q101
       cases e101
       replace p101 := eq_true p101
       replace q101 := eq_true q101
       go_wp2_with (first | ((with_reducible refine gate_callee (f := 91) rfl ?_); refine goesL_ (some 13) rfl rfl Try.func91 v42_ rfl #[.int .i64 (rd l0 x7_1)] rfl v7_ ?_; (with_reducible refine (q37.calls (rd l0 x7_1) false _ A5.out).mono ?_); rintro e w' ⟨rfl, ⟨nd, rfl⟩⟩; refine ⟨_, rfl, ?_⟩))
       go_ret
       exact ⟨by first | rfl | (simp; done) | (simp [*]; done), by repeat (first | exact Drawn0.refl _ | apply Drawn0.step)⟩
     ·rw [if_neg c4] at H
      exact absurd H v58_
    ·rw [if_neg c3] at H
     exact absurd H v58_
   ·rw [if_neg c2] at H
    have c2b0 : decide (x7_1 < (l0.length : Int)) = false := decide_eq_false c2
    clear c2
    obtain rfl := Option.some.inj H
    go_wp2
    go_ret
    exact ⟨by first | rfl | (simp; done) | (simp [*]; done), by repeat (first | exact Drawn0.refl _ | apply Drawn0.step)⟩
end Go.Proofs.Ytcfhffhmpalkbaa.P
end
