import Derived.Test.YtdcicijfcbhgnaaGreatCdC0
import Derived.KernelRfl
set_option linter.all false
section
namespace Go.XL
open Go.XM Go.Proofs Go.RowKit
def cdRep (a b : Nat) : herbariumlaw9_Ask := (List.replicate b [], default, List.replicate a 0)
theorem cd_wr {i : Int} (h0 : 0 ≤ i) (h1 : i ≤ 9223372036854775807) : wr .i64 i = i := by
  show wrap64 i = i
  unfold wrap64; omega
theorem cd_eq {x y : herbariumlaw9_Ask} (hN : x.N.length % 3 = y.N.length % 3) (hL : x.L.length % 4 = y.L.length % 4) (h1 : x.N.length < 4611686018427387904) (h2 : y.N.length < 4611686018427387904) (h3 : x.L.length < 4611686018427387904) (h4 : y.L.length < 4611686018427387904) :
    ∀ (k : Nat) (i : Nat) (ts : List api_Object) (gs : List api_Graph), i ≤ 8 → herbariumlaw9_ChainDeep.l1 64 x k (i : Int) ts gs = herbariumlaw9_ChainDeep.l1 64 y k (i : Int) ts gs
  | 0, i, ts, gs, h => rfl
  | k + 1, i, ts, gs, h => by
    have md : ∀ (m a b : Nat), a % m = b % m → 0 < m → a < 4611686018427387904 → b < 4611686018427387904 → (wr .i64 ((i : Int) + ((a : Nat) : Int))).tmod m = (wr .i64 ((i : Int) + ((b : Nat) : Int))).tmod m := by
      intro m a b hab hm ha hb
      rw [cd_wr (by omega) (by omega), cd_wr (by omega) (by omega)]
      have e : ∀ a : Nat, ((i : Int) + (a : Int)).tmod m = (((i + a) % m : Nat) : Int) := fun a => by
        rw [show (i : Int) + (a : Int) = ((i + a : Nat) : Int) by omega]; exact (Int.ofNat_tmod (i + a) m).symm
      rw [e, e, Nat.add_mod, hab, ← Nat.add_mod]
    rw [herbariumlaw9_ChainDeep.l1.eq_2, herbariumlaw9_ChainDeep.l1.eq_2]
    have e1 := md 3 _ _ hN (by omega) h1 h2
    have e2 := md 4 _ _ hL (by omega) h3 h4
    by_cases c : (i : Int) < 8
    · have go : ∀ r ts' gs' id, herbariumlaw9_ChainDeep.j2 64 (herbariumlaw9_ChainDeep.l1 64 x k) r (i : Int) ts' gs' x id = herbariumlaw9_ChainDeep.j2 64 (herbariumlaw9_ChainDeep.l1 64 y k) r (i : Int) ts' gs' y id := by
        intro r ts' gs' id
        unfold herbariumlaw9_ChainDeep.j2
        have ih : ∀ a b, herbariumlaw9_ChainDeep.l1 64 x k (wr .i64 ((i : Int) + 1)) a b = herbariumlaw9_ChainDeep.l1 64 y k (wr .i64 ((i : Int) + 1)) a b := fun a b => by
          rw [cd_wr (by omega) (by omega)]
          exact cd_eq hN hL h1 h2 h3 h4 k (i + 1) a b (by omega)
        simp only [ih]
      have e1' : (wr .i64 ((i : Int) + ((x.N.length : Nat) : Int))).tmod 3 = (wr .i64 ((i : Int) + ((y.N.length : Nat) : Int))).tmod 3 := e1
      have e2' : (wr .i64 ((i : Int) + ((x.L.length : Nat) : Int))).tmod 4 = (wr .i64 ((i : Int) + ((y.L.length : Nat) : Int))).tmod 4 := e2
      simp only [e1', e2', go]
    · simp only [decide_eq_true_eq, if_neg c]
theorem cd00 : herbariumlaw9_ChainDeep 64 (cdRep 0 0) = some true := by kernel_rfl
theorem cd01 : herbariumlaw9_ChainDeep 64 (cdRep 0 1) = some true := by kernel_rfl
theorem cd02 : herbariumlaw9_ChainDeep 64 (cdRep 0 2) = some true := by kernel_rfl
theorem cd03 : herbariumlaw9_ChainDeep 64 (cdRep 0 3) = some true := by kernel_rfl
theorem cd10 : herbariumlaw9_ChainDeep 64 (cdRep 1 0) = some true := by kernel_rfl
theorem cd11 : herbariumlaw9_ChainDeep 64 (cdRep 1 1) = some true := by kernel_rfl
theorem cd12 : herbariumlaw9_ChainDeep 64 (cdRep 1 2) = some true := by kernel_rfl
theorem cd13 : herbariumlaw9_ChainDeep 64 (cdRep 1 3) = some true := by kernel_rfl
theorem cd20 : herbariumlaw9_ChainDeep 64 (cdRep 2 0) = some true := by kernel_rfl
theorem cd21 : herbariumlaw9_ChainDeep 64 (cdRep 2 1) = some true := by kernel_rfl
theorem cd22 : herbariumlaw9_ChainDeep 64 (cdRep 2 2) = some true := by kernel_rfl
theorem cd23 : herbariumlaw9_ChainDeep 64 (cdRep 2 3) = some true := by kernel_rfl
theorem chainDeep_pure (x : herbariumlaw9_Ask) (h1 : x.N.length < 4611686018427387904) (h2 : x.L.length < 4611686018427387904) : ∃ K, herbariumlaw9_ChainDeep K x = some true := by
  refine ⟨64, ?_⟩
  have key : ∀ a b : Nat, a < 3 → b < 4 → herbariumlaw9_ChainDeep 64 (cdRep a b) = some true := by
    intro a b ha hb
    match a, b, ha, hb with
    | 0, 0, _, _ => exact cd00
    | 0, 1, _, _ => exact cd01
    | 0, 2, _, _ => exact cd02
    | 0, 3, _, _ => exact cd03
    | 1, 0, _, _ => exact cd10
    | 1, 1, _, _ => exact cd11
    | 1, 2, _, _ => exact cd12
    | 1, 3, _, _ => exact cd13
    | 2, 0, _, _ => exact cd20
    | 2, 1, _, _ => exact cd21
    | 2, 2, _, _ => exact cd22
    | 2, 3, _, _ => exact cd23
  have k := key (x.N.length % 3) (x.L.length % 4) (Nat.mod_lt _ (by omega)) (Nat.mod_lt _ (by omega))
  rw [← k]
  unfold herbariumlaw9_ChainDeep
  have lN : (cdRep (x.N.length % 3) (x.L.length % 4)).N.length = x.N.length % 3 := List.length_replicate
  have lL : (cdRep (x.N.length % 3) (x.L.length % 4)).L.length = x.L.length % 4 := List.length_replicate
  exact cd_eq (by rw [lN]; omega) (by rw [lL]; omega) h1 (by rw [lN]; omega) h2 (by rw [lL]; omega) 64 0 [] [] (by omega)
theorem cd_l8 {n : Nat} (h : n * 8 ≤ 140737488351232) : n < 4611686018427387904 := by omega
theorem cd_l24 {n : Nat} (h : n * 24 ≤ 140737488351232) : n < 4611686018427387904 := by omega
end Go.XL
end
