import Derived.Test.YtocbppcndoeicaaGreatDoorIoC0
import Derived.Laws.BitsLemmas
import Derived.Lib.Strings
import Derived.Lib.TrimByte
set_option linter.all false
section
namespace Go.XL
open Go.XM
def Ev {α : Type} (g : Nat → Nat → Nat → Nat → Nat → Option α) (r : α) : Prop := ∃ m, ∀ K a b c d, m ≤ K → m ≤ a → m ≤ b → m ≤ c → m ≤ d → g K a b c d = some r
abbrev E0 {α : Type} (g : Nat → Option α) (r : α) : Prop := Ev (fun K _ _ _ _ => g K) r
abbrev E1 {α : Type} (g : Nat → Nat → Option α) (r : α) : Prop := Ev (fun K a _ _ _ => g K a) r
abbrev E2 {α : Type} (g : Nat → Nat → Nat → Option α) (r : α) : Prop := Ev (fun K a b _ _ => g K a b) r
abbrev E3 {α : Type} (g : Nat → Nat → Nat → Nat → Option α) (r : α) : Prop := Ev (fun K a b c _ => g K a b c) r
theorem now {α : Type} (r : α) : Ev (fun _ _ _ _ _ => some r) r := ⟨0, fun _ _ _ _ _ _ _ _ _ _ => rfl⟩
theorem nowE {α : Type} {r s : α} (h : s = r) : Ev (fun _ _ _ _ _ => some s) r := ⟨0, fun _ _ _ _ _ _ _ _ _ _ => by rw [h]⟩
theorem pos {α : Type} {c : Prop} [Decidable c] {f g : Nat → Nat → Nat → Nat → Nat → Option α} {r : α} (h : c) (k : Ev f r) : Ev (fun x y z u v => if c then f x y z u v else g x y z u v) r := by
  obtain ⟨m, k⟩ := k
  exact ⟨m, fun x y z u v a b c d e => (if_pos h).trans (k x y z u v a b c d e)⟩
theorem neg {α : Type} {c : Prop} [Decidable c] {f g : Nat → Nat → Nat → Nat → Nat → Option α} {r : α} (h : ¬ c) (k : Ev g r) : Ev (fun x y z u v => if c then f x y z u v else g x y z u v) r := by
  obtain ⟨m, k⟩ := k
  exact ⟨m, fun x y z u v a b c d e => (if_neg h).trans (k x y z u v a b c d e)⟩
theorem posD {α : Type} {c : Prop} [Decidable c] {f g : Nat → Nat → Nat → Nat → Nat → Option α} {r : α} (h : c) (k : Ev f r) : Ev (fun x y z u v => if decide c = true then f x y z u v else g x y z u v) r := pos (decide_eq_true h) k
theorem negD {α : Type} {c : Prop} [Decidable c] {f g : Nat → Nat → Nat → Nat → Nat → Option α} {r : α} (h : ¬ c) (k : Ev g r) : Ev (fun x y z u v => if decide c = true then f x y z u v else g x y z u v) r := neg (by simpa using h) k
theorem posM {α : Type} {c : Prop} [Decidable c] {f g : Nat → Nat → Nat → Nat → Nat → Option α} {r : α} (h : ¬ c) (k : Ev f r) : Ev (fun x y z u v => if (!decide c) = true then f x y z u v else g x y z u v) r := pos (by rw [decide_eq_false h]; rfl) k
theorem negM {α : Type} {c : Prop} [Decidable c] {f g : Nat → Nat → Nat → Nat → Nat → Option α} {r : α} (h : c) (k : Ev g r) : Ev (fun x y z u v => if (!decide c) = true then f x y z u v else g x y z u v) r := neg (by rw [decide_eq_true h]; decide) k
theorem posN {α : Type} {p q : Int} {f g : Nat → Nat → Nat → Nat → Nat → Option α} {r : α} (h : ¬ p = q) (k : Ev f r) : Ev (fun x y z u v => if (p != q) = true then f x y z u v else g x y z u v) r := pos (by simpa using h) k
theorem negN {α : Type} {p q : Int} {f g : Nat → Nat → Nat → Nat → Nat → Option α} {r : α} (h : p = q) (k : Ev g r) : Ev (fun x y z u v => if (p != q) = true then f x y z u v else g x y z u v) r := neg (by simp [h]) k
theorem bnd {α β : Type} {g : Nat → Nat → Nat → Nat → Nat → Option α} {f : Nat → Nat → Nat → Nat → Nat → α → Option β} {a : α} {r : β} (h : Ev g a) (k : Ev (fun x y z u v => f x y z u v a) r) : Ev (fun x y z u v => (g x y z u v).bind (f x y z u v)) r := by
  obtain ⟨m, h⟩ := h
  obtain ⟨m', k⟩ := k
  refine ⟨max m m', fun x y z u v a b c d e => ?_⟩
  show (g x y z u v).bind _ = _
  rw [h x y z u v (by omega) (by omega) (by omega) (by omega) (by omega)]
  exact k x y z u v (by omega) (by omega) (by omega) (by omega) (by omega)
theorem ofEq {α : Type} {g : Nat → Nat → Nat → Nat → Nat → Option α} {r s : α} (h : Ev g r) (e : r = s) : Ev g s := e ▸ h
theorem congr {α : Type} {f g : Nat → Nat → Nat → Nat → Nat → Option α} {r : α} (e : ∀ x y z u v, g x y z u v = f x y z u v) (h : Ev f r) : Ev g r := by
  obtain ⟨m, h⟩ := h
  exact ⟨m, fun x y z u v a b c d k => by rw [e]; exact h x y z u v a b c d k⟩
theorem step1 {α : Type} {f g : Nat → Nat → Nat → Nat → Nat → Option α} {r : α} (e : ∀ x y z u v, g x (y + 1) z u v = f x y z u v) (h : Ev f r) : Ev g r := by
  obtain ⟨m, h⟩ := h
  refine ⟨m + 1, fun x y z u v a b c d k => ?_⟩
  obtain ⟨y, rfl⟩ : ∃ n, y = n + 1 := ⟨y - 1, by omega⟩
  rw [e]; exact h x y z u v (by omega) (by omega) (by omega) (by omega) (by omega)
theorem step2 {α : Type} {f g : Nat → Nat → Nat → Nat → Nat → Option α} {r : α} (e : ∀ x y z u v, g x y (z + 1) u v = f x y z u v) (h : Ev f r) : Ev g r := by
  obtain ⟨m, h⟩ := h
  refine ⟨m + 1, fun x y z u v a b c d k => ?_⟩
  obtain ⟨z, rfl⟩ : ∃ n, z = n + 1 := ⟨z - 1, by omega⟩
  rw [e]; exact h x y z u v (by omega) (by omega) (by omega) (by omega) (by omega)
theorem step3 {α : Type} {f g : Nat → Nat → Nat → Nat → Nat → Option α} {r : α} (e : ∀ x y z u v, g x y z (u + 1) v = f x y z u v) (h : Ev f r) : Ev g r := by
  obtain ⟨m, h⟩ := h
  refine ⟨m + 1, fun x y z u v a b c d k => ?_⟩
  obtain ⟨u, rfl⟩ : ∃ n, u = n + 1 := ⟨u - 1, by omega⟩
  rw [e]; exact h x y z u v (by omega) (by omega) (by omega) (by omega) (by omega)
theorem Ev.e1 {α : Type} {g : Nat → Nat → Nat → Nat → Nat → Option α} {r : α} (h : Ev g r) : Ev (fun x y z u v => g x x z u v) r := by
  obtain ⟨m, h⟩ := h
  exact ⟨m, fun x y z u v a b c d k => h x x z u v a a c d k⟩
theorem Ev.e2 {α : Type} {g : Nat → Nat → Nat → Nat → Nat → Option α} {r : α} (h : Ev g r) : Ev (fun x y z u v => g x y x u v) r := by
  obtain ⟨m, h⟩ := h
  exact ⟨m, fun x y z u v a b c d k => h x y x u v a b a d k⟩
theorem Ev.e3 {α : Type} {g : Nat → Nat → Nat → Nat → Nat → Option α} {r : α} (h : Ev g r) : Ev (fun x y z u v => g x y z x v) r := by
  obtain ⟨m, h⟩ := h
  exact ⟨m, fun x y z u v a b c d k => h x y z x v a b c a k⟩
theorem Ev.e4 {α : Type} {g : Nat → Nat → Nat → Nat → Nat → Option α} {r : α} (h : Ev g r) : Ev (fun x y z u v => g x y z u x) r := by
  obtain ⟨m, h⟩ := h
  exact ⟨m, fun x y z u v a b c d k => h x y z u x a b c d a⟩
theorem Ev.all {α : Type} {g : Nat → Option α} {r : α} (h : E0 g r) : ∃ m, ∀ K, m ≤ K → g K = some r := by
  obtain ⟨m, h⟩ := h
  exact ⟨m, fun K hK => h K K K K K hK hK hK hK hK⟩
theorem Ev.get {α : Type} {g : Nat → Option α} {r : α} (h : E0 g r) : ∃ K, g K = some r := by
  obtain ⟨m, h⟩ := h.all
  exact ⟨m, h m (Nat.le_refl _)⟩
theorem w64 {i : Int} (h : -9223372036854775808 ≤ i) (h' : i ≤ 9223372036854775807) : wr .i64 i = i := by show Go.RowKit.wrap64 i = i; unfold Go.RowKit.wrap64; omega
theorem w1 {i : Nat} (h : i < 4611686018427387904) : wr .i64 ((i : Int) + 1) = ((i + 1 : Nat) : Int) := by rw [w64 (by omega) (by omega)]; omega
theorem upto {n : Nat} {Q : Nat → Prop} (base : Q n) (step : ∀ i, i < n → Q (i + 1) → Q i) : ∀ i, i ≤ n → Q i := by
  have key : ∀ d i, i + d = n → Q i := by
    intro d
    induction d with
    | zero => intro i hi; rw [show i = n by omega]; exact base
    | succ d ih => intro i hi; exact step i (by omega) (ih (i + 1) (by omega))
  intro i hi
  exact key (n - i) i (by omega)
theorem getD_lt {α : Type} {d : α} {xs : List α} {i : Nat} (h : i < xs.length) : xs.getD i d = xs[i] := by simp [List.getD_eq_getElem?_getD, List.getElem?_eq_getElem h]
theorem getD_mem {α : Type} {d : α} {xs : List α} {i : Nat} (h : i < xs.length) : xs.getD i d ∈ xs := by rw [getD_lt h]; exact List.getElem_mem h
theorem drop_getD {α : Type} {d : α} {xs : List α} {i : Nat} (h : i < xs.length) : xs.drop i = xs.getD i d :: xs.drop (i + 1) := by rw [getD_lt h]; exact List.drop_eq_getElem_cons h
theorem take_getD {α : Type} {d : α} {xs : List α} {i : Nat} (h : i < xs.length) : xs.take (i + 1) = xs.take i ++ [xs.getD i d] := by rw [getD_lt h, List.take_succ_eq_append_getElem h]
theorem getD_set {α : Type} {d : α} (xs : List α) (i j : Nat) (v : α) (h : i < xs.length) : (xs.set i v).getD j d = if j = i then v else xs.getD j d := by
  simp only [List.getD_eq_getElem?_getD, List.getElem?_set]
  by_cases e : i = j
  · subst e; simp [h]
  · simp [e, Ne.symm e]
theorem nthN {α : Type} [Inhabited α] (xs : List α) (i : Nat) : nth xs (i : Int) = xs.getD i default := by simp [nth]
theorem rdN (xs : List Int) (i : Nat) : nth xs (i : Int) = xs.getD i 0 := nthN xs i
theorem negB {α : Type} {b : Bool} {f g : Nat → Nat → Nat → Nat → Nat → Option α} {r : α} (h : b = false) (k : Ev g r) : Ev (fun x y z u v => if b = true then f x y z u v else g x y z u v) r := neg (by rw [h]; decide) k
end Go.XL
end
section
namespace Go.XL
open Go.XM
def OkAt (xs : List Int) (i : Nat) : Prop := 0 ≤ xs.getD i 0 ∧ xs.getD i 0 ≤ 15 ∧ (0 < i → xs.getD (i - 1) 0 < xs.getD i 0)
instance (xs : List Int) (i : Nat) : Decidable (OkAt xs i) := by unfold OkAt; infer_instance
def MayP (xs : List Int) : Prop := ∀ i, i < xs.length → OkAt xs i
instance (xs : List Int) : Decidable (MayP xs) := by unfold MayP; infer_instance
theorem num_eq (K : Nat) (a b : Int) : herbariumref0_Num K a b = some (decide (0 ≤ a ∧ a ≤ b)) := by
  unfold herbariumref0_Num
  by_cases h : a ≥ 0
  · rw [if_pos (decide_eq_true h)]; simp [h]
  · rw [if_neg (by simpa using h)]; simp; omega
end Go.XL
end
section
namespace Go.XL
open Go.XM
def OkR : Int → List api_Run → Prop
  | _, [] => True
  | e, x :: r => (3 ≤ x.Len ∧ e < x.At ∧ 0 ≤ x.At ∧ x.At ≤ 15 ∧ x.At + x.Len ≤ 16) ∧ OkR (x.At + x.Len) r
instance decOkR : ∀ (e : Int) (r : List api_Run), Decidable (OkR e r)
  | _, [] => .isTrue trivial
  | e, x :: r => @instDecidableAnd _ _ _ (decOkR _ r)
end Go.XL
end
section
namespace Go.XL
open Go.XM
def mk (S : List Int) : List Bool := (List.range 16).map fun (k : Nat) => decide ((k : Int) ∈ S)
def before (r : List api_Run) (i : Nat) : Int := if i = 0 then -1 else (r.getD (i - 1) default).At + (r.getD (i - 1) default).Len
end Go.XL
end
section
namespace Go.XL
open Go.XM
theorem fdivN (a b : Nat) : ((a : Int)).fdiv (b : Int) = ((a / b : Nat) : Int) := (Int.ofNat_fdiv a b).symm
theorem tdivN (a b : Nat) : ((a : Int)).tdiv (b : Int) = ((a / b : Nat) : Int) := (Int.ofNat_tdiv a b).symm
theorem tmodN (a b : Nat) : ((a : Int)).tmod (b : Int) = ((a % b : Nat) : Int) := (Int.ofNat_tmod a b).symm
theorem u8N {a : Nat} (h : a < 256) : wr .u8 (a : Int) = (a : Int) := by
  show IntKind.wrap .u8 _ = _
  unfold IntKind.wrap
  simp only [IntKind.bits, IntKind.signed]
  simp
  omega
theorem and1 {a : Nat} (h : a < 9223372036854775808) : ib .and .i64 (a : Int) 1 = ((a % 2 : Nat) : Int) := by
  have h2 : (BitVec.ofInt 64 (a : Int) &&& BitVec.ofInt 64 1).toNat = a % 2 := by
    rw [BitVec.toNat_and]
    simp only [BitVec.ofInt_natCast, BitVec.toNat_ofNat]
    rw [show (BitVec.ofInt 64 1).toNat = 1 from rfl, Nat.mod_eq_of_lt (by omega), Nat.and_one_is_mod]
  show IntKind.wrap .i64 ((BitVec.ofInt 64 (a : Int) &&& BitVec.ofInt 64 1).toNat : Int) = _
  rw [h2, wr_eq]
  exact w64 (by omega) (by omega)
def Bt (l : List Int) : Prop := ∀ x ∈ l, x = 0 ∨ x = 1
theorem Bt.nil : Bt [] := by simp [Bt]
theorem Bt.one {v : Int} (h : v = 0 ∨ v = 1) : Bt [v] := by intro x hx; obtain rfl := List.mem_singleton.1 hx; exact h
theorem Bt.get {l : List Int} (h : Bt l) (i : Nat) : l.getD i 0 = 0 ∨ l.getD i 0 = 1 := by
  by_cases hi : i < l.length
  · exact h _ (getD_mem hi)
  · left; simp [List.getD_eq_getElem?_getD, List.getElem?_eq_none (by omega : l.length ≤ i)]
end Go.XL
end
section
namespace Go.XL
open Go.XM
theorem shrN {v w : Nat} (hv : v < 9223372036854775808) : ((v : Int)).fdiv (2 ^ min ((w : Int)).toNat 64) = ((v / 2 ^ w : Nat) : Int) := by
  have e : ((2 : Int) ^ min ((w : Int)).toNat 64) = ((2 ^ min w 64 : Nat) : Int) := by push_cast; rfl
  rw [e, fdivN]
  by_cases h : w ≤ 64
  · rw [Nat.min_eq_left h]
  · rw [Nat.min_eq_right (by omega)]
    have h1 : 2 ^ 64 ≤ 2 ^ w := Nat.pow_le_pow_right (by omega) (by omega)
    rw [Nat.div_eq_of_lt (by omega), Nat.div_eq_of_lt (by omega)]
theorem bytesOf_size (ns : List Int) : (bytesOf ns).size = ns.length := by
  have key : ∀ (ns : List Int) (s : ByteArray), (ns.foldl (fun s n => s.push (UInt8.ofNat n.toNat)) s).size = s.size + ns.length := by
    intro ns
    induction ns with
    | nil => intro s; rfl
    | cons n ns ih => intro s; rw [List.foldl_cons, ih]; simp [ByteArray.size_push]; omega
  have := key ns .empty
  simpa [bytesOf] using this
theorem bytesOf_data (ns : List Int) : (bytesOf ns).data.toList = ns.map fun n => UInt8.ofNat n.toNat := by
  have key : ∀ (ns : List Int) (s : ByteArray), (ns.foldl (fun s n => s.push (UInt8.ofNat n.toNat)) s).data.toList = s.data.toList ++ ns.map fun n => UInt8.ofNat n.toNat := by
    intro ns
    induction ns with
    | nil => intro s; simp
    | cons n ns ih => intro s; rw [List.foldl_cons, ih]; simp [ByteArray.push]
  have := key ns .empty
  simpa [bytesOf] using this
end Go.XL
end
section
namespace Go.XL
open Go.XM
theorem and8 {a t : Nat} (ha : a < 256) (ht : t ≤ 8) : ib .and .u8 (a : Int) ((2 ^ t - 1 : Nat) : Int) = ((a % 2 ^ t : Nat) : Int) := by
  have hp : 2 ^ t ≤ 2 ^ 8 := Nat.pow_le_pow_right (by omega) ht
  have hm : a % 2 ^ t ≤ a := Nat.mod_le _ _
  have h2 : (BitVec.ofInt 8 (a : Int) &&& BitVec.ofInt 8 ((2 ^ t - 1 : Nat) : Int)).toNat = a % 2 ^ t := by
    rw [BitVec.toNat_and]
    simp only [BitVec.ofInt_natCast, BitVec.toNat_ofNat]
    rw [Nat.mod_eq_of_lt (show a < 2 ^ 8 by omega), Nat.mod_eq_of_lt (show 2 ^ t - 1 < 2 ^ 8 by omega), Nat.and_two_pow_sub_one_eq_mod]
  show IntKind.wrap .u8 ((BitVec.ofInt 8 (a : Int) &&& BitVec.ofInt 8 ((2 ^ t - 1 : Nat) : Int)).toNat : Int) = _
  rw [h2]
  exact u8N (by omega)
end Go.XL
end
section
namespace Go.XL
open Go.XM
theorem bt_nat (s : ByteArray) (j : Int) : ∃ a : Nat, bt s j = (a : Int) ∧ a < 256 := by
  unfold bt
  generalize s.data.toList.getD j.toNat 0 = u
  exact ⟨u.toNat, rfl, u.toNat_lt⟩
def bof (s : ByteArray) (i : Nat) : Int := (((bt s ((i / 8 : Nat) : Int)).toNat / 2 ^ (7 - i % 8) % 2 : Nat) : Int)
def Zs (s : ByteArray) (n : Nat) : Prop := ∀ i, i < 8 * s.size → n ≤ i → bof s i = 0
instance (s : ByteArray) (n : Nat) : Decidable (Zs s n) := by unfold Zs; infer_instance
def MayB (b : api_Bits) : Prop := 0 ≤ b.N ∧ b.N ≤ 6000 ∧ b.Data.size = (b.N.toNat + 7) / 8 ∧ Zs b.Data b.N.toNat
instance (b : api_Bits) : Decidable (MayB b) := by unfold MayB; infer_instance
theorem rbit_eq {b : api_Bits} {K i : Nat} (hi : i < 8 * b.Data.size) (hs : b.Data.size ≤ 1000000) : herbariumref1_bit K b (i : Int) = some (bof b.Data i) := by
  obtain ⟨a, a1, a2⟩ := bt_nat b.Data ((i / 8 : Nat) : Int)
  have f1 : wr .i64 ((i : Int).tdiv 8) = ((i / 8 : Nat) : Int) := by rw [show (8 : Int) = ((8 : Nat) : Int) from rfl, tdivN]; exact w64 (by omega) (by omega)
  have f2 : wr .i64 (7 - ((i : Int).tmod 8)) = ((7 - i % 8 : Nat) : Int) := by rw [show (8 : Int) = ((8 : Nat) : Int) from rfl, tmodN, w64 (by omega) (by omega)]; omega
  have f3 := shrN (v := a) (w := 7 - i % 8) (by omega)
  have hle : a / 2 ^ (7 - i % 8) ≤ a := Nat.div_le_self _ _
  have f4 : bof b.Data i = ((a / 2 ^ (7 - i % 8) % 2 : Nat) : Int) := by unfold bof; rw [a1, Int.toNat_natCast]
  unfold herbariumref1_bit
  rw [f1, f2, a1, w64 (i := (a : Int)) (by omega) (by omega), f3, and1 (by omega), f4]
  rw [if_pos (by decide), if_pos ⟨by omega, by omega⟩, if_pos (by decide), if_pos (by omega)]
theorem rBits_ev {b : api_Bits} (hs : b.Data.size ≤ 1000000) : E0 (fun K => herbariumref1_Bits K b) (decide (MayB b)) := by
  refine bnd (congr (fun K _ _ _ _ => num_eq K b.N 6000) (now _)) ?_
  by_cases h : 0 ≤ b.N ∧ b.N ≤ 6000
  · refine negM h (pos (by decide) ?_)
    have e1 : wr .i64 ((wr .i64 (b.N + 7)).tdiv 8) = (((b.N.toNat + 7) / 8 : Nat) : Int) := by
      rw [w64 (i := b.N + 7) (by omega) (by omega), show b.N + 7 = ((b.N.toNat + 7 : Nat) : Int) by omega]
      rw [show (8 : Int) = ((8 : Nat) : Int) from rfl, tdivN, w64 (by omega) (by omega)]
    rw [e1]
    by_cases h2 : b.Data.size = (b.N.toNat + 7) / 8
    · refine negN (by omega) ?_
      have key : ∀ i, i ≤ 8 * b.Data.size → E1 (fun K k => herbariumref1_Bits.l1 K b k (i : Int)) (decide (Zs b.Data i)) := by
        have e2 : wr .i64 (8 * ((b.Data.size : Nat) : Int)) = ((8 * b.Data.size : Nat) : Int) := by rw [w64 (by omega) (by omega)]; omega
        refine upto ?_ ?_
        · refine step1 (fun _ _ _ _ _ => herbariumref1_Bits.l1.eq_2 ..) ?_
          rw [e2]
          exact negD (by omega) (nowE (by rw [decide_eq_true]; intro i h1 h2; omega))
        · intro i hi ih
          refine step1 (fun _ _ _ _ _ => herbariumref1_Bits.l1.eq_2 ..) ?_
          rw [e2]
          refine posD (by omega) (bnd (congr (fun K _ _ _ _ => rbit_eq hi hs) (now _)) ?_)
          by_cases e : bof b.Data i = 0
          · refine negN e ?_
            rw [w1 (by omega)]
            refine ofEq ih ?_
            rw [Bool.eq_iff_iff, decide_eq_true_iff, decide_eq_true_iff]
            constructor
            · intro z j h1 h2
              by_cases q : j = i
              · rw [q]; exact e
              · exact z j h1 (by omega)
            · intro z j h1 h2; exact z j h1 (by omega)
          · refine posN e (nowE ?_)
            exact (decide_eq_false (fun z => e (z i hi (Nat.le_refl _)))).symm
      have hk := key b.N.toNat (by omega)
      rw [show ((b.N.toNat : Nat) : Int) = b.N by omega] at hk
      refine ofEq hk.e1 ?_
      rw [Bool.eq_iff_iff, decide_eq_true_iff, decide_eq_true_iff]
      exact ⟨fun z => ⟨h.1, h.2, h2, z⟩, fun z => z.2.2.2⟩
    · refine posN (by omega) (nowE ?_)
      exact (decide_eq_false (fun z => h2 z.2.2.1)).symm
  · refine posM h (nowE ?_)
    exact (decide_eq_false (fun z => h ⟨z.1, z.2.1⟩)).symm
theorem Zs_last {s : ByteArray} {q t : Nat} (hs : s.size = q + 1) (ht : t < 8) (h0 : 0 < t) {a : Nat} (ha : bt s (q : Int) = (a : Int)) (ha2 : a < 256) : Zs s (8 * q + t) ↔ a % 2 ^ (8 - t) = 0 := by
  have hb : ∀ r, r < 8 → bof s (8 * q + r) = ((a / 2 ^ (7 - r) % 2 : Nat) : Int) := by
    intro r hr
    unfold bof
    rw [show (8 * q + r) / 8 = q by omega, show (8 * q + r) % 8 = r by omega, ha, Int.toNat_natCast]
  have : t = 1 ∨ t = 2 ∨ t = 3 ∨ t = 4 ∨ t = 5 ∨ t = 6 ∨ t = 7 := by omega
  constructor
  · intro z
    have hz : ∀ r, t ≤ r → r < 8 → a / 2 ^ (7 - r) % 2 = 0 := by
      intro r h1 h2
      have := z (8 * q + r) (by omega) (by omega)
      rw [hb r h2] at this; omega
    have z1 := hz 1; have z2 := hz 2; have z3 := hz 3; have z4 := hz 4; have z5 := hz 5; have z6 := hz 6; have z7 := hz 7
    simp only [Nat.reduceSub, Nat.reducePow, Nat.reduceLT, forall_const] at z1 z2 z3 z4 z5 z6 z7
    rcases this with rfl | rfl | rfl | rfl | rfl | rfl | rfl <;> simp only [Nat.reduceSub, Nat.reducePow] <;> omega
  · intro hm i h1 h2
    obtain ⟨r, rfl⟩ : ∃ r, i = 8 * q + r := ⟨i - 8 * q, by omega⟩
    rw [hb r (by omega)]
    have hr : r = 1 ∨ r = 2 ∨ r = 3 ∨ r = 4 ∨ r = 5 ∨ r = 6 ∨ r = 7 := by omega
    rcases this with rfl | rfl | rfl | rfl | rfl | rfl | rfl <;> simp only [Nat.reduceSub, Nat.reducePow] at hm <;> rcases hr with rfl | rfl | rfl | rfl | rfl | rfl | rfl <;> simp only [Nat.reduceSub, Nat.reducePow] <;> omega
theorem bMay_eq {b : api_Bits} (hs : b.Data.size ≤ 1000000) (K : Nat) : bits_May K b = some (decide (MayB b)) := by
  unfold bits_May
  by_cases h1 : b.N < 0
  · rw [if_pos (decide_eq_true h1), decide_eq_false (fun z => by have := z.1; omega)]
  rw [if_neg (by simpa using h1)]
  by_cases h2 : b.N > 6000
  · rw [if_pos (decide_eq_true h2), decide_eq_false (fun z => by have := z.2.1; omega)]
  rw [if_neg (by simpa using h2), if_pos (by decide)]
  obtain ⟨n, hn⟩ := Int.eq_ofNat_of_zero_le (show 0 ≤ b.N by omega)
  have e1 : wr .i64 ((wr .i64 ((wr .i64 (b.N + 8)) - 1)).tdiv 8) = (((n + 7) / 8 : Nat) : Int) := by
    rw [w64 (i := b.N + 8) (by omega) (by omega), w64 (i := b.N + 8 - 1) (by omega) (by omega), show b.N + 8 - 1 = ((n + 7 : Nat) : Int) by omega]
    rw [show (8 : Int) = ((8 : Nat) : Int) from rfl, tdivN, w64 (by omega) (by omega)]
  have e2 : (b.N.tmod 8) = ((n % 8 : Nat) : Int) := by rw [hn]; exact tmodN _ 8
  have e0 : b.N.toNat = n := by omega
  rw [e1, e2]
  by_cases h3 : b.Data.size = (n + 7) / 8
  · rw [if_neg (by simp [h3]), if_pos (by decide)]
    by_cases h4 : n % 8 = 0
    · rw [if_pos (by simp [h4]), decide_eq_true]
      exact ⟨by omega, by omega, by rw [e0]; exact h3, fun i a1 a2 => by omega⟩
    · obtain ⟨a, a1, a2⟩ := bt_nat b.Data ((n / 8 : Nat) : Int)
      have e3 : wr .i64 (((b.Data.size : Nat) : Int) - 1) = ((n / 8 : Nat) : Int) := by rw [w64 (by omega) (by omega)]; omega
      have e4 : (255 : Int).fdiv (2 ^ min (((n % 8 : Nat) : Int)).toNat 8) = ((2 ^ (8 - n % 8) - 1 : Nat) : Int) := by
        rw [Int.toNat_natCast]
        have : n % 8 = 1 ∨ n % 8 = 2 ∨ n % 8 = 3 ∨ n % 8 = 4 ∨ n % 8 = 5 ∨ n % 8 = 6 ∨ n % 8 = 7 := by omega
        rcases this with e | e | e | e | e | e | e <;> rw [e] <;> decide
      rw [if_neg (by simp; omega), e3, if_pos ⟨by omega, by omega⟩, if_pos (by omega), a1, e4, and8 a2 (by omega)]
      have hz := Zs_last (s := b.Data) (q := n / 8) (t := n % 8) (by omega) (by omega) (by omega) a1 a2
      rw [show 8 * (n / 8) + n % 8 = n by omega] at hz
      congr 1
      rw [Bool.eq_iff_iff, decide_eq_true_iff]
      constructor
      · intro q
        have : a % 2 ^ (8 - n % 8) = 0 := by have := of_decide_eq_true q; omega
        exact ⟨by omega, by omega, by rw [e0]; exact h3, by rw [e0]; exact hz.2 this⟩
      · intro q
        have := hz.1 (by have := q.2.2.2; rwa [e0] at this)
        rw [this]; rfl
  · rw [if_pos (by simp; omega), decide_eq_false (fun z => h3 (by have := z.2.2.1; rwa [e0] at this))]
end Go.XL
end
section
namespace Go.XL
open Go.XM
theorem beq_str (a b : ByteArray) : (a.toList == b.toList) = decide (a = b) := by
  rw [Lib.toList_data, Lib.toList_data]
  by_cases h : a = b
  · rw [h]; simp
  · rw [decide_eq_false h]
    have : ¬ a.data.toList = b.data.toList := fun e => h (ByteArray.ext (by
      rw [← Array.toArray_toList (xs := a.data), ← Array.toArray_toList (xs := b.data), e]))
    simpa using this
theorem sz_data (s : ByteArray) : s.size = s.data.toList.length := by show s.data.size = _; rw [Array.length_toList]
theorem str_ext {a b : ByteArray} (h : a.data.toList = b.data.toList) : a = b := ByteArray.ext (by
      rw [← Array.toArray_toList (xs := a.data), ← Array.toArray_toList (xs := b.data), h])
theorem bytesL_len (s : ByteArray) : (bytesL s).length = s.size := by rw [sz_data]; simp [bytesL]
theorem bytesL_bytesOf {l : List Int} (h : ∀ x ∈ l, 0 ≤ x ∧ x ≤ 255) : bytesL (bytesOf l) = l := by
  unfold bytesL
  rw [bytesOf_data, List.map_map]
  conv => rhs; rw [← List.map_id l]
  refine List.map_congr_left fun x hx => ?_
  have := h x hx
  simp only [Function.comp, id]
  simp
  omega
theorem bytesOf_bytesL (s : ByteArray) : bytesOf (bytesL s) = s := by
  apply str_ext
  rw [bytesOf_data]; unfold bytesL
  rw [List.map_map]
  conv => rhs; rw [← List.map_id s.data.toList]
  refine List.map_congr_left fun x _ => ?_
  simp
theorem bytesL_rng (s : ByteArray) : ∀ x ∈ bytesL s, 0 ≤ x ∧ x ≤ 255 := by
  intro x hx
  obtain ⟨b, _, rfl⟩ := List.mem_map.1 hx
  have := b.toNat_lt
  omega
theorem bytesL_inj {a b : ByteArray} (h : bytesL a = bytesL b) : a = b := by rw [← bytesOf_bytesL a, h, bytesOf_bytesL]
theorem bytesL_app (a b : ByteArray) : bytesL (a ++ b) = bytesL a ++ bytesL b := by unfold bytesL; rw [ByteArray.data_append]; simp
theorem bytesL_ext (s : ByteArray) (i j : Nat) : bytesL (s.extract i j) = ((bytesL s).take j).drop i := by
  unfold bytesL; rw [ByteArray.data_extract, Array.toList_extract, List.extract_eq_drop_take]
  rw [← List.map_take, ← List.map_drop, List.drop_take]
theorem bt_get (s : ByteArray) (i : Nat) : bt s (i : Int) = (bytesL s).getD i 0 := by
  unfold bt bytesL
  rw [Int.toNat_natCast, List.getD_eq_getElem?_getD, List.getD_eq_getElem?_getD, List.getElem?_map]
  cases s.data.toList[i]? <;> rfl
def adl : List Int → Int × Int → Int × Int
  | [], p => p
  | c :: cs, p => adl cs ((p.1 + c) % 65521, (p.2 + (p.1 + c) % 65521) % 65521)
def chkL (l : List Int) : Int := (adl l (1, 0)).2 * 65536 + (adl l (1, 0)).1
def chk (s : ByteArray) : Int := chkL (bytesL s)
def G2 (p : Int × Int) : Prop := 0 ≤ p.1 ∧ p.1 < 65521 ∧ 0 ≤ p.2 ∧ p.2 < 65521
theorem adl_rng : ∀ (l : List Int) (p : Int × Int), G2 p → G2 (adl l p)
  | [], _, h => h
  | c :: cs, p, h => adl_rng cs _ ⟨Int.emod_nonneg _ (by decide), Int.emod_lt_of_pos _ (by decide), Int.emod_nonneg _ (by decide), Int.emod_lt_of_pos _ (by decide)⟩
theorem chk_rng (s : ByteArray) : 0 ≤ chk s ∧ chk s < 4294967296 := by
  have := adl_rng (bytesL s) (1, 0) (by unfold G2; decide)
  unfold G2 at this
  unfold chk chkL
  omega
theorem wu32 {x : Int} (h0 : 0 ≤ x) (h1 : x < 4294967296) : wr .u32 x = x := by
  show IntKind.wrap .u32 _ = _
  unfold IntKind.wrap
  simp only [IntKind.bits, IntKind.signed]
  simp
  omega
theorem wu8 (x : Int) : wr .u8 x = x % 256 := by
  show IntKind.wrap .u8 _ = _
  unfold IntKind.wrap
  simp only [IntKind.bits, IntKind.signed]
  simp
theorem or16 {b a : Nat} (hb : b < 65536) (ha : a < 65536) : ib .or .u32 ((b * 65536 : Nat) : Int) (a : Int) = ((b * 65536 + a : Nat) : Int) := by
  have h1 : (b * 65536) ||| a = b * 65536 + a := by
    have := Nat.two_pow_add_eq_or_of_lt (i := 16) (by omega : a < 2 ^ 16) b
    rw [Nat.mul_comm b]
    exact this.symm
  have h2 : (BitVec.ofInt 32 ((b * 65536 : Nat) : Int) ||| BitVec.ofInt 32 (a : Int)).toNat = b * 65536 + a := by
    rw [BitVec.toNat_or]
    simp only [BitVec.ofInt_natCast, BitVec.toNat_ofNat]
    rw [Nat.mod_eq_of_lt (by omega), Nat.mod_eq_of_lt (by omega), h1]
  show IntKind.wrap .u32 ((BitVec.ofInt 32 ((b * 65536 : Nat) : Int) ||| BitVec.ofInt 32 (a : Int)).toNat : Int) = _
  rw [h2]
  exact wu32 (by omega) (by omega)
theorem tmE {x m : Int} (h : 0 ≤ x) : x.tmod m = x % m := Int.tmod_eq_emod_of_nonneg h
theorem of_ev (s : ByteArray) (hs : s.size ≤ 4611686018427387903) : E0 (fun K => seal_Of K s) (chk s) := by
  have hl := bytesL_len s
  have key : ∀ i, i ≤ s.size → ∀ a b : Int, G2 (a, b) → E1 (fun K k => seal_Of.l1 K s k a b (s.size : Int) (i : Int)) ((adl ((bytesL s).drop i) (a, b)).2 * 65536 + (adl ((bytesL s).drop i) (a, b)).1) := by
    refine upto ?_ ?_
    · intro a b ⟨a0, a1, b0, b1⟩
      rw [List.drop_eq_nil_of_le (by omega)]
      simp only at a0 a1 b0 b1
      refine step1 (fun _ _ _ _ _ => seal_Of.l1.eq_2 ..) ?_
      refine negD (by omega) (pos (by decide) (nowE ?_))
      rw [show (2 : Int) ^ min ((16 : Int)).toNat 32 = 65536 from rfl, wu32 (by omega) (by omega)]
      obtain ⟨a, rfl⟩ := Int.eq_ofNat_of_zero_le a0
      obtain ⟨b, rfl⟩ := Int.eq_ofNat_of_zero_le b0
      have := or16 (b := b) (a := a) (by omega) (by omega)
      rw [Int.natCast_mul] at this
      exact this.trans (by simp only [adl]; omega)
    · intro i hi ih a b ⟨a0, a1, b0, b1⟩
      simp only at a0 a1 b0 b1
      refine step1 (fun _ _ _ _ _ => seal_Of.l1.eq_2 ..) ?_
      have hi' : i < (bytesL s).length := by omega
      obtain ⟨c0, c1⟩ := bytesL_rng s _ (getD_mem (d := 0) hi')
      rw [drop_getD (d := 0) hi', adl]
      refine posD (by omega) (pos (by omega) (pos (by decide) (pos (by decide) ?_)))
      rw [bt_get, wu32 c0 (by omega), wu32 (x := a + _) (by omega) (by omega), tmE (by omega)]
      have m0 := Int.emod_nonneg (a + (bytesL s).getD i 0) (show (65521 : Int) ≠ 0 by decide)
      have m1 := Int.emod_lt_of_pos (a + (bytesL s).getD i 0) (show (0 : Int) < 65521 by decide)
      rw [wu32 (by omega) (by omega), tmE (by omega), w1 (by omega)]
      exact ih _ _ ⟨m0, m1, Int.emod_nonneg _ (by decide), Int.emod_lt_of_pos _ (by decide)⟩
  exact (key 0 (by omega) 1 0 (by unfold G2; decide)).e1
theorem rof_ev (s : ByteArray) (hs : s.size ≤ 4611686018427387903) : E0 (fun K => herbariumref17_Of K s) (chk s) := by
  have hl := bytesL_len s
  have key : ∀ i, i ≤ s.size → ∀ a b : Int, G2 (a, b) → E1 (fun K k => herbariumref17_Of.l1 K s k a b (i : Int)) ((adl ((bytesL s).drop i) (a, b)).2 * 65536 + (adl ((bytesL s).drop i) (a, b)).1) := by
    refine upto ?_ ?_
    · intro a b ⟨a0, a1, b0, b1⟩
      rw [List.drop_eq_nil_of_le (by omega)]
      simp only at a0 a1 b0 b1
      refine step1 (fun _ _ _ _ _ => herbariumref17_Of.l1.eq_2 ..) ?_
      refine negD (by omega) (nowE ?_)
      rw [w64 (i := b * 65536) (by omega) (by omega), w64 (by omega) (by omega), wu32 (by omega) (by omega)]
      rfl
    · intro i hi ih a b ⟨a0, a1, b0, b1⟩
      simp only at a0 a1 b0 b1
      refine step1 (fun _ _ _ _ _ => herbariumref17_Of.l1.eq_2 ..) ?_
      have hi' : i < (bytesL s).length := by omega
      obtain ⟨c0, c1⟩ := bytesL_rng s _ (getD_mem (d := 0) hi')
      rw [drop_getD (d := 0) hi', adl]
      refine posD (by omega) (pos (by omega) (pos (by decide) (pos (by decide) ?_)))
      rw [bt_get, w64 (i := (bytesL s).getD i 0) (by omega) (by omega), w64 (i := a + _) (by omega) (by omega), tmE (by omega)]
      have m0 := Int.emod_nonneg (a + (bytesL s).getD i 0) (show (65521 : Int) ≠ 0 by decide)
      have m1 := Int.emod_lt_of_pos (a + (bytesL s).getD i 0) (show (0 : Int) < 65521 by decide)
      rw [w64 (by omega) (by omega), tmE (by omega), w1 (by omega)]
      exact ih _ _ ⟨m0, m1, Int.emod_nonneg _ (by decide), Int.emod_lt_of_pos _ (by decide)⟩
  exact (key 0 (by omega) 1 0 (by unfold G2; decide)).e1
def nulls (n : Nat) : ByteArray := ⟨(List.replicate n 0).toArray⟩
theorem nulls_size (n : Nat) : (nulls n).size = n := by unfold nulls; show (List.replicate n 0).toArray.size = n; simp
theorem repeat_eq (K n : Nat) (h : n ≤ 1000) : strings_Repeat K (⟨#[0]⟩ : ByteArray) (n : Int) = some (nulls n) := by
  have hr : ∀ m, Lib.repeatL [0] m = List.replicate m (0 : UInt8) := fun m => by
    induction m with
    | zero => rfl
    | succ m ih => rw [Lib.repeatL, ih]; rfl
  unfold strings_Repeat repF
  rw [Int.toNat_natCast, if_pos ⟨by omega, by omega, by show 1 * n ≤ _; omega⟩]
  show some (⟨(Lib.repeatL [0] n).toArray⟩ : ByteArray) = _
  rw [hr]; rfl
theorem bytesOf_zero (n : Nat) : bytesOf (List.replicate n 0) = nulls n := by
  apply str_ext
  rw [bytesOf_data]; simp [nulls]
theorem zeros_eq (K n : Nat) (h : n ≤ 1000) : herbariumref0_Zeros K (n : Int) = some (nulls n) := by
  unfold herbariumref0_Zeros
  rw [if_pos ⟨rfl, by omega, by omega, by omega⟩, Int.toNat_natCast, bytesOf_zero]
def room (s : ByteArray) : ByteArray := s.extract 0 (min s.size 60) ++ nulls (60 - min s.size 60)
theorem room_size (s : ByteArray) : (room s).size = 60 := by
  unfold room
  rw [ByteArray.size_append, ByteArray.size_extract, nulls_size]
  omega
theorem room_self {s : ByteArray} (h : s.size = 60) : room s = s := by
  unfold room
  rw [h]
  show s.extract 0 60 ++ ByteArray.empty = s
  rw [ByteArray.append_empty, ← h, ByteArray.extract_zero_size]
def fourL (v : Int) : List Int := [(v / 16777216) % 256, (v / 65536) % 256, (v / 256) % 256, v % 256]
def four (v : Int) : ByteArray := bytesOf (fourL v)
theorem four_size (v : Int) : (four v).size = 4 := by unfold four; rw [bytesOf_size]; rfl
theorem four_L (v : Int) : bytesL (four v) = fourL v := bytesL_bytesOf (by
  intro x hx
  simp only [fourL, List.mem_cons, List.not_mem_nil, or_false] at hx
  rcases hx with rfl | rfl | rfl | rfl <;> omega)
theorem fdE {x : Int} {n : Int} (hn : 0 < n) : x.fdiv n = x / n := Int.fdiv_eq_ediv_of_nonneg x (by omega)
theorem check_ev (s : ByteArray) (hs : s.size ≤ 4611686018427387903) : E0 (fun K => seal_check K s) (four (chk s)) := by
  refine bnd (of_ev s hs) (pos (by decide) (pos (by decide) (pos (by decide) (nowE ?_))))
  rw [show (2 : Int) ^ min ((24 : Int)).toNat 32 = 16777216 from rfl, show (2 : Int) ^ min ((16 : Int)).toNat 32 = 65536 from rfl, show (2 : Int) ^ min ((8 : Int)).toNat 32 = 256 from rfl, fdE (by decide), fdE (by decide), fdE (by decide), wu8, wu8, wu8, wu8]
  rfl
theorem number_eq (K : Nat) (v : Int) : herbariumref17_number K v = some (four v) := by
  unfold herbariumref17_number
  rw [if_pos (by decide), if_pos (by decide), if_pos (by decide), show (2 : Int) ^ min ((24 : Int)).toNat 64 = 16777216 from rfl, show (2 : Int) ^ min ((16 : Int)).toNat 64 = 65536 from rfl, show (2 : Int) ^ min ((8 : Int)).toNat 64 = 256 from rfl, fdE (by decide), fdE (by decide), fdE (by decide), wu8, wu8, wu8, wu8]
  rfl
def addP (s : ByteArray) : ByteArray := room s ++ four (chk (room s))
theorem addP_size (s : ByteArray) : (addP s).size = 64 := by unfold addP; rw [ByteArray.size_append, room_size, four_size]
theorem add_ev (s : ByteArray) (hs : s.size ≤ 4611686018427387903) : E0 (fun K => seal_Add K s) (addP s) := by
  have hrs := room_size s
  have hfs := four_size (chk (room s))
  have hex : (s.extract 0 (min s.size 60)).size = min s.size 60 := by rw [ByteArray.size_extract]; omega
  have hmn : (if (60 : Int) < ((s.size : Nat) : Int) then (60 : Int) else ((s.size : Nat) : Int)) = ((min s.size 60 : Nat) : Int) := by split <;> omega
  unfold seal_Add
  rw [hmn, Int.toNat_natCast, show ((0 : Int)).toNat = 0 from rfl, hex, w64 (by omega) (by omega), show (60 : Int) - ((min s.size 60 : Nat) : Int) = ((60 - min s.size 60 : Nat) : Int) by omega]
  refine pos (by omega) (bnd (congr (fun K _ _ _ _ => repeat_eq K _ (by omega)) (now _)) (pos (by rw [nulls_size]; omega) ?_))
  refine bnd (check_ev (room s) (by omega)) (pos ?_ (now _))
  show (((room s).size + (four (chk (room s))).size : Nat) : Int) ≤ _
  omega
theorem radd_ev (s : ByteArray) (hs : s.size ≤ 4611686018427387903) : E0 (fun K => herbariumref17_Add K s) (addP s) := by
  have key : ∀ t : ByteArray, t.size ≤ 60 → t ++ nulls (60 - t.size) = room s → E0 (fun K => herbariumref17_Add.j1 K t) (addP s) := by
    intro t ht e
    unfold herbariumref17_Add.j1
    rw [w64 (by omega) (by omega), show (60 : Int) - ((t.size : Nat) : Int) = ((60 - t.size : Nat) : Int) by omega]
    refine bnd (congr (fun K _ _ _ _ => zeros_eq K _ (by omega)) (now _)) (pos (by rw [nulls_size]; omega) ?_)
    rw [e]
    have hc := chk_rng (room s)
    refine bnd (rof_ev (room s) (by rw [room_size]; omega)) (bnd (congr (fun K _ _ _ _ => by rw [w64 (by omega) (by omega)]; exact number_eq K _) (now _)) (pos ?_ (now _)))
    rw [room_size, four_size]; omega
  by_cases h60 : ((s.size : Nat) : Int) > 60
  · refine posD h60 (pos (by omega) (key _ ?_ ?_))
    · rw [ByteArray.size_extract]; show min 60 s.size - 0 ≤ 60; omega
    · unfold room
      rw [ByteArray.size_extract]
      show s.extract 0 60 ++ nulls (60 - (min 60 s.size - 0)) = _
      rw [Nat.min_comm, Nat.sub_zero, show min s.size 60 = 60 by omega]
  · refine negD h60 (key s (by omega) ?_)
    unfold room
    rw [show min s.size 60 = s.size by omega, ByteArray.extract_zero_size]
def okB (s : ByteArray) : Prop := s.size = 64 ∧ four (chk (s.extract 0 60)) = s.extract 60 64
instance (s : ByteArray) : Decidable (okB s) := by unfold okB; infer_instance
def takeP (s : ByteArray) : ByteArray × Bool := if okB s then (s.extract 0 60, true) else (ByteArray.empty, false)
theorem ext_size {s : ByteArray} (h : s.size = 64) : (s.extract 0 60).size = 60 := by rw [ByteArray.size_extract]; omega
theorem split64 {s : ByteArray} (h : s.size = 64) : s = s.extract 0 60 ++ s.extract 60 64 := by
  rw [ByteArray.extract_append_extract]; show s = s.extract 0 64; rw [← h, ByteArray.extract_zero_size]
theorem take_ev (s : ByteArray) : E0 (fun K => seal_Take K s) (takeP s) := by
  unfold takeP
  by_cases h : s.size = 64
  · refine negN (by omega) (pos (by omega) (bnd (check_ev _ (by rw [show ((60 : Int)).toNat = 60 from rfl, show ((0 : Int)).toNat = 0 from rfl, ext_size h]; omega)) (pos (by omega) ?_)))
    rw [show (((s.size : Nat) : Int)).toNat = 64 by omega, show ((60 : Int)).toNat = 60 from rfl, show ((0 : Int)).toNat = 0 from rfl, beq_str]
    by_cases c : four (chk (s.extract 0 60)) = s.extract 60 64
    · rw [if_pos (show okB s from ⟨h, c⟩)]; exact negM c (pos (by omega) (now _))
    · rw [if_neg (fun z : okB s => c z.2)]; exact posM c (now _)
  · rw [if_neg (fun z : okB s => h z.1)]; exact posN (by omega) (now _)
theorem rtake_ev (s : ByteArray) : E0 (fun K => herbariumref17_Take K s) (takeP s) := by
  unfold takeP
  by_cases h : s.size = 64
  · have he := ext_size h
    refine negN (by omega) (pos (by omega) (bnd (radd_ev _ (by rw [show ((60 : Int)).toNat = 60 from rfl, show ((0 : Int)).toNat = 0 from rfl, he]; omega)) ?_))
    rw [show ((60 : Int)).toNat = 60 from rfl, show ((0 : Int)).toNat = 0 from rfl, beq_str]
    have hi : addP (s.extract 0 60) = s ↔ four (chk (s.extract 0 60)) = s.extract 60 64 := by
      unfold addP
      rw [room_self he]
      constructor
      · intro e
        have e2 := e.trans (split64 h)
        exact bytesL_inj (List.append_cancel_left (by rw [← bytesL_app, ← bytesL_app, e2]))
      · intro e; rw [e]; exact (split64 h).symm
    by_cases c : four (chk (s.extract 0 60)) = s.extract 60 64
    · rw [if_pos (show okB s from ⟨h, c⟩)]; exact negM (hi.2 c) (pos (by omega) (now _))
    · rw [if_neg (fun z : okB s => c z.2)]; exact posM (fun e => c (hi.1 e)) (now _)
  · rw [if_neg (fun z : okB s => h z.1)]; exact posN (by omega) (now _)
end Go.XL
end
section
namespace Go.XL
open Go.XM
theorem strN {α : Type} {a b : ByteArray} {f g : Nat → Nat → Nat → Nat → Nat → Option α} {r : α} (h : a = b) (k : Ev g r) : Ev (fun x y z u v => if (!(a.toList == b.toList)) = true then f x y z u v else g x y z u v) r := neg (by rw [h]; simp) k
def Fit (l : List ByteArray) : Prop := l.length * 16 ≤ 140737488351232 ∧ ∀ y ∈ l, y.size ≤ 140737488351232
theorem texts_ev (xs : List ByteArray) (h : Fit xs) : ∃ r : Int, E0 (fun K => herbariumlaw0_Texts K xs) r := by
  obtain ⟨hl, hx⟩ := h
  have key : ∀ i, i ≤ xs.length → ∀ s : Int, 0 ≤ s → s ≤ 140737489399808 → ∃ r : Int, E1 (fun K k => herbariumlaw0_Texts.l1 K xs k s (i : Int)) r := by
    refine upto ?_ ?_
    · intro s _ _
      exact ⟨s, step1 (fun _ _ _ _ _ => herbariumlaw0_Texts.l1.eq_2 ..) (negD (by omega) (now _))⟩
    · intro i hi ih s s0 s1
      by_cases c : s < 1048576
      · have hy := hx _ (getD_mem (d := default) hi)
        obtain ⟨r, hr⟩ := ih (s + (((xs.getD i default).size : Nat) : Int)) (by omega) (by omega)
        refine ⟨r, step1 (fun _ _ _ _ _ => herbariumlaw0_Texts.l1.eq_2 ..) (posD (by omega) (posD c (pos (by omega) ?_)))⟩
        rw [nthN, w64 (by omega) (by omega), w1 (by omega)]
        exact hr
      · exact ⟨s, step1 (fun _ _ _ _ _ => herbariumlaw0_Texts.l1.eq_2 ..) (posD (by omega) (negD c (now _)))⟩
  obtain ⟨r, h⟩ := key 0 (by omega) (xs.length : Int) (by omega) (by omega)
  exact ⟨r, h.e1⟩
theorem heavy17_ev (x : herbariumlaw17_Ask) (h : Fit x) : ∃ b, E0 (fun K => herbariumlaw17_Heavy K x) b := by
  obtain ⟨r, hr⟩ := texts_ev x h
  exact ⟨_, bnd hr (now _)⟩
theorem addP_ok (s : ByteArray) : okB (addP s) := by
  have h1 := room_size s
  have h2 := four_size (chk (room s))
  refine ⟨addP_size s, ?_⟩
  unfold addP
  rw [ByteArray.extract_append_eq_left h1.symm, ByteArray.extract_append_eq_right h1.symm (by rw [h1, h2])]
theorem addP_head (s : ByteArray) : (addP s).extract 0 60 = room s := ByteArray.extract_append_eq_left (room_size s).symm
end Go.XL
end
section
namespace Go.XL
open Go.XM
theorem zerosB (K n : Nat) (h : n ≤ 140737488355328) : herbariumref0_Zeros K (n : Int) = some (nulls n) := by
  unfold herbariumref0_Zeros
  rw [if_pos ⟨rfl, by omega, by omega, by omega⟩, Int.toNat_natCast, bytesOf_zero]
theorem orN {a c t : Nat} (hc : c < 2 ^ t) (h : a * 2 ^ t + c < 9223372036854775808) : ib .or .i64 ((a * 2 ^ t : Nat) : Int) (c : Int) = ((a * 2 ^ t + c : Nat) : Int) := by
  have h1 : (a * 2 ^ t) ||| c = a * 2 ^ t + c := by
    have := Nat.two_pow_add_eq_or_of_lt hc a
    rw [Nat.mul_comm a]
    exact this.symm
  have h2 : (BitVec.ofInt 64 ((a * 2 ^ t : Nat) : Int) ||| BitVec.ofInt 64 (c : Int)).toNat = a * 2 ^ t + c := by
    rw [BitVec.toNat_or]
    simp only [BitVec.ofInt_natCast, BitVec.toNat_ofNat]
    rw [Nat.mod_eq_of_lt (by omega), Nat.mod_eq_of_lt (by omega), h1]
  show IntKind.wrap .i64 ((BitVec.ofInt 64 ((a * 2 ^ t : Nat) : Int) ||| BitVec.ofInt 64 (c : Int)).toNat : Int) = _
  rw [h2, wr_eq]
  exact w64 (by omega) (by omega)
def numL (l : List Int) : Int := l.getD 0 0 * 16777216 + l.getD 1 0 * 65536 + l.getD 2 0 * 256 + l.getD 3 0
def num4 (s : ByteArray) : Int := numL (bytesL s)
theorem byte_nat (s : ByteArray) (i : Nat) : ∃ a : Nat, (bytesL s).getD i 0 = (a : Int) ∧ a < 256 := by
  by_cases h : i < (bytesL s).length
  · have := bytesL_rng s _ (getD_mem (d := 0) h)
    exact ⟨((bytesL s).getD i 0).toNat, by omega, by omega⟩
  · exact ⟨0, by rw [List.getD_eq_getElem?_getD, List.getElem?_eq_none (by omega)]; rfl, by decide⟩
theorem num4_rng (s : ByteArray) : 0 ≤ num4 s ∧ num4 s < 4294967296 := by
  obtain ⟨a, ea, ha⟩ := byte_nat s 0
  obtain ⟨b, eb, hb⟩ := byte_nat s 1
  obtain ⟨c, ec, hc⟩ := byte_nat s 2
  obtain ⟨d, ed, hd⟩ := byte_nat s 3
  unfold num4 numL
  rw [ea, eb, ec, ed]; omega
theorem read_eq (K : Nat) (s : ByteArray) (h : 4 ≤ s.size) : herbariumref17_read K s = some (num4 s) := by
  obtain ⟨a, ea, ha⟩ := byte_nat s 0
  obtain ⟨b, eb, hb⟩ := byte_nat s 1
  obtain ⟨c, ec, hc⟩ := byte_nat s 2
  obtain ⟨d, ed, hd⟩ := byte_nat s 3
  have e0 : bt s 0 = (a : Int) := by rw [← ea]; exact bt_get s 0
  have e1 : bt s 1 = (b : Int) := by rw [← eb]; exact bt_get s 1
  have e2 : bt s 2 = (c : Int) := by rw [← ec]; exact bt_get s 2
  have e3 : bt s 3 = (d : Int) := by rw [← ed]; exact bt_get s 3
  unfold herbariumref17_read num4 numL
  rw [ea, eb, ec, ed, e0, e1, e2, e3]
  rw [if_pos (by omega), if_pos (by decide), if_pos (by omega), if_pos (by decide), if_pos (by omega), if_pos (by decide), if_pos (by omega)]
  rw [w64 (i := (a : Int)) (by omega) (by omega), w64 (i := (b : Int)) (by omega) (by omega), w64 (i := (c : Int)) (by omega) (by omega), w64 (i := (d : Int)) (by omega) (by omega)]
  rw [show (2 : Int) ^ min ((24 : Int)).toNat 64 = 16777216 from rfl, show (2 : Int) ^ min ((16 : Int)).toNat 64 = 65536 from rfl, show (2 : Int) ^ min ((8 : Int)).toNat 64 = 256 from rfl]
  rw [w64 (i := (a : Int) * 16777216) (by omega) (by omega), w64 (i := (b : Int) * 65536) (by omega) (by omega), w64 (i := (c : Int) * 256) (by omega) (by omega)]
  have o1 := orN (a := a) (c := b * 65536) (t := 24) (by omega) (by omega)
  have o2 := orN (a := a * 256 + b) (c := c * 256) (t := 16) (by omega) (by omega)
  have o3 := orN (a := a * 65536 + b * 256 + c) (c := d) (t := 8) (by omega) (by omega)
  rw [show (a : Int) * 16777216 = ((a * 2 ^ 24 : Nat) : Int) by omega, show (b : Int) * 65536 = ((b * 65536 : Nat) : Int) by omega, o1]
  rw [show (a * 2 ^ 24 + b * 65536) = (a * 256 + b) * 2 ^ 16 by omega, show (c : Int) * 256 = ((c * 256 : Nat) : Int) by omega, o2]
  rw [show (a * 256 + b) * 2 ^ 16 + c * 256 = (a * 65536 + b * 256 + c) * 2 ^ 8 by omega, o3, Option.some.injEq]
  omega
abbrev Rd := __image_Reader__Number
theorem rd_ev (s : ByteArray) (b : Bool) (h : s.size ≤ 4611686018427387903) : E0 (fun K => Rd K ((s, b) : image_Reader)) (if b = true ∨ s.size < 4 then (0, (s, true)) else (num4 s, (s.extract 4 s.size, false))) := by
  show E0 (fun K => __image_Reader__Number K ((s, b) : image_Reader)) _
  unfold __image_Reader__Number
  cases b with
  | true => rw [if_pos (.inl rfl)]; exact pos rfl (now _)
  | false =>
    refine negB rfl ?_
    show Ev (fun K _ _ _ _ => if decide (((s.size : Nat) : Int) < 4) = true then _ else _) _
    by_cases c : s.size < 4
    · rw [if_pos (.inr c)]; exact posD (by omega) (now _)
    · rw [if_neg (fun z => z.elim (fun z => by cases z) c)]
      refine negD (by omega) (pos ⟨by omega, by omega, by show (4 : Int) ≤ ((s.size : Nat) : Int); omega⟩ ?_)
      obtain ⟨x0, ea, ha⟩ := byte_nat s 0
      obtain ⟨x1, eb, hb⟩ := byte_nat s 1
      obtain ⟨x2, ec, hc⟩ := byte_nat s 2
      obtain ⟨x3, ed, hd⟩ := byte_nat s 3
      have hl := bytesL_len s
      have hL : bytesL (s.extract ((0 : Int)).toNat ((4 : Int)).toNat) = [(x0 : Int), x1, x2, x3] := by
        rw [bytesL_ext]
        show ((bytesL s).take 4).drop 0 = _
        match e : bytesL s, hl with
        | p :: q :: r :: t :: l, _ =>
          rw [e] at ea eb ec ed
          simp only [List.getD_cons_zero, List.getD_cons_succ] at ea eb ec ed
          rw [ea, eb, ec, ed]; rfl
        | [], z => simp at z; omega
        | [_], z => simp at z; omega
        | [_, _], z => simp at z; omega
        | [_, _, _], z => simp at z; omega
      rw [show image_Reader.S (s, false) = s from rfl, hL]
      have st : ∀ n c : Nat, n < 4294967296 → c < 256 → ib .or .i64 (wr .i64 ((n : Int) * 2 ^ min ((8 : Int)).toNat 64)) (wr .i64 (c : Int)) = ((n * 256 + c : Nat) : Int) := by
        intro n c hn hc
        rw [show (2 : Int) ^ min ((8 : Int)).toNat 64 = 256 from rfl, w64 (by omega) (by omega), w64 (by omega) (by omega), show (n : Int) * 256 = ((n * 2 ^ 8 : Nat) : Int) by omega]
        exact orN (t := 8) (by omega) (by omega)
      have hlen : ((([(x0 : Int), x1, x2, x3]).length : Nat) : Int) = 4 := rfl
      rw [hlen]
      have go : ∀ (i n c : Nat) (m : Nat) (r : Int × image_Reader), i < 4 → nth [(x0 : Int), x1, x2, x3] (i : Int) = (c : Int) → n < 4294967296 → c < 256 → m = n * 256 + c →
          E1 (fun K k => __image_Reader__Number.l1 K ((s, false) : image_Reader) k (m : Int) 4 ((i + 1 : Nat) : Int) [(x0 : Int), x1, x2, x3]) r → E1 (fun K k => __image_Reader__Number.l1 K ((s, false) : image_Reader) k (n : Int) 4 (i : Int) [(x0 : Int), x1, x2, x3]) r := by
        intro i n c m r hi hn1 hn2 hn3 hm hk
        refine step1 (fun _ _ _ _ _ => __image_Reader__Number.l1.eq_2 ..) (posD (by omega) (pos (by rw [hlen]; omega) (pos (by decide) ?_)))
        rw [hn1, st n c hn2 hn3, ← hm, w1 (by omega)]
        exact hk
      have last : E1 (fun K k => __image_Reader__Number.l1 K ((s, false) : image_Reader) k (((x0 * 256 + x1) * 256 + x2) * 256 + x3 : Nat) 4 ((4 : Nat) : Int) [(x0 : Int), x1, x2, x3]) (num4 s, (s.extract 4 s.size, false)) := by
        refine step1 (fun _ _ _ _ _ => __image_Reader__Number.l1.eq_2 ..) (negD (by omega) (pos ⟨by omega, by show (4 : Int) ≤ ((s.size : Nat) : Int); omega, by omega⟩ (nowE ?_)))
        unfold num4 numL
        rw [ea, eb, ec, ed]
        show ((_, (s.extract 4 (((s.size : Nat) : Int)).toNat, false)) : Int × image_Reader) = _
        rw [Int.toNat_natCast, show ((((x0 * 256 + x1) * 256 + x2) * 256 + x3 : Nat) : Int) = (x0 : Int) * 16777216 + x1 * 65536 + x2 * 256 + x3 by omega]
      exact ((go 0 0 x0 x0 _ (by omega) rfl (by omega) ha (by omega) (go 1 x0 x1 (x0 * 256 + x1) _ (by omega) rfl (by omega) hb rfl (go 2 (x0 * 256 + x1) x2 ((x0 * 256 + x1) * 256 + x2) _ (by omega) rfl (by omega) hc rfl (go 3 ((x0 * 256 + x1) * 256 + x2) x3 _ _ (by omega) rfl (by omega) hd rfl last))))).e1
end Go.XL
end
section
namespace Go.XL
open Go.XM
def chunk (s : ByteArray) (i : Nat) : ByteArray := s.extract (60 * i) (min (60 * i + 60) s.size)
def partsP (s : ByteArray) : List ByteArray := (List.range ((s.size + 59) / 60)).map fun i => addP (chunk s i)
theorem partsP_len (s : ByteArray) : (partsP s).length = (s.size + 59) / 60 := by simp [partsP]
theorem partsP_take {s : ByteArray} {i : Nat} (h : i < (s.size + 59) / 60) : (partsP s).take (i + 1) = (partsP s).take i ++ [addP (chunk s i)] := by
  have e : (partsP s).getD i ByteArray.empty = addP (chunk s i) := by
    unfold partsP
    rw [List.getD_eq_getElem?_getD, List.getElem?_map, List.getElem?_range h]; rfl
  rw [take_getD (d := ByteArray.empty) (by rw [partsP_len]; exact h), e]
theorem chunk_size (s : ByteArray) (i : Nat) : (chunk s i).size ≤ 60 := by unfold chunk; rw [ByteArray.size_extract]; omega
theorem ext_ext (s : ByteArray) {i j k l : Nat} : (s.extract i j).extract k l = s.extract (i + k) (min (i + l) j) := ByteArray.extract_extract
theorem parts_gen {F : Nat → Nat → ByteArray → List ByteArray → Option (List ByteArray)} {A : Nat → ByteArray → Option ByteArray} {c : ByteArray → Bool} (s : ByteArray) (hs : s.size ≤ 140737488351232) (hA : ∀ t : ByteArray, t.size ≤ 60 → E0 (fun K => A K t) (addP t))
    (hc : ∀ t, c t = decide (t.size ≠ 0))
    (hF : ∀ K k t l, F K (k + 1) t l = if c t = true then
      if (0 : Int) ≤ (0 : Int) ∧ (0 : Int) ≤ (if (60 : Int) < ((t.size : Nat) : Int) then (60 : Int) else ((t.size : Nat) : Int)) ∧ (if (60 : Int) < ((t.size : Nat) : Int) then (60 : Int) else ((t.size : Nat) : Int)) ≤ ((t.size : Nat) : Int) then
      (A K (t.extract (0 : Int).toNat (if (60 : Int) < ((t.size : Nat) : Int) then (60 : Int) else ((t.size : Nat) : Int)).toNat)).bind fun r =>
      if (l.length + ([r] : List ByteArray).length) * 16 ≤ 140737488355328 then
      if (0 : Int) ≤ (if (60 : Int) < ((t.size : Nat) : Int) then (60 : Int) else ((t.size : Nat) : Int)) ∧ (if (60 : Int) < ((t.size : Nat) : Int) then (60 : Int) else ((t.size : Nat) : Int)) ≤ ((t.size : Nat) : Int) ∧ ((t.size : Nat) : Int) ≤ ((t.size : Nat) : Int) then
      F K k (t.extract (if (60 : Int) < ((t.size : Nat) : Int) then (60 : Int) else ((t.size : Nat) : Int)).toNat ((t.size : Nat) : Int).toNat) (l ++ [r])
      else none else none else none else some l) : E0 (fun K => F K K s []) (partsP s) := by
  have key : ∀ i, i ≤ (s.size + 59) / 60 → E1 (fun K k => F K k (s.extract (60 * i) s.size) ((partsP s).take i)) (partsP s) := by
    refine upto ?_ ?_
    · refine step1 (fun _ _ _ _ _ => hF _ _ _ _) ?_
      rw [hc]
      refine negD ?_ (nowE (by rw [← partsP_len s, List.take_length]))
      rw [ByteArray.size_extract]; omega
    · intro i hi ih
      refine step1 (fun _ _ _ _ _ => hF _ _ _ _) ?_
      generalize ht : s.extract (60 * i) s.size = t
      have hts : t.size = s.size - 60 * i := by rw [← ht, ByteArray.size_extract]; omega
      have hm : (if (60 : Int) < ((t.size : Nat) : Int) then (60 : Int) else ((t.size : Nat) : Int)) = ((min t.size 60 : Nat) : Int) := by split <;> omega
      rw [hc, hm, Int.toNat_natCast, Int.toNat_natCast, show ((0 : Int)).toNat = 0 from rfl]
      have e1 : t.extract 0 (min t.size 60) = chunk s i := by
        have h := ext_ext s (i := 60 * i) (j := s.size) (k := 0) (l := min t.size 60)
        rw [ht] at h
        rw [h, Nat.add_zero, show min (60 * i + min t.size 60) s.size = min (60 * i + 60) s.size by omega]; rfl
      have e2 : t.extract (min t.size 60) t.size = s.extract (60 * (i + 1)) s.size := by
        by_cases h : 60 ≤ t.size
        · have h1 := ext_ext s (i := 60 * i) (j := s.size) (k := min t.size 60) (l := t.size)
          rw [ht] at h1
          rw [h1, show 60 * i + min t.size 60 = 60 * (i + 1) by omega, show min (60 * i + t.size) s.size = s.size by omega]
        · have z : ∀ {a b : ByteArray}, a.size = 0 → b.size = 0 → a = b := fun h1 h2 => by
            rw [ByteArray.size_eq_zero_iff.1 h1, ByteArray.size_eq_zero_iff.1 h2]
          exact z (by rw [ByteArray.size_extract]; omega) (by rw [ByteArray.size_extract]; omega)
      rw [e1, e2]
      refine posD (by omega) (pos (by omega) (bnd (hA _ (chunk_size s i)) (pos ?_ (pos (by omega) ?_))))
      · have : ((partsP s).take i).length ≤ s.size / 60 + 1 := by rw [List.length_take, partsP_len]; omega
        show (_ + 1) * 16 ≤ _
        omega
      · rw [← partsP_take hi]; exact ih
  have := (key 0 (by omega)).e1
  rwa [Nat.mul_zero, List.take_zero, ByteArray.extract_zero_size] at this
theorem parts_ev (s : ByteArray) (hs : s.size ≤ 140737488351232) : E0 (fun K => image_Parts K s) (partsP s) :=
  parts_gen (F := image_Parts.l1) (A := seal_Add) (c := fun t => !(t.toList == ByteArray.empty.toList)) s hs (fun t ht => add_ev t (by omega)) (fun t => by
    rw [beq_str, ← decide_not]
    exact decide_eq_decide.2 ⟨fun h z => h (ByteArray.size_eq_zero_iff.1 z), fun h z => h (by rw [z]; rfl)⟩) (fun _ _ _ _ => image_Parts.l1.eq_2 ..)
theorem rparts_ev (s : ByteArray) (hs : s.size ≤ 140737488351232) : E0 (fun K => herbariumref17_Parts K s) (partsP s) :=
  parts_gen (F := herbariumref17_Parts.l1) (A := herbariumref17_Add) (c := fun t => decide (((t.size : Nat) : Int) > 0)) s hs (fun t ht => radd_ev t (by omega)) (fun t => decide_eq_decide.2 (by omega)) (fun _ _ _ _ => herbariumref17_Parts.l1.eq_2 ..)
def wholeP : List ByteArray → Option ByteArray
  | [] => some ByteArray.empty
  | x :: l => if okB x then (wholeP l).map (x.extract 0 60 ++ ·) else none
theorem whole_gen {R : Type} {F : Nat → Nat → ByteArray → Int → Option R} {T : Nat → ByteArray → Option (ByteArray × Bool)} {g : Option ByteArray → R} (l : List ByteArray) (hl : l.length ≤ 17592186044416) (hT : ∀ t, E0 (fun K => T K t) (takeP t))
    (hF : ∀ K k s t, F K (k + 1) s t = if decide (t < ((l.length : Nat) : Int)) = true then
      if (0 : Int) ≤ t ∧ t < ((l.length : Nat) : Int) then
      (T K (nth l t)).bind fun r =>
      if (!r.2) = true then some (g none) else if ((s.size + r.1.size : Nat) : Int) ≤ 9223372036854775807 then F K k (s ++ r.1) (wr .i64 (t + 1)) else none
      else none else some (g (some s))) : E0 (fun K => F K K ByteArray.empty 0) (g (wholeP l)) := by
  have key : ∀ i, i ≤ l.length → ∀ s : ByteArray, s.size = 60 * i → E1 (fun K k => F K k s (i : Int)) (g ((wholeP (l.drop i)).map (s ++ ·))) := by
    refine upto ?_ ?_
    · intro s hs
      refine step1 (fun _ _ _ _ _ => hF _ _ _ _) (negD (by omega) (nowE ?_))
      rw [List.drop_length, wholeP]
      show _ = g (some (s ++ ByteArray.empty))
      rw [ByteArray.append_empty]
    · intro i hi ih s hs
      refine step1 (fun _ _ _ _ _ => hF _ _ _ _) (posD (by omega) (pos (by omega) (bnd (hT _) ?_)))
      rw [nthN, drop_getD (d := default) hi, wholeP]
      unfold takeP
      by_cases c : okB (l.getD i default)
      · rw [if_pos c, if_pos c]
        have h60 := ext_size c.1
        refine neg (fun z => by cases z) (pos ?_ ?_)
        · show ((s.size + ((l.getD i default).extract 0 60).size : Nat) : Int) ≤ _
          rw [h60]; omega
        · rw [w1 (by omega), Option.map_map]
          have := ih (s ++ (l.getD i default).extract 0 60) (by rw [ByteArray.size_append, h60]; omega)
          refine ofEq this ?_
          congr 1
          congr 1
          funext x
          simp [Function.comp, ByteArray.append_assoc]
      · rw [if_neg c, if_neg c]
        exact pos rfl (now _)
  have := (key 0 (by omega) ByteArray.empty rfl).e1
  refine ofEq this ?_
  rw [List.drop_zero]
  congr 1
  cases wholeP l with
  | none => rfl
  | some x => simp
def wP (x : Option ByteArray) : ByteArray × Int := match x with | some s => (s, 0) | none => (ByteArray.empty, 9)
def rwP (x : Option ByteArray) : ByteArray × Bool := match x with | some s => (s, true) | none => (ByteArray.empty, false)
theorem whole_ev (l : List ByteArray) (hl : l.length ≤ 17592186044416) : E0 (fun K => image_Whole K l) (wP (wholeP l)) :=
  whole_gen (F := fun K k s t => image_Whole.l1 K l k s ((l.length : Nat) : Int) t) (T := seal_Take) (g := wP) l hl take_ev (fun _ _ _ _ => image_Whole.l1.eq_2 ..)
theorem rwhole_ev (l : List ByteArray) (hl : l.length ≤ 17592186044416) : E0 (fun K => herbariumref17_Whole K l) (rwP (wholeP l)) :=
  whole_gen (F := fun K k s t => herbariumref17_Whole.l1 K l k s t) (T := herbariumref17_Take) (g := rwP) l hl rtake_ev (fun _ _ _ _ => herbariumref17_Whole.l1.eq_2 ..)
theorem numbers_ev (s : ByteArray) (l : List Int) (hs : s.size ≤ 70368744177664) (hl : l.length ≤ 1000000) : E0 (fun K => image_Numbers K s l) (bytesOf (bytesL s ++ l.flatMap fourL)) := by
  have hb := bytesL_len s
  have hf : ∀ m : List Int, (m.flatMap fourL).length = 4 * m.length := fun m => by induction m with | nil => rfl | cons a m ih => rw [List.flatMap_cons, List.length_append, ih]; show 4 + _ = 4 * (m.length + 1); omega
  have key : ∀ i, i ≤ l.length → E1 (fun K k => image_Numbers.l1 K l k ((l.length : Nat) : Int) (i : Int) (bytesL s ++ (l.take i).flatMap fourL)) (bytesOf (bytesL s ++ l.flatMap fourL)) := by
    refine upto ?_ ?_
    · refine step1 (fun _ _ _ _ _ => image_Numbers.l1.eq_2 ..) (negD (by omega) (nowE ?_))
      rw [List.take_length]
    · intro i hi ih
      refine step1 (fun _ _ _ _ _ => image_Numbers.l1.eq_2 ..) (posD (by omega) (pos (by omega) (pos (by decide) (pos (by decide) (pos (by decide) (pos ?_ ?_))))))
      · rw [List.length_append, hf, List.length_take]
        show (_ + 4) * 1 ≤ _
        omega
      · rw [w1 (by omega), nthN, show (2 : Int) ^ min ((24 : Int)).toNat 64 = 16777216 from rfl, show (2 : Int) ^ min ((16 : Int)).toNat 64 = 65536 from rfl, show (2 : Int) ^ min ((8 : Int)).toNat 64 = 256 from rfl, fdE (by decide), fdE (by decide), fdE (by decide), wu8, wu8, wu8, wu8, List.append_assoc]
        rw [take_getD (d := default) hi, List.flatMap_append] at ih
        exact ih
  have := (key 0 (by omega)).e1
  rwa [List.take_zero, List.flatMap_nil, List.append_nil] at this
theorem data_ev (b : api_Bits) (hs : b.Data.size ≤ 140737488351232) : E0 (fun K => image_Data K b) (four b.N ++ b.Data) := by
  have h := numbers_ev ByteArray.empty [b.N] (by decide) (by show 1 ≤ _; decide)
  have e : bytesOf (bytesL ByteArray.empty ++ [b.N].flatMap fourL) = four b.N := by
    rw [show bytesL ByteArray.empty = [] from rfl, List.nil_append, List.flatMap_cons, List.flatMap_nil, List.append_nil]; rfl
  rw [e] at h
  exact bnd h (pos (by rw [four_size]; omega) (now _))
theorem object_ev (b : api_Bits) (hs : b.Data.size ≤ 1000000) : E0 (fun K => image_Object K b) (if MayB b then (four b.N ++ b.Data, 0) else (ByteArray.empty, 1)) := by
  refine bnd (congr (fun K _ _ _ _ => bMay_eq hs K) (now _)) ?_
  by_cases c : MayB b
  · rw [if_pos c]; exact negM c (bnd (data_ev b (by omega)) (now _))
  · rw [if_neg c]; exact posM c (now _)
theorem robject_ev (b : api_Bits) (hs : b.Data.size ≤ 140737488351232) : E0 (fun K => herbariumref17_Object K b) (four b.N ++ b.Data) :=
  bnd (congr (fun K _ _ _ _ => number_eq K _) (now _)) (pos (by rw [four_size]; omega) (now _))
theorem num4_four {v : Int} (h : 0 ≤ v ∧ v < 4294967296) (t : ByteArray) : num4 (four v ++ t) = v := by
  unfold num4 numL
  rw [bytesL_app, four_L]
  show (v / 16777216 % 256) * 16777216 + (v / 65536 % 256) * 65536 + (v / 256 % 256) * 256 + v % 256 = v
  omega
end Go.XL
end
section
namespace Go.XL
open Go.XM
theorem dropWhile_nil (c : UInt8) : ∀ l : List UInt8, l.dropWhile (· == c) = [] ↔ ∀ x ∈ l, x = c
  | [] => by simp
  | a :: l => by
    rw [List.dropWhile_cons]
    by_cases h : a = c
    · rw [if_pos (by simpa using h), dropWhile_nil c l]
      simp [h]
    · rw [if_neg (by simpa using h)]
      simp [h]
theorem trim_nil (c : UInt8) (l : List UInt8) : Lib.trimB l c = [] ↔ ∀ x ∈ l, x = c := by
  unfold Lib.trimB Lib.trimLeftB Lib.trimRightB
  rw [dropWhile_nil]
  constructor
  · intro h
    have h0 : l.reverse.dropWhile (· == c) = [] := by
      cases e : l.reverse.dropWhile (· == c) with
      | nil => rfl
      | cons a r =>
        exfalso
        have h1 := h a (by rw [List.mem_reverse, e]; exact List.mem_cons_self)
        have h2 := List.head?_dropWhile_not (· == c) l.reverse
        rw [e] at h2
        simp [h1] at h2
    exact fun x hx => (dropWhile_nil c _).1 h0 x (List.mem_reverse.2 hx)
  · intro h x hx
    have : l.reverse.dropWhile (· == c) = [] := (dropWhile_nil c _).2 fun x hx => h x (List.mem_reverse.1 hx)
    rw [this] at hx
    cases hx
theorem nulls_iff (s : ByteArray) : s = nulls s.size ↔ ∀ x ∈ s.data.toList, x = 0 := by
  constructor
  · intro h x hx
    rw [h] at hx
    simp only [nulls] at hx
    exact (List.mem_replicate.1 hx).2
  · intro h
    apply str_ext
    show _ = List.replicate s.size 0
    rw [sz_data]
    exact List.eq_replicate_iff.2 ⟨rfl, h⟩
theorem trim_eq (K : Nat) (s : ByteArray) (hs : s.size ≤ 9223372036854775807) : ∃ r, strings_Trim K s (⟨#[0]⟩ : ByteArray) = some r ∧ (r = ByteArray.empty ↔ s = nulls s.size) := by
  refine ⟨⟨(Lib.trimB s.data.toList 0).toArray⟩, ?_, ?_⟩
  · show trimF s _ = _
    unfold trimF
    show (if (0 : UInt8).toNat < 128 ∧ s.size ≤ 9223372036854775807 then _ else _) = _
    rw [if_pos ⟨by decide, hs⟩]
  · rw [nulls_iff, ← trim_nil]
    constructor
    · intro h
      have := congrArg (fun b : ByteArray => b.data.toList) h
      simpa using this
    · intro h; rw [h]; rfl
abbrev z0b : api_Bits := ((ByteArray.empty, 0) : api_Bits)
def tkO (s : ByteArray) (n : Int) : Option api_Bits :=
  if (0 ≤ n ∧ n ≤ 6000) ∧ 4 + (n.toNat + 7) / 8 ≤ s.size ∧ num4 s = n ∧ MayB ((s.extract 4 (4 + (n.toNat + 7) / 8), n) : api_Bits) ∧ s.extract (4 + (n.toNat + 7) / 8) s.size = nulls (s.size - (4 + (n.toNat + 7) / 8)) then
    some ((s.extract 4 (4 + (n.toNat + 7) / 8), n) : api_Bits) else none
def tO (x : Option api_Bits) : api_Bits × Int := match x with | some b => (b, 0) | none => (z0b, 9)
def rtO (x : Option api_Bits) : api_Bits × Bool := match x with | some b => (b, true) | none => (z0b, false)
theorem blank_ev (n : Int) (h : 0 ≤ n ∧ n ≤ 6000) (K : Nat) : bits_Blank K n = some ((nulls ((n.toNat + 7) / 8), n) : api_Bits) := by
  unfold bits_Blank
  obtain ⟨m, rfl⟩ := Int.eq_ofNat_of_zero_le h.1
  rw [if_pos (by decide), w64 (i := (m : Int) + 8) (by omega) (by omega), w64 (i := (m : Int) + 8 - 1) (by omega) (by omega), show (m : Int) + 8 - 1 = ((m + 7 : Nat) : Int) by omega, show (8 : Int) = ((8 : Nat) : Int) from rfl, tdivN, w64 (by omega) (by omega), Int.toNat_natCast, repeat_eq K _ (by omega)]
  rfl
theorem takeO_ev (s : ByteArray) (n : Int) (hs : s.size ≤ 140737488351232) : E0 (fun K => image_TakeObject K s n) (tO (tkO s n)) := by
  unfold image_TakeObject
  refine bnd (rd_ev s false (by omega)) ?_
  by_cases c0 : s.size < 4
  · rw [if_pos (.inr c0), show tkO s n = none from if_neg (fun z => by have := z.2.1; omega)]
    exact pos rfl (now _)
  rw [if_neg (fun z => z.elim (fun z => by cases z) c0)]
  refine neg (fun z => by cases z) ?_
  show Ev (fun K _ _ _ _ => if (num4 s != n) = true then _ else _) _
  by_cases c1 : num4 s = n
  case neg =>
    rw [show tkO s n = none from if_neg (fun z => c1 z.2.2.1)]
    exact posN c1 (now _)
  refine negN c1 ?_
  have hr := num4_rng s
  by_cases c2 : n > 6000
  · rw [show tkO s n = none from if_neg (fun z => by have := z.1; omega)]
    exact posD c2 (now _)
  have hn : 0 ≤ n ∧ n ≤ 6000 := by omega
  refine negD c2 (bnd (congr (fun K _ _ _ _ => blank_ev n hn K) (now _)) ?_)
  show Ev (fun K _ _ _ _ => if decide ((((s.extract 4 s.size).size : Nat) : Int) < (((nulls ((n.toNat + 7) / 8)).size : Nat) : Int)) = true then _ else _) _
  generalize hz : (n.toNat + 7) / 8 = z
  have hz' : z ≤ 751 := by omega
  have e1 : (s.extract 4 s.size).size = s.size - 4 := by rw [ByteArray.size_extract]; omega
  have e2 : (nulls z).size = z := nulls_size z
  by_cases c3 : s.size - 4 < z
  · rw [show tkO s n = none from if_neg (fun y => by have := y.2.1; omega)]
    exact posD (by rw [e1, e2]; omega) (now _)
  refine negD (by rw [e1, e2]; omega) (pos ⟨by omega, by omega, by show (((nulls z).size : Nat) : Int) ≤ (((s.extract 4 s.size).size : Nat) : Int); rw [e1, e2]; omega⟩ ?_)
  show Ev (fun K _ _ _ _ => (bits_May K (((s.extract 4 s.size).extract 0 ((((nulls z).size : Nat) : Int)).toNat, n) : api_Bits)).bind _) _
  have e3 : (s.extract 4 s.size).extract 0 ((((nulls z).size : Nat) : Int)).toNat = s.extract 4 (4 + z) := by
    rw [Int.toNat_natCast, e2, ext_ext, show min (4 + z) s.size = 4 + z by omega]
  rw [e3]
  have hb : (s.extract 4 (4 + z)).size ≤ 1000000 := by rw [ByteArray.size_extract]; omega
  refine bnd (congr (fun K _ _ _ _ => bMay_eq (b := (s.extract 4 (4 + z), n)) hb K) (now _)) ?_
  by_cases c4 : MayB ((s.extract 4 (4 + z), n) : api_Bits)
  case neg =>
    rw [show tkO s n = none from if_neg (fun y => c4 (by have := y.2.2.2.1; rwa [hz] at this))]
    exact posM c4 (now _)
  refine negM c4 (pos ⟨by omega, by show (((nulls z).size : Nat) : Int) ≤ (((s.extract 4 s.size).size : Nat) : Int); rw [e1, e2]; omega, by omega⟩ ?_)
  have e4 : (s.extract 4 s.size).extract ((((nulls z).size : Nat) : Int)).toNat ((((s.extract 4 s.size).size : Nat) : Int)).toNat = s.extract (4 + z) s.size := by
    rw [Int.toNat_natCast, Int.toNat_natCast, e2, e1, ext_ext, show min (4 + (s.size - 4)) s.size = s.size by omega]
  show Ev (fun K _ _ _ _ => (strings_Trim K ((s.extract 4 s.size).extract ((((nulls z).size : Nat) : Int)).toNat ((((s.extract 4 s.size).size : Nat) : Int)).toNat) _).bind _) _
  rw [e4]
  have e5 : (s.extract (4 + z) s.size).size = s.size - (4 + z) := by rw [ByteArray.size_extract]; omega
  obtain ⟨r, r1, r2⟩ := trim_eq 0 (s.extract (4 + z) s.size) (by omega)
  refine bnd (congr (fun K _ _ _ _ => (r1 : strings_Trim K _ _ = _)) (now _)) ?_
  rw [e5] at r2
  rw [beq_str]
  by_cases c5 : r = ByteArray.empty
  · refine negM c5 (nowE ?_)
    show ((((s.extract 4 s.size).extract 0 ((((nulls z).size : Nat) : Int)).toNat, n) : api_Bits), (0 : Int)) = _
    rw [e3]
    unfold tkO
    rw [hz, if_pos ⟨hn, by omega, c1, c4, r2.1 c5⟩]; rfl
  · refine posM c5 (nowE ?_)
    rw [show tkO s n = none from if_neg (fun y => c5 (r2.2 (by have := y.2.2.2.2; rwa [hz] at this)))]; rfl
theorem rtakeO_ev (s : ByteArray) (n : Int) (hs : s.size ≤ 140737488351232) : E0 (fun K => herbariumref17_TakeObject K s n) (rtO (tkO s n)) := by
  unfold herbariumref17_TakeObject
  refine bnd (congr (fun K _ _ _ _ => num_eq K n 6000) (now _)) ?_
  by_cases hn : 0 ≤ n ∧ n ≤ 6000
  case neg =>
    rw [show tkO s n = none from if_neg (fun z => hn z.1)]
    exact posM hn (now _)
  refine negM hn (pos (by decide) ?_)
  have ez : wr .i64 (4 + (wr .i64 ((wr .i64 (n + 7)).tdiv 8))) = ((4 + (n.toNat + 7) / 8 : Nat) : Int) := by
    obtain ⟨m, rfl⟩ := Int.eq_ofNat_of_zero_le hn.1
    rw [w64 (i := (m : Int) + 7) (by omega) (by omega), show (m : Int) + 7 = ((m + 7 : Nat) : Int) by omega, show (8 : Int) = ((8 : Nat) : Int) from rfl, tdivN, w64 (i := (((m + 7) / 8 : Nat) : Int)) (by omega) (by omega), w64 (by omega) (by omega), Int.toNat_natCast]
    omega
  rw [ez]
  generalize hz : (n.toNat + 7) / 8 = z
  have hz' : z ≤ 751 := by omega
  by_cases c3 : s.size < 4 + z
  · rw [show tkO s n = none from if_neg (fun y => by have := y.2.1; omega)]
    exact posD (by omega) (now _)
  refine negD (by omega) (bnd (congr (fun K _ _ _ _ => read_eq K s (by omega)) (now _)) ?_)
  by_cases c1 : num4 s = n
  case neg =>
    rw [show tkO s n = none from if_neg (fun z => c1 z.2.2.1)]
    exact posN c1 (now _)
  refine negN c1 (pos (by decide) (pos (by omega) ?_))
  rw [Int.toNat_natCast, show ((4 : Int)).toNat = 4 from rfl, Int.toNat_natCast]
  have e6 : (s.extract 4 (4 + z)).size = z := by rw [ByteArray.size_extract]; omega
  rw [e6]
  refine bnd (bnd (rBits_ev (b := (s.extract 4 (4 + z), n)) (by show (s.extract 4 (4 + z)).size ≤ _; omega)) (now _)) ?_
  by_cases c4 : MayB ((s.extract 4 (4 + z), n) : api_Bits)
  case neg =>
    rw [show tkO s n = none from if_neg (fun y => c4 (by have := y.2.2.2.1; rwa [hz] at this))]
    exact posM c4 (now _)
  have e7 : wr .i64 (4 + ((z : Nat) : Int)) = ((4 + z : Nat) : Int) := by rw [w64 (by omega) (by omega)]; omega
  have e8 : wr .i64 ((wr .i64 (((s.size : Nat) : Int) - 4)) - ((z : Nat) : Int)) = ((s.size - (4 + z) : Nat) : Int) := by
    rw [w64 (i := ((s.size : Nat) : Int) - 4) (by omega) (by omega), w64 (by omega) (by omega)]; omega
  rw [e7, e8, Int.toNat_natCast]
  refine negM c4 (pos (by omega) (bnd (congr (fun K _ _ _ _ => zerosB K _ (by omega)) (now _)) ?_))
  rw [beq_str]
  by_cases c5 : s.extract (4 + z) s.size = nulls (s.size - (4 + z))
  · refine negM c5 (nowE ?_)
    unfold tkO
    rw [hz, if_pos ⟨hn, by omega, c1, c4, c5⟩]; rfl
  · refine posM c5 (nowE ?_)
    rw [show tkO s n = none from if_neg (fun y => c5 (by have := y.2.2.2.2; rwa [hz] at this))]; rfl
end Go.XL
end
section
namespace Go.XL
open Go.XM
theorem eql_gen {α : Type} [Inhabited α] [DecidableEq α] {xs ys : List α} (hl : xs.length ≤ 17592186044416) (c : Int → Bool) (hc : ∀ i, c i = !decide (nth xs i = nth ys i)) (F : Nat → Nat → Int → Option Bool)
    (hF : ∀ K k i, F K (k + 1) i = if decide (i < ((xs.length : Nat) : Int)) = true then if (0 : Int) ≤ i ∧ i < ((xs.length : Nat) : Int) then if (0 : Int) ≤ i ∧ i < ((ys.length : Nat) : Int) then if c i = true then some false else F K k (wr .i64 (i + 1)) else none else none else some true)
    (f : Nat → Option Bool) (hf : ∀ K, f K = if (((xs.length : Nat) : Int) != ((ys.length : Nat) : Int)) = true then some false else F K K (0 : Int)) : E0 f (decide (xs = ys)) := by
  refine congr (fun K _ _ _ _ => hf K) ?_
  by_cases he : xs.length = ys.length
  · refine negN (by rw [he]) ?_
    have key : ∀ i, i ≤ xs.length → xs.take i = ys.take i → E1 (fun K k => F K k (i : Int)) (decide (xs = ys)) := by
      refine upto ?_ ?_
      · intro h
        rw [List.take_length, he, List.take_length] at h
        refine step1 (fun _ _ _ _ _ => hF _ _ _) (negD (by omega) (nowE ?_))
        simp [h]
      · intro i hi ih h
        refine step1 (fun _ _ _ _ _ => hF _ _ _) (posD (by omega) (pos (by omega) (pos (by omega) ?_)))
        rw [hc, nthN, nthN]
        by_cases e : xs.getD i default = ys.getD i default
        · refine negM e ?_
          rw [w1 (by omega)]
          exact ih (by rw [take_getD (d := default) hi, take_getD (d := default) (by omega), h, e])
        · refine posM e (nowE ?_)
          exact (decide_eq_false (fun z => e (by rw [z]))).symm
    exact (key 0 (by omega) (by simp)).e1
  · refine posN (by omega) (nowE ?_)
    exact (decide_eq_false (fun z => he (by rw [z]))).symm
theorem copy_gen {α : Type} [Inhabited α] {xs : List α} (c : Nat) (h8 : 8 ≤ c) (hc : xs.length * c ≤ 140737488355328) (F : Nat → Nat → Int → List α → Option (List α))
    (hF : ∀ K k i m, F K (k + 1) i m = if decide (i < ((xs.length : Nat) : Int)) = true then if (0 : Int) ≤ i ∧ i < ((xs.length : Nat) : Int) then if (m.length + ([nth xs i] : List α).length) * c ≤ 140737488355328 then F K k (wr .i64 (i + 1)) (m ++ [nth xs i]) else none else none else some m)
    (f : Nat → Option (List α)) (hf : ∀ K, f K = F K K (0 : Int) []) : E0 f xs := by
  refine congr (fun K _ _ _ _ => hf K) ?_
  have hl : xs.length ≤ 17592186044416 := by
    have := Nat.mul_le_mul_left xs.length h8
    omega
  have key : ∀ i, i ≤ xs.length → E1 (fun K k => F K k (i : Int) (xs.take i)) xs := by
    refine upto ?_ ?_
    · refine step1 (fun _ _ _ _ _ => hF _ _ _ _) (negD (by omega) (nowE ?_))
      simp
    · intro i hi ih
      refine step1 (fun _ _ _ _ _ => hF _ _ _ _) (posD (by omega) (pos (by omega) (pos ?_ ?_)))
      · refine Nat.le_trans (Nat.mul_le_mul_right c ?_) hc
        simp; omega
      · rw [nthN, w1 (by omega), ← take_getD hi]; exact ih
  exact (key 0 (by omega)).e1
theorem baq (a b : ByteArray) : (a == b) = decide (a = b) := by
  obtain ⟨a⟩ := a; obtain ⟨b⟩ := b
  show (a == b) = _
  by_cases h : a = b
  · subst h; simp
  · have : ¬ (ByteArray.mk a = ByteArray.mk b) := fun z => h (by injection z)
    rw [decide_eq_false this]
    simpa using h
theorem eqs_ev (xs ys : List ByteArray) (h : xs.length ≤ 17592186044416) : E0 (fun K => herbariumref0_EqStrings K xs ys) (decide (xs = ys)) :=
  eql_gen h (fun i => !((nth xs i).toList == (nth ys i).toList)) (fun i => by rw [beq_str]) (fun K k i => herbariumref0_EqStrings.l1 K xs ys k i) (fun K k i => herbariumref0_EqStrings.l1.eq_2 ..) _ (fun K => rfl)
theorem copys_ev (xs : List ByteArray) (h : xs.length * 16 ≤ 140737488355328) : E0 (fun K => herbariumref0_CopyStrings K xs) xs :=
  copy_gen 16 (by decide) h (fun K k i m => herbariumref0_CopyStrings.l1 K xs k i m) (fun K k i m => herbariumref0_CopyStrings.l1.eq_2 ..) _ (fun K => rfl)
end Go.XL
end
section
namespace Go.XL
open Go.XM
theorem wakes18j (j : Nat) : herbariumlaw18_wakes (j + 20) = some true := by kernel_rfl
theorem wakes18_ev : E0 (fun K => herbariumlaw18_wakes K) true :=
  ⟨20, fun K _ _ _ _ h _ _ _ _ => by
    obtain ⟨j, rfl⟩ : ∃ j, K = j + 20 := ⟨K - 20, by omega⟩
    exact wakes18j j⟩
theorem same_bits {α : Type} {a : api_Bits} {f g : Nat → Nat → Nat → Nat → Nat → Option α} {r : α} (k : Ev g r) : Ev (fun x y z u v => if (!((a.Data == a.Data) && ((a.N == a.N) && true))) = true then f x y z u v else g x y z u v) r :=
  neg (by rw [baq]; simp) k
variable {x : herbariumlaw17_Ask}
theorem ip_l6 {go1 : Nat → Nat → Int → Option Bool} {go5 : Nat → Nat → Nat → Int → List ByteArray → Option Bool} {t10 t13 : Int} {t : Nat} {ts : List ByteArray} (ht : t < ts.length) (hl : ts.length ≤ 100) (hs : (ts.getD t default).size ≤ 140737488351232)
    (h5 : E2 (fun K a b => go5 K a b ((t + 1 : Nat) : Int) ts) true) : ∀ k : Nat, k ≤ 3 → E3 (fun K a b c => herbariumlaw18_ImageParts.l6 K (go1 K a) (go5 K a b) t10 t13 ts (t : Int) x c (k : Int)) true := by
  refine upto ?_ ?_
  · refine step3 (fun _ _ _ _ _ => herbariumlaw18_ImageParts.l6.eq_2 ..) (negD (by omega) ?_)
    rw [w1 (by omega)]; exact h5
  · intro k hk ih
    refine step3 (fun _ _ _ _ _ => herbariumlaw18_ImageParts.l6.eq_2 ..) (posD (by omega) (pos ⟨by omega, by show (k : Int) < 3; omega⟩ (pos (by omega) ?_)))
    rw [nthN ts]
    generalize nth ([t13, wr .i64 (t13 + 1), (-1)] : List Int) (k : Int) = n
    refine bnd (takeO_ev _ n hs) (pos (by omega) (bnd (rtakeO_ev _ n hs) (bnd (now _) ?_)))
    rw [w1 (by omega)]
    cases tkO (ts.getD t default) n with
    | none => exact neg (by decide) (pos rfl (bnd (now _) (negN rfl (same_bits ih))))
    | some b => exact neg (fun z => by cases z) (neg (fun z => by cases z) (same_bits ih))
theorem ip_l5 {go1 : Nat → Nat → Int → Option Bool} {t13 : Int} {i : Nat} {ts : List ByteArray} (hi : i < 100) (hl : ts.length ≤ 100) (hs : ∀ t ∈ ts, t.size ≤ 140737488351232) (h1 : E1 (fun K a => go1 K a ((i + 1 : Nat) : Int)) true) :
    ∀ t, t ≤ ts.length → E2 (fun K a b => herbariumlaw18_ImageParts.l5 K (go1 K a) (i : Int) t13 x b (t : Int) ts) true := by
  refine upto ?_ ?_
  · refine step2 (fun _ _ _ _ _ => herbariumlaw18_ImageParts.l5.eq_2 ..) (negD (by omega) ?_)
    rw [w1 (by omega)]; exact h1
  · intro t ht ih
    refine step2 (fun _ _ _ _ _ => herbariumlaw18_ImageParts.l5.eq_2 ..) (posD (by omega) ?_)
    exact (ip_l6 (go1 := go1) (go5 := fun K a b => herbariumlaw18_ImageParts.l5 K (go1 K a) (i : Int) t13 x b) ht hl (hs _ (getD_mem ht)) ih 0 (by omega)).e3
theorem ip_l3 {go1 : Nat → Nat → Int → Option Bool} {i : Nat} {ls : List (List ByteArray)} (hx : ∀ y ∈ x.S, y.size ≤ 140737488351232) (hi : i < 100) (hi2 : i < x.S.length) (hn : ls.length ≤ 100) (hs : ∀ l ∈ ls, l.length * 16 ≤ 140737488355328) (h1 : E1 (fun K a => go1 K a ((i + 1 : Nat) : Int)) true) :
    ∀ t, t ≤ ls.length → E2 (fun K a b => herbariumlaw18_ImageParts.l3 K (go1 K a) (i : Int) ls x b (t : Int)) true := by
  refine upto ?_ ?_
  · refine step2 (fun _ _ _ _ _ => herbariumlaw18_ImageParts.l3.eq_2 ..) (negD (by omega) (pos (by omega) (pos (by omega) (pos (by omega) ?_))))
    rw [nthN]
    generalize hsx : x.S.getD i default = s
    have hss : s.size ≤ 140737488351232 := by rw [← hsx]; exact hx _ (getD_mem hi2)
    have e1 : (if (625 : Int) < ((s.size : Nat) : Int) then (625 : Int) else ((s.size : Nat) : Int)) = ((min s.size 625 : Nat) : Int) := by split <;> omega
    rw [e1, Int.toNat_natCast, show ((0 : Int)).toNat = 0 from rfl]
    generalize (if (5000 : Int) < (wr .i64 (8 * ((s.size : Nat) : Int))) then (5000 : Int) else (wr .i64 (8 * ((s.size : Nat) : Int)))) = n
    generalize hb : ((s.extract 0 (min s.size 625), n) : api_Bits) = b
    have hbs : (api_Bits.Data b).size ≤ 625 := by rw [← hb]; show (s.extract 0 (min s.size 625)).size ≤ _; rw [ByteArray.size_extract]; omega
    have j4 : ∀ (t14 : Int) (t15 : ByteArray), t15.size ≤ 1000 → E1 (fun K a => herbariumlaw18_ImageParts.j4 K (go1 K a) (t15, t14) (i : Int) x n t14 t15) true := by
      intro t14 t15 h15
      refine bnd (now _) (negN rfl (neg (by simp) (pos ?_ (pos ?_ (pos (by omega) ?_)))))
      · show ((t15.size + 2 : Nat) : Int) ≤ _; omega
      · show ((t15.size + 1 : Nat) : Int) ≤ _; omega
      · rw [nthN, hsx]
        refine (ip_l5 (go1 := go1) (i := i) hi ?_ ?_ h1 0 (by omega)).e2
        · show 5 ≤ 100; decide
        intro t ht
        simp only [List.mem_cons, List.not_mem_nil, or_false] at ht
        rcases ht with rfl | rfl | rfl | rfl | rfl
        · omega
        · rw [ByteArray.size_append]; show _ + 2 ≤ _; omega
        · rw [ByteArray.size_append]; show _ + 1 ≤ _; omega
        · exact hss
        · decide
    refine pos (by omega) (bnd (object_ev b (by omega)) (bnd (rBits_ev (by omega)) ?_))
    by_cases c : MayB b
    · rw [if_pos c]
      refine pos (by simpa using c) (bnd (robject_ev b (by omega)) ?_)
      exact j4 0 _ (by rw [ByteArray.size_append, four_size]; omega)
    · rw [if_neg c]
      exact neg (by simpa using c) (j4 1 ByteArray.empty (by decide))
  · intro t ht ih
    have hc := hs _ (getD_mem (d := default) ht)
    refine step2 (fun _ _ _ _ _ => herbariumlaw18_ImageParts.l3.eq_2 ..) (posD (by omega) (pos (by omega) ?_))
    rw [nthN ls]
    refine bnd (copys_ev _ hc) (bnd (whole_ev _ (by omega)) (pos (by omega) (bnd (rwhole_ev _ (by omega)) (bnd (now _) ?_))))
    rw [w1 (by omega)]
    have last : E2 (fun K a b => (herbariumref0_EqStrings K (ls.getD t default) (ls.getD t default)).bind fun r143 => if (!r143) = true then some false else herbariumlaw18_ImageParts.l3 K (go1 K a) (i : Int) ls x b ((t + 1 : Nat) : Int)) true :=
      bnd (eqs_ev _ _ (by omega)) (negM rfl ih)
    cases wholeP (ls.getD t default) with
    | none => exact neg (by decide) (pos rfl (bnd (now _) (negN rfl (strN rfl (pos (by omega) last)))))
    | some s => exact neg (fun z => by cases z) (neg (fun z => by cases z) (strN rfl (pos (by omega) last)))
theorem ip_l1 (h : Fit x) : ∀ i : Nat, i ≤ 8 → E1 (fun K a => herbariumlaw18_ImageParts.l1 K x a (i : Int)) true := by
  have hx : ∀ y ∈ x.S, y.size ≤ 140737488351232 := h.2
  refine upto ?_ ?_
  · refine step1 (fun _ _ _ _ _ => herbariumlaw18_ImageParts.l1.eq_2 ..) ?_
    by_cases c : 8 < x.S.length
    · exact posD (by omega) (negD (by omega) (bnd wakes18_ev (now _)))
    · exact negD (by omega) (bnd wakes18_ev (now _))
  · intro i hi ih
    refine step1 (fun _ _ _ _ _ => herbariumlaw18_ImageParts.l1.eq_2 ..) ?_
    by_cases c : i < x.S.length
    case neg => exact negD (by omega) (bnd wakes18_ev (now _))
    refine posD (by omega) (posD (by omega) (pos (by omega) ?_))
    rw [nthN]
    generalize hsx : x.S.getD i default = s
    have hss : s.size ≤ 140737488351232 := by rw [← hsx]; exact hx _ (getD_mem c)
    have hpl := partsP_len s
    refine bnd (parts_ev s hss) (pos (by omega) (bnd (rparts_ev s hss) (bnd (eqs_ev _ _ (by omega)) (negM rfl (pos (by omega) ?_)))))
    have h0 : ∀ l ∈ ([partsP s, [s], []] : List (List ByteArray)), l.length * 16 ≤ 140737488355328 := by
      intro l hl
      simp only [List.mem_cons, List.not_mem_nil, or_false] at hl
      rcases hl with rfl | rfl | rfl
      · omega
      · show 1 * 16 ≤ _; decide
      · show 0 * 16 ≤ _; decide
    by_cases c0 : (partsP s).length > 0
    · refine posD (by omega) (bnd (copys_ev _ (by omega)) ?_)
      have e1 : wr .i64 ((((partsP s).length : Nat) : Int) - 1) = (((partsP s).length - 1 : Nat) : Int) := by rw [w64 (by omega) (by omega)]; omega
      rw [e1, nthN, Int.toNat_natCast]
      have e64 : ((partsP s).getD ((partsP s).length - 1) default).size = 64 := by
        have hm : (partsP s).getD ((partsP s).length - 1) default ∈ partsP s := getD_mem (by omega)
        obtain ⟨j, _, hj⟩ := List.mem_map.1 hm
        rw [← hj]; exact addP_size _
      refine pos (by omega) (pos (by rw [e64]; decide) (pos ?_ (pos (by omega) (bnd (copys_ev _ (by omega)) (pos (by omega) (pos ?_ (pos (by show (3 + 2) * 24 ≤ _; decide) ?_)))))))
      · rw [ByteArray.size_extract, e64]; decide
      · show (_ + 1) * 16 ≤ _; omega
      · refine (ip_l3 (go1 := fun K a => herbariumlaw18_ImageParts.l1 K x a) hx (by omega) c ?_ ?_ ih 0 (by omega)).e2
        · show 5 ≤ 100; decide
        intro l hl
        rcases List.mem_append.1 hl with hl | hl
        · exact h0 l hl
        · simp only [List.mem_cons, List.not_mem_nil, or_false] at hl
          rcases hl with rfl | rfl
          · rw [List.length_set]; omega
          · rw [List.length_append]; show (_ + 1) * 16 ≤ _; omega
    · refine negD (by omega) ?_
      exact (ip_l3 (go1 := fun K a => herbariumlaw18_ImageParts.l1 K x a) hx (by omega) c (by show 3 ≤ 100; decide) h0 ih 0 (by omega)).e2
theorem imageParts_pure (x : herbariumlaw17_Ask) (h : Fit x) : ∃ K, herbariumlaw18_ImageParts K x = some true := by
  obtain ⟨b, hb⟩ := heavy17_ev x h
  refine Ev.get (g := fun K => herbariumlaw18_ImageParts K x) (bnd hb ?_)
  cases b with
  | true => exact pos rfl (now _)
  | false => exact negB rfl (ip_l1 h 0 (by omega)).e1
end Go.XL
end
section
namespace Go.XL
open Go.XM
theorem okB_map (s : ByteArray) (i : Nat) : okB (addP (chunk s i)) := addP_ok _
theorem nulls_zero : nulls 0 = ByteArray.empty := rfl
theorem room_short {s : ByteArray} (h : s.size ≤ 60) : room s = s ++ nulls (60 - s.size) := by
  unfold room
  rw [show min s.size 60 = s.size by omega, ByteArray.extract_zero_size]
theorem emp {s : ByteArray} (h : s.size = 0) : s = ByteArray.empty := ByteArray.size_eq_zero_iff.1 h
theorem whole_parts (s : ByteArray) : wholeP (partsP s) = some (s ++ nulls (60 * ((s.size + 59) / 60) - s.size)) := by
  have hl := partsP_len s
  generalize hN : (s.size + 59) / 60 = N at *
  have key : ∀ i, i ≤ N → wholeP ((partsP s).drop i) = some (s.extract (60 * i) s.size ++ nulls (if i < N then 60 * N - s.size else 0)) := by
    refine upto ?_ ?_
    · rw [List.drop_eq_nil_of_le (by omega), if_neg (by omega), wholeP, nulls_zero, ByteArray.append_empty, emp (s := s.extract (60 * N) s.size) (by rw [ByteArray.size_extract]; omega)]
    · intro i hi ih
      have hd : (partsP s).getD i default = addP (chunk s i) := by
        unfold partsP
        rw [List.getD_eq_getElem?_getD, List.getElem?_map, List.getElem?_range (by omega)]; rfl
      rw [drop_getD (d := default) (by omega), hd, wholeP, if_pos (okB_map s i), addP_head, ih, if_pos hi]
      show some (room (chunk s i) ++ _) = _
      rw [room_short (chunk_size s i)]
      have hcs : (chunk s i).size = min (60 * i + 60) s.size - 60 * i := by unfold chunk; rw [ByteArray.size_extract]; omega
      by_cases c : i + 1 < N
      · rw [if_pos c, show 60 - (chunk s i).size = 0 by omega, nulls_zero, ByteArray.append_empty, ← ByteArray.append_assoc]
        congr 2
        unfold chunk
        rw [show min (60 * i + 60) s.size = 60 * (i + 1) by omega]
        exact (ByteArray.extract_eq_extract_append_extract _ (by omega) (by omega)).symm
      · rw [if_neg c, nulls_zero, ByteArray.append_empty, emp (s := s.extract (60 * (i + 1)) s.size) (by rw [ByteArray.size_extract]; omega), ByteArray.append_empty]
        unfold chunk at hcs ⊢
        rw [show min (60 * i + 60) s.size = s.size by omega] at hcs ⊢
        rw [show 60 - (s.extract (60 * i) s.size).size = 60 * N - s.size by omega]
  have := key 0 (by omega)
  rw [List.drop_zero, Nat.mul_zero, ByteArray.extract_zero_size] at this
  rw [this]
  by_cases c : 0 < N
  · rw [if_pos c]
  · rw [if_neg c, show 60 * N - s.size = 0 by omega]
theorem tkO_data {b : api_Bits} (h : MayB b) (p : Nat) (n : Int) : tkO (four b.N ++ b.Data ++ nulls p) n = if n = b.N then some b else none := by
  obtain ⟨h0, h1, h2, h3⟩ := h
  have hf := four_size b.N
  have hn : num4 (four b.N ++ b.Data ++ nulls p) = b.N := by rw [ByteArray.append_assoc]; exact num4_four (by omega) _
  have hs : (four b.N ++ b.Data ++ nulls p).size = 4 + b.Data.size + p := by rw [ByteArray.size_append, ByteArray.size_append, hf, nulls_size]
  unfold tkO
  by_cases c : n = b.N
  · subst c
    have e1 : (four b.N ++ b.Data ++ nulls p).extract 4 (4 + (b.N.toNat + 7) / 8) = b.Data := by
      rw [← h2, ByteArray.append_assoc, ByteArray.extract_append, emp (s := (four b.N).extract 4 (4 + b.Data.size)) (by rw [ByteArray.size_extract, hf]; omega), ByteArray.empty_append, hf]
      show (b.Data ++ nulls p).extract 0 (4 + b.Data.size - 4) = _
      exact ByteArray.extract_append_eq_left (by omega)
    have e2 : (four b.N ++ b.Data ++ nulls p).extract (4 + (b.N.toNat + 7) / 8) (four b.N ++ b.Data ++ nulls p).size = nulls p := by
      rw [← h2]
      exact ByteArray.extract_append_eq_right (by rw [ByteArray.size_append, hf]) (by rw [ByteArray.size_append (a := four b.N ++ b.Data), ByteArray.size_append, hf])
    rw [e1, e2, hs, if_pos rfl, if_pos ⟨⟨h0, h1⟩, by omega, hn, ⟨h0, h1, h2, h3⟩, by rw [show 4 + b.Data.size + p - (4 + (b.N.toNat + 7) / 8) = p by omega]⟩]
  · rw [if_neg c, if_neg (fun z => c (by rw [← z.2.2.1]; exact hn))]
theorem or_byte {a r : Nat} (ha : a < 256) (hr : r < 8) : ∃ v : Nat, ib .or .u8 (a : Int) ((128 : Int).fdiv (2 ^ min ((r : Int)).toNat 8)) = (v : Int) ∧ v < 256 ∧ ∀ q, q ≠ 7 - r → v / 2 ^ q % 2 = a / 2 ^ q % 2 := by
  have e1 : (128 : Int).fdiv (2 ^ min ((r : Int)).toNat 8) = ((2 ^ (7 - r) : Nat) : Int) := by
    rw [Int.toNat_natCast]
    have : r = 0 ∨ r = 1 ∨ r = 2 ∨ r = 3 ∨ r = 4 ∨ r = 5 ∨ r = 6 ∨ r = 7 := by omega
    rcases this with e | e | e | e | e | e | e | e <;> rw [e] <;> decide
  have hp : 2 ^ (7 - r) < 2 ^ 8 := Nat.pow_lt_pow_right (by decide) (by omega)
  have hv : a ||| 2 ^ (7 - r) < 2 ^ 8 := Nat.or_lt_two_pow (by omega) hp
  refine ⟨a ||| 2 ^ (7 - r), ?_, hv, fun q hq => ?_⟩
  · rw [e1]
    have h2 : (BitVec.ofInt 8 (a : Int) ||| BitVec.ofInt 8 ((2 ^ (7 - r) : Nat) : Int)).toNat = a ||| 2 ^ (7 - r) := by
      rw [BitVec.toNat_or]
      simp only [BitVec.ofInt_natCast, BitVec.toNat_ofNat]
      rw [Nat.mod_eq_of_lt (by omega), Nat.mod_eq_of_lt hp]
    show wr .u8 ((BitVec.ofInt 8 (a : Int) ||| BitVec.ofInt 8 ((2 ^ (7 - r) : Nat) : Int)).toNat : Int) = _
    rw [h2, wu8]; omega
  · have h := Nat.testBit_or a (2 ^ (7 - r)) q
    rw [Nat.testBit_two_pow_of_ne (Ne.symm hq), Bool.or_false, Nat.testBit_eq_decide_div_mod_eq, Nat.testBit_eq_decide_div_mod_eq] at h
    have h := decide_eq_decide.1 h
    omega
def RowZ (n : Nat) (l : List Int) : Prop := l.length = (n + 7) / 8 ∧ (∀ v ∈ l, 0 ≤ v ∧ v ≤ 255) ∧ Zs (bytesOf l) n
theorem bof_row {l : List Int} (h : ∀ v ∈ l, 0 ≤ v ∧ v ≤ 255) (i : Nat) : bof (bytesOf l) i = (((l.getD (i / 8) 0).toNat / 2 ^ (7 - i % 8) % 2 : Nat) : Int) := by
  unfold bof; rw [bt_get, bytesL_bytesOf h]
theorem rowZ_set {n k : Nat} {l : List Int} (h : RowZ n l) (hk : k < n) : RowZ n (l.set (k / 8) (ib .or .u8 (l.getD (k / 8) 0) ((128 : Int).fdiv (2 ^ min (((k % 8 : Nat) : Int)).toNat 8)))) := by
  obtain ⟨h1, h2, h3⟩ := h
  have hk8 : k / 8 < l.length := by omega
  have hm := h2 _ (getD_mem (d := 0) hk8)
  obtain ⟨a, ea⟩ := Int.eq_ofNat_of_zero_le hm.1
  rw [ea]
  obtain ⟨v, v1, v2, v3⟩ := or_byte (a := a) (r := k % 8) (by omega) (by omega)
  rw [v1]
  have h2' : ∀ u ∈ l.set (k / 8) (v : Int), 0 ≤ u ∧ u ≤ 255 := by
    intro u hu
    rcases List.mem_or_eq_of_mem_set hu with hu | rfl
    · exact h2 u hu
    · omega
  refine ⟨by rw [List.length_set]; exact h1, h2', fun i hi hn => ?_⟩
  rw [bytesOf_size, List.length_set] at hi
  have h0 := h3 i (by rw [bytesOf_size]; exact hi) hn
  rw [bof_row h2] at h0
  rw [bof_row h2', getD_set _ _ _ _ hk8]
  by_cases c : i / 8 = k / 8
  · rw [if_pos c, Int.toNat_natCast]
    rw [c, ea, Int.toNat_natCast] at h0
    rw [v3 _ (by omega)]; exact h0
  · rw [if_neg c]; exact h0
variable {x : herbariumlaw17_Ask}
theorem io_end {go1 : Nat → Nat → Int → Option Bool} {n : Nat} (hn : n < 1300) {l : List Int} (h : RowZ n l) (h1 : E1 (fun K a => go1 K a ((n + 13 : Nat) : Int)) true) {k : Nat} (hk : n ≤ k) : E2 (fun K a b => herbariumlaw18_ImageObjects.l2 K (go1 K a) (n : Int) x b (k : Int) l) true := by
  refine step2 (fun _ _ _ _ _ => herbariumlaw18_ImageObjects.l2.eq_2 ..) (negD (by omega) ?_)
  have hs : (bytesOf l).size = (n + 7) / 8 := by rw [bytesOf_size]; exact h.1
  have hM : MayB ((bytesOf l, (n : Int)) : api_Bits) := ⟨by show 0 ≤ (n : Int); omega, by show (n : Int) ≤ 6000; omega, by show (bytesOf l).size = ((n : Int).toNat + 7) / 8; rw [Int.toNat_natCast]; exact hs, by show Zs (bytesOf l) (n : Int).toNat; rw [Int.toNat_natCast]; exact h.2.2⟩
  generalize hb : ((bytesOf l, (n : Int)) : api_Bits) = b at hM
  have hbs : (api_Bits.Data b).size ≤ 1000 := by rw [← hb]; show (bytesOf l).size ≤ _; omega
  have hbN : api_Bits.N b = (n : Int) := by rw [← hb]
  refine bnd (object_ev b (by omega)) ?_
  rw [if_pos hM]
  generalize hd : four (api_Bits.N b) ++ api_Bits.Data b = d
  have hds : d.size ≤ 1004 := by rw [← hd, ByteArray.size_append, four_size]; omega
  refine bnd (parts_ev d (by omega)) (bnd (whole_ev _ (by rw [partsP_len]; omega)) ?_)
  rw [whole_parts]
  generalize hp : 60 * ((d.size + 59) / 60) - d.size = p
  have ht : (d ++ nulls p).size = 60 * ((d.size + 59) / 60) := by rw [ByteArray.size_append, nulls_size]; omega
  have e1 := tkO_data hM p (n : Int)
  have e2 := tkO_data hM p ((n : Int) + 1)
  rw [hd] at e1 e2
  rw [if_pos hbN.symm] at e1
  rw [if_neg (by omega)] at e2
  have t1 := takeO_ev (d ++ nulls p) (n : Int) (by omega)
  have t2 := takeO_ev (d ++ nulls p) ((n : Int) + 1) (by omega)
  rw [e1] at t1
  rw [e2] at t2
  refine bnd t1 ?_
  rw [w64 (i := (n : Int) + 1) (by omega) (by omega)]
  refine bnd t2 (bnd (now _) (bnd (now _) (bnd (now _) (negN (by show wr .i64 (wr .i64 (0 + 0) + 0) = 0; rw [w64 (i := 0 + 0) (by decide) (by decide), w64 (by decide) (by decide)]; rfl) ?_))))
  show Ev (fun K a b' _ _ => if (!((api_Bits.Data b == bytesOf l) && ((api_Bits.N b == (n : Int)) && true))) = true then _ else _) _
  rw [← hb]
  refine same_bits (a := ((bytesOf l, (n : Int)) : api_Bits)) (bnd (now _) (negN rfl (pos (by decide) (negN ?_ ?_))))
  · show (((d ++ nulls p).size : Nat) : Int).tmod 60 = 0
    rw [ht, show (60 : Int) = ((60 : Nat) : Int) from rfl, tmodN]; omega
  · rw [w64 (by omega) (by omega), show (n : Int) + 13 = ((n + 13 : Nat) : Int) by omega]
    exact h1
theorem io_l2 {go1 : Nat → Nat → Int → Option Bool} {n : Nat} (hn : n < 1300) (h1 : E1 (fun K a => go1 K a ((n + 13 : Nat) : Int)) true) : ∀ (m k : Nat), k ≤ 1400 → n ≤ k + m → ∀ l, RowZ n l → E2 (fun K a b => herbariumlaw18_ImageObjects.l2 K (go1 K a) (n : Int) x b (k : Int) l) true := by
  intro m
  induction m with
  | zero => intro k _ hk l h; exact io_end hn h h1 (by omega)
  | succ m ih =>
    intro k hk0 hk l h
    by_cases c : n ≤ k
    · exact io_end hn h h1 c
    refine step2 (fun _ _ _ _ _ => herbariumlaw18_ImageObjects.l2.eq_2 ..) ?_
    obtain ⟨h4, h5, h6⟩ := h
    have ed : wr .i64 ((k : Int).tdiv 8) = ((k / 8 : Nat) : Int) := by rw [show (8 : Int) = ((8 : Nat) : Int) from rfl, tdivN, w64 (by omega) (by omega)]
    have em : (k : Int).tmod 8 = ((k % 8 : Nat) : Int) := by rw [show (8 : Int) = ((8 : Nat) : Int) from rfl, tmodN]
    have e4 : ((x.S.length : Nat) : Int).tmod 4 = ((x.S.length % 4 : Nat) : Int) := by rw [show (4 : Int) = ((4 : Nat) : Int) from rfl, tmodN]
    rw [ed, em, e4, rdN, Int.toNat_natCast, w64 (i := (k : Int) + 3) (by omega) (by omega), w64 (i := (k : Int) + 3 + ((x.S.length % 4 : Nat) : Int)) (by omega) (by omega), show (k : Int) + 3 + ((x.S.length % 4 : Nat) : Int) = ((k + 3 + x.S.length % 4 : Nat) : Int) by omega]
    refine posD (by omega) (pos (by decide) (pos (by decide) (pos (by omega) (pos (by decide) (pos (by omega) (pos (by omega) (pos (by decide) ?_)))))))
    exact ih _ (by omega) (by omega) _ (rowZ_set ⟨h4, h5, h6⟩ (by omega))
theorem io_l1 : ∀ m : Nat, m ≤ 93 → E1 (fun K a => herbariumlaw18_ImageObjects.l1 K x a ((13 * m : Nat) : Int)) true := by
  refine upto ?_ ?_
  · exact step1 (fun _ _ _ _ _ => herbariumlaw18_ImageObjects.l1.eq_2 ..) (negD (by decide) (bnd wakes18_ev (now _)))
  · intro m hm ih
    refine step1 (fun _ _ _ _ _ => herbariumlaw18_ImageObjects.l1.eq_2 ..) (posD (by omega) (pos (by decide) ?_))
    have ez : wr .i64 ((wr .i64 (((13 * m : Nat) : Int) + 7)).tdiv 8) = (((13 * m + 7) / 8 : Nat) : Int) := by
      rw [w64 (i := ((13 * m : Nat) : Int) + 7) (by omega) (by omega), show ((13 * m : Nat) : Int) + 7 = ((13 * m + 7 : Nat) : Int) by omega, show (8 : Int) = ((8 : Nat) : Int) from rfl, tdivN, w64 (by omega) (by omega)]
    rw [ez]
    refine bnd (congr (fun K _ _ _ _ => zerosB K _ (by omega)) (now _)) ?_
    refine (io_l2 (go1 := fun K a => herbariumlaw18_ImageObjects.l1 K x a) (n := 13 * m) (by omega) ih 1400 0 (by omega) (by omega) _ ?_).e2
    have hL : bytesL (nulls ((13 * m + 7) / 8)) = List.replicate ((13 * m + 7) / 8) 0 := by simp [bytesL, nulls]
    rw [hL]
    have hr : ∀ v ∈ List.replicate ((13 * m + 7) / 8) (0 : Int), 0 ≤ v ∧ v ≤ 255 := fun v hv => by rw [(List.mem_replicate.1 hv).2]; decide
    refine ⟨by simp, hr, fun i hi hn => ?_⟩
    rw [bof_row hr, List.getD_eq_getElem?_getD, List.getElem?_replicate]
    split <;> simp
theorem imageObjects_pure (x : herbariumlaw17_Ask) : ∃ K, herbariumlaw18_ImageObjects K x = some true :=
  Ev.get (g := fun K => herbariumlaw18_ImageObjects K x) (io_l1 0 (by omega)).e1
end Go.XL
end
