import Derived.Test.YtobccadjomcoiaaSxC0
import Derived.Laws.BitsLemmas
import Derived.Lib.Strings
set_option linter.all false
section
namespace Go.XL
open Go.XM
def Ev {α : Type} (g : Nat → Nat → Nat → Nat → Nat → Option α) (r : α) : Prop := ∃ m, ∀ K a b c d, m ≤ K → m ≤ a → m ≤ b → m ≤ c → m ≤ d → g K a b c d = some r
abbrev E0 {α : Type} (g : Nat → Option α) (r : α) : Prop := Ev (fun K _ _ _ _ => g K) r
abbrev E1 {α : Type} (g : Nat → Nat → Option α) (r : α) : Prop := Ev (fun K a _ _ _ => g K a) r
abbrev E2 {α : Type} (g : Nat → Nat → Nat → Option α) (r : α) : Prop := Ev (fun K a b _ _ => g K a b) r
theorem now {α : Type} (r : α) : Ev (fun _ _ _ _ _ => some r) r := ⟨0, fun _ _ _ _ _ _ _ _ _ _ => rfl⟩
theorem nowE {α : Type} {r s : α} (h : s = r) : Ev (fun _ _ _ _ _ => some s) r := ⟨0, fun _ _ _ _ _ _ _ _ _ _ => by rw [h]⟩
theorem pos {α : Type} {c : Prop} [Decidable c] {f g : Nat → Nat → Nat → Nat → Nat → Option α} {r : α} (h : c) (k : Ev f r) : Ev (fun x y z u v => if c then f x y z u v else g x y z u v) r := by
  obtain ⟨m, k⟩ := k
  exact ⟨m, fun x y z u v a b c d e => (if_pos h).trans (k x y z u v a b c d e)⟩
theorem neg {α : Type} {c : Prop} [Decidable c] {f g : Nat → Nat → Nat → Nat → Nat → Option α} {r : α} (h : ¬ c) (k : Ev g r) : Ev (fun x y z u v => if c then f x y z u v else g x y z u v) r := by
  obtain ⟨m, k⟩ := k
  exact ⟨m, fun x y z u v a b c d e => (if_neg h).trans (k x y z u v a b c d e)⟩
theorem posD {α : Type} {c : Prop} [Decidable c] {f g : Nat → Nat → Nat → Nat → Nat → Option α} {r : α} (h : c) (k : Ev f r) : Ev (fun x y z u v => if decide c = true then f x y z u v else g x y z u v) r := pos (decide_eq_true h) k
theorem negD {α : Type} {c : Prop} [Decidable c] {f g : Nat → Nat → Nat → Nat → Nat → Option α} {r : α} (h : ¬ c) (k : Ev g r) : Ev (fun x y z u v => if decide c = true then f x y z u v else g x y z u v) r := neg (by simpa using h) k
theorem posM {α : Type} {c : Prop} [Decidable c] {f g : Nat → Nat → Nat → Nat → Nat → Option α} {r : α} (h : ¬ c) (k : Ev f r) : Ev (fun x y z u v => if (!decide c) = true then f x y z u v else g x y z u v) r := pos (by rw [decide_eq_false h]; rfl) k
theorem negM {α : Type} {c : Prop} [Decidable c] {f g : Nat → Nat → Nat → Nat → Nat → Option α} {r : α} (h : c) (k : Ev g r) : Ev (fun x y z u v => if (!decide c) = true then f x y z u v else g x y z u v) r := neg (by rw [decide_eq_true h]; decide) k
theorem posE {α : Type} {p q : Int} {f g : Nat → Nat → Nat → Nat → Nat → Option α} {r : α} (h : p = q) (k : Ev f r) : Ev (fun x y z u v => if (p == q) = true then f x y z u v else g x y z u v) r := pos (by simp [h]) k
theorem posN {α : Type} {p q : Int} {f g : Nat → Nat → Nat → Nat → Nat → Option α} {r : α} (h : ¬ p = q) (k : Ev f r) : Ev (fun x y z u v => if (p != q) = true then f x y z u v else g x y z u v) r := pos (by simpa using h) k
theorem negN {α : Type} {p q : Int} {f g : Nat → Nat → Nat → Nat → Nat → Option α} {r : α} (h : p = q) (k : Ev g r) : Ev (fun x y z u v => if (p != q) = true then f x y z u v else g x y z u v) r := neg (by simp [h]) k
theorem bnd {α β : Type} {g : Nat → Nat → Nat → Nat → Nat → Option α} {f : Nat → Nat → Nat → Nat → Nat → α → Option β} {a : α} {r : β} (h : Ev g a) (k : Ev (fun x y z u v => f x y z u v a) r) : Ev (fun x y z u v => (g x y z u v).bind (f x y z u v)) r := by
  obtain ⟨m, h⟩ := h
  obtain ⟨m', k⟩ := k
  refine ⟨max m m', fun x y z u v a b c d e => ?_⟩
  show (g x y z u v).bind _ = _
  rw [h x y z u v (by omega) (by omega) (by omega) (by omega) (by omega)]
  exact k x y z u v (by omega) (by omega) (by omega) (by omega) (by omega)
theorem congr {α : Type} {f g : Nat → Nat → Nat → Nat → Nat → Option α} {r : α} (e : ∀ x y z u v, g x y z u v = f x y z u v) (h : Ev f r) : Ev g r := by
  obtain ⟨m, h⟩ := h
  exact ⟨m, fun x y z u v a b c d k => by rw [e]; exact h x y z u v a b c d k⟩
theorem step1 {α : Type} {f g : Nat → Nat → Nat → Nat → Nat → Option α} {r : α} (e : ∀ x y z u v, g x (y + 1) z u v = f x y z u v) (h : Ev f r) : Ev g r := by
  obtain ⟨m, h⟩ := h
  refine ⟨m + 1, fun x y z u v a b c d k => ?_⟩
  obtain ⟨y, rfl⟩ : ∃ n, y = n + 1 := ⟨y - 1, by omega⟩
  rw [e]; exact h x y z u v (by omega) (by omega) (by omega) (by omega) (by omega)
theorem step2 {α : Type} {f g : Nat → Nat → Nat → Nat → Nat → Option α} {r : α} (e : ∀ x y z u v, g x y (z + 1) u v = f x y z u v) (h : Ev f r) : Ev g r := by
  obtain ⟨m, h⟩ := h
  refine ⟨m + 1, fun x y z u v a b c d k => ?_⟩
  obtain ⟨z, rfl⟩ : ∃ n, z = n + 1 := ⟨z - 1, by omega⟩
  rw [e]; exact h x y z u v (by omega) (by omega) (by omega) (by omega) (by omega)
theorem Ev.e1 {α : Type} {g : Nat → Nat → Nat → Nat → Nat → Option α} {r : α} (h : Ev g r) : Ev (fun x y z u v => g x x z u v) r := by
  obtain ⟨m, h⟩ := h
  exact ⟨m, fun x y z u v a b c d k => h x x z u v a a c d k⟩
theorem Ev.e2 {α : Type} {g : Nat → Nat → Nat → Nat → Nat → Option α} {r : α} (h : Ev g r) : Ev (fun x y z u v => g x y x u v) r := by
  obtain ⟨m, h⟩ := h
  exact ⟨m, fun x y z u v a b c d k => h x y x u v a b a d k⟩
theorem Ev.e3 {α : Type} {g : Nat → Nat → Nat → Nat → Nat → Option α} {r : α} (h : Ev g r) : Ev (fun x y z u v => g x y z x v) r := by
  obtain ⟨m, h⟩ := h
  exact ⟨m, fun x y z u v a b c d k => h x y z x v a b c a k⟩
theorem Ev.e4 {α : Type} {g : Nat → Nat → Nat → Nat → Nat → Option α} {r : α} (h : Ev g r) : Ev (fun x y z u v => g x y z u x) r := by
  obtain ⟨m, h⟩ := h
  exact ⟨m, fun x y z u v a b c d k => h x y z u x a b c d a⟩
theorem Ev.all {α : Type} {g : Nat → Option α} {r : α} (h : E0 g r) : ∃ m, ∀ K, m ≤ K → g K = some r := by
  obtain ⟨m, h⟩ := h
  exact ⟨m, fun K hK => h K K K K K hK hK hK hK hK⟩
theorem Ev.get {α : Type} {g : Nat → Option α} {r : α} (h : E0 g r) : ∃ K, g K = some r := by
  obtain ⟨m, h⟩ := h.all
  exact ⟨m, h m (Nat.le_refl _)⟩
theorem w64 {i : Int} (h : -9223372036854775808 ≤ i) (h' : i ≤ 9223372036854775807) : wr .i64 i = i := by show Go.RowKit.wrap64 i = i; unfold Go.RowKit.wrap64; omega
theorem w1 {i : Nat} (h : i < 4611686018427387904) : wr .i64 ((i : Int) + 1) = ((i + 1 : Nat) : Int) := by rw [w64 (by omega) (by omega)]; omega
theorem upto {n : Nat} {Q : Nat → Prop} (base : Q n) (step : ∀ i, i < n → Q (i + 1) → Q i) : ∀ i, i ≤ n → Q i := by
  have key : ∀ d i, i + d = n → Q i := by
    intro d
    induction d with
    | zero => intro i hi; rw [show i = n by omega]; exact base
    | succ d ih => intro i hi; exact step i (by omega) (ih (i + 1) (by omega))
  intro i hi
  exact key (n - i) i (by omega)
theorem getD_lt {α : Type} {d : α} {xs : List α} {i : Nat} (h : i < xs.length) : xs.getD i d = xs[i] := by simp [List.getD_eq_getElem?_getD, List.getElem?_eq_getElem h]
theorem getD_mem {α : Type} {d : α} {xs : List α} {i : Nat} (h : i < xs.length) : xs.getD i d ∈ xs := by rw [getD_lt h]; exact List.getElem_mem h
theorem drop_getD {α : Type} {d : α} {xs : List α} {i : Nat} (h : i < xs.length) : xs.drop i = xs.getD i d :: xs.drop (i + 1) := by rw [getD_lt h]; exact List.drop_eq_getElem_cons h
theorem nthN {α : Type} [Inhabited α] (xs : List α) (i : Nat) : nth xs (i : Int) = xs.getD i default := by simp [nth]
theorem rdN (xs : List Int) (i : Nat) : nth xs (i : Int) = xs.getD i 0 := nthN xs i
theorem negB {α : Type} {b : Bool} {f g : Nat → Nat → Nat → Nat → Nat → Option α} {r : α} (h : b = false) (k : Ev g r) : Ev (fun x y z u v => if b = true then f x y z u v else g x y z u v) r := neg (by rw [h]; decide) k
end Go.XL
end
section
namespace Go.XL
open Go.XM
theorem beq_str (a b : ByteArray) : (a.toList == b.toList) = decide (a = b) := by
  rw [Lib.toList_data, Lib.toList_data]
  by_cases h : a = b
  · rw [h]; simp
  · rw [decide_eq_false h]
    have : ¬ a.data.toList = b.data.toList := fun e => h (ByteArray.ext (by
      rw [← Array.toArray_toList (xs := a.data), ← Array.toArray_toList (xs := b.data), e]))
    simpa using this
theorem within_eq (a : Int) (n : Nat) (h1 : 0 < n) (h2 : n < 1000000) : ∃ r : Int, 0 ≤ r ∧ r < n ∧ ∀ K, herbariumlaw0_Within K a (n : Int) = some r := by
  have e1 : wr .u64 (n : Int) = (n : Int) := by
    show IntKind.wrap .u64 _ = _
    unfold IntKind.wrap
    simp only [IntKind.bits, IntKind.signed]
    simp
    omega
  have e2 : 0 ≤ wr .u64 a := by
    show 0 ≤ IntKind.wrap .u64 a
    unfold IntKind.wrap
    simp only [IntKind.bits, IntKind.signed]
    simp
    omega
  refine ⟨(wr .u64 a).tmod (n : Int), Int.tmod_nonneg _ e2, ?_, fun K => ?_⟩
  · exact Int.tmod_lt_of_pos _ (by omega)
  · unfold herbariumlaw0_Within
    rw [e1, if_pos (by omega), w64]
    · have := Int.tmod_nonneg (n : Int) e2; omega
    · have := Int.tmod_lt_of_pos (wr .u64 a) (show (0 : Int) < (n : Int) by omega); omega
theorem bytesOf_data (ns : List Int) : (bytesOf ns).data.toList = ns.map fun n => UInt8.ofNat n.toNat := by
  have key : ∀ (ns : List Int) (s : ByteArray), (ns.foldl (fun s n => s.push (UInt8.ofNat n.toNat)) s).data.toList = s.data.toList ++ ns.map fun n => UInt8.ofNat n.toNat := by
    intro ns
    induction ns with
    | nil => intro s; simp
    | cons n ns ih => intro s; rw [List.foldl_cons, ih]; simp [ByteArray.push]
  have := key ns .empty
  simpa [bytesOf] using this
theorem sz_data (s : ByteArray) : s.size = s.data.toList.length := by show s.data.size = _; rw [Array.length_toList]
theorem bytesOf_size (ns : List Int) : (bytesOf ns).size = ns.length := by rw [sz_data, bytesOf_data, List.length_map]
theorem str_ext {a b : ByteArray} (h : a.data.toList = b.data.toList) : a = b := ByteArray.ext (by
      rw [← Array.toArray_toList (xs := a.data), ← Array.toArray_toList (xs := b.data), h])
theorem bytesL_len (s : ByteArray) : (bytesL s).length = s.size := by rw [sz_data]; simp [bytesL]
theorem bytesL_bytesOf {l : List Int} (h : ∀ x ∈ l, 0 ≤ x ∧ x ≤ 255) : bytesL (bytesOf l) = l := by
  unfold bytesL
  rw [bytesOf_data, List.map_map]
  conv => rhs; rw [← List.map_id l]
  refine List.map_congr_left fun x hx => ?_
  have := h x hx
  simp only [Function.comp, id]
  simp
  omega
theorem bytesOf_bytesL (s : ByteArray) : bytesOf (bytesL s) = s := by
  apply str_ext
  rw [bytesOf_data]; unfold bytesL
  rw [List.map_map]
  conv => rhs; rw [← List.map_id s.data.toList]
  refine List.map_congr_left fun x _ => ?_
  simp
theorem bytesL_rng (s : ByteArray) : ∀ x ∈ bytesL s, 0 ≤ x ∧ x ≤ 255 := by
  intro x hx
  obtain ⟨b, _, rfl⟩ := List.mem_map.1 hx
  have := b.toNat_lt
  omega
theorem bytesL_inj {a b : ByteArray} (h : bytesL a = bytesL b) : a = b := by rw [← bytesOf_bytesL a, h, bytesOf_bytesL]
theorem bytesL_app (a b : ByteArray) : bytesL (a ++ b) = bytesL a ++ bytesL b := by unfold bytesL; rw [ByteArray.data_append]; simp
theorem bytesL_ext (s : ByteArray) (i j : Nat) : bytesL (s.extract i j) = ((bytesL s).take j).drop i := by
  unfold bytesL; rw [ByteArray.data_extract, Array.toList_extract, List.extract_eq_drop_take]
  rw [← List.map_take, ← List.map_drop, List.drop_take]
theorem bt_get (s : ByteArray) (i : Nat) : bt s (i : Int) = (bytesL s).getD i 0 := by
  unfold bt bytesL
  rw [Int.toNat_natCast, List.getD_eq_getElem?_getD, List.getD_eq_getElem?_getD, List.getElem?_map]
  cases s.data.toList[i]? <;> rfl
def adl : List Int → Int × Int → Int × Int
  | [], p => p
  | c :: cs, p => adl cs ((p.1 + c) % 65521, (p.2 + (p.1 + c) % 65521) % 65521)
def chkL (l : List Int) : Int := (adl l (1, 0)).2 * 65536 + (adl l (1, 0)).1
def chk (s : ByteArray) : Int := chkL (bytesL s)
def G2 (p : Int × Int) : Prop := 0 ≤ p.1 ∧ p.1 < 65521 ∧ 0 ≤ p.2 ∧ p.2 < 65521
theorem adl_rng : ∀ (l : List Int) (p : Int × Int), G2 p → G2 (adl l p)
  | [], _, h => h
  | c :: cs, p, h => adl_rng cs _ ⟨Int.emod_nonneg _ (by decide), Int.emod_lt_of_pos _ (by decide), Int.emod_nonneg _ (by decide), Int.emod_lt_of_pos _ (by decide)⟩
theorem adl_fst : ∀ (l : List Int) (p : Int × Int), 0 ≤ p.1 ∧ p.1 < 65521 → (adl l p).1 = (p.1 + l.sum) % 65521
  | [], p, h => by simp only [adl, List.sum_nil]; omega
  | c :: cs, p, h => by
    rw [adl, adl_fst cs _ ⟨Int.emod_nonneg _ (by decide), Int.emod_lt_of_pos _ (by decide)⟩, List.sum_cons]
    show ((p.1 + c) % 65521 + cs.sum) % 65521 = _
    omega
theorem chk_rng (s : ByteArray) : 0 ≤ chk s ∧ chk s < 4294967296 := by
  have := adl_rng (bytesL s) (1, 0) (by unfold G2; decide)
  unfold G2 at this
  unfold chk chkL
  omega
theorem wu32 {x : Int} (h0 : 0 ≤ x) (h1 : x < 4294967296) : wr .u32 x = x := by
  show IntKind.wrap .u32 _ = _
  unfold IntKind.wrap
  simp only [IntKind.bits, IntKind.signed]
  simp
  omega
theorem wu8 (x : Int) : wr .u8 x = x % 256 := by
  show IntKind.wrap .u8 _ = _
  unfold IntKind.wrap
  simp only [IntKind.bits, IntKind.signed]
  simp
theorem or16 {b a : Nat} (hb : b < 65536) (ha : a < 65536) : ib .or .u32 ((b * 65536 : Nat) : Int) (a : Int) = ((b * 65536 + a : Nat) : Int) := by
  have h1 : (b * 65536) ||| a = b * 65536 + a := by
    have := Nat.two_pow_add_eq_or_of_lt (i := 16) (by omega : a < 2 ^ 16) b
    rw [Nat.mul_comm b]
    exact this.symm
  have h2 : (BitVec.ofInt 32 ((b * 65536 : Nat) : Int) ||| BitVec.ofInt 32 (a : Int)).toNat = b * 65536 + a := by
    rw [BitVec.toNat_or]
    simp only [BitVec.ofInt_natCast, BitVec.toNat_ofNat]
    rw [Nat.mod_eq_of_lt (by omega), Nat.mod_eq_of_lt (by omega), h1]
  show IntKind.wrap .u32 ((BitVec.ofInt 32 ((b * 65536 : Nat) : Int) ||| BitVec.ofInt 32 (a : Int)).toNat : Int) = _
  rw [h2]
  exact wu32 (by omega) (by omega)
theorem tmE {x m : Int} (h : 0 ≤ x) : x.tmod m = x % m := Int.tmod_eq_emod_of_nonneg h
theorem of_ev (s : ByteArray) (hs : s.size ≤ 4611686018427387903) : E0 (fun K => seal_Of K s) (chk s) := by
  have hl := bytesL_len s
  have key : ∀ i, i ≤ s.size → ∀ a b : Int, G2 (a, b) → E1 (fun K k => seal_Of.l1 K s k a b (s.size : Int) (i : Int)) ((adl ((bytesL s).drop i) (a, b)).2 * 65536 + (adl ((bytesL s).drop i) (a, b)).1) := by
    refine upto ?_ ?_
    · intro a b ⟨a0, a1, b0, b1⟩
      rw [List.drop_eq_nil_of_le (by omega)]
      simp only at a0 a1 b0 b1
      refine step1 (fun _ _ _ _ _ => seal_Of.l1.eq_2 ..) ?_
      refine negD (by omega) (pos (by decide) (nowE ?_))
      rw [show (2 : Int) ^ min ((16 : Int)).toNat 32 = 65536 from rfl, wu32 (by omega) (by omega)]
      obtain ⟨a, rfl⟩ := Int.eq_ofNat_of_zero_le a0
      obtain ⟨b, rfl⟩ := Int.eq_ofNat_of_zero_le b0
      have := or16 (b := b) (a := a) (by omega) (by omega)
      rw [Int.natCast_mul] at this
      exact this.trans (by simp only [adl]; omega)
    · intro i hi ih a b ⟨a0, a1, b0, b1⟩
      simp only at a0 a1 b0 b1
      refine step1 (fun _ _ _ _ _ => seal_Of.l1.eq_2 ..) ?_
      have hi' : i < (bytesL s).length := by omega
      obtain ⟨c0, c1⟩ := bytesL_rng s _ (getD_mem (d := 0) hi')
      rw [drop_getD (d := 0) hi', adl]
      refine posD (by omega) (pos (by omega) (pos (by decide) (pos (by decide) ?_)))
      rw [bt_get, wu32 c0 (by omega), wu32 (x := a + _) (by omega) (by omega), tmE (by omega)]
      have m0 := Int.emod_nonneg (a + (bytesL s).getD i 0) (show (65521 : Int) ≠ 0 by decide)
      have m1 := Int.emod_lt_of_pos (a + (bytesL s).getD i 0) (show (0 : Int) < 65521 by decide)
      rw [wu32 (by omega) (by omega), tmE (by omega), w1 (by omega)]
      exact ih _ _ ⟨m0, m1, Int.emod_nonneg _ (by decide), Int.emod_lt_of_pos _ (by decide)⟩
  exact (key 0 (by omega) 1 0 (by unfold G2; decide)).e1
theorem rof_ev (s : ByteArray) (hs : s.size ≤ 4611686018427387903) : E0 (fun K => herbariumref17_Of K s) (chk s) := by
  have hl := bytesL_len s
  have key : ∀ i, i ≤ s.size → ∀ a b : Int, G2 (a, b) → E1 (fun K k => herbariumref17_Of.l1 K s k a b (i : Int)) ((adl ((bytesL s).drop i) (a, b)).2 * 65536 + (adl ((bytesL s).drop i) (a, b)).1) := by
    refine upto ?_ ?_
    · intro a b ⟨a0, a1, b0, b1⟩
      rw [List.drop_eq_nil_of_le (by omega)]
      simp only at a0 a1 b0 b1
      refine step1 (fun _ _ _ _ _ => herbariumref17_Of.l1.eq_2 ..) ?_
      refine negD (by omega) (nowE ?_)
      rw [w64 (i := b * 65536) (by omega) (by omega), w64 (by omega) (by omega), wu32 (by omega) (by omega)]
      rfl
    · intro i hi ih a b ⟨a0, a1, b0, b1⟩
      simp only at a0 a1 b0 b1
      refine step1 (fun _ _ _ _ _ => herbariumref17_Of.l1.eq_2 ..) ?_
      have hi' : i < (bytesL s).length := by omega
      obtain ⟨c0, c1⟩ := bytesL_rng s _ (getD_mem (d := 0) hi')
      rw [drop_getD (d := 0) hi', adl]
      refine posD (by omega) (pos (by omega) (pos (by decide) (pos (by decide) ?_)))
      rw [bt_get, w64 (i := (bytesL s).getD i 0) (by omega) (by omega), w64 (i := a + _) (by omega) (by omega), tmE (by omega)]
      have m0 := Int.emod_nonneg (a + (bytesL s).getD i 0) (show (65521 : Int) ≠ 0 by decide)
      have m1 := Int.emod_lt_of_pos (a + (bytesL s).getD i 0) (show (0 : Int) < 65521 by decide)
      rw [w64 (by omega) (by omega), tmE (by omega), w1 (by omega)]
      exact ih _ _ ⟨m0, m1, Int.emod_nonneg _ (by decide), Int.emod_lt_of_pos _ (by decide)⟩
  exact (key 0 (by omega) 1 0 (by unfold G2; decide)).e1
def nulls (n : Nat) : ByteArray := ⟨(List.replicate n 0).toArray⟩
theorem nulls_size (n : Nat) : (nulls n).size = n := by unfold nulls; show (List.replicate n 0).toArray.size = n; simp
theorem repeat_eq (K n : Nat) (h : n ≤ 1000) : strings_Repeat K (⟨#[0]⟩ : ByteArray) (n : Int) = some (nulls n) := by
  have hr : ∀ m, Lib.repeatL [0] m = List.replicate m (0 : UInt8) := fun m => by
    induction m with
    | zero => rfl
    | succ m ih => rw [Lib.repeatL, ih]; rfl
  unfold strings_Repeat repF
  rw [Int.toNat_natCast, if_pos ⟨by omega, by omega, by show 1 * n ≤ _; omega⟩]
  show some (⟨(Lib.repeatL [0] n).toArray⟩ : ByteArray) = _
  rw [hr]; rfl
theorem bytesOf_zero (n : Nat) : bytesOf (List.replicate n 0) = nulls n := by
  apply str_ext
  rw [bytesOf_data]; simp [nulls]
theorem zeros_eq (K n : Nat) (h : n ≤ 1000) : herbariumref0_Zeros K (n : Int) = some (nulls n) := by
  unfold herbariumref0_Zeros
  rw [if_pos ⟨rfl, by omega, by omega, by omega⟩, Int.toNat_natCast, bytesOf_zero]
def room (s : ByteArray) : ByteArray := s.extract 0 (min s.size 60) ++ nulls (60 - min s.size 60)
theorem room_size (s : ByteArray) : (room s).size = 60 := by
  unfold room
  rw [ByteArray.size_append, ByteArray.size_extract, nulls_size]
  omega
theorem room_self {s : ByteArray} (h : s.size = 60) : room s = s := by
  unfold room
  rw [h]
  show s.extract 0 60 ++ ByteArray.empty = s
  rw [ByteArray.append_empty, ← h, ByteArray.extract_zero_size]
def fourL (v : Int) : List Int := [(v / 16777216) % 256, (v / 65536) % 256, (v / 256) % 256, v % 256]
def four (v : Int) : ByteArray := bytesOf (fourL v)
theorem four_size (v : Int) : (four v).size = 4 := by unfold four; rw [bytesOf_size]; rfl
theorem four_L (v : Int) : bytesL (four v) = fourL v := bytesL_bytesOf (by
  intro x hx
  simp only [fourL, List.mem_cons, List.not_mem_nil, or_false] at hx
  rcases hx with rfl | rfl | rfl | rfl <;> omega)
theorem fdE {x : Int} {n : Int} (hn : 0 < n) : x.fdiv n = x / n := Int.fdiv_eq_ediv_of_nonneg x (by omega)
theorem check_ev (s : ByteArray) (hs : s.size ≤ 4611686018427387903) : E0 (fun K => seal_check K s) (four (chk s)) := by
  refine bnd (of_ev s hs) (pos (by decide) (pos (by decide) (pos (by decide) (nowE ?_))))
  rw [show (2 : Int) ^ min ((24 : Int)).toNat 32 = 16777216 from rfl, show (2 : Int) ^ min ((16 : Int)).toNat 32 = 65536 from rfl, show (2 : Int) ^ min ((8 : Int)).toNat 32 = 256 from rfl, fdE (by decide), fdE (by decide), fdE (by decide), wu8, wu8, wu8, wu8]
  rfl
theorem number_eq (K : Nat) (v : Int) : herbariumref17_number K v = some (four v) := by
  unfold herbariumref17_number
  rw [if_pos (by decide), if_pos (by decide), if_pos (by decide), show (2 : Int) ^ min ((24 : Int)).toNat 64 = 16777216 from rfl, show (2 : Int) ^ min ((16 : Int)).toNat 64 = 65536 from rfl, show (2 : Int) ^ min ((8 : Int)).toNat 64 = 256 from rfl, fdE (by decide), fdE (by decide), fdE (by decide), wu8, wu8, wu8, wu8]
  rfl
def addP (s : ByteArray) : ByteArray := room s ++ four (chk (room s))
theorem addP_size (s : ByteArray) : (addP s).size = 64 := by unfold addP; rw [ByteArray.size_append, room_size, four_size]
theorem add_ev (s : ByteArray) (hs : s.size ≤ 4611686018427387903) : E0 (fun K => seal_Add K s) (addP s) := by
  have hrs := room_size s
  have hfs := four_size (chk (room s))
  have hex : (s.extract 0 (min s.size 60)).size = min s.size 60 := by rw [ByteArray.size_extract]; omega
  have hmn : (if (60 : Int) < ((s.size : Nat) : Int) then (60 : Int) else ((s.size : Nat) : Int)) = ((min s.size 60 : Nat) : Int) := by split <;> omega
  unfold seal_Add
  rw [hmn, Int.toNat_natCast, show ((0 : Int)).toNat = 0 from rfl, hex, w64 (by omega) (by omega), show (60 : Int) - ((min s.size 60 : Nat) : Int) = ((60 - min s.size 60 : Nat) : Int) by omega]
  refine pos (by omega) (bnd (congr (fun K _ _ _ _ => repeat_eq K _ (by omega)) (now _)) (pos (by rw [nulls_size]; omega) ?_))
  refine bnd (check_ev (room s) (by omega)) (pos ?_ (now _))
  show (((room s).size + (four (chk (room s))).size : Nat) : Int) ≤ _
  omega
theorem radd_ev (s : ByteArray) (hs : s.size ≤ 4611686018427387903) : E0 (fun K => herbariumref17_Add K s) (addP s) := by
  have key : ∀ t : ByteArray, t.size ≤ 60 → t ++ nulls (60 - t.size) = room s → E0 (fun K => herbariumref17_Add.j1 K t) (addP s) := by
    intro t ht e
    unfold herbariumref17_Add.j1
    rw [w64 (by omega) (by omega), show (60 : Int) - ((t.size : Nat) : Int) = ((60 - t.size : Nat) : Int) by omega]
    refine bnd (congr (fun K _ _ _ _ => zeros_eq K _ (by omega)) (now _)) (pos (by rw [nulls_size]; omega) ?_)
    rw [e]
    have hc := chk_rng (room s)
    refine bnd (rof_ev (room s) (by rw [room_size]; omega)) (bnd (congr (fun K _ _ _ _ => by rw [w64 (by omega) (by omega)]; exact number_eq K _) (now _)) (pos ?_ (now _)))
    rw [room_size, four_size]; omega
  by_cases h60 : ((s.size : Nat) : Int) > 60
  · refine posD h60 (pos (by omega) (key _ ?_ ?_))
    · rw [ByteArray.size_extract]; show min 60 s.size - 0 ≤ 60; omega
    · unfold room
      rw [ByteArray.size_extract]
      show s.extract 0 60 ++ nulls (60 - (min 60 s.size - 0)) = _
      rw [Nat.min_comm, Nat.sub_zero, show min s.size 60 = 60 by omega]
  · refine negD h60 (key s (by omega) ?_)
    unfold room
    rw [show min s.size 60 = s.size by omega, ByteArray.extract_zero_size]
def okB (s : ByteArray) : Prop := s.size = 64 ∧ four (chk (s.extract 0 60)) = s.extract 60 64
instance (s : ByteArray) : Decidable (okB s) := by unfold okB; infer_instance
def takeP (s : ByteArray) : ByteArray × Bool := if okB s then (s.extract 0 60, true) else (ByteArray.empty, false)
theorem ext_size {s : ByteArray} (h : s.size = 64) : (s.extract 0 60).size = 60 := by rw [ByteArray.size_extract]; omega
theorem split64 {s : ByteArray} (h : s.size = 64) : s = s.extract 0 60 ++ s.extract 60 64 := by
  rw [ByteArray.extract_append_extract]; show s = s.extract 0 64; rw [← h, ByteArray.extract_zero_size]
theorem take_ev (s : ByteArray) : E0 (fun K => seal_Take K s) (takeP s) := by
  unfold takeP
  by_cases h : s.size = 64
  · refine negN (by omega) (pos (by omega) (bnd (check_ev _ (by rw [show ((60 : Int)).toNat = 60 from rfl, show ((0 : Int)).toNat = 0 from rfl, ext_size h]; omega)) (pos (by omega) ?_)))
    rw [show (((s.size : Nat) : Int)).toNat = 64 by omega, show ((60 : Int)).toNat = 60 from rfl, show ((0 : Int)).toNat = 0 from rfl, beq_str]
    by_cases c : four (chk (s.extract 0 60)) = s.extract 60 64
    · rw [if_pos (show okB s from ⟨h, c⟩)]; exact negM c (pos (by omega) (now _))
    · rw [if_neg (fun z : okB s => c z.2)]; exact posM c (now _)
  · rw [if_neg (fun z : okB s => h z.1)]; exact posN (by omega) (now _)
theorem rtake_ev (s : ByteArray) : E0 (fun K => herbariumref17_Take K s) (takeP s) := by
  unfold takeP
  by_cases h : s.size = 64
  · have he := ext_size h
    refine negN (by omega) (pos (by omega) (bnd (radd_ev _ (by rw [show ((60 : Int)).toNat = 60 from rfl, show ((0 : Int)).toNat = 0 from rfl, he]; omega)) ?_))
    rw [show ((60 : Int)).toNat = 60 from rfl, show ((0 : Int)).toNat = 0 from rfl, beq_str]
    have hi : addP (s.extract 0 60) = s ↔ four (chk (s.extract 0 60)) = s.extract 60 64 := by
      unfold addP
      rw [room_self he]
      constructor
      · intro e
        have e2 := e.trans (split64 h)
        exact bytesL_inj (List.append_cancel_left (by rw [← bytesL_app, ← bytesL_app, e2]))
      · intro e; rw [e]; exact (split64 h).symm
    by_cases c : four (chk (s.extract 0 60)) = s.extract 60 64
    · rw [if_pos (show okB s from ⟨h, c⟩)]; exact negM (hi.2 c) (pos (by omega) (now _))
    · rw [if_neg (fun z : okB s => c z.2)]; exact posM (fun e => c (hi.1 e)) (now _)
  · rw [if_neg (fun z : okB s => h z.1)]; exact posN (by omega) (now _)
end Go.XL
end
section
namespace Go.XL
open Go.XM
theorem negBE {α : Type} {p q : Bool} {f g : Nat → Nat → Nat → Nat → Nat → Option α} {r : α} (h : p = q) (k : Ev g r) : Ev (fun x y z u v => if (!(p == q)) = true then f x y z u v else g x y z u v) r := neg (by simp [h]) k
theorem strN {α : Type} {a b : ByteArray} {f g : Nat → Nat → Nat → Nat → Nat → Option α} {r : α} (h : a = b) (k : Ev g r) : Ev (fun x y z u v => if (!(a.toList == b.toList)) = true then f x y z u v else g x y z u v) r := neg (by rw [h]; simp) k
def Fit (l : List ByteArray) : Prop := l.length * 16 ≤ 140737488351232 ∧ ∀ y ∈ l, y.size ≤ 140737488351232
theorem texts_ev (xs : List ByteArray) (h : Fit xs) : ∃ r : Int, E0 (fun K => herbariumlaw0_Texts K xs) r := by
  obtain ⟨hl, hx⟩ := h
  have key : ∀ i, i ≤ xs.length → ∀ s : Int, 0 ≤ s → s ≤ 140737489399808 → ∃ r : Int, E1 (fun K k => herbariumlaw0_Texts.l1 K xs k s (i : Int)) r := by
    refine upto ?_ ?_
    · intro s _ _
      exact ⟨s, step1 (fun _ _ _ _ _ => herbariumlaw0_Texts.l1.eq_2 ..) (negD (by omega) (now _))⟩
    · intro i hi ih s s0 s1
      by_cases c : s < 1048576
      · have hy := hx _ (getD_mem (d := default) hi)
        obtain ⟨r, hr⟩ := ih (s + (((xs.getD i default).size : Nat) : Int)) (by omega) (by omega)
        refine ⟨r, step1 (fun _ _ _ _ _ => herbariumlaw0_Texts.l1.eq_2 ..) (posD (by omega) (posD c (pos (by omega) ?_)))⟩
        rw [nthN, w64 (by omega) (by omega), w1 (by omega)]
        exact hr
      · exact ⟨s, step1 (fun _ _ _ _ _ => herbariumlaw0_Texts.l1.eq_2 ..) (posD (by omega) (negD c (now _)))⟩
  obtain ⟨r, h⟩ := key 0 (by omega) (xs.length : Int) (by omega) (by omega)
  exact ⟨r, h.e1⟩
theorem heavy17_ev (x : herbariumlaw17_Ask) (h : Fit x) : ∃ b, E0 (fun K => herbariumlaw17_Heavy K x) b := by
  obtain ⟨r, hr⟩ := texts_ev x h
  exact ⟨_, bnd hr (now _)⟩
theorem addP_ok (s : ByteArray) : okB (addP s) := by
  have h1 := room_size s
  have h2 := four_size (chk (room s))
  refine ⟨addP_size s, ?_⟩
  unfold addP
  rw [ByteArray.extract_append_eq_left h1.symm, ByteArray.extract_append_eq_right h1.symm (by rw [h1, h2])]
theorem addP_head (s : ByteArray) : (addP s).extract 0 60 = room s := ByteArray.extract_append_eq_left (room_size s).symm
theorem takeP_add (s : ByteArray) : takeP (addP s) = (room s, true) := by unfold takeP; rw [if_pos (addP_ok s), addP_head]
theorem wakes17_ev : E0 (fun K => herbariumlaw17_wakes K) true := by
  refine bnd (add_ev (⟨#[97, 98]⟩ : ByteArray) (by decide)) (bnd (take_ev _) ?_)
  rw [takeP_add]
  refine bnd (of_ev _ (by decide)) (posE (by decide) (bnd (of_ev _ (by decide)) (posN (by decide) (pos rfl (posE (by rw [room_size]; rfl) (pos (by rw [room_size]; decide) (nowE ?_)))))))
  rw [beq_str, decide_eq_true]
  show (room (⟨#[97, 98]⟩ : ByteArray)).extract 0 2 = _
  exact ByteArray.extract_append_eq_left rfl
variable {x : herbariumlaw17_Ask}
theorem se_l3 {go1 : Nat → Nat → Int → Option Bool} {i : Nat} {ts : List ByteArray} (hi : i < 100) (ht : ts.length < 100) (h1 : E1 (fun K a => go1 K a ((i + 1 : Nat) : Int)) true) : ∀ k, k ≤ ts.length →
    E2 (fun K a b => herbariumlaw17_SealExact.l3 K (go1 K a) (i : Int) ts x b (k : Int)) true := by
  refine upto ?_ ?_
  · refine step2 (fun _ _ _ _ _ => herbariumlaw17_SealExact.l3.eq_2 ..) (negD (by omega) ?_)
    rw [w1 (by omega)]; exact h1
  · intro k hk ih
    refine step2 (fun _ _ _ _ _ => herbariumlaw17_SealExact.l3.eq_2 ..) (posD (by omega) (pos (by omega) ?_))
    rw [nthN]
    refine bnd (take_ev _) (pos (by omega) (bnd (rtake_ev _) (negBE rfl (strN rfl ?_))))
    rw [w1 (by omega)]; exact ih
theorem se_l2 {go1 : Nat → Nat → Int → Option Bool} {i : Nat} {s : ByteArray} (hs : s.size = 64) (hi : i < 100) (h1 : E1 (fun K a => go1 K a ((i + 1 : Nat) : Int)) true) : ∀ k, k ≤ 6 → ∀ ts : List ByteArray, ts.length = 5 + k →
    E2 (fun K a b => herbariumlaw17_SealExact.l2 K (go1 K a) s (i : Int) x b (k : Int) ts) true := by
  have hb := bytesL_len s
  refine upto ?_ ?_
  · intro ts ht
    refine step2 (fun _ _ _ _ _ => herbariumlaw17_SealExact.l2.eq_2 ..) (negD (by omega) ?_)
    exact (se_l3 (x := x) hi (by omega) h1 0 (by omega)).e2
  · intro k hk ih ts ht
    refine step2 (fun _ _ _ _ _ => herbariumlaw17_SealExact.l2.eq_2 ..) (posD (by omega) (pos (by omega) (pos (by omega) ?_)))
    have e : (wr .i64 ((wr .i64 ((k : Int) * 13)) + (i : Int))).tmod (((bytesL s).length : Nat) : Int) = (((k * 13 + i) % 64 : Nat) : Int) := by
      rw [w64 (i := (k : Int) * 13) (by omega) (by omega), w64 (by omega) (by omega), hb, hs, tmE (by omega)]; omega
    rw [e]
    refine pos (by omega) (pos (by omega) (pos (by omega) (pos (by simp; omega) ?_)))
    rw [w1 (by omega)]
    exact ih _ (by simp [ht]; omega)
theorem se_l1 (h : Fit x) : ∀ i : Nat, i ≤ 8 → E1 (fun K a => herbariumlaw17_SealExact.l1 K x a (i : Int)) true := by
  refine upto ?_ ?_
  · refine step1 (fun _ _ _ _ _ => herbariumlaw17_SealExact.l1.eq_2 ..) ?_
    by_cases c : 8 < x.S.length
    · exact posD (by omega) (negD (by omega) (bnd wakes17_ev (now _)))
    · exact negD (by omega) (bnd wakes17_ev (now _))
  · intro i hi ih
    refine step1 (fun _ _ _ _ _ => herbariumlaw17_SealExact.l1.eq_2 ..) ?_
    by_cases c : i < x.S.length
    · have hy : (x.S.getD i default).size ≤ 140737488351232 := h.2 _ (getD_mem (d := default) c)
      refine posD (by omega) (posD (by omega) (pos (by omega) ?_))
      rw [nthN]
      have ha := add_ev (x.S.getD i default) (by omega)
      have sa := addP_size (x.S.getD i default)
      refine bnd ha (pos (by omega) (bnd (of_ev _ (by omega)) (pos (by omega) (bnd (rof_ev _ (by omega)) (negN rfl (pos (by omega) (bnd (radd_ev _ (by omega)) (strN rfl (pos (by omega) (pos ?_ (pos ?_ ?_)))))))))))
      · rw [sa]; show ((64 + 1 : Nat) : Int) ≤ _; omega
      · rw [sa]; rw [w64 (by omega) (by omega)]; omega
      · exact (se_l2 (go1 := fun K a => herbariumlaw17_SealExact.l1 K x a) sa (by omega) ih 0 (by omega) _ rfl).e2
    · exact negD (by omega) (bnd wakes17_ev (now _))
theorem sealExact_pure (x : herbariumlaw17_Ask) (h : Fit x) : ∃ K, herbariumlaw17_SealExact K x = some true := by
  obtain ⟨b, hb⟩ := heavy17_ev x h
  refine Ev.get (bnd hb ?_)
  cases b with
  | true => exact pos rfl (now _)
  | false => exact negB rfl (se_l1 h 0 (by omega)).e1
theorem sum_set : ∀ (l : List Int) (k : Nat) (v : Int), k < l.length → (l.set k v).sum = l.sum - l.getD k 0 + v
  | [], k, v, h => by simp at h
  | c :: cs, 0, v, h => by simp; omega
  | c :: cs, k + 1, v, h => by
    rw [List.set_cons_succ, List.sum_cons, List.sum_cons, sum_set cs k v (by simpa using h)]
    simp; omega
theorem chk_low (s : ByteArray) : chk s % 65536 = (1 + (bytesL s).sum) % 65521 := by
  have h := adl_rng (bytesL s) (1, 0) (by unfold G2; decide)
  have h2 := adl_fst (bytesL s) (1, 0) ⟨by decide, by decide⟩
  unfold G2 at h
  unfold chk chkL
  simp only at h2
  omega
theorem turned_no {s : ByteArray} (h : okB s) {k : Nat} (hk : k < 64) {v : Int} (v0 : 0 ≤ v) (v1 : v ≤ 255) (hv : v ≠ (bytesL s).getD k 0) : ¬ okB (bytesOf ((bytesL s).set k v)) := by
  obtain ⟨hs, hc⟩ := h
  intro ⟨gs, gc⟩
  have hb := bytesL_len s
  have hlen : k < (bytesL s).length := by omega
  have hr := bytesL_rng s _ (getD_mem (d := 0) hlen)
  have hL : bytesL (bytesOf ((bytesL s).set k v)) = (bytesL s).set k v := bytesL_bytesOf (fun x hx => by
    rcases List.mem_or_eq_of_mem_set hx with hx | rfl
    · exact bytesL_rng s x hx
    · exact ⟨v0, v1⟩)
  have gc2 := congrArg bytesL gc
  have hc2 := congrArg bytesL hc
  rw [four_L, bytesL_ext, hL] at gc2
  rw [four_L, bytesL_ext] at hc2
  by_cases c : k < 60
  · have e : (((bytesL s).set k v).take 64).drop 60 = ((bytesL s).take 64).drop 60 := by
      rw [List.take_of_length_le (by simp; omega), List.take_of_length_le (by omega), List.drop_set_of_lt c]
    rw [e, ← hc2] at gc2
    have e2 : chk ((bytesOf ((bytesL s).set k v)).extract 0 60) = chk (s.extract 0 60) := by
      have q1 := chk_rng ((bytesOf ((bytesL s).set k v)).extract 0 60)
      have q2 := chk_rng (s.extract 0 60)
      simp only [fourL, List.cons.injEq, and_true] at gc2
      omega
    have e3 : chk ((bytesOf ((bytesL s).set k v)).extract 0 60) % 65536 = chk (s.extract 0 60) % 65536 := by rw [e2]
    rw [chk_low, chk_low, bytesL_ext, bytesL_ext, hL, List.drop_zero, List.drop_zero, List.take_set, sum_set _ _ _ (by simp; omega)] at e3
    have e4 : ((bytesL s).take 60).getD k 0 = (bytesL s).getD k 0 := by
      simp only [List.getD_eq_getElem?_getD, List.getElem?_take, c, if_true]
    rw [e4] at e3
    omega
  · have e : (bytesOf ((bytesL s).set k v)).extract 0 60 = s.extract 0 60 := by
      apply bytesL_inj
      rw [bytesL_ext, bytesL_ext, hL, List.take_set_of_le (by omega)]
    rw [e, hc2] at gc2
    rw [List.take_of_length_le (by omega), List.take_of_length_le (by simp; omega)] at gc2
    have e3 : ((bytesL s).drop 60).getD (k - 60) 0 = (((bytesL s).set k v).drop 60).getD (k - 60) 0 := by rw [gc2]
    simp only [List.getD_eq_getElem?_getD, List.getElem?_drop] at e3
    rw [show 60 + (k - 60) = k by omega, List.getElem?_set_self (by omega)] at e3
    apply hv
    rw [List.getD_eq_getElem?_getD, e3]; rfl
theorem st_l2 {go1 : Nat → Nat → Int → Option Bool} {i : Nat} {s : ByteArray} (hs : okB s) (hi : i < 100) (h1 : E1 (fun K a => go1 K a ((i + 1 : Nat) : Int)) true) : ∀ k : Nat, k ≤ 64 →
    E2 (fun K a b => herbariumlaw17_SealTurned.l2 K (go1 K a) (i : Int) s x b (k : Int)) true := by
  have hb := bytesL_len s
  have h64 := hs.1
  refine upto ?_ ?_
  · refine step2 (fun _ _ _ _ _ => herbariumlaw17_SealTurned.l2.eq_2 ..) (negD (by omega) ?_)
    rw [w1 (by omega)]; exact h1
  · intro k hk ih
    refine step2 (fun _ _ _ _ _ => herbariumlaw17_SealTurned.l2.eq_2 ..) (posD (by omega) (pos (by omega) ?_))
    obtain ⟨r, r0, r1, hr⟩ := within_eq (wr .i64 ((wr .i64 ((k : Int) * 29)) + (wr .i64 ((i : Int) * 7)))) 255 (by decide) (by decide)
    refine bnd (congr (fun K _ _ _ _ => hr K) (now _)) (pos (by omega) ?_)
    have r1 : r < 255 := r1
    have hk' : k < (bytesL s).length := by omega
    have hbr := bytesL_rng s _ (getD_mem (d := 0) hk')
    rw [Int.toNat_natCast, show nth (bytesL s) (k : Int) = (bytesL s).getD k 0 from rdN _ _, w64 (i := 1 + r) (by omega) (by omega), wu8, wu8]
    have no := turned_no hs hk (v := ((bytesL s).getD k 0 + (1 + r) % 256) % 256) (by omega) (by omega) (by omega)
    refine bnd (take_ev _) ?_
    unfold takeP
    rw [if_neg no]
    refine negB rfl ?_
    rw [w1 (by omega)]; exact ih
theorem st_l1 (h : Fit x) : ∀ i : Nat, i ≤ 8 → E1 (fun K a => herbariumlaw17_SealTurned.l1 K x a (i : Int)) true := by
  refine upto ?_ ?_
  · refine step1 (fun _ _ _ _ _ => herbariumlaw17_SealTurned.l1.eq_2 ..) ?_
    by_cases c : 8 < x.S.length
    · exact posD (by omega) (negD (by omega) (bnd wakes17_ev (now _)))
    · exact negD (by omega) (bnd wakes17_ev (now _))
  · intro i hi ih
    refine step1 (fun _ _ _ _ _ => herbariumlaw17_SealTurned.l1.eq_2 ..) ?_
    by_cases c : i < x.S.length
    · have hy : (x.S.getD i default).size ≤ 140737488351232 := h.2 _ (getD_mem (d := default) c)
      refine posD (by omega) (posD (by omega) (pos (by omega) ?_))
      rw [nthN]
      have ha := add_ev (x.S.getD i default) (by omega)
      have sa := addP_size (x.S.getD i default)
      refine bnd ha (negN (by omega) ?_)
      exact (st_l2 (go1 := fun K a => herbariumlaw17_SealTurned.l1 K x a) (addP_ok _) (by omega) ih 0 (by omega)).e2
    · exact negD (by omega) (bnd wakes17_ev (now _))
theorem sealTurned_pure (x : herbariumlaw17_Ask) (h : Fit x) : ∃ K, herbariumlaw17_SealTurned K x = some true := by
  obtain ⟨b, hb⟩ := heavy17_ev x h
  refine Ev.get (bnd hb ?_)
  cases b with
  | true => exact pos rfl (now _)
  | false => exact negB rfl (st_l1 h 0 (by omega)).e1
end Go.XL
end
