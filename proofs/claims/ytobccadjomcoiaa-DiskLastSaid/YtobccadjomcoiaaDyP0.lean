import Derived.Test.YtobccadjomcoiaaDyC0
import Derived.Laws.BitsLemmas
import Derived.Lib.Strings
set_option linter.all false
section
namespace Go.XL
open Go.XM
def Ev {α : Type} (g : Nat → Nat → Nat → Nat → Nat → Option α) (r : α) : Prop := ∃ m, ∀ K a b c d, m ≤ K → m ≤ a → m ≤ b → m ≤ c → m ≤ d → g K a b c d = some r
abbrev E0 {α : Type} (g : Nat → Option α) (r : α) : Prop := Ev (fun K _ _ _ _ => g K) r
abbrev E1 {α : Type} (g : Nat → Nat → Option α) (r : α) : Prop := Ev (fun K a _ _ _ => g K a) r
abbrev E2 {α : Type} (g : Nat → Nat → Nat → Option α) (r : α) : Prop := Ev (fun K a b _ _ => g K a b) r
theorem now {α : Type} (r : α) : Ev (fun _ _ _ _ _ => some r) r := ⟨0, fun _ _ _ _ _ _ _ _ _ _ => rfl⟩
theorem nowE {α : Type} {r s : α} (h : s = r) : Ev (fun _ _ _ _ _ => some s) r := ⟨0, fun _ _ _ _ _ _ _ _ _ _ => by rw [h]⟩
theorem pos {α : Type} {c : Prop} [Decidable c] {f g : Nat → Nat → Nat → Nat → Nat → Option α} {r : α} (h : c) (k : Ev f r) : Ev (fun x y z u v => if c then f x y z u v else g x y z u v) r := by
  obtain ⟨m, k⟩ := k
  exact ⟨m, fun x y z u v a b c d e => (if_pos h).trans (k x y z u v a b c d e)⟩
theorem neg {α : Type} {c : Prop} [Decidable c] {f g : Nat → Nat → Nat → Nat → Nat → Option α} {r : α} (h : ¬ c) (k : Ev g r) : Ev (fun x y z u v => if c then f x y z u v else g x y z u v) r := by
  obtain ⟨m, k⟩ := k
  exact ⟨m, fun x y z u v a b c d e => (if_neg h).trans (k x y z u v a b c d e)⟩
theorem posD {α : Type} {c : Prop} [Decidable c] {f g : Nat → Nat → Nat → Nat → Nat → Option α} {r : α} (h : c) (k : Ev f r) : Ev (fun x y z u v => if decide c = true then f x y z u v else g x y z u v) r := pos (decide_eq_true h) k
theorem negD {α : Type} {c : Prop} [Decidable c] {f g : Nat → Nat → Nat → Nat → Nat → Option α} {r : α} (h : ¬ c) (k : Ev g r) : Ev (fun x y z u v => if decide c = true then f x y z u v else g x y z u v) r := neg (by simpa using h) k
theorem posM {α : Type} {c : Prop} [Decidable c] {f g : Nat → Nat → Nat → Nat → Nat → Option α} {r : α} (h : ¬ c) (k : Ev f r) : Ev (fun x y z u v => if (!decide c) = true then f x y z u v else g x y z u v) r := pos (by rw [decide_eq_false h]; rfl) k
theorem negM {α : Type} {c : Prop} [Decidable c] {f g : Nat → Nat → Nat → Nat → Nat → Option α} {r : α} (h : c) (k : Ev g r) : Ev (fun x y z u v => if (!decide c) = true then f x y z u v else g x y z u v) r := neg (by rw [decide_eq_true h]; decide) k
theorem posE {α : Type} {p q : Int} {f g : Nat → Nat → Nat → Nat → Nat → Option α} {r : α} (h : p = q) (k : Ev f r) : Ev (fun x y z u v => if (p == q) = true then f x y z u v else g x y z u v) r := pos (by simp [h]) k
theorem negE {α : Type} {p q : Int} {f g : Nat → Nat → Nat → Nat → Nat → Option α} {r : α} (h : ¬ p = q) (k : Ev g r) : Ev (fun x y z u v => if (p == q) = true then f x y z u v else g x y z u v) r := neg (by simpa using h) k
theorem posN {α : Type} {p q : Int} {f g : Nat → Nat → Nat → Nat → Nat → Option α} {r : α} (h : ¬ p = q) (k : Ev f r) : Ev (fun x y z u v => if (p != q) = true then f x y z u v else g x y z u v) r := pos (by simpa using h) k
theorem negN {α : Type} {p q : Int} {f g : Nat → Nat → Nat → Nat → Nat → Option α} {r : α} (h : p = q) (k : Ev g r) : Ev (fun x y z u v => if (p != q) = true then f x y z u v else g x y z u v) r := neg (by simp [h]) k
theorem bnd {α β : Type} {g : Nat → Nat → Nat → Nat → Nat → Option α} {f : Nat → Nat → Nat → Nat → Nat → α → Option β} {a : α} {r : β} (h : Ev g a) (k : Ev (fun x y z u v => f x y z u v a) r) : Ev (fun x y z u v => (g x y z u v).bind (f x y z u v)) r := by
  obtain ⟨m, h⟩ := h
  obtain ⟨m', k⟩ := k
  refine ⟨max m m', fun x y z u v a b c d e => ?_⟩
  show (g x y z u v).bind _ = _
  rw [h x y z u v (by omega) (by omega) (by omega) (by omega) (by omega)]
  exact k x y z u v (by omega) (by omega) (by omega) (by omega) (by omega)
theorem ofEq {α : Type} {g : Nat → Nat → Nat → Nat → Nat → Option α} {r s : α} (h : Ev g r) (e : r = s) : Ev g s := e ▸ h
theorem congr {α : Type} {f g : Nat → Nat → Nat → Nat → Nat → Option α} {r : α} (e : ∀ x y z u v, g x y z u v = f x y z u v) (h : Ev f r) : Ev g r := by
  obtain ⟨m, h⟩ := h
  exact ⟨m, fun x y z u v a b c d k => by rw [e]; exact h x y z u v a b c d k⟩
theorem step1 {α : Type} {f g : Nat → Nat → Nat → Nat → Nat → Option α} {r : α} (e : ∀ x y z u v, g x (y + 1) z u v = f x y z u v) (h : Ev f r) : Ev g r := by
  obtain ⟨m, h⟩ := h
  refine ⟨m + 1, fun x y z u v a b c d k => ?_⟩
  obtain ⟨y, rfl⟩ : ∃ n, y = n + 1 := ⟨y - 1, by omega⟩
  rw [e]; exact h x y z u v (by omega) (by omega) (by omega) (by omega) (by omega)
theorem step2 {α : Type} {f g : Nat → Nat → Nat → Nat → Nat → Option α} {r : α} (e : ∀ x y z u v, g x y (z + 1) u v = f x y z u v) (h : Ev f r) : Ev g r := by
  obtain ⟨m, h⟩ := h
  refine ⟨m + 1, fun x y z u v a b c d k => ?_⟩
  obtain ⟨z, rfl⟩ : ∃ n, z = n + 1 := ⟨z - 1, by omega⟩
  rw [e]; exact h x y z u v (by omega) (by omega) (by omega) (by omega) (by omega)
theorem Ev.e1 {α : Type} {g : Nat → Nat → Nat → Nat → Nat → Option α} {r : α} (h : Ev g r) : Ev (fun x y z u v => g x x z u v) r := by
  obtain ⟨m, h⟩ := h
  exact ⟨m, fun x y z u v a b c d k => h x x z u v a a c d k⟩
theorem Ev.e2 {α : Type} {g : Nat → Nat → Nat → Nat → Nat → Option α} {r : α} (h : Ev g r) : Ev (fun x y z u v => g x y x u v) r := by
  obtain ⟨m, h⟩ := h
  exact ⟨m, fun x y z u v a b c d k => h x y x u v a b a d k⟩
theorem Ev.e4 {α : Type} {g : Nat → Nat → Nat → Nat → Nat → Option α} {r : α} (h : Ev g r) : Ev (fun x y z u v => g x y z u x) r := by
  obtain ⟨m, h⟩ := h
  exact ⟨m, fun x y z u v a b c d k => h x y z u x a b c d a⟩
theorem Ev.all {α : Type} {g : Nat → Option α} {r : α} (h : E0 g r) : ∃ m, ∀ K, m ≤ K → g K = some r := by
  obtain ⟨m, h⟩ := h
  exact ⟨m, fun K hK => h K K K K K hK hK hK hK hK⟩
theorem Ev.get {α : Type} {g : Nat → Option α} {r : α} (h : E0 g r) : ∃ K, g K = some r := by
  obtain ⟨m, h⟩ := h.all
  exact ⟨m, h m (Nat.le_refl _)⟩
theorem w64 {i : Int} (h : -9223372036854775808 ≤ i) (h' : i ≤ 9223372036854775807) : wr .i64 i = i := by show Go.RowKit.wrap64 i = i; unfold Go.RowKit.wrap64; omega
theorem w1 {i : Nat} (h : i < 4611686018427387904) : wr .i64 ((i : Int) + 1) = ((i + 1 : Nat) : Int) := by rw [w64 (by omega) (by omega)]; omega
theorem upto {n : Nat} {Q : Nat → Prop} (base : Q n) (step : ∀ i, i < n → Q (i + 1) → Q i) : ∀ i, i ≤ n → Q i := by
  have key : ∀ d i, i + d = n → Q i := by
    intro d
    induction d with
    | zero => intro i hi; rw [show i = n by omega]; exact base
    | succ d ih => intro i hi; exact step i (by omega) (ih (i + 1) (by omega))
  intro i hi
  exact key (n - i) i (by omega)
theorem getD_lt {α : Type} {d : α} {xs : List α} {i : Nat} (h : i < xs.length) : xs.getD i d = xs[i] := by simp [List.getD_eq_getElem?_getD, List.getElem?_eq_getElem h]
theorem getD_mem {α : Type} {d : α} {xs : List α} {i : Nat} (h : i < xs.length) : xs.getD i d ∈ xs := by rw [getD_lt h]; exact List.getElem_mem h
theorem drop_getD {α : Type} {d : α} {xs : List α} {i : Nat} (h : i < xs.length) : xs.drop i = xs.getD i d :: xs.drop (i + 1) := by rw [getD_lt h]; exact List.drop_eq_getElem_cons h
theorem take_getD {α : Type} {d : α} {xs : List α} {i : Nat} (h : i < xs.length) : xs.take (i + 1) = xs.take i ++ [xs.getD i d] := by rw [getD_lt h, List.take_succ_eq_append_getElem h]
theorem getD_set {α : Type} {d : α} (xs : List α) (i j : Nat) (v : α) (h : i < xs.length) : (xs.set i v).getD j d = if j = i then v else xs.getD j d := by
  simp only [List.getD_eq_getElem?_getD, List.getElem?_set]
  by_cases e : i = j
  · subst e; simp [h]
  · simp [e, Ne.symm e]
theorem nthN {α : Type} [Inhabited α] (xs : List α) (i : Nat) : nth xs (i : Int) = xs.getD i default := by simp [nth]
theorem rdN (xs : List Int) (i : Nat) : nth xs (i : Int) = xs.getD i 0 := nthN xs i
theorem negB {α : Type} {b : Bool} {f g : Nat → Nat → Nat → Nat → Nat → Option α} {r : α} (h : b = false) (k : Ev g r) : Ev (fun x y z u v => if b = true then f x y z u v else g x y z u v) r := neg (by rw [h]; decide) k
end Go.XL
end
section
namespace Go.XL
open Go.XM
theorem beq_str (a b : ByteArray) : (a.toList == b.toList) = decide (a = b) := by
  rw [Lib.toList_data, Lib.toList_data]
  by_cases h : a = b
  · rw [h]; simp
  · rw [decide_eq_false h]
    have : ¬ a.data.toList = b.data.toList := fun e => h (ByteArray.ext (by
      rw [← Array.toArray_toList (xs := a.data), ← Array.toArray_toList (xs := b.data), e]))
    simpa using this
theorem num_eq (K : Nat) (a b : Int) : herbariumref0_Num K a b = some (decide (0 ≤ a ∧ a ≤ b)) := by
  unfold herbariumref0_Num
  by_cases h : a ≥ 0
  · rw [if_pos (decide_eq_true h)]; simp [h]
  · rw [if_neg (by simpa using h)]; simp; omega
theorem between_eq (K : Nat) (a b c : Int) : herbariumref0_Between K a b c = some (decide (b ≤ a ∧ a ≤ c)) := by
  unfold herbariumref0_Between
  by_cases h : a ≥ b
  · rw [if_pos (decide_eq_true h)]; simp [h]
  · rw [if_neg (by simpa using h)]; simp; omega
theorem within_eq (a : Int) (n : Nat) (h1 : 0 < n) (h2 : n < 1000000) : ∃ r : Int, 0 ≤ r ∧ r < n ∧ ∀ K, herbariumlaw0_Within K a (n : Int) = some r := by
  have e1 : wr .u64 (n : Int) = (n : Int) := by
    show IntKind.wrap .u64 _ = _
    unfold IntKind.wrap
    simp only [IntKind.bits, IntKind.signed]
    simp
    omega
  have e2 : 0 ≤ wr .u64 a := by
    show 0 ≤ IntKind.wrap .u64 a
    unfold IntKind.wrap
    simp only [IntKind.bits, IntKind.signed]
    simp
    omega
  refine ⟨(wr .u64 a).tmod (n : Int), Int.tmod_nonneg _ e2, ?_, fun K => ?_⟩
  · exact Int.tmod_lt_of_pos _ (by omega)
  · unfold herbariumlaw0_Within
    rw [e1, if_pos (by omega), w64]
    · have := Int.tmod_nonneg (n : Int) e2; omega
    · have := Int.tmod_lt_of_pos (wr .u64 a) (show (0 : Int) < (n : Int) by omega); omega
theorem bytesOf_data (ns : List Int) : (bytesOf ns).data.toList = ns.map fun n => UInt8.ofNat n.toNat := by
  have key : ∀ (ns : List Int) (s : ByteArray), (ns.foldl (fun s n => s.push (UInt8.ofNat n.toNat)) s).data.toList = s.data.toList ++ ns.map fun n => UInt8.ofNat n.toNat := by
    intro ns
    induction ns with
    | nil => intro s; simp
    | cons n ns ih => intro s; rw [List.foldl_cons, ih]; simp [ByteArray.push]
  have := key ns .empty
  simpa [bytesOf] using this
theorem sz_data (s : ByteArray) : s.size = s.data.toList.length := by show s.data.size = _; rw [Array.length_toList]
theorem str_ext {a b : ByteArray} (h : a.data.toList = b.data.toList) : a = b := ByteArray.ext (by
      rw [← Array.toArray_toList (xs := a.data), ← Array.toArray_toList (xs := b.data), h])
theorem bytesL_len (s : ByteArray) : (bytesL s).length = s.size := by rw [sz_data]; simp [bytesL]
theorem bytesL_bytesOf {l : List Int} (h : ∀ x ∈ l, 0 ≤ x ∧ x ≤ 255) : bytesL (bytesOf l) = l := by
  unfold bytesL
  rw [bytesOf_data, List.map_map]
  conv => rhs; rw [← List.map_id l]
  refine List.map_congr_left fun x hx => ?_
  have := h x hx
  simp only [Function.comp, id]
  simp
  omega
theorem bytesOf_bytesL (s : ByteArray) : bytesOf (bytesL s) = s := by
  apply str_ext
  rw [bytesOf_data]; unfold bytesL
  rw [List.map_map]
  conv => rhs; rw [← List.map_id s.data.toList]
  refine List.map_congr_left fun x _ => ?_
  simp
theorem bytesL_rng (s : ByteArray) : ∀ x ∈ bytesL s, 0 ≤ x ∧ x ≤ 255 := by
  intro x hx
  obtain ⟨b, _, rfl⟩ := List.mem_map.1 hx
  have := b.toNat_lt
  omega
theorem bytesL_inj {a b : ByteArray} (h : bytesL a = bytesL b) : a = b := by rw [← bytesOf_bytesL a, h, bytesOf_bytesL]
def adl : List Int → Int × Int → Int × Int
  | [], p => p
  | c :: cs, p => adl cs ((p.1 + c) % 65521, (p.2 + (p.1 + c) % 65521) % 65521)
def chkL (l : List Int) : Int := (adl l (1, 0)).2 * 65536 + (adl l (1, 0)).1
def chk (s : ByteArray) : Int := chkL (bytesL s)
def nulls (n : Nat) : ByteArray := ⟨(List.replicate n 0).toArray⟩
theorem nulls_size (n : Nat) : (nulls n).size = n := by unfold nulls; show (List.replicate n 0).toArray.size = n; simp
theorem repeat_eq (K n : Nat) (h : n ≤ 1000) : strings_Repeat K (⟨#[0]⟩ : ByteArray) (n : Int) = some (nulls n) := by
  have hr : ∀ m, Lib.repeatL [0] m = List.replicate m (0 : UInt8) := fun m => by
    induction m with
    | zero => rfl
    | succ m ih => rw [Lib.repeatL, ih]; rfl
  unfold strings_Repeat repF
  rw [Int.toNat_natCast, if_pos ⟨by omega, by omega, by show 1 * n ≤ _; omega⟩]
  show some (⟨(Lib.repeatL [0] n).toArray⟩ : ByteArray) = _
  rw [hr]; rfl
theorem bytesOf_zero (n : Nat) : bytesOf (List.replicate n 0) = nulls n := by
  apply str_ext
  rw [bytesOf_data]; simp [nulls]
theorem zeros_eq (K n : Nat) (h : n ≤ 1000) : herbariumref0_Zeros K (n : Int) = some (nulls n) := by
  unfold herbariumref0_Zeros
  rw [if_pos ⟨rfl, by omega, by omega, by omega⟩, Int.toNat_natCast, bytesOf_zero]
def fourL (v : Int) : List Int := [(v / 16777216) % 256, (v / 65536) % 256, (v / 256) % 256, v % 256]
def four (v : Int) : ByteArray := bytesOf (fourL v)
def okB (s : ByteArray) : Prop := s.size = 64 ∧ four (chk (s.extract 0 60)) = s.extract 60 64
instance (s : ByteArray) : Decidable (okB s) := by unfold okB; infer_instance
end Go.XL
end
section
namespace Go.XL
open Go.XM
theorem eql_gen {α : Type} [Inhabited α] [DecidableEq α] {xs ys : List α} (hl : xs.length ≤ 17592186044416) (c : Int → Bool) (hc : ∀ i, c i = !decide (nth xs i = nth ys i)) (F : Nat → Nat → Int → Option Bool)
    (hF : ∀ K k i, F K (k + 1) i = if decide (i < ((xs.length : Nat) : Int)) = true then if (0 : Int) ≤ i ∧ i < ((xs.length : Nat) : Int) then if (0 : Int) ≤ i ∧ i < ((ys.length : Nat) : Int) then if c i = true then some false else F K k (wr .i64 (i + 1)) else none else none else some true)
    (f : Nat → Option Bool) (hf : ∀ K, f K = if (((xs.length : Nat) : Int) != ((ys.length : Nat) : Int)) = true then some false else F K K (0 : Int)) : E0 f (decide (xs = ys)) := by
  refine congr (fun K _ _ _ _ => hf K) ?_
  by_cases he : xs.length = ys.length
  · refine negN (by rw [he]) ?_
    have key : ∀ i, i ≤ xs.length → xs.take i = ys.take i → E1 (fun K k => F K k (i : Int)) (decide (xs = ys)) := by
      refine upto ?_ ?_
      · intro h
        rw [List.take_length, he, List.take_length] at h
        refine step1 (fun _ _ _ _ _ => hF _ _ _) (negD (by omega) (nowE ?_))
        simp [h]
      · intro i hi ih h
        refine step1 (fun _ _ _ _ _ => hF _ _ _) (posD (by omega) (pos (by omega) (pos (by omega) ?_)))
        rw [hc, nthN, nthN]
        by_cases e : xs.getD i default = ys.getD i default
        · refine negM e ?_
          rw [w1 (by omega)]
          exact ih (by rw [take_getD (d := default) hi, take_getD (d := default) (by omega), h, e])
        · refine posM e (nowE ?_)
          exact (decide_eq_false (fun z => e (by rw [z]))).symm
    exact (key 0 (by omega) (by simp)).e1
  · refine posN (by omega) (nowE ?_)
    exact (decide_eq_false (fun z => he (by rw [z]))).symm
theorem baq (a b : ByteArray) : (a == b) = decide (a = b) := by
  obtain ⟨a⟩ := a; obtain ⟨b⟩ := b
  show (a == b) = _
  by_cases h : a = b
  · subst h; simp
  · have : ¬ (ByteArray.mk a = ByteArray.mk b) := fun z => h (by injection z)
    rw [decide_eq_false this]
    simpa using h
theorem dec_put (a b : api_Put) : ((a.At == b.At) && ((a.Text == b.Text) && true)) = decide (a = b) := by
  obtain ⟨a1, a2⟩ := a; obtain ⟨b1, b2⟩ := b
  show ((a1 == b1) && ((a2 == b2) && true)) = _
  rw [baq]
  by_cases h : a1 = b1 <;> by_cases k : a2 = b2 <;> simp [h, k]
theorem eqs_ev (xs ys : List ByteArray) (h : xs.length ≤ 17592186044416) : E0 (fun K => herbariumref0_EqStrings K xs ys) (decide (xs = ys)) :=
  eql_gen h (fun i => !((nth xs i).toList == (nth ys i).toList)) (fun i => by rw [beq_str]) (fun K k i => herbariumref0_EqStrings.l1 K xs ys k i) (fun K k i => herbariumref0_EqStrings.l1.eq_2 ..) _ (fun K => rfl)
theorem eqp_ev (xs ys : List api_Put) (h : xs.length ≤ 17592186044416) : E0 (fun K => herbariumref0_EqPuts K xs ys) (decide (xs = ys)) :=
  eql_gen h _ (fun i => by rw [dec_put]) (fun K k i => herbariumref0_EqPuts.l1 K xs ys k i) (fun K k i => herbariumref0_EqPuts.l1.eq_2 ..) _ (fun K => rfl)
def Sm (d : api_Disk) : Prop := d.Blocks.length * 16 ≤ 140737488351232 ∧ d.Waits.length * 24 ≤ 140737488351232
theorem eqd_ev (x y : api_Disk) (h : Sm x) : E0 (fun K => herbariumref0_EqDisk K x y) (decide (x = y)) := by
  obtain ⟨h1, h2⟩ := h
  refine bnd (eqs_ev _ _ (by omega)) ?_
  obtain ⟨a, b⟩ := x; obtain ⟨c, d⟩ := y
  by_cases e : a = c
  · refine pos (by simpa using e) (bnd (eqp_ev _ _ (by omega)) (nowE ?_))
    simp [e]
  · refine neg (by simpa using e) (nowE ?_)
    simp [e]
theorem own_ev {d : api_Disk} (h : Sm d) : E0 (fun K => disk_Own K d) d := by
  obtain ⟨h1, h2⟩ := h
  refine bnd (a := d.1) (pos (by show (0 + d.Blocks.length) * 16 ≤ _; omega) (now _)) (bnd (a := d.2) (pos (by show (0 + d.Waits.length) * 24 ≤ _; omega) (now _)) (now _))
def PutOk (n : Nat) (p : api_Put) : Prop := 0 ≤ p.At ∧ p.At < (n : Int) ∧ p.Text.size = 64
instance (n : Nat) (p : api_Put) : Decidable (PutOk n p) := by unfold PutOk; infer_instance
def OkD (d : api_Disk) : Prop := 1 ≤ d.Blocks.length ∧ d.Blocks.length ≤ 117 ∧ d.Waits.length ≤ 468 ∧ (∀ b ∈ d.Blocks, b.size = 64) ∧ ∀ p ∈ d.Waits, PutOk d.Blocks.length p
instance (d : api_Disk) : Decidable (OkD d) := by unfold OkD; infer_instance
theorem OkD.sm {d : api_Disk} (h : OkD d) : Sm d := by obtain ⟨h1, h2, h3, _⟩ := h; unfold Sm; omega
theorem there_eq (K : Nat) (d : api_Disk) (i : Int) : disk_there K d i = some (decide (0 ≤ i ∧ i < (d.Blocks.length : Int))) := by
  unfold disk_there
  by_cases h : i ≥ 0
  · rw [if_pos (decide_eq_true h)]; simp [h]
  · rw [if_neg (by simpa using h)]; simp; omega
theorem cont1_ev (xs : List ByteArray) (hl : xs.length ≤ 1000) : E0 (fun K => slices_ContainsFunc___string_string__disk_May_1 K xs) (!decide (∀ b ∈ xs, b.size = 64)) := by
  have key : ∀ i, i ≤ xs.length → (∀ b ∈ xs.take i, b.size = 64) → ∃ r, E1 (fun K k => slices_IndexFunc___string_string__disk_May_1.l1 K xs k ((xs.length : Nat) : Int) (i : Int)) r ∧ decide (r ≥ 0) = !decide (∀ b ∈ xs, b.size = 64) := by
    refine upto ?_ ?_
    · intro h
      rw [List.take_length] at h
      exact ⟨-1, step1 (fun _ _ _ _ _ => slices_IndexFunc___string_string__disk_May_1.l1.eq_2 ..) (negD (by omega) (now _)), by rw [decide_eq_true h]; rfl⟩
    · intro i hi ih h
      have e : ∀ K, disk_May_1 K (xs.getD i default) = some (!(((xs.getD i default).size : Int) == 64)) := fun K => rfl
      by_cases c : (xs.getD i default).size = 64
      · obtain ⟨r, h1, h2⟩ := ih (by
          rw [take_getD (d := default) hi]
          intro b hb
          rcases List.mem_append.1 hb with hb | hb
          · exact h b hb
          · rw [List.mem_singleton.1 hb]; exact c)
        refine ⟨r, step1 (fun _ _ _ _ _ => slices_IndexFunc___string_string__disk_May_1.l1.eq_2 ..) (posD (by omega) (pos (by omega) ?_)), h2⟩
        rw [nthN]
        refine bnd (congr (fun K _ _ _ _ => e K) (now _)) (negB (by rw [c]; rfl) ?_)
        rw [w1 (by omega)]; exact h1
      · refine ⟨(i : Int), step1 (fun _ _ _ _ _ => slices_IndexFunc___string_string__disk_May_1.l1.eq_2 ..) (posD (by omega) (pos (by omega) ?_)), ?_⟩
        · rw [nthN]
          exact bnd (congr (fun K _ _ _ _ => e K) (now _)) (pos (by rw [show (((xs.getD i default).size : Int) == 64) = false from by rw [beq_eq_false_iff_ne]; omega]; rfl) (now _))
        · rw [decide_eq_true (show (i : Int) ≥ 0 by omega), decide_eq_false (fun z : ∀ b ∈ xs, b.size = 64 => c (z _ (getD_mem hi)))]; rfl
  obtain ⟨r, h1, h2⟩ := key 0 (by omega) (by simp)
  rw [← h2]
  exact bnd h1.e1 (now _)
theorem cont2_ev (xs : List api_Put) (d : api_Disk) (hl : xs.length ≤ 1000) : E0 (fun K => slices_ContainsFunc___api_Put_api_Put__disk_May_2 K xs d) (!decide (∀ p ∈ xs, PutOk d.Blocks.length p), d) := by
  have e : ∀ (K : Nat) (p : api_Put), disk_May_2 K p d = some (!decide (PutOk d.Blocks.length p), d) := by
    intro K p
    unfold disk_May_2
    rw [there_eq]
    show (if (!decide _) = true then _ else _) = _
    by_cases c : 0 ≤ p.At ∧ p.At < (d.Blocks.length : Int)
    · rw [decide_eq_true c, if_neg (by decide)]
      show some (!(((p.Text.size : Int)) == 64), d) = _
      obtain ⟨c1, c2⟩ := c
      by_cases z : p.Text.size = 64
      · rw [decide_eq_true (show PutOk d.Blocks.length p from ⟨c1, c2, z⟩), z]; rfl
      · rw [decide_eq_false (fun h : PutOk d.Blocks.length p => z h.2.2)]
        have : ((p.Text.size : Int) == 64) = false := by simp; omega
        rw [this]
    · rw [decide_eq_false c, decide_eq_false (fun h : PutOk d.Blocks.length p => c ⟨h.1, h.2.1⟩)]; rfl
  have key : ∀ i, i ≤ xs.length → (∀ b ∈ xs.take i, PutOk d.Blocks.length b) → ∃ r : Int, E1 (fun K k => slices_IndexFunc___api_Put_api_Put__disk_May_2.l1 K xs k ((xs.length : Nat) : Int) (i : Int) d.Blocks d.Waits) (r, d) ∧ decide (r ≥ 0) = !decide (∀ b ∈ xs, PutOk d.Blocks.length b) := by
    refine upto ?_ ?_
    · intro h
      rw [List.take_length] at h
      exact ⟨-1, step1 (fun _ _ _ _ _ => slices_IndexFunc___api_Put_api_Put__disk_May_2.l1.eq_2 ..) (negD (by omega) (now _)), by rw [decide_eq_true h]; rfl⟩
    · intro i hi ih h
      by_cases c : PutOk d.Blocks.length (xs.getD i default)
      · obtain ⟨r, h1, h2⟩ := ih (by
          rw [take_getD (d := default) hi]
          intro b hb
          rcases List.mem_append.1 hb with hb | hb
          · exact h b hb
          · rw [List.mem_singleton.1 hb]; exact c)
        refine ⟨r, step1 (fun _ _ _ _ _ => slices_IndexFunc___api_Put_api_Put__disk_May_2.l1.eq_2 ..) (posD (by omega) (pos (by omega) ?_)), h2⟩
        rw [nthN]
        refine bnd (congr (fun K _ _ _ _ => e K _) (now _)) (negB (by rw [decide_eq_true c]; rfl) ?_)
        rw [w1 (by omega)]; exact h1
      · refine ⟨(i : Int), step1 (fun _ _ _ _ _ => slices_IndexFunc___api_Put_api_Put__disk_May_2.l1.eq_2 ..) (posD (by omega) (pos (by omega) ?_)), ?_⟩
        · rw [nthN]
          exact bnd (congr (fun K _ _ _ _ => e K _) (now _)) (pos (by rw [decide_eq_false c]; rfl) (now _))
        · rw [decide_eq_true (show (i : Int) ≥ 0 by omega), decide_eq_false (fun z : ∀ b ∈ xs, PutOk d.Blocks.length b => c (z _ (getD_mem hi)))]; rfl
  obtain ⟨r, h1, h2⟩ := key 0 (by omega) (by simp)
  rw [← h2]
  exact bnd h1.e1 (now _)
theorem may_ev (d : api_Disk) : E0 (fun K => disk_May K d) (decide (OkD d)) := by
  by_cases c1 : d.Blocks.length < 1
  · exact posD (by omega) (nowE (decide_eq_false (fun h : OkD d => by have := h.1; omega)).symm)
  by_cases c2 : d.Blocks.length > 117
  · exact negD (by omega) (posD (by omega) (nowE (decide_eq_false (fun h : OkD d => by have := h.2.1; omega)).symm))
  by_cases c3 : d.Waits.length > 468
  · exact negD (by omega) (negD (by omega) (posD (by omega) (nowE (decide_eq_false (fun h : OkD d => by have := h.2.2.1; omega)).symm)))
  refine negD (by omega) (negD (by omega) (negD (by omega) (bnd (cont1_ev _ (by omega)) ?_)))
  by_cases c4 : ∀ b ∈ d.Blocks, b.size = 64
  · refine pos (by rw [decide_eq_true c4]; rfl) (bnd (cont2_ev _ _ (by omega)) (nowE ?_))
    by_cases c5 : ∀ p ∈ d.Waits, PutOk d.Blocks.length p
    · rw [decide_eq_true c5, decide_eq_true (show OkD d from ⟨by omega, by omega, by omega, c4, c5⟩)]; rfl
    · rw [decide_eq_false c5, decide_eq_false (fun h : OkD d => c5 h.2.2.2.2)]; rfl
  · exact neg (by rw [decide_eq_false c4]; decide) (nowE (decide_eq_false (fun h : OkD d => c4 h.2.2.2.1)).symm)
theorem rdisk_ev (d : api_Disk) : E0 (fun K => herbariumref17_Disk K d) (decide (OkD d)) := by
  refine bnd (congr (fun K _ _ _ _ => between_eq K _ _ _) (now _)) ?_
  by_cases c1 : ¬ ((1 : Int) ≤ ((d.Blocks.length : Nat) : Int) ∧ ((d.Blocks.length : Nat) : Int) ≤ 117)
  · exact posM c1 (nowE (decide_eq_false (fun h : OkD d => c1 ⟨by have := h.1; omega, by have := h.2.1; omega⟩)).symm)
  have c1 := Classical.not_not.1 c1
  refine negM c1 ?_
  by_cases c3 : d.Waits.length > 468
  · exact posD (by omega) (nowE (decide_eq_false (fun h : OkD d => by have := h.2.2.1; omega)).symm)
  refine negD (by omega) ?_
  have l2 : (∀ b ∈ d.Blocks, b.size = 64) → ∀ i, i ≤ d.Waits.length → (∀ p ∈ d.Waits.take i, PutOk d.Blocks.length p) → E1 (fun K k => herbariumref17_Disk.l2 K d k (i : Int)) (decide (OkD d)) := by
    intro c4
    refine upto ?_ ?_
    · intro h
      rw [List.take_length] at h
      exact step1 (fun _ _ _ _ _ => herbariumref17_Disk.l2.eq_2 ..) (negD (by omega) (nowE (decide_eq_true (show OkD d from ⟨by omega, by omega, by omega, c4, h⟩)).symm))
    · intro i hi ih h
      refine step1 (fun _ _ _ _ _ => herbariumref17_Disk.l2.eq_2 ..) (posD (by omega) (pos (by omega) ?_))
      rw [nthN, w64 (i := ((d.Blocks.length : Nat) : Int) - 1) (by omega) (by omega)]
      refine bnd (congr (fun K _ _ _ _ => num_eq K _ _) (now _)) ?_
      by_cases a : 0 ≤ (d.Waits.getD i default).At ∧ (d.Waits.getD i default).At ≤ ((d.Blocks.length : Nat) : Int) - 1
      · refine negM a (pos (by omega) ?_)
        by_cases b : (d.Waits.getD i default).Text.size = 64
        · refine negN (by omega) ?_
          rw [w1 (by omega)]
          refine ih ?_
          rw [take_getD (d := default) hi]
          intro p hp
          rcases List.mem_append.1 hp with hp | hp
          · exact h p hp
          · rw [List.mem_singleton.1 hp]; exact ⟨a.1, by omega, b⟩
        · exact posN (by omega) (nowE (decide_eq_false (fun z : OkD d => b (z.2.2.2.2 _ (getD_mem hi)).2.2)).symm)
      · exact posM a (nowE (decide_eq_false (fun z : OkD d => a ⟨(z.2.2.2.2 _ (getD_mem hi)).1, by have := (z.2.2.2.2 _ (getD_mem (d := default) hi)).2.1; omega⟩)).symm)
  have l1 : ∀ i, i ≤ d.Blocks.length → (∀ b ∈ d.Blocks.take i, b.size = 64) → E1 (fun K k => herbariumref17_Disk.l1 K d k (i : Int)) (decide (OkD d)) := by
    refine upto ?_ ?_
    · intro h
      rw [List.take_length] at h
      exact step1 (fun _ _ _ _ _ => herbariumref17_Disk.l1.eq_2 ..) (negD (by omega) (l2 h 0 (by omega) (by simp)).e1)
    · intro i hi ih h
      refine step1 (fun _ _ _ _ _ => herbariumref17_Disk.l1.eq_2 ..) (posD (by omega) (pos (by omega) ?_))
      rw [nthN]
      by_cases b : (d.Blocks.getD i default).size = 64
      · refine negN (by omega) ?_
        rw [w1 (by omega)]
        refine ih ?_
        rw [take_getD (d := default) hi]
        intro p hp
        rcases List.mem_append.1 hp with hp | hp
        · exact h p hp
        · rw [List.mem_singleton.1 hp]; exact b
      · exact posN (by omega) (nowE (decide_eq_false (fun z : OkD d => b (z.2.2.2.1 _ (getD_mem hi)))).symm)
  exact (l1 0 (by omega) (by simp)).e1
end Go.XL
end
section
namespace Go.XL
open Go.XM
def keepAt (l : List Int) (i : Nat) : Bool := decide (0 < l.length) && ((ib .and .i64 (l.getD (i % l.length) 0) 1) == 1)
def crashB (l : List Int) : Nat → List api_Put → List ByteArray → List ByteArray
  | _, [], b => b
  | i, p :: ps, b => crashB l (i + 1) ps (if keepAt l i = true then b.set p.At.toNat p.Text else b)
theorem crashB_len (l : List Int) : ∀ (ps : List api_Put) (i : Nat) (b : List ByteArray), (crashB l i ps b).length = b.length
  | [], _, _ => rfl
  | p :: ps, i, b => by rw [crashB, crashB_len l ps]; split <;> simp
theorem crashB_64 (l : List Int) : ∀ (ps : List api_Put) (i : Nat) (b : List ByteArray), (∀ p ∈ ps, p.Text.size = 64) → (∀ x ∈ b, x.size = 64) → ∀ x ∈ crashB l i ps b, x.size = 64
  | [], _, _, _, h => h
  | p :: ps, i, b, hp, hb => by
    rw [crashB]
    refine crashB_64 l ps _ _ (fun q hq => hp q (List.mem_cons_of_mem _ hq)) ?_
    split
    · intro x hx
      rcases List.mem_or_eq_of_mem_set hx with hx | rfl
      · exact hb x hx
      · exact hp p List.mem_cons_self
    · exact hb
theorem crash_ok {d : api_Disk} (h : OkD d) (l : List Int) : OkD ((crashB l 0 d.Waits d.Blocks, []) : api_Disk) := by
  obtain ⟨h1, h2, h3, h4, h5⟩ := h
  have e := crashB_len l d.Waits 0 d.Blocks
  refine ⟨?_, ?_, by show (0 : Nat) ≤ 468; omega, crashB_64 l _ _ _ (fun p hp => (h5 p hp).2.2) h4, fun p (hp : p ∈ ([] : List api_Put)) => by cases hp⟩
  · show 1 ≤ (crashB l 0 d.Waits d.Blocks).length; omega
  · show (crashB l 0 d.Waits d.Blocks).length ≤ 117; omega
theorem tmN (i n : Nat) : ((i : Int)).tmod ((n : Nat) : Int) = ((i % n : Nat) : Int) := (Int.ofNat_tmod i n).symm
theorem crash_l1 {d : api_Disk} (l : List Int) (hw : d.Waits.length ≤ 1000) : ∀ i, i ≤ d.Waits.length → ∀ b : List ByteArray, (∀ p ∈ d.Waits, PutOk b.length p) → E1 (fun K k => disk_Crash.l1 K d l k ((d.Waits.length : Nat) : Int) (i : Int) b) ((crashB l i (d.Waits.drop i) b, []), 0) := by
  refine upto ?_ ?_
  · intro b _
    rw [List.drop_eq_nil_of_le (Nat.le_refl _)]
    exact step1 (fun _ _ _ _ _ => disk_Crash.l1.eq_2 ..) (negD (by omega) (now _))
  · intro i hi ih b hb
    have hp := hb _ (getD_mem (d := default) hi)
    refine step1 (fun _ _ _ _ _ => disk_Crash.l1.eq_2 ..) (posD (by omega) (pos (by omega) ?_))
    rw [nthN, drop_getD (d := default) hi, crashB]
    have fin : ∀ t : Bool, t = keepAt l i → E1 (fun K k => disk_Crash.j2 K (disk_Crash.l1 K d l k) b d ((d.Waits.length : Nat) : Int) (i : Int) l t (d.Waits.getD i default).At (d.Waits.getD i default).Text) ((crashB l (i + 1) (d.Waits.drop (i + 1)) (if keepAt l i = true then b.set (d.Waits.getD i default).At.toNat (d.Waits.getD i default).Text else b), []), 0) := by
      intro t ht
      subst ht
      unfold disk_Crash.j2
      by_cases c : keepAt l i = true
      · rw [if_pos c]
        refine pos c (pos ⟨hp.1, hp.2.1⟩ ?_)
        rw [w1 (by omega)]
        exact ih _ (by simpa using hb)
      · rw [if_neg c]
        refine neg c ?_
        rw [w1 (by omega)]
        exact ih _ hb
    by_cases c : 0 < l.length
    · refine posD (by omega) (pos (by omega) ?_)
      have := Nat.mod_lt i c
      rw [tmN, rdN]
      refine pos (by omega) (fin _ ?_)
      unfold keepAt
      rw [decide_eq_true c]; rfl
    · refine negD (by omega) (fin _ ?_)
      unfold keepAt
      rw [decide_eq_false c]; rfl
theorem crash_ev (d : api_Disk) (l : List Int) : E0 (fun K => disk_Crash K d l) (if OkD d then ((crashB l 0 d.Waits d.Blocks, []), 0) else (([], []), 1)) := by
  refine bnd (may_ev d) ?_
  by_cases c : OkD d
  · rw [if_pos c]
    exact negM c (bnd (own_ev c.sm) (crash_l1 l (by have := c.2.2.1; omega) 0 (by omega) _ c.2.2.2.2).e1)
  · rw [if_neg c]
    exact posM c (now _)
theorem keep1 (i : Nat) : keepAt [1] i = true := by
  unfold keepAt
  rw [show i % [(1 : Int)].length = 0 from Nat.mod_one i]; decide
def stepP (d : api_Disk) (x : api_Do) : Int × api_Disk :=
  if x.Sync = true then (0, (crashB [1] 0 d.Waits d.Blocks, [])) else if ¬ (0 ≤ x.Put.At ∧ x.Put.At < (d.Blocks.length : Int)) then (3, d) else if ¬ x.Put.Text.size = 64 then (1, d) else if 468 ≤ d.Waits.length then (2, d) else (0, (d.Blocks, d.Waits ++ [x.Put]))
theorem step_l1 {d : api_Disk} (hw : d.Waits.length ≤ 1000) : ∀ i, i ≤ d.Waits.length → ∀ b : List ByteArray, (∀ p ∈ d.Waits, PutOk b.length p) → E1 (fun K k => disk_Step.l1 K d k ((d.Waits.length : Nat) : Int) (i : Int) b) (0, (crashB [1] i (d.Waits.drop i) b, [])) := by
  refine upto ?_ ?_
  · intro b _
    rw [List.drop_eq_nil_of_le (Nat.le_refl _)]
    exact step1 (fun _ _ _ _ _ => disk_Step.l1.eq_2 ..) (negD (by omega) (now _))
  · intro i hi ih b hb
    have hp := hb _ (getD_mem (d := default) hi)
    refine step1 (fun _ _ _ _ _ => disk_Step.l1.eq_2 ..) (posD (by omega) (pos (by omega) ?_))
    rw [nthN, drop_getD (d := default) hi, crashB, if_pos (keep1 i)]
    refine pos ⟨hp.1, hp.2.1⟩ ?_
    rw [w1 (by omega)]
    exact ih _ (by simpa using hb)
theorem block_eq (K : Nat) (s : ByteArray) : disk_block K s = some (decide (s.size = 64)) := by
  show some (((s.size : Nat) : Int) == 64) = _
  by_cases h : s.size = 64
  · rw [h]; rfl
  · rw [decide_eq_false h, show (((s.size : Nat) : Int) == 64) = false from by rw [beq_eq_false_iff_ne]; omega]
theorem dstep_ev {d : api_Disk} (h : OkD d) (x : api_Do) : E0 (fun K => disk_Step K d x) (stepP d x) := by
  unfold stepP
  have h3 := h.2.2.1
  by_cases c : x.Sync = true
  · rw [if_pos c]
    exact pos c (step_l1 (by omega) 0 (by omega) _ h.2.2.2.2).e1
  rw [if_neg c]
  refine neg c (bnd (congr (fun K _ _ _ _ => there_eq K _ _) (now _)) ?_)
  by_cases c1 : 0 ≤ x.Put.At ∧ x.Put.At < (d.Blocks.length : Int)
  rotate_left
  · rw [if_pos c1]; exact posM c1 (now _)
  rw [if_neg (Classical.not_not.2 c1)]
  refine negM c1 (bnd (congr (fun K _ _ _ _ => block_eq K _) (now _)) ?_)
  by_cases c2 : x.Put.Text.size = 64
  rotate_left
  · rw [if_pos c2]; exact posM c2 (now _)
  rw [if_neg (Classical.not_not.2 c2)]
  refine negM c2 ?_
  by_cases c3 : 468 ≤ d.Waits.length
  · rw [if_pos c3]; exact posD (by omega) (now _)
  · rw [if_neg c3]
    exact negD (by omega) (pos (by simp; omega) (now _))
theorem step_ok {d : api_Disk} (h : OkD d) (x : api_Do) : OkD (stepP d x).2 ∧ (stepP d x).2.Blocks.length = d.Blocks.length := by
  unfold stepP
  split
  · exact ⟨crash_ok h _, crashB_len _ _ _ _⟩
  split
  · exact ⟨h, rfl⟩
  rename_i c1
  split
  · exact ⟨h, rfl⟩
  rename_i c2
  split
  · exact ⟨h, rfl⟩
  rename_i c3
  have c1 := Classical.not_not.1 c1
  have c2 := Classical.not_not.1 c2
  obtain ⟨h1, h2, h3, h4, h5⟩ := h
  refine ⟨⟨h1, h2, ?_, h4, ?_⟩, rfl⟩
  · show (d.Waits ++ [x.Put]).length ≤ 468
    simp; omega
  · intro p hp
    rcases List.mem_append.1 hp with hp | hp
    · exact h5 p hp
    · rw [List.mem_singleton.1 hp]; exact ⟨c1.1, c1.2, c2⟩
def playP (n : Int) : Nat → List api_Do → api_Disk → api_Disk × Int
  | _, [], d => (d, 0)
  | i, x :: xs, d => if (i : Int) = n then (d, 0) else if (stepP d x).1 = 0 then playP n (i + 1) xs (stepP d x).2 else (([], []), (stepP d x).1)
theorem play_l1 {n : Int} {l : List api_Do} (hl : l.length ≤ 17592186044416) : ∀ i, i ≤ l.length → ∀ d : api_Disk, OkD d → E1 (fun K k => disk_Play.l1 K n l k ((l.length : Nat) : Int) (i : Int) d.Blocks d.Waits) (playP n i (l.drop i) d) := by
  refine upto ?_ ?_
  · intro d _
    rw [List.drop_eq_nil_of_le (Nat.le_refl _)]
    exact step1 (fun _ _ _ _ _ => disk_Play.l1.eq_2 ..) (negD (by omega) (now _))
  · intro i hi ih d hd
    refine step1 (fun _ _ _ _ _ => disk_Play.l1.eq_2 ..) (posD (by omega) (pos (by omega) ?_))
    rw [nthN, drop_getD (d := default) hi, playP]
    by_cases c : (i : Int) = n
    · rw [if_pos c]; exact posE c (now _)
    · rw [if_neg c]
      refine negE c (bnd (dstep_ev hd _) ?_)
      by_cases e : (stepP d (l.getD i default)).1 = 0
      · rw [if_pos e]
        refine negN e ?_
        rw [w1 (by omega)]
        exact ih _ (step_ok hd _).1
      · rw [if_neg e]; exact posN e (now _)
theorem play_ev (d : api_Disk) (n : Int) {l : List api_Do} (hl : l.length ≤ 17592186044416) : E0 (fun K => disk_Play K d n l) (if OkD d ∧ -1 ≤ n then playP n 0 l d else (([], []), 1)) := by
  refine bnd (may_ev d) ?_
  by_cases c : OkD d
  · refine negM c ?_
    by_cases e : -1 ≤ n
    · rw [if_pos ⟨c, e⟩]
      exact negD (by omega) (bnd (own_ev c.sm) (play_l1 hl 0 (by omega) d c).e1)
    · rw [if_neg fun z => e z.2]
      exact posD (by omega) (now _)
  · rw [if_neg fun z => c z.1]
    exact posM c (now _)
end Go.XL
end
section
namespace Go.XL
open Go.XM
def seeP (i : Int) (s : ByteArray) : List api_Put → ByteArray
  | [] => s
  | p :: ps => seeP i (if p.At = i then p.Text else s) ps
def backP (i : Int) (s : ByteArray) : List api_Put → ByteArray
  | [] => s
  | p :: ps => if p.At = i then p.Text else backP i s ps
theorem backP_snoc (i : Int) (s : ByteArray) (p : api_Put) : ∀ ps, backP i s (ps ++ [p]) = backP i (if p.At = i then p.Text else s) ps
  | [] => rfl
  | q :: qs => by rw [List.cons_append, backP, backP, backP_snoc i s p qs]
theorem back_see (i : Int) : ∀ (ps : List api_Put) (s : ByteArray), backP i s ps.reverse = seeP i s ps
  | [], _ => rfl
  | p :: ps, s => by rw [List.reverse_cons, backP_snoc, back_see i ps, seeP]
theorem read_l1 {i : Int} {b : List ByteArray} (ws : List api_Put) (t : ByteArray) (u : Int) (h : 0 ≤ i ∧ i < ((b.length : Nat) : Int)) : ∀ ps : List api_Put, E0 (fun K => disk_Read.l1 K ps b ws i t u) (backP i (nth b i) ps, 0)
  | [] => pos h (now _)
  | p :: ps => by
    by_cases c : p.At = i
    · refine posE c (nowE ?_); rw [backP, if_pos c]
    · refine negE c ?_; rw [backP, if_neg c]; exact read_l1 ws t u h ps
theorem read_ev (d : api_Disk) (i : Int) : E0 (fun K => disk_Read K d i) (if OkD d then (if 0 ≤ i ∧ i < (d.Blocks.length : Int) then (seeP i (nth d.Blocks i) d.Waits, 0) else (ByteArray.empty, 3)) else (ByteArray.empty, 1)) := by
  refine bnd (may_ev d) ?_
  by_cases c : OkD d
  · rw [if_pos c]
    have h3 := c.2.2.1
    refine negM c (bnd (congr (fun K _ _ _ _ => there_eq K _ _) (now _)) ?_)
    by_cases e : 0 ≤ i ∧ i < (d.Blocks.length : Int)
    · rw [if_pos e, ← back_see]
      exact negM e (pos (by omega) (read_l1 _ _ _ e _))
    · rw [if_neg e]
      exact posM e (now _)
  · rw [if_neg c]
    exact posM c (now _)
theorem flip_ok : (List.range 256).all (fun b => ib .xor .u8 255 (b : Int) == 255 - (b : Int)) = true := by decide +kernel
theorem flip {b : Int} (h : 0 ≤ b ∧ b ≤ 255) : ib .xor .u8 255 b = 255 - b := by
  obtain ⟨n, rfl⟩ := Int.eq_ofNat_of_zero_le h.1
  have := List.all_eq_true.1 flip_ok n (List.mem_range.2 (by omega))
  simpa using this
def flipP (s : ByteArray) (n : Nat) : ByteArray := bytesOf ((bytesL s).set n (255 - (bytesL s).getD n 0))
def spoilP (d : api_Disk) (i n : Int) : api_Disk × Int :=
  if ¬ ((0 ≤ i ∧ i < (d.Blocks.length : Int)) ∧ 0 ≤ n ∧ n < 64) then (([], []), 3) else if 0 < d.Waits.length then (([], []), 6) else ((d.Blocks.set i.toNat (flipP (d.Blocks.getD i.toNat default) n.toNat), d.Waits), 0)
theorem blk_size {d : api_Disk} (hd : OkD d) {i : Int} (h : 0 ≤ i ∧ i < (d.Blocks.length : Int)) : (d.Blocks.getD i.toNat default).size = 64 := hd.2.2.2.1 _ (getD_mem (by omega))
theorem spoil_ev (d : api_Disk) (i n : Int) : E0 (fun K => disk_Spoil K d i n) (if OkD d then spoilP d i n else (([], []), 1)) := by
  refine bnd (may_ev d) ?_
  by_cases c : OkD d
  rotate_left
  · rw [if_neg c]; exact posM c (now _)
  rw [if_pos c]
  unfold spoilP
  refine negM c (bnd (congr (fun K _ _ _ _ => there_eq K _ _) (now _)) ?_)
  by_cases e : 0 ≤ i ∧ i < (d.Blocks.length : Int)
  rotate_left
  · rw [if_pos (show ¬ (_ ∧ _) from fun z => e z.1)]
    exact posM e (pos rfl (now _))
  refine negM e ?_
  by_cases n0 : n < 0
  · rw [if_pos (show ¬ (_ ∧ _) from fun z => by have := z.2.1; omega)]
    exact posD n0 (pos rfl (now _))
  refine negD n0 ?_
  by_cases n1 : n ≥ 64
  · rw [if_pos (show ¬ (_ ∧ _) from fun z => by have := z.2.2; omega)]
    exact pos (decide_eq_true n1) (now _)
  rw [if_neg (show ¬ ¬ (_ ∧ _) from Classical.not_not.2 ⟨e, by omega, by omega⟩)]
  refine neg (by simpa using n1) ?_
  by_cases w : 0 < d.Waits.length
  · rw [if_pos w]; exact posD (by omega) (now _)
  · rw [if_neg w]
    have hs := blk_size c e
    have hb := bytesL_len (d.Blocks.getD i.toNat default)
    have hr := bytesL_rng (d.Blocks.getD i.toNat default) _ (getD_mem (d := 0) (i := n.toNat) (by omega))
    refine negD (by omega) (bnd (own_ev c.sm) (pos e ?_))
    have e1 : nth d.Blocks i = d.Blocks.getD i.toNat default := rfl
    rw [e1, show nth (bytesL (d.Blocks.getD i.toNat default)) n = (bytesL (d.Blocks.getD i.toNat default)).getD n.toNat 0 from rfl, flip hr]
    exact pos (by omega) (pos (by omega) (pos e (now _)))
theorem newd_ev {n : Int} (h0 : 0 ≤ n) (h1 : n ≤ 117) : E0 (fun K => herbariumref17_NewDisk K n) (List.replicate n.toNat (nulls 64), []) := by
  obtain ⟨m, rfl⟩ := Int.eq_ofNat_of_zero_le h0
  rw [Int.toNat_natCast]
  have key : ∀ i, i ≤ m → E1 (fun K k => herbariumref17_NewDisk.l1 K (m : Int) k (i : Int) (List.replicate i (nulls 64))) (List.replicate m (nulls 64), []) := by
    refine upto ?_ ?_
    · exact step1 (fun _ _ _ _ _ => herbariumref17_NewDisk.l1.eq_2 ..) (negD (by omega) (now _))
    · intro i hi ih
      refine step1 (fun _ _ _ _ _ => herbariumref17_NewDisk.l1.eq_2 ..) (posD (by omega) (bnd (congr (fun K _ _ _ _ => zeros_eq K 64 (by omega)) (now _)) (pos (by simp; omega) ?_)))
      rw [w1 (by omega), ← List.replicate_succ']
      exact ih
  exact (key 0 (by omega)).e1
theorem mul_ok : (List.range 118).all (fun n => math_bits_Mul 0 (wr .u64 1) (wr .u64 (n : Int)) == some ((0 : Int), (n : Int))) = true := by decide +kernel
theorem mul_eq {n : Nat} (h : n ≤ 117) (K : Nat) : math_bits_Mul K (wr .u64 1) (wr .u64 (n : Int)) = some ((0 : Int), (n : Int)) := by
  have := List.all_eq_true.1 mul_ok n (List.mem_range.2 (by omega))
  simp only [beq_iff_eq] at this
  exact this
def half (s : ByteArray) (m r : Nat) : List ByteArray := List.replicate m s ++ List.replicate r ByteArray.empty
theorem rep_l3 (s : ByteArray) (N : Nat) (hN : N ≤ 1000) : ∀ r m, m + r = N → 0 < m → E1 (fun K k => slices_Repeat___string_string_.l3 K k (m : Int) (half s m r)) (List.replicate N s) := by
  intro r
  induction r using Nat.strongRecOn with
  | ind r ih =>
    intro m hm h0
    have hlen : (half s m r).length = N := by simp [half]; omega
    refine step1 (fun _ _ _ _ _ => slices_Repeat___string_string_.l3.eq_2 ..) ?_
    rw [hlen]
    by_cases c : r = 0
    · subst c
      refine negD (by omega) (nowE ?_)
      simp [half]; omega
    · refine posD (by omega) (pos (by omega) (pos (by omega) ?_))
      have e1 : (((half s m r).drop (0 + (0 : Int).toNat)).take ((m : Int).toNat - (0 : Int).toNat)) = List.replicate m s := by
        rw [show 0 + (0 : Int).toNat = 0 from rfl, List.drop_zero, Int.toNat_natCast, show (0 : Int).toNat = 0 from rfl, Nat.sub_zero, half, List.take_append_of_le_length (by simp)]
        simp
      rw [e1, Int.toNat_natCast, Int.toNat_natCast, show N - m = r by omega, List.length_replicate]
      have e2 : ovp (half s m r) (0 + m) (List.take r (List.replicate m s)) = half s (m + min m r) (r - min m r) := by
        unfold ovp half
        rw [Nat.zero_add, List.take_replicate, List.length_replicate, List.take_append_of_le_length (by simp), List.take_replicate, Nat.min_self, List.drop_append, List.drop_replicate, List.drop_replicate, List.length_replicate, List.append_assoc]
        rw [show m - (m + min r m) = 0 by omega, show r - (m + min r m - m) = r - min m r by omega, Nat.min_comm r m]
        simp only [List.replicate_zero, List.nil_append, List.append_assoc]
        rw [← List.append_assoc, List.replicate_append_replicate]
      rw [e2, w64 (by omega) (by omega)]
      have := ih (r - min m r) (by omega) (m + min m r) (by omega) (by omega)
      exact congr (fun K k _ _ _ => by rw [show (m : Int) + ((min m r : Nat) : Int) = ((m + min m r : Nat) : Int) by omega]) this
theorem rep_ev {s : ByteArray} {n : Nat} (h0 : 1 ≤ n) (h1 : n ≤ 117) : E0 (fun K => slices_Repeat___string_string_ K [s] (n : Int)) (List.replicate n s) := by
  refine negD (by omega) (bnd (a := ((0 : Int), (n : Int))) (congr (fun K _ _ _ _ => mul_eq h1 K) (now _)) (negD (by simp) (negD (by simp; omega) ?_)))
  show Ev (fun K _ _ _ _ => slices_Repeat___string_string_.j2 K ((0 : Int), (n : Int)) [s]) _
  unfold slices_Repeat___string_string_.j2
  rw [show ((0 : Int), (n : Int)).2 = (n : Int) from rfl, w64 (by omega) (by omega)]
  refine pos ⟨rfl, by omega, by omega, by omega⟩ ?_
  have e : ovp (List.replicate (n : Int).toNat ByteArray.empty) 0 (List.take (List.replicate (n : Int).toNat ByteArray.empty).length [s]) = half s 1 (n - 1) := by
    rw [Int.toNat_natCast, List.length_replicate]
    obtain ⟨m, rfl⟩ : ∃ m, n = m + 1 := ⟨n - 1, by omega⟩
    unfold ovp half
    simp
  rw [e, Int.toNat_natCast, List.length_replicate, show min [s].length n = 1 by simp; omega]
  exact (rep_l3 s n (by omega) (n - 1) 1 (by omega) (by omega)).e1
theorem dnew_ev (n : Int) : E0 (fun K => disk_New K n) (if 1 ≤ n ∧ n ≤ 117 then ((List.replicate n.toNat (nulls 64), []), 0) else (([], []), 1)) := by
  by_cases c0 : n < 1
  · rw [if_neg (by omega)]; exact posD c0 (now _)
  by_cases c1 : n > 117
  · rw [if_neg (by omega)]; exact negD c0 (posD c1 (now _))
  rw [if_pos (by omega)]
  obtain ⟨m, rfl⟩ := Int.eq_ofNat_of_zero_le (show 0 ≤ n by omega)
  rw [Int.toNat_natCast]
  exact negD c0 (negD c1 (bnd (congr (fun K _ _ _ _ => repeat_eq K 64 (by omega)) (now _)) (bnd (rep_ev (by omega) (by omega)) (now _))))
theorem new_ok {n : Nat} (h0 : 1 ≤ n) (h1 : n ≤ 117) : OkD ((List.replicate n (nulls 64), []) : api_Disk) := by
  refine ⟨?_, ?_, by show (0 : Nat) ≤ 468; omega, ?_, fun p (hp : p ∈ ([] : List api_Put)) => by cases hp⟩
  · show 1 ≤ (List.replicate n (nulls 64)).length; simpa using h0
  · show (List.replicate n (nulls 64)).length ≤ 117; simpa using h1
  · intro b hb
    rw [List.eq_of_mem_replicate hb, nulls_size]
end Go.XL
end
section
namespace Go.XL
open Go.XM
def FPut (p : api_Put) : Prop := p.Text.size ≤ 140737488351232
def FDisk (d : api_Disk) : Prop := (d.Blocks.length * 16 ≤ 140737488351232 ∧ ∀ y ∈ d.Blocks, y.size ≤ 140737488351232) ∧ d.Waits.length * 24 ≤ 140737488351232 ∧ ∀ p ∈ d.Waits, FPut p
def FAct (a : herbariumlaw19_Act) : Prop := (a.L.length * 32 ≤ 140737488351232 ∧ ∀ y ∈ a.L, FPut y.Put) ∧ a.K.length * 8 ≤ 140737488351232
def FS (x : herbariumlaw19_Script) : Prop := FDisk x.D ∧ x.A.length * 64 ≤ 140737488351232 ∧ ∀ a ∈ x.A, FAct a
theorem FDisk.sm {d : api_Disk} (h : FDisk d) : Sm d := ⟨h.1.1, h.2.1⟩
theorem tdN (a b : Nat) : ((a : Int)).tdiv ((b : Nat) : Int) = ((a / b : Nat) : Int) := (Int.ofNat_tdiv a b).symm
theorem dweight_ev {d : api_Disk} (h : FDisk d) : ∃ r : Int, E0 (fun K => herbariumlaw0_DiskWeight K d) r ∧ 0 ≤ r ∧ r ≤ 100000000000000 := by
  obtain ⟨⟨h1, h2⟩, h3, h4⟩ := h
  have l2 : ∀ i, i ≤ d.Waits.length → ∀ n : Int, 0 ≤ n → n ≤ 100000000000000 → ∃ r : Int, E1 (fun K k => herbariumlaw0_DiskWeight.l2 K d k n (i : Int)) r ∧ 0 ≤ r ∧ r ≤ 100000000000000 := by
    refine upto ?_ ?_
    · intro n n0 n1
      exact ⟨n, step1 (fun _ _ _ _ _ => herbariumlaw0_DiskWeight.l2.eq_2 ..) (negD (by omega) (now _)), n0, n1⟩
    · intro i hi ih n n0 n1
      by_cases c : n < 1048576
      · have hy : (d.Waits.getD i default).Text.size ≤ 140737488351232 := h4 _ (getD_mem (d := default) hi)
        obtain ⟨r, a, b⟩ := ih (n + (((d.Waits.getD i default).Text.size / 128 : Nat) : Int)) (by omega) (by omega)
        refine ⟨r, step1 (fun _ _ _ _ _ => herbariumlaw0_DiskWeight.l2.eq_2 ..) (posD (by omega) (posD c (pos (by omega) (pos (by decide) ?_)))), b⟩
        rw [nthN, show ((128 : Int)) = ((128 : Nat) : Int) from rfl, tdN, w64 (i := (((d.Waits.getD i default).Text.size / 128 : Nat) : Int)) (by omega) (by omega), w64 (by omega) (by omega), w1 (by omega)]
        exact a
      · exact ⟨n, step1 (fun _ _ _ _ _ => herbariumlaw0_DiskWeight.l2.eq_2 ..) (posD (by omega) (negD c (now _))), n0, n1⟩
  have l1 : ∀ i, i ≤ d.Blocks.length → ∀ n : Int, 0 ≤ n → n ≤ 100000000000000 → ∃ r : Int, E1 (fun K k => herbariumlaw0_DiskWeight.l1 K d k n (i : Int)) r ∧ 0 ≤ r ∧ r ≤ 100000000000000 := by
    refine upto ?_ ?_
    · intro n n0 n1
      obtain ⟨r, a, b⟩ := l2 0 (by omega) n n0 n1
      exact ⟨r, step1 (fun _ _ _ _ _ => herbariumlaw0_DiskWeight.l1.eq_2 ..) (negD (by omega) a.e1), b⟩
    · intro i hi ih n n0 n1
      by_cases c : n < 1048576
      · have hy : (d.Blocks.getD i default).size ≤ 140737488351232 := h2 _ (getD_mem (d := default) hi)
        obtain ⟨r, a, b⟩ := ih (n + (((d.Blocks.getD i default).size / 128 : Nat) : Int)) (by omega) (by omega)
        refine ⟨r, step1 (fun _ _ _ _ _ => herbariumlaw0_DiskWeight.l1.eq_2 ..) (posD (by omega) (posD c (pos (by omega) (pos (by decide) ?_)))), b⟩
        rw [nthN, show ((128 : Int)) = ((128 : Nat) : Int) from rfl, tdN, w64 (i := (((d.Blocks.getD i default).size / 128 : Nat) : Int)) (by omega) (by omega), w64 (by omega) (by omega), w1 (by omega)]
        exact a
      · obtain ⟨r, a, b⟩ := l2 0 (by omega) n n0 n1
        exact ⟨r, step1 (fun _ _ _ _ _ => herbariumlaw0_DiskWeight.l1.eq_2 ..) (posD (by omega) (negD c a.e1)), b⟩
  obtain ⟨r, a, b⟩ := l1 0 (by omega) (((d.Blocks.length : Nat) : Int) + ((d.Waits.length : Nat) : Int)) (by omega) (by omega)
  refine ⟨r, ?_, b⟩
  refine congr (fun K _ _ _ _ => ?_) a.e1
  show herbariumlaw0_DiskWeight K d = _
  unfold herbariumlaw0_DiskWeight
  rw [w64 (by omega) (by omega)]; rfl
theorem heavy19_ev (x : herbariumlaw19_Script) (h : FS x) : ∃ b, E0 (fun K => herbariumlaw19_Heavy K x) b := by
  obtain ⟨hd, hl, hA⟩ := h
  obtain ⟨r, e, r0, r1⟩ := dweight_ev hd
  have l2 : ∀ (i : Nat) (hi : i < x.A.length), (∀ m : Int, 0 ≤ m → m ≤ 300000000000000 → ∃ b, E1 (fun K a => herbariumlaw19_Heavy.l1 K x a m ((i + 1 : Nat) : Int)) b) → ∀ j, j ≤ (x.A.getD i default).L.length → ∀ n : Int, 0 ≤ n → n ≤ 300000000000000 → ∃ b, E2 (fun K a k => herbariumlaw19_Heavy.l2 K (herbariumlaw19_Heavy.l1 K x a) (i : Int) x k n (j : Int)) b := by
    intro i hi go
    have ha := (hA _ (getD_mem (d := default) hi)).1
    refine upto ?_ ?_
    · intro n n0 n1
      obtain ⟨b, hb⟩ := go n n0 n1
      refine ⟨b, step2 (fun _ _ _ _ _ => herbariumlaw19_Heavy.l2.eq_2 ..) (pos (by omega) ?_)⟩
      rw [nthN]
      refine negD (by omega) ?_
      rw [w1 (by omega)]; exact hb
    · intro j hj ih n n0 n1
      by_cases c : n < 1048576
      · have hy : ((x.A.getD i default).L.getD j default).Put.Text.size ≤ 140737488351232 := ha.2 _ (getD_mem (d := default) hj)
        obtain ⟨b, hb⟩ := ih (n + ((((x.A.getD i default).L.getD j default).Put.Text.size / 64 : Nat) : Int)) (by omega) (by omega)
        refine ⟨b, step2 (fun _ _ _ _ _ => herbariumlaw19_Heavy.l2.eq_2 ..) (pos (by omega) ?_)⟩
        rw [nthN, nthN]
        refine posD (by omega) (posD c (pos (by omega) (pos (by omega) (pos (by decide) ?_))))
        rw [show ((64 : Int)) = ((64 : Nat) : Int) from rfl, tdN, w64 (i := ((((x.A.getD i default).L.getD j default).Put.Text.size / 64 : Nat) : Int)) (by omega) (by omega), w64 (by omega) (by omega), w1 (by omega)]
        exact hb
      · obtain ⟨b, hb⟩ := go n n0 n1
        refine ⟨b, step2 (fun _ _ _ _ _ => herbariumlaw19_Heavy.l2.eq_2 ..) (pos (by omega) ?_)⟩
        rw [nthN]
        refine posD (by omega) (negD c ?_)
        rw [w1 (by omega)]; exact hb
  have l1 : ∀ i, i ≤ x.A.length → ∀ n : Int, 0 ≤ n → n ≤ 300000000000000 → ∃ b, E1 (fun K a => herbariumlaw19_Heavy.l1 K x a n (i : Int)) b := by
    refine upto ?_ ?_
    · intro n _ _
      exact ⟨_, step1 (fun _ _ _ _ _ => herbariumlaw19_Heavy.l1.eq_2 ..) (negD (by omega) (now _))⟩
    · intro i hi ih n n0 n1
      by_cases c : n < 1048576
      · obtain ⟨⟨ha, _⟩, hk⟩ := hA _ (getD_mem (d := default) hi)
        obtain ⟨b, hb⟩ := l2 i hi ih 0 (by omega) (n + (((x.A.getD i default).K.length : Nat) : Int) + (((x.A.getD i default).L.length : Nat) : Int)) (by omega) (by omega)
        refine ⟨b, step1 (fun _ _ _ _ _ => herbariumlaw19_Heavy.l1.eq_2 ..) (posD (by omega) (posD c (pos (by omega) (pos (by omega) ?_))))⟩
        rw [nthN, w64 (i := n + (((x.A.getD i default).K.length : Nat) : Int)) (by omega) (by omega), w64 (by omega) (by omega)]
        exact hb.e2
      · exact ⟨_, step1 (fun _ _ _ _ _ => herbariumlaw19_Heavy.l1.eq_2 ..) (posD (by omega) (negD c (now _)))⟩
  obtain ⟨b, hb⟩ := l1 0 (by omega) (r + ((x.A.length : Nat) : Int)) (by omega) (by omega)
  refine ⟨b, bnd e ?_⟩
  rw [w64 (by omega) (by omega)]
  exact hb.e1
end Go.XL
end
section
namespace Go.XL
open Go.XM
theorem strP {α : Type} {a b : ByteArray} {f g : Nat → Nat → Nat → Nat → Nat → Option α} {r : α} (h : a = b) (k : Ev f r) : Ev (fun x y z u v => if (a.toList == b.toList) = true then f x y z u v else g x y z u v) r := pos (by rw [h]; simp) k
theorem n3_ok : OkD ((List.replicate 3 (nulls 64), []) : api_Disk) := new_ok (n := 3) (by omega) (by omega)
theorem w00 : wr .i64 ((0 : Int) + 0) = 0 := by rw [Int.add_zero]; exact w64 (by decide) (by decide)
theorem wakes19_ev : E0 (fun K => herbariumlaw19_wakes K) true := by
  have a1 := dnew_ev 3
  rw [if_pos (by omega)] at a1
  have hs : ((⟨#[120]⟩ : ByteArray) ++ nulls 63).size = 64 := by rw [ByteArray.size_append, nulls_size]; rfl
  have a2 := play_ev ((List.replicate 3 (nulls 64), []) : api_Disk) (-1) (l := [((false, ((1, (⟨#[120]⟩ : ByteArray) ++ nulls 63) : api_Put)) : api_Do)]) (by simp)
  rw [if_pos ⟨n3_ok, by omega⟩] at a2
  have es : stepP ((List.replicate 3 (nulls 64), []) : api_Disk) ((false, ((1, (⟨#[120]⟩ : ByteArray) ++ nulls 63) : api_Put)) : api_Do) = (0, (List.replicate 3 (nulls 64), [((1, (⟨#[120]⟩ : ByteArray) ++ nulls 63) : api_Put)])) := by
    unfold stepP
    rw [if_neg (by decide), if_neg (Classical.not_not.2 ⟨by decide, by decide⟩), if_neg (Classical.not_not.2 hs), if_neg (by decide)]
    rfl
  have ok2 : OkD ((List.replicate 3 (nulls 64), [((1, (⟨#[120]⟩ : ByteArray) ++ nulls 63) : api_Put)]) : api_Disk) := by
    have := (step_ok n3_ok ((false, ((1, (⟨#[120]⟩ : ByteArray) ++ nulls 63) : api_Put)) : api_Do)).1
    rwa [es] at this
  have e2 : playP (-1) 0 [((false, ((1, (⟨#[120]⟩ : ByteArray) ++ nulls 63) : api_Put)) : api_Do)] ((List.replicate 3 (nulls 64), []) : api_Disk) = ((List.replicate 3 (nulls 64), [((1, (⟨#[120]⟩ : ByteArray) ++ nulls 63) : api_Put)]), 0) := by
    rw [playP, if_neg (by decide), es, if_pos rfl]; rfl
  rw [e2] at a2
  have a3 := read_ev ((List.replicate 3 (nulls 64), [((1, (⟨#[120]⟩ : ByteArray) ++ nulls 63) : api_Put)]) : api_Disk) 1
  rw [if_pos ok2, if_pos ⟨by decide, by decide⟩] at a3
  have a4 := crash_ev ((List.replicate 3 (nulls 64), [((1, (⟨#[120]⟩ : ByteArray) ++ nulls 63) : api_Put)]) : api_Disk) []
  rw [if_pos ok2] at a4
  have e4 : crashB [] 0 [((1, (⟨#[120]⟩ : ByteArray) ++ nulls 63) : api_Put)] (List.replicate 3 (nulls 64)) = List.replicate 3 (nulls 64) := by
    rw [crashB, if_neg (by decide)]; rfl
  have a4 : E0 (fun K => disk_Crash K ((List.replicate 3 (nulls 64), [((1, (⟨#[120]⟩ : ByteArray) ++ nulls 63) : api_Put)]) : api_Disk) []) ((List.replicate 3 (nulls 64), []), 0) := ofEq a4 (by
    show ((crashB [] 0 [((1, (⟨#[120]⟩ : ByteArray) ++ nulls 63) : api_Put)] (List.replicate 3 (nulls 64)), []), (0 : Int)) = _
    rw [e4])
  have a5 := read_ev ((List.replicate 3 (nulls 64), []) : api_Disk) 1
  rw [if_pos n3_ok, if_pos ⟨by decide, by decide⟩] at a5
  refine bnd a1 (bnd (congr (fun K _ _ _ _ => zeros_eq K 63 (by omega)) (now _)) (pos (by rw [nulls_size]; decide) (bnd a2 (bnd a3 (bnd a4 (bnd a5 (bnd (now _) (bnd (now _) (bnd (now _) (bnd (now _) (bnd (now _) (pos (show ((wr .i64 ((wr .i64 ((wr .i64 ((wr .i64 ((0 : Int) + 0)) + 0)) + 0)) + 0)) == 0) = true from by rw [w00, w00, w00, w00]; rfl) (strP ?_ (bnd (congr (fun K _ _ _ _ => zeros_eq K 64 (by omega)) (now _)) (nowE ?_)))))))))))))))
  · rfl
  · rw [beq_str, decide_eq_true]; rfl
variable {x : herbariumlaw19_Script}
end Go.XL
end
section
namespace Go.XL
open Go.XM
theorem crash_nil : ∀ (ps : List api_Put) (i : Nat) (b : List ByteArray), crashB [] i ps b = b
  | [], _, _ => rfl
  | p :: ps, i, b => by rw [crashB, if_neg (by unfold keepAt; simp), crash_nil ps]
theorem flip_L (s : ByteArray) {n : Nat} (hn : n < s.size) : bytesL (flipP s n) = (bytesL s).set n (255 - (bytesL s).getD n 0) := by
  have hb := bytesL_len s
  have hr := bytesL_rng s _ (getD_mem (d := 0) (i := n) (by omega))
  refine bytesL_bytesOf (fun x hx => ?_)
  rcases List.mem_or_eq_of_mem_set hx with hx | rfl
  · exact bytesL_rng s x hx
  · omega
theorem flip_size (s : ByteArray) {n : Nat} (hn : n < s.size) : (flipP s n).size = s.size := by
  rw [← bytesL_len, flip_L s hn, List.length_set, bytesL_len]
theorem flip_flip (s : ByteArray) {n : Nat} (hn : n < s.size) : flipP (flipP s n) n = s := by
  apply bytesL_inj
  have hb := bytesL_len s
  rw [flip_L _ (by rw [flip_size s hn]; exact hn), flip_L s hn, getD_set _ _ _ _ (by omega), if_pos rfl, List.set_set]
  rw [show 255 - (255 - (bytesL s).getD n 0) = (bytesL s).getD n 0 by omega, getD_lt (by omega), List.set_getElem_self]
theorem flip_ne (s : ByteArray) {n : Nat} (hn : n < s.size) : flipP s n ≠ s := by
  intro e
  have hb := bytesL_len s
  have h := flip_L s hn
  rw [e] at h
  have h2 : (bytesL s).getD n 0 = ((bytesL s).set n (255 - (bytesL s).getD n 0)).getD n 0 := by rw [← h]
  rw [getD_set _ _ _ _ (by omega), if_pos rfl] at h2
  omega
variable {x : herbariumlaw19_Script}
theorem ds_l2 {go1 : Nat → Nat → Int → Int → Option Bool} {n i : Nat} (hA : ∀ a ∈ x.A, FAct a) (hn : 1 ≤ n) (hn2 : n ≤ 117) (hi : i < 8) (hx : i < x.A.length) (h1 : E1 (fun K a => go1 K a (n : Int) ((i + 1 : Nat) : Int)) true) : ∀ j : Nat, j ≤ 20 → ∀ t : api_Disk, OkD t → t.Blocks.length = n →
    E2 (fun K a b => herbariumlaw19_DiskStays.l2 K (go1 K a) (n : Int) (i : Int) x b (j : Int) t.Blocks t.Waits) true := by
  have ha := hA _ (getD_mem (d := default) hx)
  obtain ⟨⟨hL, _⟩, hK⟩ := ha
  have e0 : nth x.A (i : Int) = x.A.getD i default := nthN _ _
  have fin : ∀ (j : Nat), ((x.A.getD i default).L.length ≤ j ∨ 20 ≤ j) → ∀ t : api_Disk, OkD t → t.Blocks.length = n → E2 (fun K a b => herbariumlaw19_DiskStays.l2 K (go1 K a) (n : Int) (i : Int) x b (j : Int) t.Blocks t.Waits) true := by
    intro j hj t ht hl
    obtain ⟨S, hS⟩ : ∃ S, S = crashB [1] 0 t.Waits t.Blocks := ⟨_, rfl⟩
    have okS : OkD ((S, []) : api_Disk) := by rw [hS]; exact crash_ok ht [1]
    have lS : S.length = n := by rw [hS, crashB_len]; exact hl
    have p1 := play_ev t (-1) (l := [((true, ((0, ByteArray.empty) : api_Put)) : api_Do)]) (by simp)
    rw [if_pos ⟨ht, by omega⟩] at p1
    have q1 : playP (-1) 0 [((true, ((0, ByteArray.empty) : api_Put)) : api_Do)] t = ((S, []), 0) := by
      rw [playP, if_neg (by omega)]
      unfold stepP
      rw [if_pos rfl, if_pos rfl, playP, ← hS]
    rw [q1] at p1
    have p2 := crash_ev t []
    rw [if_pos ht, crash_nil] at p2
    have p3 := crash_ev t [1]
    rw [if_pos ht, ← hS] at p3
    have p4 := crash_ev ((S, []) : api_Disk) (x.A.getD i default).K
    rw [if_pos okS] at p4
    have p4 : E0 (fun K => disk_Crash K ((S, []) : api_Disk) (x.A.getD i default).K) ((S, []), 0) := p4
    have hs0 : (S.getD 0 default).size = 64 := okS.2.2.2.1 _ (getD_mem (by show 0 < S.length; omega))
    obtain ⟨O, hO⟩ : ∃ O, O = S.set 0 (flipP (S.getD 0 default) i) := ⟨_, rfl⟩
    have p5 := spoil_ev ((S, []) : api_Disk) 0 (i : Int)
    have sp : ∀ X : List ByteArray, X.length = n → spoilP ((X, []) : api_Disk) 0 (i : Int) = ((X.set 0 (flipP (X.getD 0 default) i), []), 0) := by
      intro X hX
      unfold spoilP
      rw [if_neg (Classical.not_not.2 ⟨⟨by omega, by show (0 : Int) < (X.length : Int); omega⟩, by omega, by omega⟩), if_neg (by show ¬ 0 < 0; omega)]
      rw [Int.toNat_natCast]; rfl
    rw [if_pos okS, sp S lS, ← hO] at p5
    have okO : OkD ((O, []) : api_Disk) := by
      obtain ⟨o1, o2, o3, o4, o5⟩ := okS
      refine ⟨?_, ?_, o3, ?_, fun p (hp : p ∈ ([] : List api_Put)) => by cases hp⟩
      · show 1 ≤ O.length; rw [hO, List.length_set]; omega
      · show O.length ≤ 117; rw [hO, List.length_set]; omega
      · intro b hb
        have hb : b ∈ O := hb
        rw [hO] at hb
        rcases List.mem_or_eq_of_mem_set hb with hb | rfl
        · exact o4 b hb
        · rw [flip_size _ (by omega), hs0]
    have lO : O.length = n := by rw [hO, List.length_set, lS]
    have p6 := spoil_ev ((O, []) : api_Disk) 0 (i : Int)
    rw [if_pos okO, sp O lO] at p6
    have back : O.set 0 (flipP (O.getD 0 default) i) = S := by
      rw [hO, getD_set _ _ _ _ (by omega), if_pos rfl, flip_flip _ (by omega), List.set_set, getD_lt (by omega), List.set_getElem_self]
    rw [back] at p6
    have ne : ¬ ((O, []) : api_Disk) = (S, []) := by
      intro z
      have z1 : O = S := congrArg Prod.fst z
      have z2 : O.getD 0 default = S.getD 0 default := by rw [z1]
      rw [hO, getD_set _ _ _ _ (by omega), if_pos rfl] at z2
      exact flip_ne _ (by omega) z2
    refine step2 (fun _ _ _ _ _ => herbariumlaw19_DiskStays.l2.eq_2 ..) (pos (by omega) ?_)
    rw [e0]
    have smS := okS.sm
    by_cases c1 : j < (x.A.getD i default).L.length
    refine posD (by omega) (negD (by omega) ?_)
    rotate_left
    refine negD (by omega) ?_
    all_goals
      refine bnd p1 (bnd (now _) (negN rfl (bnd (rdisk_ev _) (negM okS (negN (by show (S.length : Int) = _; omega) (negN rfl (bnd p2 (bnd p3 (pos (by omega) (bnd p4 (bnd p5 (bnd p6 (bnd (now _) (bnd (now _) (bnd (now _) (bnd (now _) (bnd (now _) ?_)))))))))))))))))
      refine neg (by rw [show ((wr .i64 ((wr .i64 ((wr .i64 ((wr .i64 ((0 : Int) + 0)) + 0)) + 0)) + 0)) != 0) = false from by rw [w00, w00, w00, w00]; rfl]; decide) ?_
      refine bnd (eqs_ev _ _ (by show t.Blocks.length ≤ _; omega)) (negM rfl (bnd (eqd_ev _ _ smS) (negM rfl (bnd (eqd_ev _ _ smS) (negM rfl (bnd (eqd_ev _ _ okO.sm) (negD ne (bnd (eqd_ev _ _ smS) (negM rfl ?_)))))))))
      rw [w1 (by omega)]
      exact h1
  refine upto ?_ ?_
  · intro t ht hl; exact fin 20 (by omega) t ht hl
  · intro j hj ih t ht hl
    by_cases c1 : j < (x.A.getD i default).L.length
    rotate_left
    · exact fin j (by omega) t ht hl
    refine step2 (fun _ _ _ _ _ => herbariumlaw19_DiskStays.l2.eq_2 ..) (pos (by omega) ?_)
    rw [e0, nthN]
    refine posD (by omega) (posD (by omega) (pos (by omega) (pos (by omega) ?_)))
    have p1 := play_ev t (-1) (l := [(x.A.getD i default).L.getD j default]) (by simp)
    rw [if_pos ⟨ht, by omega⟩, playP, if_neg (by omega)] at p1
    obtain ⟨ok, len⟩ := step_ok ht ((x.A.getD i default).L.getD j default)
    rw [w1 (by omega)]
    by_cases e : (stepP t ((x.A.getD i default).L.getD j default)).1 = 0
    · rw [if_pos e, playP] at p1
      refine bnd p1 (bnd (now _) (posE rfl (bnd (rdisk_ev _) (posD ok (posE (by rw [len, hl]) ?_)))))
      exact ih _ ok (by rw [len, hl])
    · rw [if_neg e] at p1
      refine bnd p1 (bnd (now _) (negE e ?_))
      exact ih _ ht hl
theorem ds_l1 (hA : ∀ a ∈ x.A, FAct a) {n : Nat} (hn : 1 ≤ n) (hn2 : n ≤ 117) : ∀ i : Nat, i ≤ 8 → E1 (fun K a => herbariumlaw19_DiskStays.l1 K x a (n : Int) (i : Int)) true := by
  refine upto ?_ ?_
  · refine step1 (fun _ _ _ _ _ => herbariumlaw19_DiskStays.l1.eq_2 ..) ?_
    by_cases c : 8 < x.A.length
    · exact posD (by omega) (negD (by omega) (bnd wakes19_ev (now _)))
    · exact negD (by omega) (bnd wakes19_ev (now _))
  · intro i hi ih
    refine step1 (fun _ _ _ _ _ => herbariumlaw19_DiskStays.l1.eq_2 ..) ?_
    by_cases c : i < x.A.length
    · refine posD (by omega) (posD (by omega) (bnd (newd_ev (by omega) (by omega)) ?_))
      rw [Int.toNat_natCast]
      exact (ds_l2 (go1 := fun K a => herbariumlaw19_DiskStays.l1 K x a) hA hn hn2 hi c ih 0 (by omega) _ (new_ok hn hn2) (by show (List.replicate n _).length = n; simp)).e2
    · exact negD (by omega) (bnd wakes19_ev (now _))
theorem diskStays_pure (x : herbariumlaw19_Script) (h : FS x) : ∃ K, herbariumlaw19_DiskStays K x = some true := by
  obtain ⟨b, e⟩ := heavy19_ev x h
  refine Ev.get (bnd e ?_)
  cases b with
  | true => exact pos rfl (now _)
  | false =>
    obtain ⟨r, r0, r1, hr⟩ := within_eq x.N 9 (by decide) (by decide)
    have r1 : r < 9 := r1
    refine negB rfl (bnd (congr (fun K _ _ _ _ => hr K) (now r)) ?_)
    rw [w64 (by omega) (by omega), show (1 : Int) + r = (((1 + r).toNat : Nat) : Int) by omega]
    exact (ds_l1 h.2.2 (n := (1 + r).toNat) (by omega) (by omega) 0 (by omega)).e1
end Go.XL
end
section
namespace Go.XL
open Go.XM
set_option maxRecDepth 100000
def lastF (r : Int) : Option Bool := (herbariumref17_NewDisk 100 2).bind (fun r24 => herbariumlaw19_DiskLast.l1 100 100 (wr .i64 (1 + r)) (0 : Int) r24.Blocks r24.Waits)
theorem last_0 : lastF 0 = some true := by kernel_rfl
theorem last_1 : lastF 1 = some true := by kernel_rfl
theorem last_2 : lastF 2 = some true := by kernel_rfl
theorem last_3 : lastF 3 = some true := by kernel_rfl
theorem last_4 : lastF 4 = some true := by kernel_rfl
theorem last_5 : lastF 5 = some true := by kernel_rfl
theorem diskLast_pure (x : herbariumlaw19_Script) : ∃ K, herbariumlaw19_DiskLast K x = some true := by
  refine ⟨100, ?_⟩
  unfold herbariumlaw19_DiskLast
  rw [if_pos (by decide)]
  have h : ((x.A.length : Nat) : Int).tmod 6 = ((x.A.length % 6 : Nat) : Int) := (Int.ofNat_tmod x.A.length 6).symm
  rw [h]
  show lastF ((x.A.length % 6 : Nat) : Int) = some true
  have hm := Nat.mod_lt x.A.length (show 0 < 6 by decide)
  generalize x.A.length % 6 = r at hm
  have : r = 0 ∨ r = 1 ∨ r = 2 ∨ r = 3 ∨ r = 4 ∨ r = 5 := by omega
  rcases this with rfl | rfl | rfl | rfl | rfl | rfl
  · exact last_0
  · exact last_1
  · exact last_2
  · exact last_3
  · exact last_4
  · exact last_5
end Go.XL
end
