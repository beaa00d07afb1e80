import Derived.Test.YtpknehjdfjpikaaGaC0
set_option linter.all false
section
namespace Go.XL
open Go.XM
section
def Ev {α : Type} (g : Nat → Nat → Nat → Nat → Nat → Option α) (r : α) : Prop := ∃ m, ∀ K a b c d, m ≤ K → m ≤ a → m ≤ b → m ≤ c → m ≤ d → g K a b c d = some r
abbrev E0 {α : Type} (g : Nat → Option α) (r : α) : Prop := Ev (fun K _ _ _ _ => g K) r
abbrev E1 {α : Type} (g : Nat → Nat → Option α) (r : α) : Prop := Ev (fun K a _ _ _ => g K a) r
abbrev E2 {α : Type} (g : Nat → Nat → Nat → Option α) (r : α) : Prop := Ev (fun K a b _ _ => g K a b) r
theorem now {α : Type} (r : α) : Ev (fun _ _ _ _ _ => some r) r := ⟨0, fun _ _ _ _ _ _ _ _ _ _ => rfl⟩
theorem nowE {α : Type} {r s : α} (h : s = r) : Ev (fun _ _ _ _ _ => some s) r := ⟨0, fun _ _ _ _ _ _ _ _ _ _ => by rw [h]⟩
theorem pos {α : Type} {c : Prop} [Decidable c] {f g : Nat → Nat → Nat → Nat → Nat → Option α} {r : α} (h : c) (k : Ev f r) : Ev (fun x y z u v => if c then f x y z u v else g x y z u v) r := by
  obtain ⟨m, k⟩ := k
  exact ⟨m, fun x y z u v a b c d e => (if_pos h).trans (k x y z u v a b c d e)⟩
theorem neg {α : Type} {c : Prop} [Decidable c] {f g : Nat → Nat → Nat → Nat → Nat → Option α} {r : α} (h : ¬ c) (k : Ev g r) : Ev (fun x y z u v => if c then f x y z u v else g x y z u v) r := by
  obtain ⟨m, k⟩ := k
  exact ⟨m, fun x y z u v a b c d e => (if_neg h).trans (k x y z u v a b c d e)⟩
theorem posD {α : Type} {c : Prop} [Decidable c] {f g : Nat → Nat → Nat → Nat → Nat → Option α} {r : α} (h : c) (k : Ev f r) : Ev (fun x y z u v => if decide c = true then f x y z u v else g x y z u v) r := pos (decide_eq_true h) k
theorem negD {α : Type} {c : Prop} [Decidable c] {f g : Nat → Nat → Nat → Nat → Nat → Option α} {r : α} (h : ¬ c) (k : Ev g r) : Ev (fun x y z u v => if decide c = true then f x y z u v else g x y z u v) r := neg (by simpa using h) k
theorem posM {α : Type} {c : Prop} [Decidable c] {f g : Nat → Nat → Nat → Nat → Nat → Option α} {r : α} (h : ¬ c) (k : Ev f r) : Ev (fun x y z u v => if (!decide c) = true then f x y z u v else g x y z u v) r := pos (by rw [decide_eq_false h]; rfl) k
theorem negM {α : Type} {c : Prop} [Decidable c] {f g : Nat → Nat → Nat → Nat → Nat → Option α} {r : α} (h : c) (k : Ev g r) : Ev (fun x y z u v => if (!decide c) = true then f x y z u v else g x y z u v) r := neg (by rw [decide_eq_true h]; decide) k
theorem posE {α : Type} {p q : Int} {f g : Nat → Nat → Nat → Nat → Nat → Option α} {r : α} (h : p = q) (k : Ev f r) : Ev (fun x y z u v => if (p == q) = true then f x y z u v else g x y z u v) r := pos (by simp [h]) k
theorem negE {α : Type} {p q : Int} {f g : Nat → Nat → Nat → Nat → Nat → Option α} {r : α} (h : ¬ p = q) (k : Ev g r) : Ev (fun x y z u v => if (p == q) = true then f x y z u v else g x y z u v) r := neg (by simpa using h) k
theorem posN {α : Type} {p q : Int} {f g : Nat → Nat → Nat → Nat → Nat → Option α} {r : α} (h : ¬ p = q) (k : Ev f r) : Ev (fun x y z u v => if (p != q) = true then f x y z u v else g x y z u v) r := pos (by simpa using h) k
theorem negN {α : Type} {p q : Int} {f g : Nat → Nat → Nat → Nat → Nat → Option α} {r : α} (h : p = q) (k : Ev g r) : Ev (fun x y z u v => if (p != q) = true then f x y z u v else g x y z u v) r := neg (by simp [h]) k
theorem bnd {α β : Type} {g : Nat → Nat → Nat → Nat → Nat → Option α} {f : Nat → Nat → Nat → Nat → Nat → α → Option β} {a : α} {r : β} (h : Ev g a) (k : Ev (fun x y z u v => f x y z u v a) r) : Ev (fun x y z u v => (g x y z u v).bind (f x y z u v)) r := by
  obtain ⟨m, h⟩ := h
  obtain ⟨m', k⟩ := k
  refine ⟨max m m', fun x y z u v a b c d e => ?_⟩
  show (g x y z u v).bind _ = _
  rw [h x y z u v (by omega) (by omega) (by omega) (by omega) (by omega)]
  exact k x y z u v (by omega) (by omega) (by omega) (by omega) (by omega)
theorem tail {α : Type} {g : Nat → Nat → Nat → Nat → Nat → Option α} {r : α} (h : Ev g r) : Ev (fun x y z u v => (g x y z u v).bind fun t => some t) r := bnd h (now r)
theorem ofEq {α : Type} {g : Nat → Nat → Nat → Nat → Nat → Option α} {r s : α} (h : Ev g r) (e : r = s) : Ev g s := e ▸ h
theorem congr {α : Type} {f g : Nat → Nat → Nat → Nat → Nat → Option α} {r : α} (e : ∀ x y z u v, g x y z u v = f x y z u v) (h : Ev f r) : Ev g r := by
  obtain ⟨m, h⟩ := h
  exact ⟨m, fun x y z u v a b c d k => by rw [e]; exact h x y z u v a b c d k⟩
theorem step1 {α : Type} {f g : Nat → Nat → Nat → Nat → Nat → Option α} {r : α} (e : ∀ x y z u v, g x (y + 1) z u v = f x y z u v) (h : Ev f r) : Ev g r := by
  obtain ⟨m, h⟩ := h
  refine ⟨m + 1, fun x y z u v a b c d k => ?_⟩
  obtain ⟨y, rfl⟩ : ∃ n, y = n + 1 := ⟨y - 1, by omega⟩
  rw [e]; exact h x y z u v (by omega) (by omega) (by omega) (by omega) (by omega)
theorem step2 {α : Type} {f g : Nat → Nat → Nat → Nat → Nat → Option α} {r : α} (e : ∀ x y z u v, g x y (z + 1) u v = f x y z u v) (h : Ev f r) : Ev g r := by
  obtain ⟨m, h⟩ := h
  refine ⟨m + 1, fun x y z u v a b c d k => ?_⟩
  obtain ⟨z, rfl⟩ : ∃ n, z = n + 1 := ⟨z - 1, by omega⟩
  rw [e]; exact h x y z u v (by omega) (by omega) (by omega) (by omega) (by omega)
theorem Ev.e1 {α : Type} {g : Nat → Nat → Nat → Nat → Nat → Option α} {r : α} (h : Ev g r) : Ev (fun x y z u v => g x x z u v) r := by
  obtain ⟨m, h⟩ := h
  exact ⟨m, fun x y z u v a b c d k => h x x z u v a a c d k⟩
theorem Ev.e2 {α : Type} {g : Nat → Nat → Nat → Nat → Nat → Option α} {r : α} (h : Ev g r) : Ev (fun x y z u v => g x y x u v) r := by
  obtain ⟨m, h⟩ := h
  exact ⟨m, fun x y z u v a b c d k => h x y x u v a b a d k⟩
theorem Ev.e3 {α : Type} {g : Nat → Nat → Nat → Nat → Nat → Option α} {r : α} (h : Ev g r) : Ev (fun x y z u v => g x y z x v) r := by
  obtain ⟨m, h⟩ := h
  exact ⟨m, fun x y z u v a b c d k => h x y z x v a b c a k⟩
theorem Ev.all {α : Type} {g : Nat → Option α} {r : α} (h : E0 g r) : ∃ m, ∀ K, m ≤ K → g K = some r := by
  obtain ⟨m, h⟩ := h
  exact ⟨m, fun K hK => h K K K K K hK hK hK hK hK⟩
theorem Ev.get {α : Type} {g : Nat → Option α} {r : α} (h : E0 g r) : ∃ K, g K = some r := by
  obtain ⟨m, h⟩ := h.all
  exact ⟨m, h m (Nat.le_refl _)⟩
theorem w64 {i : Int} (h : -9223372036854775808 ≤ i) (h' : i ≤ 9223372036854775807) : wr .i64 i = i := by show Go.RowKit.wrap64 i = i; unfold Go.RowKit.wrap64; omega
theorem w1 {i : Nat} (h : i < 4611686018427387904) : wr .i64 ((i : Int) + 1) = ((i + 1 : Nat) : Int) := by rw [w64 (by omega) (by omega)]; omega
theorem upto {n : Nat} {Q : Nat → Prop} (base : Q n) (step : ∀ i, i < n → Q (i + 1) → Q i) : ∀ i, i ≤ n → Q i := by
  have key : ∀ d i, i + d = n → Q i := by
    intro d
    induction d with
    | zero => intro i hi; rw [show i = n by omega]; exact base
    | succ d ih => intro i hi; exact step i (by omega) (ih (i + 1) (by omega))
  intro i hi
  exact key (n - i) i (by omega)
theorem getD_lt {α : Type} {d : α} {xs : List α} {i : Nat} (h : i < xs.length) : xs.getD i d = xs[i] := by simp [List.getD_eq_getElem?_getD, List.getElem?_eq_getElem h]
theorem getD_mem {α : Type} {d : α} {xs : List α} {i : Nat} (h : i < xs.length) : xs.getD i d ∈ xs := by rw [getD_lt h]; exact List.getElem_mem h
theorem drop_getD {α : Type} {d : α} {xs : List α} {i : Nat} (h : i < xs.length) : xs.drop i = xs.getD i d :: xs.drop (i + 1) := by rw [getD_lt h]; exact List.drop_eq_getElem_cons h
theorem take_getD {α : Type} {d : α} {xs : List α} {i : Nat} (h : i < xs.length) : xs.take (i + 1) = xs.take i ++ [xs.getD i d] := by rw [getD_lt h, List.take_succ_eq_append_getElem h]
theorem nthN {α : Type} [Inhabited α] (xs : List α) (i : Nat) : nth xs (i : Int) = xs.getD i default := by simp [nth]
theorem rdN (xs : List Int) (i : Nat) : nth xs (i : Int) = xs.getD i 0 := nthN xs i
theorem rd1I (xs : List (List Int)) (i : Int) : nth xs i = xs.getD i.toNat [] := rfl
theorem rd1N (xs : List (List Int)) (i : Nat) : nth xs (i : Int) = xs.getD i [] := nthN xs i
def lsum (xs : List (List Int)) : Nat := (xs.map List.length).sum
theorem lsum_cons (x : List Int) (xs : List (List Int)) : lsum (x :: xs) = x.length + lsum xs := by simp [lsum]
theorem lsum_append (xs ys : List (List Int)) : lsum (xs ++ ys) = lsum xs + lsum ys := by simp [lsum]
theorem lsum_mem {x : List Int} {xs : List (List Int)} (h : x ∈ xs) : x.length ≤ lsum xs := by
  induction xs with
  | nil => simp at h
  | cons y ys ih =>
    rw [lsum_cons]
    rcases List.mem_cons.1 h with rfl | h
    · omega
    · have := ih h; omega
theorem lsum_drop {xs : List (List Int)} {i : Nat} (h : i < xs.length) : lsum (xs.drop i) = (xs.getD i []).length + lsum (xs.drop (i + 1)) := by rw [drop_getD (d := []) h, lsum_cons]
theorem lsum_take {xs : List (List Int)} {i : Nat} (h : i < xs.length) : lsum (xs.take (i + 1)) = lsum (xs.take i) + (xs.getD i []).length := by rw [take_getD (d := []) h, lsum_append]; simp [lsum]
theorem lsum_take_le (xs : List (List Int)) (i : Nat) : lsum (xs.take i) ≤ lsum xs := by
  have := lsum_append (xs.take i) (xs.drop i)
  rw [List.take_append_drop] at this
  omega
theorem negB {α : Type} {b : Bool} {f g : Nat → Nat → Nat → Nat → Nat → Option α} {r : α} (h : b = false) (k : Ev g r) : Ev (fun x y z u v => if b = true then f x y z u v else g x y z u v) r := neg (by rw [h]; decide) k
end
section
theorem lists_ev (xs : List (List Int)) (hl : xs.length ≤ 17592186044416) (hx : ∀ y ∈ xs, y.length ≤ 17592186044416) :
    ∃ r : Int, E0 (fun K => herbariumlaw0_Lists K xs) r ∧ 0 ≤ r ∧ r ≤ 35184372088832 ∧ (r < 1048576 → r = xs.length + lsum xs) := by
  have key : ∀ i, i ≤ xs.length → ∀ s : Int, 0 ≤ s → s ≤ 35184372088832 → ∃ r : Int, E1 (fun K k => herbariumlaw0_Lists.l1 K xs k s (i : Int)) r ∧ 0 ≤ r ∧ r ≤ 35184372088832 ∧ (r < 1048576 → r = s + lsum (xs.drop i)) := by
    refine upto ?_ ?_
    · intro s h0 h1
      refine ⟨s, ?_, h0, h1, fun _ => by simp [lsum]⟩
      refine step1 (fun _ _ _ _ _ => herbariumlaw0_Lists.l1.eq_2 ..) ?_
      exact negD (by omega) (now s)
    · intro i hi ih s h0 h1
      by_cases hs : s < 1048576
      · have hy := hx _ (getD_mem (d := []) hi)
        obtain ⟨r, h, a, b, c⟩ := ih (s + ((xs.getD i []).length : Int)) (by omega) (by omega)
        refine ⟨r, ?_, a, b, fun hr => by rw [c hr, lsum_drop hi]; omega⟩
        refine step1 (fun _ _ _ _ _ => herbariumlaw0_Lists.l1.eq_2 ..) ?_
        refine posD (by omega) (posD hs (pos (by omega) ?_))
        rw [rd1N, w64 (by omega) (by omega), w1 (by omega)]
        exact h
      · refine ⟨s, ?_, h0, h1, fun h => by omega⟩
        refine step1 (fun _ _ _ _ _ => herbariumlaw0_Lists.l1.eq_2 ..) ?_
        exact posD (by omega) (negD hs (now s))
  obtain ⟨r, h, a, b, c⟩ := key 0 (by omega) xs.length (by omega) (by omega)
  exact ⟨r, h.e1, a, b, fun hr => by rw [c hr]; simp⟩
def OkAt (xs : List Int) (i : Nat) : Prop := 0 ≤ xs.getD i 0 ∧ xs.getD i 0 ≤ 15 ∧ (0 < i → xs.getD (i - 1) 0 < xs.getD i 0)
instance (xs : List Int) (i : Nat) : Decidable (OkAt xs i) := by unfold OkAt; infer_instance
def MayP (xs : List Int) : Prop := ∀ i, i < xs.length → OkAt xs i
instance (xs : List Int) : Decidable (MayP xs) := by unfold MayP; infer_instance
theorem ok_ge {xs : List Int} : ∀ i : Nat, (∀ j, j ≤ i → OkAt xs j) → (i : Int) ≤ xs.getD i 0 := by
  intro i
  induction i with
  | zero => intro h; exact_mod_cast (h 0 (by omega)).1
  | succ i ih =>
    intro h
    have h1 := ih (fun j hj => h j (by omega))
    have h2 := (h (i + 1) (by omega)).2.2 (by omega)
    simp only [Nat.add_sub_cancel] at h2
    omega
theorem MayP.len {xs : List Int} (h : MayP xs) : xs.length ≤ 16 := by
  rcases Nat.eq_zero_or_pos xs.length with h0 | h0
  · omega
  · have h1 := ok_ge (xs := xs) (xs.length - 1) (fun j hj => h j (by omega))
    have h2 := (h (xs.length - 1) (by omega)).2.1
    omega
theorem num_eq (K : Nat) (a b : Int) : herbariumref0_Num K a b = some (decide (0 ≤ a ∧ a ≤ b)) := by
  unfold herbariumref0_Num
  by_cases h : a ≥ 0
  · rw [if_pos (decide_eq_true h)]; simp [h]
  · rw [if_neg (by simpa using h)]; simp; omega
theorem origin_eq (K : Nat) (a : Int) : herbariumref3_Origin K a = some (decide (0 ≤ a ∧ a ≤ 15)) := by unfold herbariumref3_Origin; rw [num_eq]; rfl
theorem is_eq (K : Nat) (a : Int) : gaps_Is K a = some (decide (0 ≤ a ∧ a ≤ 15)) := by
  unfold gaps_Is
  by_cases h : a ≥ 0
  · rw [if_pos (decide_eq_true h)]; simp [h]; omega
  · rw [if_neg (by simpa using h)]; simp; omega
theorem may3_ev (xs : List Int) (hl : xs.length ≤ 17592186044416) : E0 (fun K => herbariumref3_May K xs) (decide (MayP xs)) := by
  have key : ∀ i, i ≤ xs.length → (∀ j, j < i → OkAt xs j) → E1 (fun K k => herbariumref3_May.l1 K xs k (i : Int)) (decide (MayP xs)) := by
    refine upto ?_ ?_
    · intro hok
      have hm : MayP xs := hok
      have hn := hm.len
      refine step1 (fun _ _ _ _ _ => herbariumref3_May.l1.eq_2 ..) ?_
      exact negD (by omega) (nowE (by simp [hm]; omega))
    · intro i hi ih hok
      have h16 : i ≤ 16 := by
        rcases Nat.eq_zero_or_pos i with h0 | h0
        · omega
        · have h1 := ok_ge (xs := xs) (i - 1) (fun j hj => hok j (by omega))
          have h2 := (hok (i - 1) (by omega)).2.1
          omega
      refine step1 (fun _ _ _ _ _ => herbariumref3_May.l1.eq_2 ..) ?_
      refine posD (by omega) (posD (by omega) (pos (by omega) ?_))
      simp only [origin_eq]
      rw [rdN]
      refine bnd (now _) ?_
      by_cases ho : 0 ≤ xs.getD i 0 ∧ xs.getD i 0 ≤ 15
      · refine negM ho ?_
        rcases Nat.eq_zero_or_pos i with h0 | h0
        · refine negD (by omega) ?_
          rw [w1 (by omega)]
          refine ih fun j hj => ?_
          by_cases e : j = i
          · subst e; exact ⟨ho.1, ho.2, fun h => by omega⟩
          · exact hok j (by omega)
        · refine posD (by omega) ?_
          have e1 : wr .i64 ((i : Int) - 1) = ((i - 1 : Nat) : Int) := by rw [w64 (by omega) (by omega)]; omega
          rw [e1, rdN]
          refine pos (by omega) (pos (by omega) ?_)
          by_cases hlt : xs.getD (i - 1) 0 ≥ xs.getD i 0
          · refine posD hlt (nowE ?_)
            have : ¬ MayP xs := fun hm => by have := (hm i hi).2.2 h0; omega
            simp [this]
          · refine negD hlt ?_
            rw [w1 (by omega)]
            refine ih fun j hj => ?_
            by_cases e : j = i
            · subst e; exact ⟨ho.1, ho.2, fun h => by omega⟩
            · exact hok j (by omega)
      · refine posM ho (nowE ?_)
        have : ¬ MayP xs := fun hm => ho ⟨(hm i hi).1, (hm i hi).2.1⟩
        simp [this]
  exact (key 0 (by omega) (fun j hj => by omega)).e1
theorem gmay_ev (xs : List Int) (hl : xs.length ≤ 17592186044416) : E0 (fun K => gaps_May K xs) (decide (MayP xs)) := by
  have key : ∀ i, i ≤ xs.length → (∀ j, j < i → OkAt xs j) → E1 (fun K k => gaps_May.l1 K xs k ((xs.length : Nat) : Int) (i : Int)) (decide (MayP xs)) := by
    refine upto ?_ ?_
    · intro hok
      have hm : MayP xs := hok
      refine step1 (fun _ _ _ _ _ => gaps_May.l1.eq_2 ..) ?_
      exact negD (by omega) (nowE (by simp [hm]))
    · intro i hi ih hok
      refine step1 (fun _ _ _ _ _ => gaps_May.l1.eq_2 ..) ?_
      refine posD (by omega) (pos (by omega) ?_)
      simp only [is_eq]
      rw [rdN]
      refine bnd (now _) ?_
      by_cases ho : 0 ≤ xs.getD i 0 ∧ xs.getD i 0 ≤ 15
      · refine negM ho ?_
        rcases Nat.eq_zero_or_pos i with h0 | h0
        · refine negD (by omega) ?_
          rw [w1 (by omega)]
          refine ih fun j hj => ?_
          by_cases e : j = i
          · subst e; exact ⟨ho.1, ho.2, fun h => by omega⟩
          · exact hok j (by omega)
        · refine posD (by omega) ?_
          have e1 : wr .i64 ((i : Int) - 1) = ((i - 1 : Nat) : Int) := by rw [w64 (by omega) (by omega)]; omega
          rw [e1, rdN]
          refine pos (by omega) ?_
          by_cases hlt : xs.getD i 0 ≤ xs.getD (i - 1) 0
          · refine posD hlt (nowE ?_)
            have : ¬ MayP xs := fun hm => by have := (hm i hi).2.2 h0; omega
            simp [this]
          · refine negD hlt ?_
            rw [w1 (by omega)]
            refine ih fun j hj => ?_
            by_cases e : j = i
            · subst e; exact ⟨ho.1, ho.2, fun h => by omega⟩
            · exact hok j (by omega)
      · refine posM ho (nowE ?_)
        have : ¬ MayP xs := fun hm => ho ⟨(hm i hi).1, (hm i hi).2.1⟩
        simp [this]
  exact (key 0 (by omega) (fun j hj => by omega)).e1
theorem ext_getD {xs ys : List Int} (hl : xs.length = ys.length) (h : ∀ j, j < xs.length → xs.getD j 0 = ys.getD j 0) : xs = ys := by
  refine List.ext_getElem hl fun j h1 h2 => ?_
  have := h j h1
  rwa [getD_lt h1, getD_lt h2] at this
theorem eqn_ev (xs ys : List Int) (h : xs.length ≤ 1000000) : E0 (fun K => herbariumref0_EqNumbers K xs ys) (decide (xs = ys)) := by
  unfold herbariumref0_EqNumbers
  by_cases hl : xs.length = ys.length
  · have key : ∀ i, i ≤ xs.length → (∀ j, j < i → xs.getD j 0 = ys.getD j 0) → E1 (fun K k => herbariumref0_EqNumbers.l1 K xs ys k (i : Int)) (decide (xs = ys)) := by
      refine upto ?_ ?_
      · intro hd
        refine step1 (fun _ _ _ _ _ => herbariumref0_EqNumbers.l1.eq_2 ..) ?_
        exact negD (by omega) (nowE (by rw [ext_getD hl hd]; simp))
      · intro i hi ih hd
        refine step1 (fun _ _ _ _ _ => herbariumref0_EqNumbers.l1.eq_2 ..) ?_
        refine posD (by omega) (pos (by omega) (pos (by omega) ?_))
        rw [rdN, rdN, w1 (by omega)]
        by_cases e : xs.getD i 0 = ys.getD i 0
        · refine negN e (ih fun j hj => ?_)
          by_cases q : j = i
          · rw [q]; exact e
          · exact hd j (by omega)
        · refine posN e (nowE ?_)
          have : ¬ xs = ys := fun h => e (by rw [h])
          simp [this]
    exact negN (by omega) (key 0 (by omega) (fun j hj => by omega)).e1
  · refine posN (by omega) (nowE ?_)
    have : ¬ xs = ys := fun h => hl (by rw [h])
    simp [this]
end
section
end
section
theorem in_ev (xs : List Int) (a : Int) (h : xs.length ≤ 1000000) : ∃ r, E0 (fun K => herbariumref0_In K xs a) r ∧ (0 ≤ r ↔ a ∈ xs) := by
  have key : ∀ i, i ≤ xs.length → ∃ r, E1 (fun K k => herbariumref0_In.l1 K xs a k (i : Int)) r ∧ (0 ≤ r ↔ a ∈ xs.drop i) := by
    refine upto ?_ ?_
    · refine ⟨-1, ?_, by simp⟩
      refine step1 (fun _ _ _ _ _ => herbariumref0_In.l1.eq_2 ..) ?_
      exact negD (by omega) (now _)
    · intro i hi ih
      obtain ⟨r, h1, h2⟩ := ih
      by_cases e : xs.getD i 0 = a
      · refine ⟨i, ?_, by rw [drop_getD (d := 0) hi, e]; simp⟩
        refine step1 (fun _ _ _ _ _ => herbariumref0_In.l1.eq_2 ..) ?_
        refine posD (by omega) (pos (by omega) ?_)
        rw [rdN]
        exact posE e (now _)
      · refine ⟨r, ?_, by rw [drop_getD (d := 0) hi, h2, List.mem_cons]; exact ⟨.inr, fun q => q.resolve_left (fun q => e q.symm)⟩⟩
        refine step1 (fun _ _ _ _ _ => herbariumref0_In.l1.eq_2 ..) ?_
        refine posD (by omega) (pos (by omega) ?_)
        rw [rdN, w1 (by omega)]
        exact negE e h1
  obtain ⟨r, h1, h2⟩ := key 0 (by omega)
  exact ⟨r, h1.e1, by simpa using h2⟩
theorem contains_ev (xs : List Int) (a : Int) (h : xs.length ≤ 1000000) : E0 (fun K => slices_Contains___int_int_ K xs a) (decide (a ∈ xs)) := by
  have key : ∀ i, i ≤ xs.length → ∃ r, E1 (fun K k => slices_Index___int_int_.l1 K xs a k ((xs.length : Nat) : Int) (i : Int)) r ∧ (0 ≤ r ↔ a ∈ xs.drop i) := by
    refine upto ?_ ?_
    · refine ⟨-1, ?_, by simp⟩
      refine step1 (fun _ _ _ _ _ => slices_Index___int_int_.l1.eq_2 ..) ?_
      exact negD (by omega) (now _)
    · intro i hi ih
      obtain ⟨r, h1, h2⟩ := ih
      by_cases e : a = xs.getD i 0
      · refine ⟨i, ?_, by rw [drop_getD (d := 0) hi, ← e]; simp⟩
        refine step1 (fun _ _ _ _ _ => slices_Index___int_int_.l1.eq_2 ..) ?_
        refine posD (by omega) (pos (by omega) ?_)
        rw [rdN]
        exact posE e (now _)
      · refine ⟨r, ?_, by rw [drop_getD (d := 0) hi, h2, List.mem_cons]; exact ⟨.inr, fun q => q.resolve_left e⟩⟩
        refine step1 (fun _ _ _ _ _ => slices_Index___int_int_.l1.eq_2 ..) ?_
        refine posD (by omega) (pos (by omega) ?_)
        rw [rdN, w1 (by omega)]
        exact negE e h1
  obtain ⟨r, h1, h2⟩ := key 0 (by omega)
  unfold slices_Contains___int_int_ slices_Index___int_int_
  refine bnd h1.e1 (nowE ?_)
  exact decide_eq_decide.2 (by simpa using h2)
end
section
theorem may_lt {xs : List Int} (h : MayP xs) : ∀ (d i : Nat), i + d + 1 < xs.length → xs.getD i 0 < xs.getD (i + d + 1) 0
  | 0, i, hi => by
    have := (h (i + 1) (by omega)).2.2 (by omega)
    simpa using this
  | d + 1, i, hi => by
    have h1 := may_lt h d i (by omega)
    have h2 := (h (i + (d + 1) + 1) (by omega)).2.2 (by omega)
    rw [show i + (d + 1) + 1 - 1 = i + d + 1 by omega] at h2
    omega
theorem mayP_iff (xs : List Int) : MayP xs ↔ xs.Pairwise (· < ·) ∧ ∀ x ∈ xs, 0 ≤ x ∧ x ≤ 15 := by
  constructor
  · intro h
    refine ⟨List.pairwise_iff_getElem.2 fun i j hi hj hij => ?_, fun x hx => ?_⟩
    · have := may_lt h (j - i - 1) i (by omega)
      rw [show i + (j - i - 1) + 1 = j by omega, getD_lt hi, getD_lt hj] at this
      exact this
    · obtain ⟨i, hi, rfl⟩ := List.mem_iff_getElem.1 hx
      have := h i hi
      rw [← getD_lt (d := 0) hi]; exact ⟨this.1, this.2.1⟩
  · rintro ⟨h1, h2⟩ i hi
    have hm := h2 _ (getD_mem (d := 0) hi)
    refine ⟨hm.1, hm.2, fun h0 => ?_⟩
    have := List.pairwise_iff_getElem.1 h1 (i - 1) i (by omega) hi (by omega)
    rw [getD_lt (show i - 1 < xs.length by omega), getD_lt hi]; exact this
end
section
theorem copy_ev (xs : List Int) (h : xs.length ≤ 1000000) : E0 (fun K => herbariumref0_CopyNumbers K xs) xs := by
  have key : ∀ i, i ≤ xs.length → E1 (fun K k => herbariumref0_CopyNumbers.l1 K xs k (i : Int) (xs.take i)) xs := by
    refine upto ?_ ?_
    · refine step1 (fun _ _ _ _ _ => herbariumref0_CopyNumbers.l1.eq_2 ..) ?_
      exact negD (by omega) (nowE (List.take_length))
    · intro i hi ih
      refine step1 (fun _ _ _ _ _ => herbariumref0_CopyNumbers.l1.eq_2 ..) ?_
      refine posD (by omega) (pos (by omega) (pos (by simp; omega) ?_))
      rw [rdN, w1 (by omega), ← take_getD hi]
      exact ih
  exact (key 0 (by omega)).e1
theorem nums_ev (xs : List Int) (hl : xs.length ≤ 1000000) : E0 (fun K => herbariumlaw0_Numbers K xs) () := by
  have key : ∀ i, i ≤ xs.length → ∀ ys : List Int, ys.length = xs.length → E1 (fun K k => herbariumlaw0_Numbers.l1 K k (i : Int) ys) () := by
    refine upto ?_ ?_
    · intro ys hy
      refine step1 (fun _ _ _ _ _ => herbariumlaw0_Numbers.l1.eq_2 ..) ?_
      exact negD (by omega) (now _)
    · intro i hi ih ys hy
      refine step1 (fun _ _ _ _ _ => herbariumlaw0_Numbers.l1.eq_2 ..) ?_
      refine posD (by omega) (pos (by omega) ?_)
      rw [w1 (by omega)]
      exact ih _ (by rw [List.length_set]; exact hy)
  exact (key 0 (by omega) xs rfl).e1
end
section
def wt (g : api_Graph) : Nat := g.Out.length + lsum g.Out
abbrev zG : api_Graph := default
theorem rdG (xs : List api_Graph) (i : Nat) : nth xs (i : Int) = xs.getD i zG := nthN xs i
def Gfit (g : api_Graph) : Prop := g.Out.length ≤ 17592186044416 ∧ ∀ y ∈ g.Out, y.length ≤ 17592186044416
theorem weight_ev (gs : List api_Graph) (hl : gs.length ≤ 17592186044416) (hx : ∀ g ∈ gs, Gfit g) :
    ∃ r : Int, E0 (fun K => herbariumlaw0_GraphsWeight K gs) r ∧ 0 ≤ r ∧ r ≤ 52776558133248 ∧ (r < 1048576 → (gs.length : Int) ≤ r ∧ ∀ g ∈ gs, (wt g : Int) ≤ r) := by
  have key : ∀ i, i ≤ gs.length → ∀ s : Int, 0 ≤ s → s ≤ 52776558133248 → ∃ r : Int, E1 (fun K k => herbariumlaw0_GraphsWeight.l1 K gs k s (i : Int)) r ∧ 0 ≤ r ∧ r ≤ 52776558133248 ∧ s ≤ r ∧ (r < 1048576 → ∀ g ∈ gs.drop i, (wt g : Int) ≤ r) := by
    refine upto ?_ ?_
    · intro s h0 h1
      refine ⟨s, ?_, h0, h1, by omega, fun _ => by simp⟩
      refine step1 (fun _ _ _ _ _ => herbariumlaw0_GraphsWeight.l1.eq_2 ..) ?_
      exact negD (by omega) (now s)
    · intro i hi ih s h0 h1
      by_cases hs : s < 1048576
      · have hg := hx _ (getD_mem (d := zG) hi)
        obtain ⟨q, e, q0, q1, q2⟩ := lists_ev (gs.getD i zG).Out hg.1 hg.2
        obtain ⟨r, h, a, b, l, c⟩ := ih (s + q) (by omega) (by omega)
        refine ⟨r, ?_, a, b, by omega, fun hr => ?_⟩
        · refine step1 (fun _ _ _ _ _ => herbariumlaw0_GraphsWeight.l1.eq_2 ..) ?_
          refine posD (by omega) (posD hs (pos (by omega) ?_))
          rw [rdG, w1 (by omega)]
          refine bnd e ?_
          rw [w64 (by omega) (by omega)]
          exact h
        · rw [drop_getD (d := zG) hi]
          intro g hg'
          rcases List.mem_cons.1 hg' with rfl | hg'
          · have := q2 (by omega)
            simp only [wt]; omega
          · exact c hr g hg'
      · refine ⟨s, ?_, h0, h1, by omega, fun h => by omega⟩
        refine step1 (fun _ _ _ _ _ => herbariumlaw0_GraphsWeight.l1.eq_2 ..) ?_
        exact posD (by omega) (negD hs (now s))
  obtain ⟨r, h, a, b, l, c⟩ := key 0 (by omega) gs.length (by omega) (by omega)
  exact ⟨r, h.e1, a, b, fun hr => ⟨l, by simpa using c hr⟩⟩
theorem heavy6_ev (x : herbariumlaw6_Script) (hl : x.G.length ≤ 17592186044416) (hx : ∀ g ∈ x.G, Gfit g) (ha : x.A.length ≤ 17592186044416) : ∃ b : Bool, E0 (fun K => herbariumlaw6_Heavy K x) b ∧ (b = false → x.G.length ≤ 1200 ∧ x.A.length ≤ 1200 ∧ ∀ g ∈ x.G, wt g ≤ 1200) := by
  obtain ⟨r, e, r0, r1, r2⟩ := weight_ev x.G hl hx
  refine ⟨_, bnd e (now _), fun hb => ?_⟩
  rw [w64 (by omega) (by omega)] at hb
  have hb : r + (x.A.length : Int) ≤ 1200 := by simpa using hb
  obtain ⟨ha, hw⟩ := r2 (by omega)
  exact ⟨by omega, by omega, fun g hg => by have := hw g hg; omega⟩
def GSm (g : api_Graph) : Prop := g.Out.length + lsum g.Out ≤ 1000000
instance (g : api_Graph) : Decidable (GSm g) := by unfold GSm; infer_instance
theorem GSm.row {g : api_Graph} (h : GSm g) {i : Nat} (hi : i < g.Out.length) : (g.Out.getD i []).length ≤ 1000000 := by
  have := lsum_mem (getD_mem (d := []) hi)
  unfold GSm at h
  omega
theorem many_ev (g : api_Graph) (hl : GSm g) : E0 (fun K => graph_many K g) (lsum g.Out : Int) := by
  unfold GSm at hl
  have key : ∀ i, i ≤ g.Out.length → E1 (fun K k => graph_many.l1 K g k (lsum (g.Out.take i) : Int) ((g.Out.length : Nat) : Int) (i : Int)) (lsum g.Out : Int) := by
    refine upto ?_ ?_
    · refine step1 (fun _ _ _ _ _ => graph_many.l1.eq_2 ..) ?_
      exact negD (by omega) (nowE (by rw [List.take_length]))
    · intro i hi ih
      have h1 := lsum_take hi
      have h2 := lsum_take_le g.Out (i + 1)
      refine step1 (fun _ _ _ _ _ => graph_many.l1.eq_2 ..) ?_
      refine posD (by omega) (pos (by omega) ?_)
      rw [rd1N, w64 (by omega) (by omega), w1 (by omega), show ((lsum (g.Out.take i) : Int) + ((g.Out.getD i []).length : Int)) = (lsum (g.Out.take (i + 1)) : Int) by omega]
      exact ih
  exact (key 0 (by omega)).e1
def RowP (n : Int) (xs : List Int) : Prop := MayP xs ∧ (0 < xs.length → xs.getD (xs.length - 1) 0 < n)
instance (n : Int) (xs : List Int) : Decidable (RowP n xs) := by unfold RowP; infer_instance
def GraphP (g : api_Graph) : Prop := 0 ≤ g.N ∧ g.N ≤ 16 ∧ (g.Out.length : Int) = g.N ∧ (∀ i, i < g.Out.length → RowP g.N (g.Out.getD i [])) ∧ lsum g.Out ≤ 120
instance (g : api_Graph) : Decidable (GraphP g) := by unfold GraphP; infer_instance
theorem gmayG_ev (g : api_Graph) (hs : GSm g) : E0 (fun K => graph_May K g) (decide (GraphP g)) := by
  have key : (g.Out.length : Int) = g.N → 0 ≤ g.N → g.N ≤ 16 → ∀ i, i ≤ g.Out.length → (∀ j, j < i → RowP g.N (g.Out.getD j [])) → E1 (fun K k => graph_May.l1 K g k ((g.Out.length : Nat) : Int) (i : Int)) (decide (GraphP g)) := by
    intro hn n0 n16
    refine upto ?_ ?_
    · intro hok
      refine step1 (fun _ _ _ _ _ => graph_May.l1.eq_2 ..) ?_
      refine negD (by omega) (bnd (many_ev g hs) (nowE ?_))
      have : GraphP g ↔ lsum g.Out ≤ 120 := ⟨fun h => h.2.2.2.2, fun h => ⟨n0, n16, hn, hok, h⟩⟩
      simp [this]; omega
    · intro i hi ih hok
      have hr := hs.row hi
      refine step1 (fun _ _ _ _ _ => graph_May.l1.eq_2 ..) ?_
      refine posD (by omega) (pos (by omega) ?_)
      rw [rd1N]
      refine bnd (gmay_ev _ (by omega)) ?_
      have hno : ¬ RowP g.N (g.Out.getD i []) → decide (GraphP g) = false := fun h => by
        have : ¬ GraphP g := fun hg => h (hg.2.2.2.1 i hi)
        simp [this]
      have hgo : RowP g.N (g.Out.getD i []) → ∀ j, j < i + 1 → RowP g.N (g.Out.getD j []) := fun h j hj => by
        by_cases e : j = i
        · subst e; exact h
        · exact hok j (by omega)
      by_cases hm : MayP (g.Out.getD i [])
      · refine neg (by simpa using hm) ?_
        rw [w1 (by omega)]
        by_cases h0 : 0 < (g.Out.getD i []).length
        · refine posD (by omega) ?_
          have e1 : wr .i64 (((g.Out.getD i []).length : Int) - 1) = (((g.Out.getD i []).length - 1 : Nat) : Int) := by rw [w64 (by omega) (by omega)]; omega
          rw [e1, rdN]
          refine pos (by omega) ?_
          by_cases hlt : (g.Out.getD i []).getD ((g.Out.getD i []).length - 1) 0 ≥ g.N
          · exact posD hlt (nowE (hno fun h => by have := h.2 h0; omega).symm)
          · exact negD hlt (ih (hgo ⟨hm, fun _ => by omega⟩))
        · exact negD (by omega) (ih (hgo ⟨hm, fun h => absurd h h0⟩))
      · exact pos (by simpa using hm) (nowE (hno fun h => hm h.1).symm)
  unfold graph_May
  by_cases h0 : g.N < 0
  · exact posD h0 (nowE (by have : ¬ GraphP g := fun hg => by have := hg.1; omega
                            simp [this]))
  · refine negD h0 ?_
    by_cases h1 : g.N > 16
    · exact posD h1 (nowE (by have : ¬ GraphP g := fun hg => by have := hg.2.1; omega
                              simp [this]))
    · refine negD h1 ?_
      by_cases hn : (g.Out.length : Int) = g.N
      · exact negN hn (key hn (by omega) (by omega) 0 (by omega) (fun j hj => by omega)).e1
      · exact posN hn (nowE (by have : ¬ GraphP g := fun hg => hn hg.2.2.1
                                simp [this]))
theorem eqG_ev (g : api_Graph) (hs : GSm g) : E0 (fun K => herbariumref0_EqGraph K g g) true := by
  have key : ∀ i, i ≤ g.Out.length → E1 (fun K k => herbariumref0_EqNumberLists.l1 K g.Out g.Out k (i : Int)) true := by
    have hl : g.Out.length ≤ 1000000 := by unfold GSm at hs; omega
    refine upto ?_ ?_
    · refine step1 (fun _ _ _ _ _ => herbariumref0_EqNumberLists.l1.eq_2 ..) ?_
      exact negD (by omega) (now _)
    · intro i hi ih
      refine step1 (fun _ _ _ _ _ => herbariumref0_EqNumberLists.l1.eq_2 ..) ?_
      refine posD (by omega) (pos (by omega) (pos (by omega) ?_))
      rw [rd1N]
      refine bnd (eqn_ev _ _ (hs.row hi)) (negM rfl ?_)
      rw [w1 (by omega)]
      exact ih
  unfold herbariumref0_EqGraph herbariumref0_EqNumberLists
  exact posE rfl (tail (negN rfl (key 0 (by omega)).e1))
end
section
structure GP (g : api_Graph) : Prop where
  n : g.N = (g.Out.length : Int)
  le : g.Out.length ≤ 16
  may : ∀ l ∈ g.Out, MayP l
  sum : lsum g.Out ≤ 120
theorem GraphP.gp {g : api_Graph} (h : GraphP g) : GP g := by
  obtain ⟨h1, h2, h3, h4, h5⟩ := h
  refine ⟨h3.symm, by omega, fun l hl => ?_, h5⟩
  obtain ⟨i, hi, rfl⟩ := List.mem_iff_getElem.1 hl
  have := (h4 i hi).1
  rwa [getD_lt hi] at this
theorem GraphP.sm {g : api_Graph} (h : GraphP g) : GSm g := by
  have := h.gp
  have a := this.le
  have b := this.sum
  unfold GSm; omega
end
section
theorem redges_ev {g : api_Graph} (hs : GSm g) : E0 (fun K => herbariumref6_Edges K g) (lsum g.Out : Int) := by
  unfold GSm at hs
  have key : ∀ i, i ≤ g.Out.length → E1 (fun K k => herbariumref6_Edges.l1 K g k (lsum (g.Out.take i) : Int) (i : Int)) (lsum g.Out : Int) := by
    refine upto ?_ ?_
    · refine step1 (fun _ _ _ _ _ => herbariumref6_Edges.l1.eq_2 ..) ?_
      exact negD (by omega) (nowE (by rw [List.take_length]))
    · intro i hi ih
      have h1 := lsum_take hi
      have h2 := lsum_take_le g.Out (i + 1)
      refine step1 (fun _ _ _ _ _ => herbariumref6_Edges.l1.eq_2 ..) ?_
      refine posD (by omega) (pos (by omega) ?_)
      rw [rd1N, w64 (by omega) (by omega), w1 (by omega), show ((lsum (g.Out.take i) : Int) + ((g.Out.getD i []).length : Int)) = (lsum (g.Out.take (i + 1)) : Int) by omega]
      exact ih
  exact (key 0 (by omega)).e1
theorem rgraph_ev (g : api_Graph) (hs : GSm g) : E0 (fun K => herbariumref6_Graph K g) (decide (GraphP g)) := by
  have key : (g.Out.length : Int) = g.N → 0 ≤ g.N → g.N ≤ 16 → ∀ i, i ≤ g.Out.length → (∀ j, j < i → RowP g.N (g.Out.getD j [])) → E1 (fun K k => herbariumref6_Graph.l1 K g k (i : Int)) (decide (GraphP g)) := by
    intro hn n0 n16
    refine upto ?_ ?_
    · intro hok
      refine step1 (fun _ _ _ _ _ => herbariumref6_Graph.l1.eq_2 ..) ?_
      refine negD (by omega) (bnd (redges_ev hs) (nowE ?_))
      have : GraphP g ↔ lsum g.Out ≤ 120 := ⟨fun h => h.2.2.2.2, fun h => ⟨n0, n16, hn, hok, h⟩⟩
      rw [Bool.eq_iff_iff, decide_eq_true_iff, decide_eq_true_iff, this]; omega
    · intro i hi ih hok
      have hr := hs.row hi
      refine step1 (fun _ _ _ _ _ => herbariumref6_Graph.l1.eq_2 ..) ?_
      refine posD (by omega) (pos (by omega) ?_)
      rw [rd1N]
      refine bnd (may3_ev _ (by omega)) ?_
      have hno : ¬ RowP g.N (g.Out.getD i []) → decide (GraphP g) = false := fun h => decide_eq_false fun hg => h (hg.2.2.2.1 i hi)
      have hgo : RowP g.N (g.Out.getD i []) → ∀ j, j < i + 1 → RowP g.N (g.Out.getD j []) := fun h j hj => by
        by_cases e : j = i
        · subst e; exact h
        · exact hok j (by omega)
      by_cases hm : MayP (g.Out.getD i [])
      · refine negM hm (pos (by omega) ?_)
        rw [w1 (by omega)]
        by_cases h0 : 0 < (g.Out.getD i []).length
        · have e1 : wr .i64 (((g.Out.getD i []).length : Int) - 1) = (((g.Out.getD i []).length - 1 : Nat) : Int) := by rw [w64 (by omega) (by omega)]; omega
          refine posD (by omega) (pos (by omega) (pos (by omega) ?_))
          rw [e1, rdN]
          refine pos (by omega) ?_
          by_cases hlt : (g.Out.getD i []).getD ((g.Out.getD i []).length - 1) 0 ≥ g.N
          · exact posD hlt (nowE (hno fun h => by have := h.2 h0; omega).symm)
          · exact negD hlt (ih (hgo ⟨hm, fun _ => by omega⟩))
        · exact negD (by omega) (ih (hgo ⟨hm, fun h => absurd h h0⟩))
      · exact posM hm (nowE (hno fun h => hm h.1).symm)
  refine bnd (congr (fun K _ _ _ _ => num_eq K g.N 16) (now _)) ?_
  by_cases h0 : 0 ≤ g.N ∧ g.N ≤ 16
  · refine negM h0 ?_
    by_cases hn : (g.Out.length : Int) = g.N
    · exact negN hn (key hn h0.1 h0.2 0 (by omega) (fun j hj => by omega)).e1
    · exact posN hn (nowE (decide_eq_false fun hg => hn hg.2.2.1).symm)
  · exact posM h0 (nowE (decide_eq_false fun hg => h0 ⟨hg.1, hg.2.1⟩).symm)
end
section
theorem copyL_ev (xs : List (List Int)) (hl : xs.length ≤ 1000000) (hx : ∀ y ∈ xs, y.length ≤ 1000000) : E0 (fun K => herbariumref0_CopyNumberLists K xs) xs := by
  have key : ∀ i, i ≤ xs.length → E1 (fun K k => herbariumref0_CopyNumberLists.l1 K xs k (i : Int) (xs.take i)) xs := by
    refine upto ?_ ?_
    · refine step1 (fun _ _ _ _ _ => herbariumref0_CopyNumberLists.l1.eq_2 ..) ?_
      exact negD (by omega) (nowE List.take_length)
    · intro i hi ih
      have hy := hx _ (getD_mem (d := []) hi)
      refine step1 (fun _ _ _ _ _ => herbariumref0_CopyNumberLists.l1.eq_2 ..) ?_
      refine posD (by omega) (pos (by omega) ?_)
      rw [rd1N]
      refine bnd (copy_ev _ hy) (pos (by simp; omega) ?_)
      rw [w1 (by omega), ← take_getD (d := []) hi]
      exact ih
  exact (key 0 (by omega)).e1
theorem copyG_ev (g : api_Graph) (hs : GSm g) : E0 (fun K => herbariumref0_CopyGraph K g) g := by
  unfold GSm at hs
  exact bnd (copyL_ev g.Out (by omega) (fun y hy => by have := lsum_mem hy; omega)) (now _)
theorem lawG_ev (g : api_Graph) (hs : GSm g) : E0 (fun K => herbariumlaw0_Graph K g) () := by
  unfold GSm at hs
  have key : ∀ i, i ≤ g.Out.length → ∀ ls : List (List Int), ls.length = g.Out.length → (∀ y ∈ ls, y.length ≤ 1000000) → E1 (fun K k => herbariumlaw0_Graph.l1 K k (i : Int) ls) () := by
    refine upto ?_ ?_
    · intro ls h1 h2
      refine step1 (fun _ _ _ _ _ => herbariumlaw0_Graph.l1.eq_2 ..) ?_
      exact negD (by omega) (now _)
    · intro i hi ih ls h1 h2
      refine step1 (fun _ _ _ _ _ => herbariumlaw0_Graph.l1.eq_2 ..) ?_
      refine posD (by omega) (pos (by omega) ?_)
      rw [rd1N]
      refine bnd (nums_ev _ (h2 _ (getD_mem (by omega)))) (pos (by omega) (pos rfl ?_))
      rw [w1 (by omega)]
      refine ih _ (by simp [h1]) (fun y hy => ?_)
      rcases List.mem_or_eq_of_mem_set hy with hy | rfl
      · exact h2 y hy
      · simp
  exact (key 0 (by omega) g.Out rfl (fun y hy => by have := lsum_mem hy; omega)).e1
section
end
variable {x : herbariumlaw6_Script}
end
section
def HasE (g : api_Graph) (a b : Int) : Prop := 0 ≤ a ∧ a < g.N ∧ b ∈ g.Out.getD a.toNat []
instance (g : api_Graph) (a b : Int) : Decidable (HasE g a b) := by unfold HasE; infer_instance
theorem gIs_ev (g : api_Graph) (a : Int) : E0 (fun K => graph_Is K g a) (decide (0 ≤ a ∧ a < g.N)) := by
  unfold graph_Is
  by_cases c : a ≥ 0
  · exact posD c (nowE (decide_eq_decide.2 ⟨fun h => ⟨c, h⟩, fun h => h.2⟩))
  · exact negD c (nowE (decide_eq_false fun h => c h.1).symm)
theorem gout_len {g : api_Graph} (h : GraphP g) (i : Nat) : (g.Out.getD i []).length ≤ 1000000 := by
  by_cases c : i < g.Out.length
  · have h1 := lsum_mem (getD_mem (d := []) c)
    have h2 := h.2.2.2.2
    omega
  · rw [List.getD_eq_getElem?_getD, List.getElem?_eq_none (by omega)]; simp
theorem rhas_ev {g : api_Graph} (h : GraphP g) (a b : Int) : E0 (fun K => herbariumref6_Has K g a b) (decide (HasE g a b)) := by
  have hgl := gout_len h
  obtain ⟨h0, h1, h2, _⟩ := h
  have num : E0 (fun K => herbariumref0_Num K a (wr .i64 (g.N - 1))) (decide (0 ≤ a ∧ a < g.N)) := by
    unfold herbariumref0_Num
    rw [w64 (by omega) (by omega)]
    by_cases c : a ≥ 0
    · exact posD c (nowE (decide_eq_decide.2 ⟨fun h => ⟨c, by omega⟩, fun h => by omega⟩))
    · exact negD c (nowE (decide_eq_false fun h => c h.1).symm)
  refine bnd num ?_
  by_cases c : 0 ≤ a ∧ a < g.N
  · refine pos (by simpa using c) (pos (by omega) ?_)
    obtain ⟨r, hr, hr2⟩ := in_ev (g.Out.getD a.toNat []) b (hgl _)
    rw [rd1I]
    exact bnd hr (nowE (decide_eq_decide.2 ⟨fun k => ⟨c.1, c.2, hr2.1 k⟩, fun k => hr2.2 k.2.2⟩))
  · exact neg (by simpa using c) (nowE (decide_eq_false fun k => c ⟨k.1, k.2.1⟩).symm)
end
section
theorem holds_ev {g : api_Graph} (h : GraphP g) (p : api_Pair) : E0 (fun K => graph_holds K g p) (decide (HasE g p.A p.B)) := by
  have hgl := gout_len h
  obtain ⟨h0, h1, h2, _⟩ := h
  refine bnd (gIs_ev g p.A) ?_
  by_cases c : 0 ≤ p.A ∧ p.A < g.N
  · refine pos (by simpa using c) (pos (by omega) ?_)
    have e : nth g.Out p.A = g.Out.getD p.A.toNat [] := rfl
    rw [e]
    exact bnd (contains_ev _ _ (hgl _)) (nowE (decide_eq_decide.2 ⟨fun k => ⟨c.1, c.2, k⟩, fun k => k.2.2⟩))
  · exact neg (by simpa using c) (nowE (decide_eq_false fun k => c ⟨k.1, k.2.1⟩).symm)
def hasN (o : List (List Int)) (a : Nat) (b : Nat) : Prop := (b : Int) ∈ o.getD a []
instance (o : List (List Int)) (a b : Nat) : Decidable (hasN o a b) := by unfold hasN; infer_instance
end
end Go.XL
end
section
namespace Go.XL
open Go.XM
def lo (b : Int) : List Int → Nat
  | [] => 0
  | x :: l => if x < b then lo b l + 1 else 0
theorem lo_le (b : Int) : ∀ l : List Int, lo b l ≤ l.length
  | [] => Nat.le_refl _
  | x :: l => by
    rw [lo]
    split
    · have := lo_le b l; simp; omega
    · simp
theorem lo_lt {b : Int} : ∀ {l : List Int}, l.Pairwise (· < ·) → ∀ h, h < l.length → (l.getD h 0 < b ↔ h < lo b l)
  | [], _, h, hh => by simp at hh
  | x :: l, hp, h, hh => by
    obtain ⟨p1, p2⟩ := List.pairwise_cons.1 hp
    rw [lo]
    cases h with
    | zero =>
      rw [List.getD_cons_zero]
      split
      · rename_i c; exact ⟨fun _ => by omega, fun _ => c⟩
      · rename_i c; exact ⟨fun k => absurd k c, fun k => by omega⟩
    | succ h =>
      rw [List.getD_cons_succ]
      have hl : h < l.length := by simpa using hh
      split
      · rw [lo_lt p2 h hl]; omega
      · rename_i c
        have := p1 _ (getD_mem (d := 0) hl)
        exact ⟨fun k => by omega, fun k => by omega⟩
theorem lo_mem {b : Int} {l : List Int} (hp : l.Pairwise (· < ·)) : b ∈ l ↔ lo b l < l.length ∧ l.getD (lo b l) 0 = b := by
  constructor
  · intro h
    obtain ⟨i, hi, e⟩ := List.mem_iff_getElem.1 h
    have e0 : l.getD i 0 = b := by rw [getD_lt hi]; exact e
    have h1 : ¬ i < lo b l := fun k => by have := (lo_lt (b := b) hp i hi).2 k; omega
    have hlt : lo b l < l.length := by omega
    refine ⟨hlt, ?_⟩
    have h2 : ¬ l.getD (lo b l) 0 < b := fun k => by have := (lo_lt (b := b) hp _ hlt).1 k; omega
    by_cases c : lo b l = i
    · rw [c, e0]
    · have := List.pairwise_iff_getElem.1 hp (lo b l) i hlt hi (by omega)
      rw [← getD_lt (d := 0) hlt, ← getD_lt (d := 0) hi] at this
      omega
  · rintro ⟨h1, h2⟩
    rw [← h2]; exact getD_mem h1
theorem less_ev (a b : Int) : E0 (fun K => cmp_Less_int_ K a b) (decide (a < b)) := by
  refine bnd (now _) (neg ?_ (now _))
  simp
theorem u64N {a : Int} (h : 0 ≤ a) (h2 : a < 9223372036854775808) : wr .u64 a = a := by
  show IntKind.wrap .u64 _ = _
  unfold IntKind.wrap
  simp only [IntKind.bits, IntKind.signed]
  simp
  omega
theorem half_eq {i j : Nat} (h : i + j < 4611686018427387904) : wr .i64 ((wr .u64 (wr .i64 ((i : Int) + (j : Int)))).fdiv (2 ^ min ((1 : Int)).toNat 64)) = (((i + j) / 2 : Nat) : Int) := by
  have e1 : wr .i64 ((i : Int) + (j : Int)) = ((i + j : Nat) : Int) := by rw [w64 (by omega) (by omega)]; omega
  have e2 : wr .u64 ((i + j : Nat) : Int) = ((i + j : Nat) : Int) := u64N (by omega) (by omega)
  have e3 : (2 : Int) ^ min ((1 : Int)).toNat 64 = 2 := by decide
  rw [e1, e2, e3]
  have e4 : (((i + j : Nat) : Int)).fdiv 2 = (((i + j) / 2 : Nat) : Int) := by
    rw [Int.fdiv_eq_ediv_of_nonneg _ (by omega)]; omega
  rw [e4, w64 (by omega) (by omega)]
theorem bs_l1 {b : Int} {l : List Int} (hp : l.Pairwise (· < ·)) (hl : l.length ≤ 1000000) : ∀ (d i j : Nat), j - i ≤ d → i ≤ lo b l → lo b l ≤ j → j ≤ l.length →
    E1 (fun K k => slices_BinarySearch___int_int_.l1 K l b k ((l.length : Nat) : Int) (i : Int) (j : Int)) ((lo b l : Int), decide (b ∈ l)) := by
  intro d
  induction d with
  | zero =>
    intro i j hd h1 h2 h3
    obtain rfl : i = lo b l := by omega
    refine step1 (fun _ _ _ _ _ => slices_BinarySearch___int_int_.l1.eq_2 ..) ?_
    refine negD (by omega) ?_
    by_cases c : lo b l < l.length
    · refine posD (by omega) (pos (by omega) ?_)
      rw [rdN]
      by_cases e : l.getD (lo b l) 0 = b
      · refine posE e (nowE ?_)
        rw [decide_eq_true ((lo_mem hp).2 ⟨c, e⟩)]
      · refine negE e (pos (by omega) (bnd (now _) (neg (by simp) (nowE ?_))))
        rw [decide_eq_false fun z => e ((lo_mem hp).1 z).2]
    · refine negD (by omega) (nowE ?_)
      rw [decide_eq_false fun z => c ((lo_mem hp).1 z).1]
  | succ d ih =>
    intro i j hd h1 h2 h3
    by_cases c : i < j
    · refine step1 (fun _ _ _ _ _ => slices_BinarySearch___int_int_.l1.eq_2 ..) ?_
      rw [half_eq (by omega)]
      have hm : (i + j) / 2 < l.length := by omega
      refine posD (by omega) (pos (by decide) (pos (by omega) (bnd (less_ev _ _) ?_)))
      rw [rdN]
      by_cases e : l.getD ((i + j) / 2) 0 < b
      · refine posD e ?_
        rw [w1 (by omega)]
        have := (lo_lt hp _ hm).1 e
        exact ih _ j (by omega) (by omega) h2 h3
      · refine negD e ?_
        have : ¬ (i + j) / 2 < lo b l := fun k => e ((lo_lt hp _ hm).2 k)
        exact ih i _ (by omega) h1 (by omega) (by omega)
    · exact ih i j (by omega) h1 h2 h3
theorem bs_ev {b : Int} {l : List Int} (hp : l.Pairwise (· < ·)) (hl : l.length ≤ 1000000) : E0 (fun K => slices_BinarySearch___int_int_ K l b) ((lo b l : Int), decide (b ∈ l)) :=
  (bs_l1 hp hl l.length 0 l.length (by omega) (by omega) (lo_le b l) (by omega)).e1
theorem inx_ev {b : Int} {l : List Int} (hp : l.Pairwise (· < ·)) (hl : l.length ≤ 1000000) (hb : b ∈ l) : E0 (fun K => herbariumref0_In K l b) (lo b l : Int) := by
  obtain ⟨c1, c2⟩ := (lo_mem hp).1 hb
  have key : ∀ i, i ≤ lo b l → E1 (fun K k => herbariumref0_In.l1 K l b k (i : Int)) (lo b l : Int) := by
    refine upto ?_ ?_
    · refine step1 (fun _ _ _ _ _ => herbariumref0_In.l1.eq_2 ..) ?_
      refine posD (by omega) (pos (by omega) (posE (by rw [rdN]; exact c2) (now _)))
    · intro i hi ih
      refine step1 (fun _ _ _ _ _ => herbariumref0_In.l1.eq_2 ..) ?_
      have := (lo_lt (b := b) hp i (by omega)).2 hi
      refine posD (by omega) (pos (by omega) (negE (by rw [rdN]; omega) ?_))
      rw [w1 (by omega)]; exact ih
  exact (key 0 (by omega)).e1
theorem row_pw {g : api_Graph} (h : GraphP g) (i : Nat) : (g.Out.getD i []).Pairwise (· < ·) := by
  by_cases c : i < g.Out.length
  · exact ((mayP_iff _).1 (h.2.2.2.1 i c).1).1
  · rw [List.getD_eq_getElem?_getD, List.getElem?_eq_none (by omega)]; exact List.Pairwise.nil
theorem row_mem {g : api_Graph} (h : GraphP g) {i : Nat} {b : Int} (hb : b ∈ g.Out.getD i []) : 0 ≤ b ∧ b < g.N := by
  have c : i < g.Out.length := by
    apply Classical.byContradiction
    intro c
    rw [List.getD_eq_getElem?_getD, List.getElem?_eq_none (by omega)] at hb
    cases hb
  obtain ⟨r1, r2⟩ := h.2.2.2.1 i c
  obtain ⟨p1, p2⟩ := (mayP_iff _).1 r1
  refine ⟨(p2 b hb).1, ?_⟩
  obtain ⟨k, hk, e⟩ := List.mem_iff_getElem.1 hb
  have hlast := r2 (by omega)
  by_cases c2 : k = (g.Out.getD i []).length - 1
  · rw [← c2, getD_lt hk, e] at hlast; exact hlast
  · have := List.pairwise_iff_getElem.1 p1 k ((g.Out.getD i []).length - 1) hk (by omega) (by omega)
    rw [← getD_lt (d := 0) (show (g.Out.getD i []).length - 1 < _ by omega), e] at this
    omega
end Go.XL
end
section
namespace Go.XL
open Go.XM
abbrev Z0 : api_Graph := (0, [])
def gr (g : api_Graph) (a : Int) : List Int := g.Out.getD a.toNat []
theorem rdR (g : api_Graph) (a : Int) : nth g.Out a = gr g a := rfl
theorem gr_pw {g : api_Graph} (h : GraphP g) (a : Int) : (gr g a).Pairwise (· < ·) := row_pw h a.toNat
def ins (b : Int) (l : List Int) : List Int := l.take (lo b l) ++ b :: l.drop (lo b l)
def rem (b : Int) (l : List Int) : List Int := l.take (lo b l) ++ l.drop (lo b l + 1)
def InV (g : api_Graph) (a : Int) : Prop := 0 ≤ a ∧ a < g.N
instance (g : api_Graph) (a : Int) : Decidable (InV g a) := by unfold InV; infer_instance
def addP (g : api_Graph) (a b : Int) : api_Graph × Int :=
  if ¬ InV g a then (Z0, 3) else if ¬ InV g b then (Z0, 3) else if HasE g a b then (Z0, 4) else if 120 ≤ lsum g.Out then (Z0, 2) else ((g.N, g.Out.set a.toNat (ins b (gr g a))), 0)
def cutP (g : api_Graph) (a b : Int) : api_Graph × Int := if ¬ HasE g a b then (Z0, 3) else ((g.N, g.Out.set a.toNat (rem b (gr g a))), 0)
def growP (g : api_Graph) (n : Int) : api_Graph × Int := if n > 16 - g.N then (Z0, 2) else ((g.N + n, g.Out ++ List.replicate n.toNat []), 0)
theorem isV_ev (g : api_Graph) (a : Int) : E0 (fun K => graph_Is K g a) (decide (InV g a)) := ofEq (gIs_ev g a) (decide_eq_decide.2 Iff.rfl)
theorem asked_ev {g : api_Graph} (hs : GSm g) (a b : Int) : E0 (fun K => graph_asked K g a b) (if GraphP g then (if InV g a ∧ InV g b then 0 else 3) else 1) := by
  refine bnd (gmayG_ev g hs) ?_
  by_cases c : GraphP g
  · rw [if_pos c]
    refine negM c (bnd (isV_ev g a) ?_)
    by_cases c1 : InV g a
    · refine negM c1 (bnd (isV_ev g b) ?_)
      by_cases c2 : InV g b
      · exact ofEq (negM c2 (now _)) (if_pos ⟨c1, c2⟩).symm
      · exact ofEq (posM c2 (now _)) (if_neg (fun z => c2 z.2)).symm
    · exact ofEq (posM c1 (now _)) (if_neg (fun z => c1 z.1)).symm
  · rw [if_neg c]; exact posM c (now _)
theorem own_ev {g : api_Graph} (hs : GSm g) : E0 (fun K => graph_Own K g) g := by
  unfold GSm at hs
  refine pos ⟨?_, fun l hl => ?_⟩ (now _)
  · show g.Out.length * 24 ≤ _; omega
  · have := lsum_mem (show l ∈ g.Out from hl); omega
theorem gr_len {g : api_Graph} (h : GraphP g) (a : Int) : (gr g a).length ≤ 16 := by
  by_cases c : a.toNat < g.Out.length
  · exact (h.gp.may _ (getD_mem c)).len
  · show (g.Out.getD a.toNat []).length ≤ 16
    rw [List.getD_eq_getElem?_getD, List.getElem?_eq_none (by omega)]; simp
theorem hasE_iff {g : api_Graph} {a b : Int} (h : InV g a) : HasE g a b ↔ b ∈ gr g a := ⟨fun k => k.2.2, fun k => ⟨h.1, h.2, k⟩⟩
theorem gadd_ev {g : api_Graph} (hs : GSm g) (a b : Int) : E0 (fun K => graph_Add K g a b) (if GraphP g then addP g a b else (Z0, 1)) := by
  refine bnd (asked_ev hs a b) ?_
  by_cases c : GraphP g
  · rw [if_pos c, if_pos c]
    unfold addP
    by_cases c1 : InV g a
    · rw [if_neg (not_not_intro c1)]
      by_cases c2 : InV g b
      · rw [if_neg (not_not_intro c2), if_pos ⟨c1, c2⟩]
        have hn := c.2.2.1
        have hp := gr_pw c a
        have hl := gr_len c a
        obtain ⟨a1, a2⟩ := c1
        refine negN rfl (pos ⟨a1, by omega⟩ ?_)
        rw [rdR]
        refine bnd (bs_ev hp (by omega)) ?_
        by_cases c3 : b ∈ gr g a
        · rw [if_pos ((hasE_iff ⟨a1, a2⟩).2 c3)]
          exact pos (by simpa using c3) (now _)
        · rw [if_neg fun z => c3 ((hasE_iff ⟨a1, a2⟩).1 z)]
          refine neg (by simpa using c3) (bnd (many_ev g hs) ?_)
          by_cases c4 : 120 ≤ lsum g.Out
          · rw [if_pos c4]; exact posD (by omega) (now _)
          · rw [if_neg c4]
            refine negD (by omega) (bnd (own_ev hs) (pos ⟨a1, by omega⟩ ?_))
            rw [rdR]
            have hlo := lo_le b (gr g a)
            have e : ∀ K, slices_Insert___int_int_ K (gr g a) ((lo b (gr g a) : Nat) : Int) [b] = some (ins b (gr g a)) := fun K => by
              unfold slices_Insert___int_int_ insF
              rw [if_pos ⟨⟨by omega, by omega⟩, by omega⟩]
              rfl
            exact bnd (congr (fun K _ _ _ _ => e K) (now _)) (pos ⟨a1, by omega⟩ (pos rfl (now _)))
      · rw [if_pos c2, if_neg (fun z => c2 z.2)]; exact posN (by decide) (now _)
    · rw [if_pos c1, if_neg (fun z => c1 z.1)]; exact posN (by decide) (now _)
  · rw [if_neg c, if_neg c]; exact posN (by decide) (now _)
theorem gcut_ev {g : api_Graph} (hs : GSm g) (a b : Int) : E0 (fun K => graph_Cut K g a b) (if GraphP g then cutP g a b else (Z0, 1)) := by
  refine bnd (asked_ev hs a b) ?_
  by_cases c : GraphP g
  · rw [if_pos c, if_pos c]
    unfold cutP
    by_cases c1 : InV g a
    · by_cases c2 : InV g b
      · rw [if_pos ⟨c1, c2⟩]
        have hn := c.2.2.1
        have hp := gr_pw c a
        have hl := gr_len c a
        obtain ⟨a1, a2⟩ := c1
        refine negN rfl (pos ⟨a1, by omega⟩ ?_)
        rw [rdR]
        refine bnd (bs_ev hp (by omega)) ?_
        by_cases c3 : b ∈ gr g a
        · rw [if_neg (not_not_intro ((hasE_iff ⟨a1, a2⟩).2 c3))]
          refine neg (by simpa using c3) (bnd (own_ev hs) (pos ⟨a1, by omega⟩ ?_))
          rw [rdR]
          obtain ⟨k1, k2⟩ := (lo_mem hp).1 c3
          have k1 : lo b (gr g a) < (gr g a).length := k1
          have e : ∀ K, slices_Delete___int_int_ K (gr g a) ((lo b (gr g a) : Nat) : Int) (wr .i64 (((lo b (gr g a) : Nat) : Int) + 1)) = some (rem b (gr g a)) := fun K => by
            unfold slices_Delete___int_int_ delF
            rw [w1 (by omega), if_pos ⟨⟨by omega, by omega, by omega⟩, by omega, by omega⟩]
            rfl
          exact bnd (congr (fun K _ _ _ _ => e K) (now _)) (pos ⟨a1, by omega⟩ (pos rfl (now _)))
        · rw [if_pos fun z => c3 ((hasE_iff ⟨a1, a2⟩).1 z)]
          exact pos (by simpa using c3) (now _)
      · rw [if_pos fun z => c2 (row_mem c z.2.2), if_neg (fun z => c2 z.2)]; exact posN (by decide) (now _)
    · rw [if_pos fun z => c1 ⟨z.1, z.2.1⟩, if_neg (fun z => c1 z.1)]; exact posN (by decide) (now _)
  · rw [if_neg c, if_neg c]; exact posN (by decide) (now _)
theorem ggrow_ev {g : api_Graph} (hs : GSm g) (n : Int) : E0 (fun K => graph_Grow K g n) (if GraphP g ∧ 0 ≤ n then growP g n else (Z0, 1)) := by
  refine bnd (gmayG_ev g hs) ?_
  by_cases c : GraphP g
  · refine negM c ?_
    have h1 := c.1
    have h2 := c.2.1
    have h3 := c.2.2.1
    by_cases c1 : n < 0
    · rw [if_neg fun z => by omega]
      exact pos (by simpa using c1) (now _)
    · rw [if_pos ⟨c, by omega⟩]
      refine neg (by simpa using c1) ?_
      unfold growP
      rw [w64 (by omega) (by omega)]
      by_cases c2 : n > 16 - g.N
      · rw [if_pos c2]; exact posD c2 (now _)
      · rw [if_neg c2]
        refine negD c2 (bnd (own_ev hs) (pos ⟨⟨by omega, by omega, by omega⟩, by rw [List.length_replicate]; omega⟩ ?_))
        rw [w64 (by omega) (by omega)]
        exact now _
  · rw [if_neg fun z => c z.1]
    exact posM c (pos rfl (now _))
theorem ghas_ev {g : api_Graph} (hs : GSm g) (a b : Int) : E0 (fun K => graph_Has K g a b) (if GraphP g then (decide (HasE g a b), 0) else (false, 1)) := by
  refine bnd (gmayG_ev g hs) ?_
  by_cases c : GraphP g
  · rw [if_pos c]; exact negM c (bnd (holds_ev c (a, b)) (now _))
  · rw [if_neg c]; exact posM c (now _)
theorem radd_l1 {g : api_Graph} (h : GraphP g) {a b : Int} (ha : InV g a) : ∀ i, i ≤ lo b (gr g a) → E1 (fun K k => herbariumref6_Add.l1 K g a b k (i : Int) 0) ((g.N, g.Out.set a.toNat (ins b (gr g a))), 0) := by
  have hn := h.2.2.1
  have hp := gr_pw h a
  have hl := gr_len h a
  have hlo := lo_le b (gr g a)
  have a1 := ha.1
  have a2 := ha.2
  have hg : (0 : Int) ≤ a ∧ a < ((g.Out.length : Nat) : Int) := ⟨a1, by omega⟩
  have fin : Ev (fun K _ _ _ _ => if (0 : Int) ≤ (0 : Int) ∧ (0 : Int) ≤ ((lo b (gr g a) : Nat) : Int) ∧ ((lo b (gr g a) : Nat) : Int) ≤ (((gr g a).length : Nat) : Int) then
        (herbariumref0_CopyNumbers K (((gr g a).drop (0 : Int).toNat).take ((((lo b (gr g a) : Nat) : Int)).toNat - (0 : Int).toNat))).bind fun r67 =>
        if (r67.length + ([b] : List Int).length) * 8 ≤ 140737488355328 then
        if (0 : Int) ≤ a ∧ a < ((g.Out.length : Nat) : Int) then
        if (0 : Int) ≤ ((lo b (gr g a) : Nat) : Int) ∧ ((lo b (gr g a) : Nat) : Int) ≤ (((gr g a).length : Nat) : Int) ∧ (((gr g a).length : Nat) : Int) ≤ (((gr g a).length : Nat) : Int) then
        if ((r67 ++ ([b] : List Int)).length + (((gr g a).drop (((lo b (gr g a) : Nat) : Int)).toNat).take ((((gr g a).length : Nat) : Int).toNat - (((lo b (gr g a) : Nat) : Int)).toNat)).length) * 8 ≤ 140737488355328 then
        if (0 : Int) ≤ a ∧ a < ((g.Out.length : Nat) : Int) then
        some (((g.N, (g.Out).set a.toNat ((r67 ++ ([b] : List Int)) ++ (((gr g a).drop (((lo b (gr g a) : Nat) : Int)).toNat).take ((((gr g a).length : Nat) : Int).toNat - (((lo b (gr g a) : Nat) : Int)).toNat)))) : api_Graph), (0 : Int))
        else none
        else none
        else none
        else none
        else none
        else none) ((g.N, g.Out.set a.toNat (ins b (gr g a))), 0) := by
    refine pos (by omega) (bnd (copy_ev _ (by simp; omega)) (pos (by simp; omega) (pos hg (pos (by omega) (pos (by simp; omega) (pos hg (nowE ?_)))))))
    have e : (((gr g a).drop (0 : Int).toNat).take ((((lo b (gr g a) : Nat) : Int)).toNat - (0 : Int).toNat) ++ [b]) ++ (((gr g a).drop (((lo b (gr g a) : Nat) : Int)).toNat).take ((((gr g a).length : Nat) : Int).toNat - (((lo b (gr g a) : Nat) : Int)).toNat)) = ins b (gr g a) := by
      have t : ((gr g a).drop (lo b (gr g a))).take ((gr g a).length - lo b (gr g a)) = (gr g a).drop (lo b (gr g a)) := List.take_of_length_le (by simp)
      simp only [Int.toNat_natCast, show (0 : Int).toNat = 0 from rfl, List.drop_zero, Nat.sub_zero, List.append_assoc, t]
      rfl
    rw [e]
  refine upto ?_ ?_
  · refine step1 (fun _ _ _ _ _ => herbariumref6_Add.l1.eq_2 ..) ?_
    rw [rdR]
    refine pos hg ?_
    by_cases c : lo b (gr g a) < (gr g a).length
    · refine posD (by show ((lo b (gr g a) : Nat) : Int) < (((gr g a).length : Nat) : Int); omega) (pos hg (pos (by show _ ∧ ((lo b (gr g a) : Nat) : Int) < (((gr g a).length : Nat) : Int); omega) (negD ?_ (pos hg fin))))
      rw [rdN]
      exact fun k => by have := (lo_lt hp _ c).1 k; omega
    · exact negD (by show ¬ ((lo b (gr g a) : Nat) : Int) < (((gr g a).length : Nat) : Int); omega) (pos hg fin)
  · intro i hi ih
    refine step1 (fun _ _ _ _ _ => herbariumref6_Add.l1.eq_2 ..) ?_
    rw [rdR]
    refine pos hg (posD (by show (i : Int) < (((gr g a).length : Nat) : Int); omega) (pos hg (pos (by show _ ∧ (i : Int) < (((gr g a).length : Nat) : Int); omega) (posD ?_ ?_))))
    · rw [rdN]; exact (lo_lt hp i (by show i < (gr g a).length; omega)).2 hi
    · rw [w1 (by omega)]; exact ih
theorem radd_ev {g : api_Graph} (h : GraphP g) (a b : Int) : E0 (fun K => herbariumref6_Add K g a b) (addP g a b) := by
  have h0 := h.1
  have h1 := h.2.1
  have num : ∀ a : Int, E0 (fun K => herbariumref0_Num K a (wr .i64 (g.N - 1))) (decide (InV g a)) := fun a => by
    rw [w64 (by omega) (by omega)]
    exact congr (fun K _ _ _ _ => num_eq K a _) (nowE (decide_eq_decide.2 ⟨fun k => ⟨k.1, by omega⟩, fun k => ⟨k.1, by have := k.2; omega⟩⟩))
  unfold addP
  refine bnd (num a) ?_
  by_cases c1 : InV g a
  · rw [if_neg (not_not_intro c1)]
    refine negM c1 (bnd (num b) ?_)
    by_cases c2 : InV g b
    · rw [if_neg (not_not_intro c2)]
      refine negM c2 (bnd (rhas_ev h a b) ?_)
      by_cases c3 : HasE g a b
      · rw [if_pos c3]; exact pos (by simpa using c3) (now _)
      · rw [if_neg c3]
        refine neg (by simpa using c3) (bnd (redges_ev h.sm) ?_)
        by_cases c4 : 120 ≤ lsum g.Out
        · rw [if_pos c4]; exact posD (by omega) (now _)
        · rw [if_neg c4]
          refine negD (by omega) (bnd (copyG_ev g h.sm) ?_)
          exact (radd_l1 h c1 0 (Nat.zero_le _)).e1
    · rw [if_pos c2]; exact posM c2 (now _)
  · rw [if_pos c1]; exact posM c1 (now _)
theorem rcut_ev {g : api_Graph} (h : GraphP g) (a b : Int) : E0 (fun K => herbariumref6_Cut K g a b) (cutP g a b) := by
  have hn := h.2.2.1
  have hp := gr_pw h a
  have hl := gr_len h a
  unfold cutP
  refine bnd (rhas_ev h a b) ?_
  by_cases c : HasE g a b
  · rw [if_neg (not_not_intro c)]
    obtain ⟨a1, a2, hb⟩ := c
    have hb : b ∈ gr g a := hb
    obtain ⟨k1, k2⟩ := (lo_mem hp).1 hb
    have k1 : lo b (gr g a) < (gr g a).length := k1
    have hg : (0 : Int) ≤ a ∧ a < ((g.Out.length : Nat) : Int) := ⟨a1, by omega⟩
    refine neg (by simpa using (show HasE g a b from ⟨a1, a2, hb⟩)) (bnd (copyG_ev g h.sm) (pos hg ?_))
    rw [rdR]
    refine bnd (inx_ev hp (by show (gr g a).length ≤ _; omega) hb) ?_
    rw [w1 (by show lo b (gr g a) < _; omega)]
    refine pos hg (pos (by show _ ∧ _ ∧ ((lo b (gr g a) : Nat) : Int) ≤ (((gr g a).length : Nat) : Int); omega) (bnd (copy_ev _ (by show (((gr g a).drop _).take _).length ≤ _; simp; omega)) (pos hg (pos (by show _ ∧ ((lo b (gr g a) + 1 : Nat) : Int) ≤ (((gr g a).length : Nat) : Int) ∧ (((gr g a).length : Nat) : Int) ≤ (((gr g a).length : Nat) : Int); omega) (pos (by show ((((gr g a).drop _).take _).length + (((gr g a).drop _).take _).length) * 8 ≤ _; simp; omega) (pos hg (nowE ?_)))))))
    have e : (((gr g a).drop (0 : Int).toNat).take ((((lo b (gr g a) : Nat) : Int)).toNat - (0 : Int).toNat)) ++ (((gr g a).drop (((lo b (gr g a) + 1 : Nat) : Int)).toNat).take ((((gr g a).length : Nat) : Int).toNat - (((lo b (gr g a) + 1 : Nat) : Int)).toNat)) = rem b (gr g a) := by
      have t : ((gr g a).drop (lo b (gr g a) + 1)).take ((gr g a).length - (lo b (gr g a) + 1)) = (gr g a).drop (lo b (gr g a) + 1) := List.take_of_length_le (by simp)
      simp only [Int.toNat_natCast, show (0 : Int).toNat = 0 from rfl, List.drop_zero, Nat.sub_zero, t]
      rfl
    show ((g.N, g.Out.set a.toNat _), (0 : Int)) = _
    rw [e]
  · rw [if_pos c]; exact pos (by simpa using c) (now _)
theorem rgrow_ev {g : api_Graph} (h : GraphP g) {n : Int} (hn0 : 0 ≤ n) : E0 (fun K => herbariumref6_Grow K g n) (growP g n) := by
  have h1 := h.1
  have h2 := h.2.1
  have h3 := h.2.2.1
  unfold growP
  unfold herbariumref6_Grow
  rw [w64 (by omega) (by omega)]
  by_cases c : n > 16 - g.N
  · rw [if_pos c]; exact posD c (now _)
  · rw [if_neg c]
    refine negD c (bnd (copyG_ev g h.sm) ?_)
    rw [w64 (by omega) (by omega)]
    have key : ∀ i, i ≤ n.toNat → E1 (fun K k => herbariumref6_Grow.l1 K n k (i : Int) (g.N + n) (g.Out ++ List.replicate i []) 0) ((g.N + n, g.Out ++ List.replicate n.toNat []), 0) := by
      refine upto ?_ ?_
      · refine step1 (fun _ _ _ _ _ => herbariumref6_Grow.l1.eq_2 ..) ?_
        exact negD (by omega) (now _)
      · intro i hi ih
        refine step1 (fun _ _ _ _ _ => herbariumref6_Grow.l1.eq_2 ..) ?_
        refine posD (by omega) (pos (by simp; omega) ?_)
        rw [w1 (by omega), List.append_assoc, ← List.replicate_succ']
        exact ih
    have := (key 0 (by omega)).e1
    simpa using this
theorem lsum_set : ∀ (xs : List (List Int)) (i : Nat) (y : List Int), i < xs.length → lsum (xs.set i y) + (xs.getD i []).length = lsum xs + y.length
  | x :: xs, 0, y, _ => by rw [List.set_cons_zero, lsum_cons, lsum_cons, List.getD_cons_zero]; omega
  | x :: xs, i + 1, y, h => by
    have := lsum_set xs i y (by simpa using h)
    rw [List.set_cons_succ, lsum_cons, lsum_cons, List.getD_cons_succ]; omega
theorem add_wt {g : api_Graph} (h : GraphP g) (a b : Int) : wt (addP g a b).1 ≤ wt g + 16 := by
  unfold addP
  split
  · exact Nat.zero_le _
  · split
    · exact Nat.zero_le _
    · split
      · exact Nat.zero_le _
      · split
        · exact Nat.zero_le _
        · rename_i c1 _ _ _
          have c1 : InV g a := Classical.byContradiction c1
          have hn := h.2.2.1
          have := lsum_set g.Out a.toNat (ins b (gr g a)) (by have := c1.1; have := c1.2; omega)
          have hi : (ins b (gr g a)).length = (gr g a).length + 1 := by have := lo_le b (gr g a); simp [ins]; omega
          unfold wt
          show (g.Out.set _ _).length + lsum (g.Out.set _ _) ≤ _
          rw [List.length_set]
          have e : (g.Out.getD a.toNat []).length = (gr g a).length := rfl
          omega
theorem cut_wt {g : api_Graph} (h : GraphP g) (a b : Int) : wt (cutP g a b).1 ≤ wt g + 16 := by
  unfold cutP
  split
  · exact Nat.zero_le _
  · rename_i c
    have c : HasE g a b := Classical.byContradiction c
    have hn := h.2.2.1
    have := lsum_set g.Out a.toNat (rem b (gr g a)) (by have := c.1; have := c.2.1; omega)
    have hi : (rem b (gr g a)).length ≤ (gr g a).length := by simp [rem]; omega
    unfold wt
    show (g.Out.set _ _).length + lsum (g.Out.set _ _) ≤ _
    rw [List.length_set]
    have e : (g.Out.getD a.toNat []).length = (gr g a).length := rfl
    omega
theorem grow_wt {g : api_Graph} (h : GraphP g) {n : Int} (hn : 0 ≤ n) : wt (growP g n).1 ≤ wt g + 16 := by
  unfold growP
  split
  · exact Nat.zero_le _
  · have h1 := h.1
    unfold wt
    show (g.Out ++ _).length + lsum (g.Out ++ _) ≤ _
    have e : ∀ k, lsum (List.replicate k []) = 0 := fun k => by induction k with | zero => rfl | succ k ih => rw [List.replicate_succ, lsum_cons, ih]; rfl
    rw [lsum_append, e, List.length_append, List.length_replicate]
    omega
end Go.XL
end
section
namespace Go.XL
open Go.XM
set_option maxRecDepth 100000
theorem wakes6j (j : Nat) : herbariumlaw6_wakes (j + 40) = some true := by kernel_rfl
theorem wakes6_ev : E0 (fun K => herbariumlaw6_wakes K) true :=
  ⟨40, fun K _ _ _ _ h _ _ _ _ => by
    obtain ⟨j, rfl⟩ : ∃ j, K = j + 40 := ⟨K - 40, by omega⟩
    exact wakes6j j⟩
theorem gcheck_ev {g : api_Graph} (hs : GSm g) : E0 (fun K => graph_Check K g) (if GraphP g then 0 else 1) := by
  refine bnd (gmayG_ev g hs) ?_
  by_cases c : GraphP g
  · rw [if_pos c]; exact negM c (now _)
  · rw [if_neg c]; exact posM c (now _)
theorem wt_sm {g : api_Graph} (h : wt g ≤ 1000000) : GSm g := h
theorem step_j1 {g w : api_Graph} (hg : GSm g) (hw : GSm w) (e t : Int) : E0 (fun K => herbariumlaw6_step.j1 K g (decide (GraphP g)) g e e t w.N w.Out w.N w.Out) (if e = 0 then w else g, true) := by
  refine bnd (now _) (negN rfl (bnd (eqG_ev w hw) (negB rfl (bnd (eqG_ev g hg) (negB rfl (bnd (gcheck_ev hg) (bnd (now _) (negB ?_ ?_))))))))
  · by_cases c : GraphP g
    · rw [if_pos c, decide_eq_true c]; rfl
    · rw [if_neg c, decide_eq_false c]; rfl
  · refine bnd (lawG_ev w hw) (bnd (eqG_ev g hg) (negB rfl ?_))
    by_cases c : e = 0
    · rw [if_pos c]
      exact negN c (bnd (copyG_ev w hw) (now _))
    · rw [if_neg c]; exact posN c (now _)
theorem step_ev {g : api_Graph} (h : wt g ≤ 900000) (a : herbariumlaw6_Act) : ∃ g', E0 (fun K => herbariumlaw6_step K g a) (g', true) ∧ wt g' ≤ wt g + 16 := by
  have hg : GSm g := wt_sm (by omega)
  have z : GSm Z0 := by decide
  have fin : ∀ {w : api_Graph} {e t : Int}, wt w ≤ wt g + 16 → ∃ g', E0 (fun K => herbariumlaw6_step.j1 K g (decide (GraphP g)) g e e t w.N w.Out w.N w.Out) (g', true) ∧ wt g' ≤ wt g + 16 := by
    intro w e t hw
    refine ⟨_, step_j1 hg (wt_sm (by omega)) e t, ?_⟩
    by_cases c : e = 0
    · rw [if_pos c]; exact hw
    · rw [if_neg c]; omega
  have no : ∀ {t : Int}, ∃ g', E0 (fun K => herbariumlaw6_step.j1 K g (decide (GraphP g)) g 1 1 t (0 : Int) [] (0 : Int) []) (g', true) ∧ wt g' ≤ wt g + 16 := fun {t} => fin (w := Z0) (e := 1) (t := t) (Nat.zero_le _)
  obtain ⟨r, hr⟩ : ∃ r : Int, ∀ K, herbariumlaw0_Within K a.Do 7 = some r := by
    refine ⟨wr .i64 ((wr .u64 a.Do).tmod (wr .u64 7)), fun K => ?_⟩
    unfold herbariumlaw0_Within
    rw [if_pos (by rw [u64N (by omega) (by omega)]; omega)]
  have head : ∀ {v}, E0 (fun K => (if (r == 4) then
    (graph_Cut K g a.A a.B).bind fun r49 =>
    if (decide (GraphP g)) then
      (herbariumref6_Cut K g a.A a.B).bind fun r59 =>
      herbariumlaw6_step.j1 K g (decide (GraphP g)) g r59.2 r49.2 (0 : Int) r49.1.N r49.1.Out r59.1.N r59.1.Out
    else
      herbariumlaw6_step.j1 K g (decide (GraphP g)) g (1 : Int) r49.2 (0 : Int) r49.1.N r49.1.Out (0 : Int) ([] : List (List Int))
  else
    if (r == 5) then
      (graph_Grow K g a.A).bind fun r68 =>
      if (decide (GraphP g)) then
        herbariumlaw6_step.j2 K g (decide (GraphP g)) r68 g a (1 : Int) (decide (a.A ≥ 0)) (0 : Int) (0 : Int)
      else
        herbariumlaw6_step.j2 K g (decide (GraphP g)) r68 g a (1 : Int) false (0 : Int) (0 : Int)
    else
      if (r == 6) then
        (graph_Has K g a.A a.B).bind fun r92 =>
        if (decide (GraphP g)) then
          (herbariumref6_Has K g a.A a.B).bind fun r101 =>
          herbariumlaw6_step.j3 K g r92 g (0 : Int) r101 (0 : Int)
        else
          herbariumlaw6_step.j3 K g r92 g (1 : Int) false (0 : Int)
      else
        (graph_Add K g a.A a.B).bind fun r28 =>
        if (decide (GraphP g)) then
          (herbariumref6_Add K g a.A a.B).bind fun r38 =>
          herbariumlaw6_step.j1 K g (decide (GraphP g)) g r38.2 r28.2 (0 : Int) r28.1.N r28.1.Out r38.1.N r38.1.Out
        else
          herbariumlaw6_step.j1 K g (decide (GraphP g)) g (1 : Int) r28.2 (0 : Int) r28.1.N r28.1.Out (0 : Int) ([] : List (List Int)))) v → E0 (fun K => herbariumlaw6_step K g a) v := by
    intro v hv
    exact bnd (copyG_ev g hg) (bnd (rgraph_ev g hg) (bnd (congr (fun K _ _ _ _ => hr K) (now r)) hv))
  have wrap : ∀ {f : Nat → Option (api_Graph × Bool)}, (∃ g', E0 f (g', true) ∧ wt g' ≤ wt g + 16) → (∀ g', E0 f (g', true) → E0 (fun K => herbariumlaw6_step K g a) (g', true)) → ∃ g', E0 (fun K => herbariumlaw6_step K g a) (g', true) ∧ wt g' ≤ wt g + 16 :=
    fun ⟨g', h1, h2⟩ k => ⟨g', k g' h1, h2⟩
  by_cases c4 : r = 4
  · have gc := gcut_ev hg a.A a.B
    by_cases c : GraphP g
    · rw [if_pos c] at gc
      refine wrap (fin (w := (cutP g a.A a.B).1) (e := (cutP g a.A a.B).2) (t := 0) (cut_wt c _ _)) fun g' hj => head (posE c4 (bnd gc (pos (by simpa using c) (bnd (rcut_ev c _ _) hj))))
    · rw [if_neg c] at gc
      refine wrap (no (t := 0)) fun g' hj => head (posE c4 (bnd gc (neg (by simpa using c) hj)))
  by_cases c5 : r = 5
  · have gc := ggrow_ev hg a.A
    by_cases c : GraphP g
    · by_cases d : 0 ≤ a.A
      · rw [if_pos ⟨c, d⟩] at gc
        refine wrap (fin (w := (growP g a.A).1) (e := (growP g a.A).2) (t := 0) (grow_wt c d)) fun g' hj => head (negE c4 (posE c5 (bnd gc (pos (by simpa using c) (pos (by simpa using d) (bnd (rgrow_ev c d) hj))))))
      · rw [if_neg fun z => d z.2] at gc
        refine wrap (no (t := 0)) fun g' hj => head (negE c4 (posE c5 (bnd gc (pos (by simpa using c) (neg (by simp; omega) hj)))))
    · rw [if_neg fun z => c z.1] at gc
      refine wrap (no (t := 0)) fun g' hj => head (negE c4 (posE c5 (bnd gc (neg (by simpa using c) (neg (by decide) hj)))))
  by_cases c6 : r = 6
  · have gc := ghas_ev hg a.A a.B
    refine ⟨g, ?_, by omega⟩
    by_cases c : GraphP g
    · rw [if_pos c] at gc
      exact head (negE c4 (negE c5 (posE c6 (bnd gc (pos (by simpa using c) (bnd (rhas_ev c _ _) (bnd (now _) (posE rfl (pos (by simp) (bnd (eqG_ev g hg) (now _)))))))))))
    · rw [if_neg c] at gc
      exact head (negE c4 (negE c5 (posE c6 (bnd gc (neg (by simpa using c) (bnd (now _) (posE rfl (pos (by simp) (bnd (eqG_ev g hg) (now _))))))))))
  · have gc := gadd_ev hg a.A a.B
    by_cases c : GraphP g
    · rw [if_pos c] at gc
      refine wrap (fin (w := (addP g a.A a.B).1) (e := (addP g a.A a.B).2) (t := 0) (add_wt c _ _)) fun g' hj => head (negE c4 (negE c5 (negE c6 (bnd gc (pos (by simpa using c) (bnd (radd_ev c _ _) hj))))))
    · rw [if_neg c] at gc
      refine wrap (no (t := 0)) fun g' hj => head (negE c4 (negE c5 (negE c6 (bnd gc (neg (by simpa using c) hj)))))
variable {x : herbariumlaw6_Script} {gs : List api_Graph}
theorem ge_l2 {go1 : Nat → Nat → Int → List api_Graph → Option Bool} {i : Nat} (hi : i < 4) (h1 : E1 (fun K a => go1 K a ((i + 1 : Nat) : Int) gs) true) : ∀ t : Nat, t ≤ 16 → ∀ g : api_Graph, wt g ≤ 1200 + 16 * t →
    E2 (fun K a b => herbariumlaw6_GraphExact.l2 K (go1 K a) gs (i : Int) x b (t : Int) g.N g.Out) true := by
  have out : E2 (fun K a _ => go1 K a (wr .i64 ((i : Int) + 1)) gs) true := by rw [w1 (by omega)]; exact h1
  refine upto ?_ ?_
  · intro g _
    refine step2 (fun _ _ _ _ _ => herbariumlaw6_GraphExact.l2.eq_2 ..) ?_
    by_cases c : 16 < x.A.length
    · exact posD (by omega) (negD (by omega) out)
    · exact negD (by omega) out
  · intro t ht ih g hg
    refine step2 (fun _ _ _ _ _ => herbariumlaw6_GraphExact.l2.eq_2 ..) ?_
    by_cases c : t < x.A.length
    · obtain ⟨g', h2, h3⟩ := step_ev (g := g) (by omega) (nth x.A (t : Int))
      refine posD (by omega) (posD (by omega) (pos (by omega) (bnd h2 (negB rfl ?_))))
      rw [w1 (by omega)]
      exact ih g' (by omega)
    · exact negD (by omega) out
theorem rep_sm {n : Nat} (h : n ≤ 16) (m : Int) : GSm ((m, List.replicate n []) : api_Graph) := by
  have e : ∀ k, lsum (List.replicate k []) = 0 := fun k => by induction k with | zero => rfl | succ k ih => rw [List.replicate_succ, lsum_cons, ih]; rfl
  show (List.replicate n []).length + lsum (List.replicate n []) ≤ 1000000
  rw [e, List.length_replicate]; omega
theorem ge_l3 : ∀ j : Nat, j ≤ 19 → E1 (fun K a => herbariumlaw6_GraphExact.l3 K a ((j : Int) - 1)) true := by
  refine upto ?_ ?_
  · refine step1 (fun _ _ _ _ _ => herbariumlaw6_GraphExact.l3.eq_2 ..) ?_
    exact negD (by omega) (bnd wakes6_ev (now _))
  · intro j hj ih
    refine step1 (fun _ _ _ _ _ => herbariumlaw6_GraphExact.l3.eq_2 ..) ?_
    have e1 : wr .i64 (((j : Int) - 1) + 1) = ((j + 1 : Nat) : Int) - 1 := by rw [w64 (by omega) (by omega)]; omega
    have fin : ∀ {w : api_Graph} {e : Int}, GSm w → Ev (fun K k _ _ _ => herbariumlaw6_GraphExact.j4 K (herbariumlaw6_GraphExact.l3 K k) (w, e) ((j : Int) - 1) e w.N w.Out) true := by
      intro w e hw
      refine bnd (now _) (negN rfl (bnd (eqG_ev w hw) (negB rfl ?_)))
      rw [e1]; exact ih
    refine posD (by omega) ?_
    have nm : E0 (fun K => herbariumref0_Num K ((j : Int) - 1) 16) (decide (0 ≤ (j : Int) - 1 ∧ (j : Int) - 1 ≤ 16)) := congr (fun K _ _ _ _ => num_eq K _ _) (now _)
    by_cases c : 1 ≤ j ∧ j ≤ 17
    · have e2 : E0 (fun K => graph_New K ((j : Int) - 1)) ((((j : Int) - 1, List.replicate ((j : Int) - 1).toNat []) : api_Graph), 0) :=
        negD (by omega) (negD (by omega) (bnd (pos (by omega) (now _)) (now _)))
      have e3 : E0 (fun K => herbariumref6_New K ((j : Int) - 1)) (((j : Int) - 1, List.replicate ((j : Int) - 1).toNat []) : api_Graph) := pos (by omega) (now _)
      refine bnd e2 (bnd nm (pos (by simp; omega) (bnd e3 ?_)))
      exact fin (rep_sm (by omega) _)
    · have e2 : E0 (fun K => graph_New K ((j : Int) - 1)) (Z0, 1) := by
        by_cases d : j = 0
        · exact posD (by omega) (now _)
        · exact negD (by omega) (posD (by omega) (now _))
      refine bnd e2 (bnd nm (neg (by simp; omega) ?_))
      exact fin (w := Z0) (by decide)
theorem ge_l1 (hG : ∀ g ∈ gs, wt g ≤ 1200) : ∀ i : Nat, i ≤ 4 → E1 (fun K a => herbariumlaw6_GraphExact.l1 K x a (i : Int) gs) true := by
  have last : ∀ {α : Type}, Ev (fun K _ _ _ _ => herbariumlaw6_GraphExact.l3 K K (-1 : Int)) true := (ge_l3 0 (by omega)).e1
  refine upto ?_ ?_
  · refine step1 (fun _ _ _ _ _ => herbariumlaw6_GraphExact.l1.eq_2 ..) ?_
    by_cases c : 4 < gs.length
    · exact posD (by omega) (negD (by omega) (last (α := Unit)))
    · exact negD (by omega) (last (α := Unit))
  · intro i hi ih
    refine step1 (fun _ _ _ _ _ => herbariumlaw6_GraphExact.l1.eq_2 ..) ?_
    by_cases c : i < gs.length
    · have hg := hG _ (getD_mem (d := default) c)
      refine posD (by omega) (posD (by omega) (pos (by omega) ?_))
      rw [nthN]
      refine bnd (copyG_ev _ (wt_sm (by omega))) ?_
      exact (ge_l2 (go1 := fun K a => herbariumlaw6_GraphExact.l1 K x a) hi ih 0 (by omega) _ (by omega)).e2
    · exact negD (by omega) (last (α := Unit))
theorem gexact_ev (x : herbariumlaw6_Script) (hl : x.G.length ≤ 17592186044416) (hx : ∀ g ∈ x.G, Gfit g) (ha : x.A.length ≤ 17592186044416) : E0 (fun K => herbariumlaw6_GraphExact K x) true := by
  obtain ⟨b, e, hb⟩ := heavy6_ev x hl hx ha
  refine bnd e ?_
  cases b with
  | true => exact pos rfl (now _)
  | false =>
    obtain ⟨a1, a2, a3⟩ := hb rfl
    refine negB rfl (pos (by simp; omega) ?_)
    exact (ge_l1 (fun g hg => by
      rcases List.mem_append.1 hg with hg | hg
      · obtain rfl := List.mem_singleton.1 hg; exact Nat.zero_le _
      · exact a3 g hg) 0 (by omega)).e1
theorem only_ev (ks : List Int) (hk : 0 < ks.length) (x : herbariumlaw6_Script) (hl : x.G.length ≤ 17592186044416) (hx : ∀ g ∈ x.G, Gfit g) (ha : x.A.length * 24 ≤ 140737488351232) : E0 (fun K => herbariumlaw6_only K x ks) true := by
  have key : ∀ i, i ≤ x.A.length → ∀ q : List herbariumlaw6_Act, q.length = i → E1 (fun K k => herbariumlaw6_only.l1 K x ks k (i : Int) q) true := by
    refine upto ?_ ?_
    · intro q hq
      refine step1 (fun _ _ _ _ _ => herbariumlaw6_only.l1.eq_2 ..) ?_
      refine negD (by omega) (bnd (gexact_ev (x.G, q) hl hx (by show q.length ≤ _; omega)) (now _))
    · intro i hi ih q hq
      refine step1 (fun _ _ _ _ _ => herbariumlaw6_only.l1.eq_2 ..) ?_
      have e : ((i : Int)).tmod ((ks.length : Nat) : Int) = ((i % ks.length : Nat) : Int) := (Int.ofNat_tmod i ks.length).symm
      have hm := Nat.mod_lt i hk
      rw [e]
      refine posD (by omega) (pos (by omega) (pos (by omega) (pos (by omega) (pos (by simp; omega) ?_))))
      rw [w1 (by omega)]
      exact ih _ (by simp [hq])
  exact (key 0 (by omega) [] rfl).e1
theorem le8 {n c : Nat} (h : n * c ≤ 140737488351232) (hc : 8 ≤ c) : n ≤ 17592186044416 := by
  have := Nat.mul_le_mul_left n hc
  omega
theorem graphAdds_pure (x : herbariumlaw6_Script) (hl : x.G.length ≤ 17592186044416) (hx : ∀ g ∈ x.G, Gfit g) (ha : x.A.length * 24 ≤ 140737488351232) : ∃ K, herbariumlaw6_GraphAdds K x = some true :=
  Ev.get (g := fun K => herbariumlaw6_GraphAdds K x) (r := true) (bnd (only_ev [0, 6, 1] (by decide) x hl hx ha) (now _))
theorem graphCuts_pure (x : herbariumlaw6_Script) (hl : x.G.length ≤ 17592186044416) (hx : ∀ g ∈ x.G, Gfit g) (ha : x.A.length * 24 ≤ 140737488351232) : ∃ K, herbariumlaw6_GraphCuts K x = some true :=
  Ev.get (g := fun K => herbariumlaw6_GraphCuts K x) (r := true) (bnd (only_ev [0, 4, 4, 6] (by decide) x hl hx ha) (now _))
theorem graphGrows_pure (x : herbariumlaw6_Script) (hl : x.G.length ≤ 17592186044416) (hx : ∀ g ∈ x.G, Gfit g) (ha : x.A.length * 24 ≤ 140737488351232) : ∃ K, herbariumlaw6_GraphGrows K x = some true :=
  Ev.get (g := fun K => herbariumlaw6_GraphGrows K x) (r := true) (bnd (only_ev [5, 0, 0, 6] (by decide) x hl hx ha) (now _))
end Go.XL
end
