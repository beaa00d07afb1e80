import Derived.Test.YtpknehjdfjpikaaGbC0
set_option linter.all false
section
namespace Go.XL
open Go.XM
section
def Ev {α : Type} (g : Nat → Nat → Nat → Nat → Nat → Option α) (r : α) : Prop := ∃ m, ∀ K a b c d, m ≤ K → m ≤ a → m ≤ b → m ≤ c → m ≤ d → g K a b c d = some r
abbrev E0 {α : Type} (g : Nat → Option α) (r : α) : Prop := Ev (fun K _ _ _ _ => g K) r
abbrev E1 {α : Type} (g : Nat → Nat → Option α) (r : α) : Prop := Ev (fun K a _ _ _ => g K a) r
abbrev E2 {α : Type} (g : Nat → Nat → Nat → Option α) (r : α) : Prop := Ev (fun K a b _ _ => g K a b) r
abbrev E3 {α : Type} (g : Nat → Nat → Nat → Nat → Option α) (r : α) : Prop := Ev (fun K a b c _ => g K a b c) r
theorem now {α : Type} (r : α) : Ev (fun _ _ _ _ _ => some r) r := ⟨0, fun _ _ _ _ _ _ _ _ _ _ => rfl⟩
theorem nowE {α : Type} {r s : α} (h : s = r) : Ev (fun _ _ _ _ _ => some s) r := ⟨0, fun _ _ _ _ _ _ _ _ _ _ => by rw [h]⟩
theorem pos {α : Type} {c : Prop} [Decidable c] {f g : Nat → Nat → Nat → Nat → Nat → Option α} {r : α} (h : c) (k : Ev f r) : Ev (fun x y z u v => if c then f x y z u v else g x y z u v) r := by
  obtain ⟨m, k⟩ := k
  exact ⟨m, fun x y z u v a b c d e => (if_pos h).trans (k x y z u v a b c d e)⟩
theorem neg {α : Type} {c : Prop} [Decidable c] {f g : Nat → Nat → Nat → Nat → Nat → Option α} {r : α} (h : ¬ c) (k : Ev g r) : Ev (fun x y z u v => if c then f x y z u v else g x y z u v) r := by
  obtain ⟨m, k⟩ := k
  exact ⟨m, fun x y z u v a b c d e => (if_neg h).trans (k x y z u v a b c d e)⟩
theorem posD {α : Type} {c : Prop} [Decidable c] {f g : Nat → Nat → Nat → Nat → Nat → Option α} {r : α} (h : c) (k : Ev f r) : Ev (fun x y z u v => if decide c = true then f x y z u v else g x y z u v) r := pos (decide_eq_true h) k
theorem negD {α : Type} {c : Prop} [Decidable c] {f g : Nat → Nat → Nat → Nat → Nat → Option α} {r : α} (h : ¬ c) (k : Ev g r) : Ev (fun x y z u v => if decide c = true then f x y z u v else g x y z u v) r := neg (by simpa using h) k
theorem posM {α : Type} {c : Prop} [Decidable c] {f g : Nat → Nat → Nat → Nat → Nat → Option α} {r : α} (h : ¬ c) (k : Ev f r) : Ev (fun x y z u v => if (!decide c) = true then f x y z u v else g x y z u v) r := pos (by rw [decide_eq_false h]; rfl) k
theorem negM {α : Type} {c : Prop} [Decidable c] {f g : Nat → Nat → Nat → Nat → Nat → Option α} {r : α} (h : c) (k : Ev g r) : Ev (fun x y z u v => if (!decide c) = true then f x y z u v else g x y z u v) r := neg (by rw [decide_eq_true h]; decide) k
theorem posE {α : Type} {p q : Int} {f g : Nat → Nat → Nat → Nat → Nat → Option α} {r : α} (h : p = q) (k : Ev f r) : Ev (fun x y z u v => if (p == q) = true then f x y z u v else g x y z u v) r := pos (by simp [h]) k
theorem negE {α : Type} {p q : Int} {f g : Nat → Nat → Nat → Nat → Nat → Option α} {r : α} (h : ¬ p = q) (k : Ev g r) : Ev (fun x y z u v => if (p == q) = true then f x y z u v else g x y z u v) r := neg (by simpa using h) k
theorem posN {α : Type} {p q : Int} {f g : Nat → Nat → Nat → Nat → Nat → Option α} {r : α} (h : ¬ p = q) (k : Ev f r) : Ev (fun x y z u v => if (p != q) = true then f x y z u v else g x y z u v) r := pos (by simpa using h) k
theorem negN {α : Type} {p q : Int} {f g : Nat → Nat → Nat → Nat → Nat → Option α} {r : α} (h : p = q) (k : Ev g r) : Ev (fun x y z u v => if (p != q) = true then f x y z u v else g x y z u v) r := neg (by simp [h]) k
theorem bnd {α β : Type} {g : Nat → Nat → Nat → Nat → Nat → Option α} {f : Nat → Nat → Nat → Nat → Nat → α → Option β} {a : α} {r : β} (h : Ev g a) (k : Ev (fun x y z u v => f x y z u v a) r) : Ev (fun x y z u v => (g x y z u v).bind (f x y z u v)) r := by
  obtain ⟨m, h⟩ := h
  obtain ⟨m', k⟩ := k
  refine ⟨max m m', fun x y z u v a b c d e => ?_⟩
  show (g x y z u v).bind _ = _
  rw [h x y z u v (by omega) (by omega) (by omega) (by omega) (by omega)]
  exact k x y z u v (by omega) (by omega) (by omega) (by omega) (by omega)
theorem tail {α : Type} {g : Nat → Nat → Nat → Nat → Nat → Option α} {r : α} (h : Ev g r) : Ev (fun x y z u v => (g x y z u v).bind fun t => some t) r := bnd h (now r)
theorem ofEq {α : Type} {g : Nat → Nat → Nat → Nat → Nat → Option α} {r s : α} (h : Ev g r) (e : r = s) : Ev g s := e ▸ h
theorem congr {α : Type} {f g : Nat → Nat → Nat → Nat → Nat → Option α} {r : α} (e : ∀ x y z u v, g x y z u v = f x y z u v) (h : Ev f r) : Ev g r := by
  obtain ⟨m, h⟩ := h
  exact ⟨m, fun x y z u v a b c d k => by rw [e]; exact h x y z u v a b c d k⟩
theorem step1 {α : Type} {f g : Nat → Nat → Nat → Nat → Nat → Option α} {r : α} (e : ∀ x y z u v, g x (y + 1) z u v = f x y z u v) (h : Ev f r) : Ev g r := by
  obtain ⟨m, h⟩ := h
  refine ⟨m + 1, fun x y z u v a b c d k => ?_⟩
  obtain ⟨y, rfl⟩ : ∃ n, y = n + 1 := ⟨y - 1, by omega⟩
  rw [e]; exact h x y z u v (by omega) (by omega) (by omega) (by omega) (by omega)
theorem step2 {α : Type} {f g : Nat → Nat → Nat → Nat → Nat → Option α} {r : α} (e : ∀ x y z u v, g x y (z + 1) u v = f x y z u v) (h : Ev f r) : Ev g r := by
  obtain ⟨m, h⟩ := h
  refine ⟨m + 1, fun x y z u v a b c d k => ?_⟩
  obtain ⟨z, rfl⟩ : ∃ n, z = n + 1 := ⟨z - 1, by omega⟩
  rw [e]; exact h x y z u v (by omega) (by omega) (by omega) (by omega) (by omega)
theorem step3 {α : Type} {f g : Nat → Nat → Nat → Nat → Nat → Option α} {r : α} (e : ∀ x y z u v, g x y z (u + 1) v = f x y z u v) (h : Ev f r) : Ev g r := by
  obtain ⟨m, h⟩ := h
  refine ⟨m + 1, fun x y z u v a b c d k => ?_⟩
  obtain ⟨u, rfl⟩ : ∃ n, u = n + 1 := ⟨u - 1, by omega⟩
  rw [e]; exact h x y z u v (by omega) (by omega) (by omega) (by omega) (by omega)
theorem Ev.e1 {α : Type} {g : Nat → Nat → Nat → Nat → Nat → Option α} {r : α} (h : Ev g r) : Ev (fun x y z u v => g x x z u v) r := by
  obtain ⟨m, h⟩ := h
  exact ⟨m, fun x y z u v a b c d k => h x x z u v a a c d k⟩
theorem Ev.e2 {α : Type} {g : Nat → Nat → Nat → Nat → Nat → Option α} {r : α} (h : Ev g r) : Ev (fun x y z u v => g x y x u v) r := by
  obtain ⟨m, h⟩ := h
  exact ⟨m, fun x y z u v a b c d k => h x y x u v a b a d k⟩
theorem Ev.e3 {α : Type} {g : Nat → Nat → Nat → Nat → Nat → Option α} {r : α} (h : Ev g r) : Ev (fun x y z u v => g x y z x v) r := by
  obtain ⟨m, h⟩ := h
  exact ⟨m, fun x y z u v a b c d k => h x y z x v a b c a k⟩
theorem Ev.all {α : Type} {g : Nat → Option α} {r : α} (h : E0 g r) : ∃ m, ∀ K, m ≤ K → g K = some r := by
  obtain ⟨m, h⟩ := h
  exact ⟨m, fun K hK => h K K K K K hK hK hK hK hK⟩
theorem Ev.get {α : Type} {g : Nat → Option α} {r : α} (h : E0 g r) : ∃ K, g K = some r := by
  obtain ⟨m, h⟩ := h.all
  exact ⟨m, h m (Nat.le_refl _)⟩
theorem w64 {i : Int} (h : -9223372036854775808 ≤ i) (h' : i ≤ 9223372036854775807) : wr .i64 i = i := by show Go.RowKit.wrap64 i = i; unfold Go.RowKit.wrap64; omega
theorem w1 {i : Nat} (h : i < 4611686018427387904) : wr .i64 ((i : Int) + 1) = ((i + 1 : Nat) : Int) := by rw [w64 (by omega) (by omega)]; omega
theorem upto {n : Nat} {Q : Nat → Prop} (base : Q n) (step : ∀ i, i < n → Q (i + 1) → Q i) : ∀ i, i ≤ n → Q i := by
  have key : ∀ d i, i + d = n → Q i := by
    intro d
    induction d with
    | zero => intro i hi; rw [show i = n by omega]; exact base
    | succ d ih => intro i hi; exact step i (by omega) (ih (i + 1) (by omega))
  intro i hi
  exact key (n - i) i (by omega)
theorem getD_lt {α : Type} {d : α} {xs : List α} {i : Nat} (h : i < xs.length) : xs.getD i d = xs[i] := by simp [List.getD_eq_getElem?_getD, List.getElem?_eq_getElem h]
theorem getD_mem {α : Type} {d : α} {xs : List α} {i : Nat} (h : i < xs.length) : xs.getD i d ∈ xs := by rw [getD_lt h]; exact List.getElem_mem h
theorem drop_getD {α : Type} {d : α} {xs : List α} {i : Nat} (h : i < xs.length) : xs.drop i = xs.getD i d :: xs.drop (i + 1) := by rw [getD_lt h]; exact List.drop_eq_getElem_cons h
theorem take_getD {α : Type} {d : α} {xs : List α} {i : Nat} (h : i < xs.length) : xs.take (i + 1) = xs.take i ++ [xs.getD i d] := by rw [getD_lt h, List.take_succ_eq_append_getElem h]
theorem getD_set {α : Type} {d : α} (xs : List α) (i j : Nat) (v : α) (h : i < xs.length) : (xs.set i v).getD j d = if j = i then v else xs.getD j d := by
  simp only [List.getD_eq_getElem?_getD, List.getElem?_set]
  by_cases e : i = j
  · subst e; simp [h]
  · simp [e, Ne.symm e]
theorem nthN {α : Type} [Inhabited α] (xs : List α) (i : Nat) : nth xs (i : Int) = xs.getD i default := by simp [nth]
theorem rdN (xs : List Int) (i : Nat) : nth xs (i : Int) = xs.getD i 0 := nthN xs i
theorem rd1I (xs : List (List Int)) (i : Int) : nth xs i = xs.getD i.toNat [] := rfl
theorem rd1N (xs : List (List Int)) (i : Nat) : nth xs (i : Int) = xs.getD i [] := nthN xs i
def lsum (xs : List (List Int)) : Nat := (xs.map List.length).sum
theorem lsum_cons (x : List Int) (xs : List (List Int)) : lsum (x :: xs) = x.length + lsum xs := by simp [lsum]
theorem lsum_append (xs ys : List (List Int)) : lsum (xs ++ ys) = lsum xs + lsum ys := by simp [lsum]
theorem lsum_mem {x : List Int} {xs : List (List Int)} (h : x ∈ xs) : x.length ≤ lsum xs := by
  induction xs with
  | nil => simp at h
  | cons y ys ih =>
    rw [lsum_cons]
    rcases List.mem_cons.1 h with rfl | h
    · omega
    · have := ih h; omega
theorem lsum_drop {xs : List (List Int)} {i : Nat} (h : i < xs.length) : lsum (xs.drop i) = (xs.getD i []).length + lsum (xs.drop (i + 1)) := by rw [drop_getD (d := []) h, lsum_cons]
theorem lsum_take {xs : List (List Int)} {i : Nat} (h : i < xs.length) : lsum (xs.take (i + 1)) = lsum (xs.take i) + (xs.getD i []).length := by rw [take_getD (d := []) h, lsum_append]; simp [lsum]
theorem lsum_take_le (xs : List (List Int)) (i : Nat) : lsum (xs.take i) ≤ lsum xs := by
  have := lsum_append (xs.take i) (xs.drop i)
  rw [List.take_append_drop] at this
  omega
theorem negB {α : Type} {b : Bool} {f g : Nat → Nat → Nat → Nat → Nat → Option α} {r : α} (h : b = false) (k : Ev g r) : Ev (fun x y z u v => if b = true then f x y z u v else g x y z u v) r := neg (by rw [h]; decide) k
end
section
theorem lists_ev (xs : List (List Int)) (hl : xs.length ≤ 17592186044416) (hx : ∀ y ∈ xs, y.length ≤ 17592186044416) :
    ∃ r : Int, E0 (fun K => herbariumlaw0_Lists K xs) r ∧ 0 ≤ r ∧ r ≤ 35184372088832 ∧ (r < 1048576 → r = xs.length + lsum xs) := by
  have key : ∀ i, i ≤ xs.length → ∀ s : Int, 0 ≤ s → s ≤ 35184372088832 → ∃ r : Int, E1 (fun K k => herbariumlaw0_Lists.l1 K xs k s (i : Int)) r ∧ 0 ≤ r ∧ r ≤ 35184372088832 ∧ (r < 1048576 → r = s + lsum (xs.drop i)) := by
    refine upto ?_ ?_
    · intro s h0 h1
      refine ⟨s, ?_, h0, h1, fun _ => by simp [lsum]⟩
      refine step1 (fun _ _ _ _ _ => herbariumlaw0_Lists.l1.eq_2 ..) ?_
      exact negD (by omega) (now s)
    · intro i hi ih s h0 h1
      by_cases hs : s < 1048576
      · have hy := hx _ (getD_mem (d := []) hi)
        obtain ⟨r, h, a, b, c⟩ := ih (s + ((xs.getD i []).length : Int)) (by omega) (by omega)
        refine ⟨r, ?_, a, b, fun hr => by rw [c hr, lsum_drop hi]; omega⟩
        refine step1 (fun _ _ _ _ _ => herbariumlaw0_Lists.l1.eq_2 ..) ?_
        refine posD (by omega) (posD hs (pos (by omega) ?_))
        rw [rd1N, w64 (by omega) (by omega), w1 (by omega)]
        exact h
      · refine ⟨s, ?_, h0, h1, fun h => by omega⟩
        refine step1 (fun _ _ _ _ _ => herbariumlaw0_Lists.l1.eq_2 ..) ?_
        exact posD (by omega) (negD hs (now s))
  obtain ⟨r, h, a, b, c⟩ := key 0 (by omega) xs.length (by omega) (by omega)
  exact ⟨r, h.e1, a, b, fun hr => by rw [c hr]; simp⟩
def OkAt (xs : List Int) (i : Nat) : Prop := 0 ≤ xs.getD i 0 ∧ xs.getD i 0 ≤ 15 ∧ (0 < i → xs.getD (i - 1) 0 < xs.getD i 0)
instance (xs : List Int) (i : Nat) : Decidable (OkAt xs i) := by unfold OkAt; infer_instance
def MayP (xs : List Int) : Prop := ∀ i, i < xs.length → OkAt xs i
instance (xs : List Int) : Decidable (MayP xs) := by unfold MayP; infer_instance
theorem ok_ge {xs : List Int} : ∀ i : Nat, (∀ j, j ≤ i → OkAt xs j) → (i : Int) ≤ xs.getD i 0 := by
  intro i
  induction i with
  | zero => intro h; exact_mod_cast (h 0 (by omega)).1
  | succ i ih =>
    intro h
    have h1 := ih (fun j hj => h j (by omega))
    have h2 := (h (i + 1) (by omega)).2.2 (by omega)
    simp only [Nat.add_sub_cancel] at h2
    omega
theorem MayP.len {xs : List Int} (h : MayP xs) : xs.length ≤ 16 := by
  rcases Nat.eq_zero_or_pos xs.length with h0 | h0
  · omega
  · have h1 := ok_ge (xs := xs) (xs.length - 1) (fun j hj => h j (by omega))
    have h2 := (h (xs.length - 1) (by omega)).2.1
    omega
theorem num_eq (K : Nat) (a b : Int) : herbariumref0_Num K a b = some (decide (0 ≤ a ∧ a ≤ b)) := by
  unfold herbariumref0_Num
  by_cases h : a ≥ 0
  · rw [if_pos (decide_eq_true h)]; simp [h]
  · rw [if_neg (by simpa using h)]; simp; omega
theorem origin_eq (K : Nat) (a : Int) : herbariumref3_Origin K a = some (decide (0 ≤ a ∧ a ≤ 15)) := by unfold herbariumref3_Origin; rw [num_eq]; rfl
theorem is_eq (K : Nat) (a : Int) : gaps_Is K a = some (decide (0 ≤ a ∧ a ≤ 15)) := by
  unfold gaps_Is
  by_cases h : a ≥ 0
  · rw [if_pos (decide_eq_true h)]; simp [h]; omega
  · rw [if_neg (by simpa using h)]; simp; omega
theorem may3_ev (xs : List Int) (hl : xs.length ≤ 17592186044416) : E0 (fun K => herbariumref3_May K xs) (decide (MayP xs)) := by
  have key : ∀ i, i ≤ xs.length → (∀ j, j < i → OkAt xs j) → E1 (fun K k => herbariumref3_May.l1 K xs k (i : Int)) (decide (MayP xs)) := by
    refine upto ?_ ?_
    · intro hok
      have hm : MayP xs := hok
      have hn := hm.len
      refine step1 (fun _ _ _ _ _ => herbariumref3_May.l1.eq_2 ..) ?_
      exact negD (by omega) (nowE (by simp [hm]; omega))
    · intro i hi ih hok
      have h16 : i ≤ 16 := by
        rcases Nat.eq_zero_or_pos i with h0 | h0
        · omega
        · have h1 := ok_ge (xs := xs) (i - 1) (fun j hj => hok j (by omega))
          have h2 := (hok (i - 1) (by omega)).2.1
          omega
      refine step1 (fun _ _ _ _ _ => herbariumref3_May.l1.eq_2 ..) ?_
      refine posD (by omega) (posD (by omega) (pos (by omega) ?_))
      simp only [origin_eq]
      rw [rdN]
      refine bnd (now _) ?_
      by_cases ho : 0 ≤ xs.getD i 0 ∧ xs.getD i 0 ≤ 15
      · refine negM ho ?_
        rcases Nat.eq_zero_or_pos i with h0 | h0
        · refine negD (by omega) ?_
          rw [w1 (by omega)]
          refine ih fun j hj => ?_
          by_cases e : j = i
          · subst e; exact ⟨ho.1, ho.2, fun h => by omega⟩
          · exact hok j (by omega)
        · refine posD (by omega) ?_
          have e1 : wr .i64 ((i : Int) - 1) = ((i - 1 : Nat) : Int) := by rw [w64 (by omega) (by omega)]; omega
          rw [e1, rdN]
          refine pos (by omega) (pos (by omega) ?_)
          by_cases hlt : xs.getD (i - 1) 0 ≥ xs.getD i 0
          · refine posD hlt (nowE ?_)
            have : ¬ MayP xs := fun hm => by have := (hm i hi).2.2 h0; omega
            simp [this]
          · refine negD hlt ?_
            rw [w1 (by omega)]
            refine ih fun j hj => ?_
            by_cases e : j = i
            · subst e; exact ⟨ho.1, ho.2, fun h => by omega⟩
            · exact hok j (by omega)
      · refine posM ho (nowE ?_)
        have : ¬ MayP xs := fun hm => ho ⟨(hm i hi).1, (hm i hi).2.1⟩
        simp [this]
  exact (key 0 (by omega) (fun j hj => by omega)).e1
theorem gmay_ev (xs : List Int) (hl : xs.length ≤ 17592186044416) : E0 (fun K => gaps_May K xs) (decide (MayP xs)) := by
  have key : ∀ i, i ≤ xs.length → (∀ j, j < i → OkAt xs j) → E1 (fun K k => gaps_May.l1 K xs k ((xs.length : Nat) : Int) (i : Int)) (decide (MayP xs)) := by
    refine upto ?_ ?_
    · intro hok
      have hm : MayP xs := hok
      refine step1 (fun _ _ _ _ _ => gaps_May.l1.eq_2 ..) ?_
      exact negD (by omega) (nowE (by simp [hm]))
    · intro i hi ih hok
      refine step1 (fun _ _ _ _ _ => gaps_May.l1.eq_2 ..) ?_
      refine posD (by omega) (pos (by omega) ?_)
      simp only [is_eq]
      rw [rdN]
      refine bnd (now _) ?_
      by_cases ho : 0 ≤ xs.getD i 0 ∧ xs.getD i 0 ≤ 15
      · refine negM ho ?_
        rcases Nat.eq_zero_or_pos i with h0 | h0
        · refine negD (by omega) ?_
          rw [w1 (by omega)]
          refine ih fun j hj => ?_
          by_cases e : j = i
          · subst e; exact ⟨ho.1, ho.2, fun h => by omega⟩
          · exact hok j (by omega)
        · refine posD (by omega) ?_
          have e1 : wr .i64 ((i : Int) - 1) = ((i - 1 : Nat) : Int) := by rw [w64 (by omega) (by omega)]; omega
          rw [e1, rdN]
          refine pos (by omega) ?_
          by_cases hlt : xs.getD i 0 ≤ xs.getD (i - 1) 0
          · refine posD hlt (nowE ?_)
            have : ¬ MayP xs := fun hm => by have := (hm i hi).2.2 h0; omega
            simp [this]
          · refine negD hlt ?_
            rw [w1 (by omega)]
            refine ih fun j hj => ?_
            by_cases e : j = i
            · subst e; exact ⟨ho.1, ho.2, fun h => by omega⟩
            · exact hok j (by omega)
      · refine posM ho (nowE ?_)
        have : ¬ MayP xs := fun hm => ho ⟨(hm i hi).1, (hm i hi).2.1⟩
        simp [this]
  exact (key 0 (by omega) (fun j hj => by omega)).e1
theorem ext_getD {xs ys : List Int} (hl : xs.length = ys.length) (h : ∀ j, j < xs.length → xs.getD j 0 = ys.getD j 0) : xs = ys := by
  refine List.ext_getElem hl fun j h1 h2 => ?_
  have := h j h1
  rwa [getD_lt h1, getD_lt h2] at this
theorem eqn_ev (xs ys : List Int) (h : xs.length ≤ 1000000) : E0 (fun K => herbariumref0_EqNumbers K xs ys) (decide (xs = ys)) := by
  unfold herbariumref0_EqNumbers
  by_cases hl : xs.length = ys.length
  · have key : ∀ i, i ≤ xs.length → (∀ j, j < i → xs.getD j 0 = ys.getD j 0) → E1 (fun K k => herbariumref0_EqNumbers.l1 K xs ys k (i : Int)) (decide (xs = ys)) := by
      refine upto ?_ ?_
      · intro hd
        refine step1 (fun _ _ _ _ _ => herbariumref0_EqNumbers.l1.eq_2 ..) ?_
        exact negD (by omega) (nowE (by rw [ext_getD hl hd]; simp))
      · intro i hi ih hd
        refine step1 (fun _ _ _ _ _ => herbariumref0_EqNumbers.l1.eq_2 ..) ?_
        refine posD (by omega) (pos (by omega) (pos (by omega) ?_))
        rw [rdN, rdN, w1 (by omega)]
        by_cases e : xs.getD i 0 = ys.getD i 0
        · refine negN e (ih fun j hj => ?_)
          by_cases q : j = i
          · rw [q]; exact e
          · exact hd j (by omega)
        · refine posN e (nowE ?_)
          have : ¬ xs = ys := fun h => e (by rw [h])
          simp [this]
    exact negN (by omega) (key 0 (by omega) (fun j hj => by omega)).e1
  · refine posN (by omega) (nowE ?_)
    have : ¬ xs = ys := fun h => hl (by rw [h])
    simp [this]
end
section
end
section
theorem in_ev (xs : List Int) (a : Int) (h : xs.length ≤ 1000000) : ∃ r, E0 (fun K => herbariumref0_In K xs a) r ∧ (0 ≤ r ↔ a ∈ xs) := by
  have key : ∀ i, i ≤ xs.length → ∃ r, E1 (fun K k => herbariumref0_In.l1 K xs a k (i : Int)) r ∧ (0 ≤ r ↔ a ∈ xs.drop i) := by
    refine upto ?_ ?_
    · refine ⟨-1, ?_, by simp⟩
      refine step1 (fun _ _ _ _ _ => herbariumref0_In.l1.eq_2 ..) ?_
      exact negD (by omega) (now _)
    · intro i hi ih
      obtain ⟨r, h1, h2⟩ := ih
      by_cases e : xs.getD i 0 = a
      · refine ⟨i, ?_, by rw [drop_getD (d := 0) hi, e]; simp⟩
        refine step1 (fun _ _ _ _ _ => herbariumref0_In.l1.eq_2 ..) ?_
        refine posD (by omega) (pos (by omega) ?_)
        rw [rdN]
        exact posE e (now _)
      · refine ⟨r, ?_, by rw [drop_getD (d := 0) hi, h2, List.mem_cons]; exact ⟨.inr, fun q => q.resolve_left (fun q => e q.symm)⟩⟩
        refine step1 (fun _ _ _ _ _ => herbariumref0_In.l1.eq_2 ..) ?_
        refine posD (by omega) (pos (by omega) ?_)
        rw [rdN, w1 (by omega)]
        exact negE e h1
  obtain ⟨r, h1, h2⟩ := key 0 (by omega)
  exact ⟨r, h1.e1, by simpa using h2⟩
theorem contains_ev (xs : List Int) (a : Int) (h : xs.length ≤ 1000000) : E0 (fun K => slices_Contains___int_int_ K xs a) (decide (a ∈ xs)) := by
  have key : ∀ i, i ≤ xs.length → ∃ r, E1 (fun K k => slices_Index___int_int_.l1 K xs a k ((xs.length : Nat) : Int) (i : Int)) r ∧ (0 ≤ r ↔ a ∈ xs.drop i) := by
    refine upto ?_ ?_
    · refine ⟨-1, ?_, by simp⟩
      refine step1 (fun _ _ _ _ _ => slices_Index___int_int_.l1.eq_2 ..) ?_
      exact negD (by omega) (now _)
    · intro i hi ih
      obtain ⟨r, h1, h2⟩ := ih
      by_cases e : a = xs.getD i 0
      · refine ⟨i, ?_, by rw [drop_getD (d := 0) hi, ← e]; simp⟩
        refine step1 (fun _ _ _ _ _ => slices_Index___int_int_.l1.eq_2 ..) ?_
        refine posD (by omega) (pos (by omega) ?_)
        rw [rdN]
        exact posE e (now _)
      · refine ⟨r, ?_, by rw [drop_getD (d := 0) hi, h2, List.mem_cons]; exact ⟨.inr, fun q => q.resolve_left e⟩⟩
        refine step1 (fun _ _ _ _ _ => slices_Index___int_int_.l1.eq_2 ..) ?_
        refine posD (by omega) (pos (by omega) ?_)
        rw [rdN, w1 (by omega)]
        exact negE e h1
  obtain ⟨r, h1, h2⟩ := key 0 (by omega)
  unfold slices_Contains___int_int_ slices_Index___int_int_
  refine bnd h1.e1 (nowE ?_)
  exact decide_eq_decide.2 (by simpa using h2)
end
section
theorem may_lt {xs : List Int} (h : MayP xs) : ∀ (d i : Nat), i + d + 1 < xs.length → xs.getD i 0 < xs.getD (i + d + 1) 0
  | 0, i, hi => by
    have := (h (i + 1) (by omega)).2.2 (by omega)
    simpa using this
  | d + 1, i, hi => by
    have h1 := may_lt h d i (by omega)
    have h2 := (h (i + (d + 1) + 1) (by omega)).2.2 (by omega)
    rw [show i + (d + 1) + 1 - 1 = i + d + 1 by omega] at h2
    omega
theorem mayP_iff (xs : List Int) : MayP xs ↔ xs.Pairwise (· < ·) ∧ ∀ x ∈ xs, 0 ≤ x ∧ x ≤ 15 := by
  constructor
  · intro h
    refine ⟨List.pairwise_iff_getElem.2 fun i j hi hj hij => ?_, fun x hx => ?_⟩
    · have := may_lt h (j - i - 1) i (by omega)
      rw [show i + (j - i - 1) + 1 = j by omega, getD_lt hi, getD_lt hj] at this
      exact this
    · obtain ⟨i, hi, rfl⟩ := List.mem_iff_getElem.1 hx
      have := h i hi
      rw [← getD_lt (d := 0) hi]; exact ⟨this.1, this.2.1⟩
  · rintro ⟨h1, h2⟩ i hi
    have hm := h2 _ (getD_mem (d := 0) hi)
    refine ⟨hm.1, hm.2, fun h0 => ?_⟩
    have := List.pairwise_iff_getElem.1 h1 (i - 1) i (by omega) hi (by omega)
    rw [getD_lt (show i - 1 < xs.length by omega), getD_lt hi]; exact this
theorem nodup_of_lt {xs : List Int} (h : xs.Pairwise (· < ·)) : xs.Nodup := by
  rw [List.nodup_iff_pairwise_ne]
  exact h.imp fun h => by omega
end
section
theorem copy_ev (xs : List Int) (h : xs.length ≤ 1000000) : E0 (fun K => herbariumref0_CopyNumbers K xs) xs := by
  have key : ∀ i, i ≤ xs.length → E1 (fun K k => herbariumref0_CopyNumbers.l1 K xs k (i : Int) (xs.take i)) xs := by
    refine upto ?_ ?_
    · refine step1 (fun _ _ _ _ _ => herbariumref0_CopyNumbers.l1.eq_2 ..) ?_
      exact negD (by omega) (nowE (List.take_length))
    · intro i hi ih
      refine step1 (fun _ _ _ _ _ => herbariumref0_CopyNumbers.l1.eq_2 ..) ?_
      refine posD (by omega) (pos (by omega) (pos (by simp; omega) ?_))
      rw [rdN, w1 (by omega), ← take_getD hi]
      exact ih
  exact (key 0 (by omega)).e1
theorem nums_ev (xs : List Int) (hl : xs.length ≤ 1000000) : E0 (fun K => herbariumlaw0_Numbers K xs) () := by
  have key : ∀ i, i ≤ xs.length → ∀ ys : List Int, ys.length = xs.length → E1 (fun K k => herbariumlaw0_Numbers.l1 K k (i : Int) ys) () := by
    refine upto ?_ ?_
    · intro ys hy
      refine step1 (fun _ _ _ _ _ => herbariumlaw0_Numbers.l1.eq_2 ..) ?_
      exact negD (by omega) (now _)
    · intro i hi ih ys hy
      refine step1 (fun _ _ _ _ _ => herbariumlaw0_Numbers.l1.eq_2 ..) ?_
      refine posD (by omega) (pos (by omega) ?_)
      rw [w1 (by omega)]
      exact ih _ (by rw [List.length_set]; exact hy)
  exact (key 0 (by omega) xs rfl).e1
end
section
def wt (g : api_Graph) : Nat := g.Out.length + lsum g.Out
abbrev zG : api_Graph := default
theorem rdG (xs : List api_Graph) (i : Nat) : nth xs (i : Int) = xs.getD i zG := nthN xs i
def Gfit (g : api_Graph) : Prop := g.Out.length ≤ 17592186044416 ∧ ∀ y ∈ g.Out, y.length ≤ 17592186044416
theorem weight_ev (gs : List api_Graph) (hl : gs.length ≤ 17592186044416) (hx : ∀ g ∈ gs, Gfit g) :
    ∃ r : Int, E0 (fun K => herbariumlaw0_GraphsWeight K gs) r ∧ 0 ≤ r ∧ r ≤ 52776558133248 ∧ (r < 1048576 → (gs.length : Int) ≤ r ∧ ∀ g ∈ gs, (wt g : Int) ≤ r) := by
  have key : ∀ i, i ≤ gs.length → ∀ s : Int, 0 ≤ s → s ≤ 52776558133248 → ∃ r : Int, E1 (fun K k => herbariumlaw0_GraphsWeight.l1 K gs k s (i : Int)) r ∧ 0 ≤ r ∧ r ≤ 52776558133248 ∧ s ≤ r ∧ (r < 1048576 → ∀ g ∈ gs.drop i, (wt g : Int) ≤ r) := by
    refine upto ?_ ?_
    · intro s h0 h1
      refine ⟨s, ?_, h0, h1, by omega, fun _ => by simp⟩
      refine step1 (fun _ _ _ _ _ => herbariumlaw0_GraphsWeight.l1.eq_2 ..) ?_
      exact negD (by omega) (now s)
    · intro i hi ih s h0 h1
      by_cases hs : s < 1048576
      · have hg := hx _ (getD_mem (d := zG) hi)
        obtain ⟨q, e, q0, q1, q2⟩ := lists_ev (gs.getD i zG).Out hg.1 hg.2
        obtain ⟨r, h, a, b, l, c⟩ := ih (s + q) (by omega) (by omega)
        refine ⟨r, ?_, a, b, by omega, fun hr => ?_⟩
        · refine step1 (fun _ _ _ _ _ => herbariumlaw0_GraphsWeight.l1.eq_2 ..) ?_
          refine posD (by omega) (posD hs (pos (by omega) ?_))
          rw [rdG, w1 (by omega)]
          refine bnd e ?_
          rw [w64 (by omega) (by omega)]
          exact h
        · rw [drop_getD (d := zG) hi]
          intro g hg'
          rcases List.mem_cons.1 hg' with rfl | hg'
          · have := q2 (by omega)
            simp only [wt]; omega
          · exact c hr g hg'
      · refine ⟨s, ?_, h0, h1, by omega, fun h => by omega⟩
        refine step1 (fun _ _ _ _ _ => herbariumlaw0_GraphsWeight.l1.eq_2 ..) ?_
        exact posD (by omega) (negD hs (now s))
  obtain ⟨r, h, a, b, l, c⟩ := key 0 (by omega) gs.length (by omega) (by omega)
  exact ⟨r, h.e1, a, b, fun hr => ⟨l, by simpa using c hr⟩⟩
theorem heavy6_ev (x : herbariumlaw6_Script) (hl : x.G.length ≤ 17592186044416) (hx : ∀ g ∈ x.G, Gfit g) (ha : x.A.length ≤ 17592186044416) : ∃ b : Bool, E0 (fun K => herbariumlaw6_Heavy K x) b ∧ (b = false → x.G.length ≤ 1200 ∧ x.A.length ≤ 1200 ∧ ∀ g ∈ x.G, wt g ≤ 1200) := by
  obtain ⟨r, e, r0, r1, r2⟩ := weight_ev x.G hl hx
  refine ⟨_, bnd e (now _), fun hb => ?_⟩
  rw [w64 (by omega) (by omega)] at hb
  have hb : r + (x.A.length : Int) ≤ 1200 := by simpa using hb
  obtain ⟨ha, hw⟩ := r2 (by omega)
  exact ⟨by omega, by omega, fun g hg => by have := hw g hg; omega⟩
def GSm (g : api_Graph) : Prop := g.Out.length + lsum g.Out ≤ 1000000
instance (g : api_Graph) : Decidable (GSm g) := by unfold GSm; infer_instance
theorem GSm.row {g : api_Graph} (h : GSm g) {i : Nat} (hi : i < g.Out.length) : (g.Out.getD i []).length ≤ 1000000 := by
  have := lsum_mem (getD_mem (d := []) hi)
  unfold GSm at h
  omega
theorem wt_GSm {g : api_Graph} (h : wt g ≤ 1200) : GSm g := by unfold wt at h; unfold GSm; omega
theorem many_ev (g : api_Graph) (hl : GSm g) : E0 (fun K => graph_many K g) (lsum g.Out : Int) := by
  unfold GSm at hl
  have key : ∀ i, i ≤ g.Out.length → E1 (fun K k => graph_many.l1 K g k (lsum (g.Out.take i) : Int) ((g.Out.length : Nat) : Int) (i : Int)) (lsum g.Out : Int) := by
    refine upto ?_ ?_
    · refine step1 (fun _ _ _ _ _ => graph_many.l1.eq_2 ..) ?_
      exact negD (by omega) (nowE (by rw [List.take_length]))
    · intro i hi ih
      have h1 := lsum_take hi
      have h2 := lsum_take_le g.Out (i + 1)
      refine step1 (fun _ _ _ _ _ => graph_many.l1.eq_2 ..) ?_
      refine posD (by omega) (pos (by omega) ?_)
      rw [rd1N, w64 (by omega) (by omega), w1 (by omega), show ((lsum (g.Out.take i) : Int) + ((g.Out.getD i []).length : Int)) = (lsum (g.Out.take (i + 1)) : Int) by omega]
      exact ih
  exact (key 0 (by omega)).e1
def RowP (n : Int) (xs : List Int) : Prop := MayP xs ∧ (0 < xs.length → xs.getD (xs.length - 1) 0 < n)
instance (n : Int) (xs : List Int) : Decidable (RowP n xs) := by unfold RowP; infer_instance
def GraphP (g : api_Graph) : Prop := 0 ≤ g.N ∧ g.N ≤ 16 ∧ (g.Out.length : Int) = g.N ∧ (∀ i, i < g.Out.length → RowP g.N (g.Out.getD i [])) ∧ lsum g.Out ≤ 120
instance (g : api_Graph) : Decidable (GraphP g) := by unfold GraphP; infer_instance
theorem gmayG_ev (g : api_Graph) (hs : GSm g) : E0 (fun K => graph_May K g) (decide (GraphP g)) := by
  have key : (g.Out.length : Int) = g.N → 0 ≤ g.N → g.N ≤ 16 → ∀ i, i ≤ g.Out.length → (∀ j, j < i → RowP g.N (g.Out.getD j [])) → E1 (fun K k => graph_May.l1 K g k ((g.Out.length : Nat) : Int) (i : Int)) (decide (GraphP g)) := by
    intro hn n0 n16
    refine upto ?_ ?_
    · intro hok
      refine step1 (fun _ _ _ _ _ => graph_May.l1.eq_2 ..) ?_
      refine negD (by omega) (bnd (many_ev g hs) (nowE ?_))
      have : GraphP g ↔ lsum g.Out ≤ 120 := ⟨fun h => h.2.2.2.2, fun h => ⟨n0, n16, hn, hok, h⟩⟩
      simp [this]; omega
    · intro i hi ih hok
      have hr := hs.row hi
      refine step1 (fun _ _ _ _ _ => graph_May.l1.eq_2 ..) ?_
      refine posD (by omega) (pos (by omega) ?_)
      rw [rd1N]
      refine bnd (gmay_ev _ (by omega)) ?_
      have hno : ¬ RowP g.N (g.Out.getD i []) → decide (GraphP g) = false := fun h => by
        have : ¬ GraphP g := fun hg => h (hg.2.2.2.1 i hi)
        simp [this]
      have hgo : RowP g.N (g.Out.getD i []) → ∀ j, j < i + 1 → RowP g.N (g.Out.getD j []) := fun h j hj => by
        by_cases e : j = i
        · subst e; exact h
        · exact hok j (by omega)
      by_cases hm : MayP (g.Out.getD i [])
      · refine neg (by simpa using hm) ?_
        rw [w1 (by omega)]
        by_cases h0 : 0 < (g.Out.getD i []).length
        · refine posD (by omega) ?_
          have e1 : wr .i64 (((g.Out.getD i []).length : Int) - 1) = (((g.Out.getD i []).length - 1 : Nat) : Int) := by rw [w64 (by omega) (by omega)]; omega
          rw [e1, rdN]
          refine pos (by omega) ?_
          by_cases hlt : (g.Out.getD i []).getD ((g.Out.getD i []).length - 1) 0 ≥ g.N
          · exact posD hlt (nowE (hno fun h => by have := h.2 h0; omega).symm)
          · exact negD hlt (ih (hgo ⟨hm, fun _ => by omega⟩))
        · exact negD (by omega) (ih (hgo ⟨hm, fun h => absurd h h0⟩))
      · exact pos (by simpa using hm) (nowE (hno fun h => hm h.1).symm)
  unfold graph_May
  by_cases h0 : g.N < 0
  · exact posD h0 (nowE (by have : ¬ GraphP g := fun hg => by have := hg.1; omega
                            simp [this]))
  · refine negD h0 ?_
    by_cases h1 : g.N > 16
    · exact posD h1 (nowE (by have : ¬ GraphP g := fun hg => by have := hg.2.1; omega
                              simp [this]))
    · refine negD h1 ?_
      by_cases hn : (g.Out.length : Int) = g.N
      · exact negN hn (key hn (by omega) (by omega) 0 (by omega) (fun j hj => by omega)).e1
      · exact posN hn (nowE (by have : ¬ GraphP g := fun hg => hn hg.2.2.1
                                simp [this]))
theorem eqG_ev (g : api_Graph) (hs : GSm g) : E0 (fun K => herbariumref0_EqGraph K g g) true := by
  have key : ∀ i, i ≤ g.Out.length → E1 (fun K k => herbariumref0_EqNumberLists.l1 K g.Out g.Out k (i : Int)) true := by
    have hl : g.Out.length ≤ 1000000 := by unfold GSm at hs; omega
    refine upto ?_ ?_
    · refine step1 (fun _ _ _ _ _ => herbariumref0_EqNumberLists.l1.eq_2 ..) ?_
      exact negD (by omega) (now _)
    · intro i hi ih
      refine step1 (fun _ _ _ _ _ => herbariumref0_EqNumberLists.l1.eq_2 ..) ?_
      refine posD (by omega) (pos (by omega) (pos (by omega) ?_))
      rw [rd1N]
      refine bnd (eqn_ev _ _ (hs.row hi)) (negM rfl ?_)
      rw [w1 (by omega)]
      exact ih
  unfold herbariumref0_EqGraph herbariumref0_EqNumberLists
  exact posE rfl (tail (negN rfl (key 0 (by omega)).e1))
end
section
structure GP (g : api_Graph) : Prop where
  n : g.N = (g.Out.length : Int)
  le : g.Out.length ≤ 16
  may : ∀ l ∈ g.Out, MayP l
  sum : lsum g.Out ≤ 120
theorem GraphP.gp {g : api_Graph} (h : GraphP g) : GP g := by
  obtain ⟨h1, h2, h3, h4, h5⟩ := h
  refine ⟨h3.symm, by omega, fun l hl => ?_, h5⟩
  obtain ⟨i, hi, rfl⟩ := List.mem_iff_getElem.1 hl
  have := (h4 i hi).1
  rwa [getD_lt hi] at this
theorem GraphP.sm {g : api_Graph} (h : GraphP g) : GSm g := by
  have := h.gp
  have a := this.le
  have b := this.sum
  unfold GSm; omega
end
section
theorem redges_ev {g : api_Graph} (hs : GSm g) : E0 (fun K => herbariumref6_Edges K g) (lsum g.Out : Int) := by
  unfold GSm at hs
  have key : ∀ i, i ≤ g.Out.length → E1 (fun K k => herbariumref6_Edges.l1 K g k (lsum (g.Out.take i) : Int) (i : Int)) (lsum g.Out : Int) := by
    refine upto ?_ ?_
    · refine step1 (fun _ _ _ _ _ => herbariumref6_Edges.l1.eq_2 ..) ?_
      exact negD (by omega) (nowE (by rw [List.take_length]))
    · intro i hi ih
      have h1 := lsum_take hi
      have h2 := lsum_take_le g.Out (i + 1)
      refine step1 (fun _ _ _ _ _ => herbariumref6_Edges.l1.eq_2 ..) ?_
      refine posD (by omega) (pos (by omega) ?_)
      rw [rd1N, w64 (by omega) (by omega), w1 (by omega), show ((lsum (g.Out.take i) : Int) + ((g.Out.getD i []).length : Int)) = (lsum (g.Out.take (i + 1)) : Int) by omega]
      exact ih
  exact (key 0 (by omega)).e1
theorem rgraph_ev (g : api_Graph) (hs : GSm g) : E0 (fun K => herbariumref6_Graph K g) (decide (GraphP g)) := by
  have key : (g.Out.length : Int) = g.N → 0 ≤ g.N → g.N ≤ 16 → ∀ i, i ≤ g.Out.length → (∀ j, j < i → RowP g.N (g.Out.getD j [])) → E1 (fun K k => herbariumref6_Graph.l1 K g k (i : Int)) (decide (GraphP g)) := by
    intro hn n0 n16
    refine upto ?_ ?_
    · intro hok
      refine step1 (fun _ _ _ _ _ => herbariumref6_Graph.l1.eq_2 ..) ?_
      refine negD (by omega) (bnd (redges_ev hs) (nowE ?_))
      have : GraphP g ↔ lsum g.Out ≤ 120 := ⟨fun h => h.2.2.2.2, fun h => ⟨n0, n16, hn, hok, h⟩⟩
      rw [Bool.eq_iff_iff, decide_eq_true_iff, decide_eq_true_iff, this]; omega
    · intro i hi ih hok
      have hr := hs.row hi
      refine step1 (fun _ _ _ _ _ => herbariumref6_Graph.l1.eq_2 ..) ?_
      refine posD (by omega) (pos (by omega) ?_)
      rw [rd1N]
      refine bnd (may3_ev _ (by omega)) ?_
      have hno : ¬ RowP g.N (g.Out.getD i []) → decide (GraphP g) = false := fun h => decide_eq_false fun hg => h (hg.2.2.2.1 i hi)
      have hgo : RowP g.N (g.Out.getD i []) → ∀ j, j < i + 1 → RowP g.N (g.Out.getD j []) := fun h j hj => by
        by_cases e : j = i
        · subst e; exact h
        · exact hok j (by omega)
      by_cases hm : MayP (g.Out.getD i [])
      · refine negM hm (pos (by omega) ?_)
        rw [w1 (by omega)]
        by_cases h0 : 0 < (g.Out.getD i []).length
        · have e1 : wr .i64 (((g.Out.getD i []).length : Int) - 1) = (((g.Out.getD i []).length - 1 : Nat) : Int) := by rw [w64 (by omega) (by omega)]; omega
          refine posD (by omega) (pos (by omega) (pos (by omega) ?_))
          rw [e1, rdN]
          refine pos (by omega) ?_
          by_cases hlt : (g.Out.getD i []).getD ((g.Out.getD i []).length - 1) 0 ≥ g.N
          · exact posD hlt (nowE (hno fun h => by have := h.2 h0; omega).symm)
          · exact negD hlt (ih (hgo ⟨hm, fun _ => by omega⟩))
        · exact negD (by omega) (ih (hgo ⟨hm, fun h => absurd h h0⟩))
      · exact posM hm (nowE (hno fun h => hm h.1).symm)
  refine bnd (congr (fun K _ _ _ _ => num_eq K g.N 16) (now _)) ?_
  by_cases h0 : 0 ≤ g.N ∧ g.N ≤ 16
  · refine negM h0 ?_
    by_cases hn : (g.Out.length : Int) = g.N
    · exact negN hn (key hn h0.1 h0.2 0 (by omega) (fun j hj => by omega)).e1
    · exact posN hn (nowE (decide_eq_false fun hg => hn hg.2.2.1).symm)
  · exact posM h0 (nowE (decide_eq_false fun hg => h0 ⟨hg.1, hg.2.1⟩).symm)
end
section
theorem copyL_ev (xs : List (List Int)) (hl : xs.length ≤ 1000000) (hx : ∀ y ∈ xs, y.length ≤ 1000000) : E0 (fun K => herbariumref0_CopyNumberLists K xs) xs := by
  have key : ∀ i, i ≤ xs.length → E1 (fun K k => herbariumref0_CopyNumberLists.l1 K xs k (i : Int) (xs.take i)) xs := by
    refine upto ?_ ?_
    · refine step1 (fun _ _ _ _ _ => herbariumref0_CopyNumberLists.l1.eq_2 ..) ?_
      exact negD (by omega) (nowE List.take_length)
    · intro i hi ih
      have hy := hx _ (getD_mem (d := []) hi)
      refine step1 (fun _ _ _ _ _ => herbariumref0_CopyNumberLists.l1.eq_2 ..) ?_
      refine posD (by omega) (pos (by omega) ?_)
      rw [rd1N]
      refine bnd (copy_ev _ hy) (pos (by simp; omega) ?_)
      rw [w1 (by omega), ← take_getD (d := []) hi]
      exact ih
  exact (key 0 (by omega)).e1
theorem copyG_ev (g : api_Graph) (hs : GSm g) : E0 (fun K => herbariumref0_CopyGraph K g) g := by
  unfold GSm at hs
  exact bnd (copyL_ev g.Out (by omega) (fun y hy => by have := lsum_mem hy; omega)) (now _)
theorem lawG_ev (g : api_Graph) (hs : GSm g) : E0 (fun K => herbariumlaw0_Graph K g) () := by
  unfold GSm at hs
  have key : ∀ i, i ≤ g.Out.length → ∀ ls : List (List Int), ls.length = g.Out.length → (∀ y ∈ ls, y.length ≤ 1000000) → E1 (fun K k => herbariumlaw0_Graph.l1 K k (i : Int) ls) () := by
    refine upto ?_ ?_
    · intro ls h1 h2
      refine step1 (fun _ _ _ _ _ => herbariumlaw0_Graph.l1.eq_2 ..) ?_
      exact negD (by omega) (now _)
    · intro i hi ih ls h1 h2
      refine step1 (fun _ _ _ _ _ => herbariumlaw0_Graph.l1.eq_2 ..) ?_
      refine posD (by omega) (pos (by omega) ?_)
      rw [rd1N]
      refine bnd (nums_ev _ (h2 _ (getD_mem (by omega)))) (pos (by omega) (pos rfl ?_))
      rw [w1 (by omega)]
      refine ih _ (by simp [h1]) (fun y hy => ?_)
      rcases List.mem_or_eq_of_mem_set hy with hy | rfl
      · exact h2 y hy
      · simp
  exact (key 0 (by omega) g.Out rfl (fun y hy => by have := lsum_mem hy; omega)).e1
section
end
variable {x : herbariumlaw6_Script}
end
section
def HasE (g : api_Graph) (a b : Int) : Prop := 0 ≤ a ∧ a < g.N ∧ b ∈ g.Out.getD a.toNat []
instance (g : api_Graph) (a b : Int) : Decidable (HasE g a b) := by unfold HasE; infer_instance
theorem gIs_ev (g : api_Graph) (a : Int) : E0 (fun K => graph_Is K g a) (decide (0 ≤ a ∧ a < g.N)) := by
  unfold graph_Is
  by_cases c : a ≥ 0
  · exact posD c (nowE (decide_eq_decide.2 ⟨fun h => ⟨c, h⟩, fun h => h.2⟩))
  · exact negD c (nowE (decide_eq_false fun h => c h.1).symm)
theorem gout_len {g : api_Graph} (h : GraphP g) (i : Nat) : (g.Out.getD i []).length ≤ 1000000 := by
  by_cases c : i < g.Out.length
  · have h1 := lsum_mem (getD_mem (d := []) c)
    have h2 := h.2.2.2.2
    omega
  · rw [List.getD_eq_getElem?_getD, List.getElem?_eq_none (by omega)]; simp
theorem rhas_ev {g : api_Graph} (h : GraphP g) (a b : Int) : E0 (fun K => herbariumref6_Has K g a b) (decide (HasE g a b)) := by
  have hgl := gout_len h
  obtain ⟨h0, h1, h2, _⟩ := h
  have num : E0 (fun K => herbariumref0_Num K a (wr .i64 (g.N - 1))) (decide (0 ≤ a ∧ a < g.N)) := by
    unfold herbariumref0_Num
    rw [w64 (by omega) (by omega)]
    by_cases c : a ≥ 0
    · exact posD c (nowE (decide_eq_decide.2 ⟨fun h => ⟨c, by omega⟩, fun h => by omega⟩))
    · exact negD c (nowE (decide_eq_false fun h => c h.1).symm)
  refine bnd num ?_
  by_cases c : 0 ≤ a ∧ a < g.N
  · refine pos (by simpa using c) (pos (by omega) ?_)
    obtain ⟨r, hr, hr2⟩ := in_ev (g.Out.getD a.toNat []) b (hgl _)
    rw [rd1I]
    exact bnd hr (nowE (decide_eq_decide.2 ⟨fun k => ⟨c.1, c.2, hr2.1 k⟩, fun k => hr2.2 k.2.2⟩))
  · exact neg (by simpa using c) (nowE (decide_eq_false fun k => c ⟨k.1, k.2.1⟩).symm)
end
section
def prs : Nat → List (List Int) → List api_Pair
  | _, [] => []
  | a, out :: r => out.map (fun b => ((a : Int), b)) ++ prs (a + 1) r
theorem prs_len : ∀ (a : Nat) (o : List (List Int)), (prs a o).length = lsum o
  | _, [] => rfl
  | a, out :: r => by rw [prs, List.length_append, List.length_map, prs_len (a + 1) r, lsum_cons]
theorem glist_l2 {g : api_Graph} {L : List Int} (hL : L.length ≤ 1000000) {go : Nat → Nat → Int → Int → List api_Pair → Option (List api_Pair)} {n : Int} {i : Nat} (hi : i < 1000000) {v : List api_Pair} : ∀ j, j ≤ L.length → ∀ acc : List api_Pair, acc.length + (L.length - j) ≤ 1000000 →
    E1 (fun K a => go K a n ((i + 1 : Nat) : Int) (acc ++ (L.drop j).map (fun b => ((i : Int), b)))) v → E2 (fun K a b => graph_List.l2 K (go K a) n (i : Int) g b L ((L.length : Nat) : Int) (j : Int) acc) v := by
  refine upto ?_ ?_
  · intro acc _ hv
    refine step2 (fun _ _ _ _ _ => graph_List.l2.eq_2 ..) ?_
    rw [List.drop_length, List.map_nil, List.append_nil] at hv
    refine negD (by omega) ?_
    rw [w1 (by omega)]; exact hv
  · intro j hj ih acc ha hv
    refine step2 (fun _ _ _ _ _ => graph_List.l2.eq_2 ..) ?_
    refine posD (by omega) (pos (by omega) (pos (by simp; omega) ?_))
    rw [w1 (by omega), rdN]
    refine ih _ (by simp; omega) ?_
    rw [drop_getD (d := 0) hj] at hv
    rw [List.append_assoc]; exact hv
theorem glist_l1 {g : api_Graph} (hg : GSm g) : ∀ i, i ≤ g.Out.length → ∀ acc : List api_Pair, acc.length + lsum (g.Out.drop i) ≤ 1000000 → E1 (fun K a => graph_List.l1 K g a ((g.Out.length : Nat) : Int) (i : Int) acc) (acc ++ prs i (g.Out.drop i)) := by
  have hl : g.Out.length ≤ 1000000 := by unfold GSm at hg; omega
  refine upto ?_ ?_
  · intro acc _
    refine step1 (fun _ _ _ _ _ => graph_List.l1.eq_2 ..) ?_
    rw [List.drop_length]
    exact negD (by omega) (nowE (by simp [prs]))
  · intro i hi ih acc ha
    refine step1 (fun _ _ _ _ _ => graph_List.l1.eq_2 ..) ?_
    rw [drop_getD (d := []) hi, lsum_cons] at ha
    refine posD (by omega) (pos (by omega) ?_)
    rw [rd1N]
    refine (glist_l2 (go := fun K a => graph_List.l1 K g a) (g := g) (L := g.Out.getD i []) (by omega) (by omega) 0 (by omega) acc (by omega) ?_).e2
    have := ih (acc ++ (g.Out.getD i []).map (fun b => ((i : Int), b))) (by rw [List.length_append, List.length_map]; omega)
    rw [drop_getD (d := []) hi, prs, ← List.append_assoc]
    exact this
theorem glist_ev {g : api_Graph} (hg : GSm g) : E0 (fun K => graph_List K g) (prs 0 g.Out) := by
  have := (glist_l1 hg 0 (by omega) [] (by unfold GSm at hg; simp; omega)).e1
  rw [List.nil_append, List.drop_zero] at this
  exact this
theorem holds_ev {g : api_Graph} (h : GraphP g) (p : api_Pair) : E0 (fun K => graph_holds K g p) (decide (HasE g p.A p.B)) := by
  have hgl := gout_len h
  obtain ⟨h0, h1, h2, _⟩ := h
  refine bnd (gIs_ev g p.A) ?_
  by_cases c : 0 ≤ p.A ∧ p.A < g.N
  · refine pos (by simpa using c) (pos (by omega) ?_)
    have e : nth g.Out p.A = g.Out.getD p.A.toNat [] := rfl
    rw [e]
    exact bnd (contains_ev _ _ (hgl _)) (nowE (decide_eq_decide.2 ⟨fun k => ⟨c.1, c.2, k⟩, fun k => k.2.2⟩))
  · exact neg (by simpa using c) (nowE (decide_eq_false fun k => c ⟨k.1, k.2.1⟩).symm)
def keep (g : api_Graph) (p : api_Pair) : Bool := !decide (HasE g p.A p.B)
def ixP (g : api_Graph) : List api_Pair → Nat → Int
  | [], _ => -1
  | p :: l, i => if HasE g p.A p.B then (i : Int) else ixP g l (i + 1)
theorem ixP_spec {g : api_Graph} : ∀ (l : List api_Pair) (i : Nat), (ixP g l i = -1 ∧ l.filter (keep g) = l) ∨ ∃ j, ixP g l i = ((i + j : Nat) : Int) ∧ j < l.length ∧ (l.take (j + 1)).filter (keep g) = l.take j
  | [], i => .inl ⟨rfl, rfl⟩
  | p :: l, i => by
    unfold ixP
    by_cases e : HasE g p.A p.B
    · rw [if_pos e]
      refine .inr ⟨0, by simp, by simp, ?_⟩
      simp [keep, e]
    · rw [if_neg e]
      have hk : keep g p = true := by simp [keep, e]
      rcases ixP_spec l (i + 1) with ⟨h1, h2⟩ | ⟨j, h1, h2, h3⟩
      · exact .inl ⟨h1, by rw [List.filter_cons_of_pos hk, h2]⟩
      · refine .inr ⟨j + 1, by rw [h1]; congr 1; omega, by simpa using h2, ?_⟩
        rw [List.take_succ_cons, List.filter_cons_of_pos hk, h3, List.take_succ_cons]
theorem ixP_ev {g : api_Graph} (h : GraphP g) (l : List api_Pair) (hl : l.length ≤ 1000000) : E0 (fun K => slices_IndexFunc___api_Pair_api_Pair__graph_More_1 K l g) (ixP g l 0) := by
  have key : ∀ i, i ≤ l.length → E1 (fun K k => slices_IndexFunc___api_Pair_api_Pair__graph_More_1.l1 K l k g ((l.length : Nat) : Int) (i : Int)) (ixP g (l.drop i) i) := by
    refine upto ?_ ?_
    · refine step1 (fun _ _ _ _ _ => slices_IndexFunc___api_Pair_api_Pair__graph_More_1.l1.eq_2 ..) ?_
      rw [List.drop_length]
      exact negD (by omega) (now _)
    · intro i hi ih
      refine step1 (fun _ _ _ _ _ => slices_IndexFunc___api_Pair_api_Pair__graph_More_1.l1.eq_2 ..) ?_
      refine posD (by omega) (pos (by omega) (bnd (bnd (holds_ev h _) (now _)) ?_))
      rw [nthN, drop_getD (d := default) hi, ixP]
      by_cases e : HasE g (l.getD i default).A (l.getD i default).B
      · rw [if_pos e]; exact pos (by simpa using e) (now _)
      · rw [if_neg e]
        refine neg (by simpa using e) ?_
        rw [w1 (by omega)]; exact ih
  exact (key 0 (by omega)).e1
theorem del_l1 {g : api_Graph} (h : GraphP g) {l : List api_Pair} (hl : l.length ≤ 1000000) : ∀ j, j ≤ l.length → ∀ (i : Nat) (s : List api_Pair), s.length = l.length → i ≤ j → s.take i = (l.take j).filter (keep g) → s.drop j = l.drop j →
    E1 (fun K a => slices_DeleteFunc___api_Pair_api_Pair__graph_More_1.l1 K a g (i : Int) (j : Int) s) (l.filter (keep g)) := by
  refine upto ?_ ?_
  · intro i s hs hij ht hd
    refine step1 (fun _ _ _ _ _ => slices_DeleteFunc___api_Pair_api_Pair__graph_More_1.l1.eq_2 ..) ?_
    rw [List.take_length] at ht
    have hlen : (ovp s (0 + (i : Int).toNat) (List.replicate (((s.length : Nat) : Int).toNat - (i : Int).toNat) ((0, 0) : api_Pair))).length = s.length := by simp [ovp]; omega
    refine negD (by omega) (pos (by omega) (pos (by rw [hlen]; omega) (nowE ?_)))
    rw [← ht]
    simp only [ovp, Int.toNat_natCast, Nat.zero_add, List.append_assoc]
    rw [List.take_append_of_le_length (by simp; omega), List.take_take, Nat.min_self]
  · intro j hj ih i s hs hij ht hd
    refine step1 (fun _ _ _ _ _ => slices_DeleteFunc___api_Pair_api_Pair__graph_More_1.l1.eq_2 ..) ?_
    have hv : s.getD j default = l.getD j default := by
      have h1 := drop_getD (d := default) (show j < s.length by omega)
      have h2 := drop_getD (d := default) hj
      rw [hd, h2] at h1
      exact (List.cons_eq_cons.1 h1).1.symm
    have hd' : s.drop (j + 1) = l.drop (j + 1) := by
      have := congrArg (List.drop 1) hd
      rwa [List.drop_drop, List.drop_drop] at this
    refine posD (by omega) (pos (by omega) ?_)
    rw [nthN, hv, w1 (i := j) (by omega)]
    refine bnd (bnd (holds_ev h _) (now _)) ?_
    by_cases c : HasE g (l.getD j default).A (l.getD j default).B
    · have hk : keep g (l.getD j default) = false := by unfold keep; rw [decide_eq_true c]; rfl
      refine neg (by simpa using c) (ih i s hs (by omega) ?_ hd')
      rw [take_getD (d := default) hj, List.filter_append, ht, List.filter_cons_of_neg (by rw [hk]; decide), List.filter_nil, List.append_nil]
    · refine pos (by simpa using c) (pos (by omega) ?_)
      rw [w1 (i := i) (by omega), Int.toNat_natCast]
      refine ih (i + 1) _ (by rw [List.length_set]; exact hs) (by omega) ?_ ?_
      · rw [take_getD (d := default) hj, List.filter_append, ← ht]
        have hk : keep g (l.getD j default) = true := by unfold keep; rw [decide_eq_false c]; rfl
        rw [List.filter_cons_of_pos hk, List.filter_nil]
        rw [take_getD (d := default) (show i < (s.set i (l.getD j default)).length by rw [List.length_set]; omega), getD_set _ _ _ _ (by omega), if_pos rfl, List.take_set_of_le (Nat.le_refl i)]
      · rw [List.drop_set, if_pos (by omega)]; exact hd'
theorem del_ev {g : api_Graph} (h : GraphP g) (l : List api_Pair) (hl : l.length ≤ 1000000) : E0 (fun K => slices_DeleteFunc___api_Pair_api_Pair__graph_More_1 K l g) (l.filter (keep g)) := by
  refine bnd (ixP_ev h l hl) ?_
  rcases ixP_spec (g := g) l 0 with ⟨h1, h2⟩ | ⟨j, h1, h2, h3⟩
  · rw [h1, h2]; exact posE rfl (now _)
  · rw [Nat.zero_add] at h1
    rw [h1]
    refine negE (by omega) ?_
    rw [w1 (by omega)]
    exact (del_l1 h hl (j + 1) (by omega) j l rfl (by omega) h3.symm rfl).e1
theorem more_ev {a b : api_Graph} (ha : GraphP a) (hb : GraphP b) : E0 (fun K => graph_More K a b) ((prs 0 b.Out).filter (keep a)) :=
  bnd (glist_ev hb.sm) (bnd (del_ev ha _ (by rw [prs_len]; have := hb.sm; unfold GSm at this; omega)) (now _))
theorem gdiff_ev {a b : api_Graph} (ha : GraphP a) (hb : GraphP b) : E0 (fun K => graph_Diff K a b) ((prs 0 b.Out).filter (keep a), (prs 0 a.Out).filter (keep b), 0) :=
  bnd (gmayG_ev a ha.sm) (negM ha (bnd (gmayG_ev b hb.sm) (negM hb (bnd (more_ev ha hb) (bnd (more_ev hb ha) (now _))))))
theorem eqp_ev (xs : List api_Pair) (hl : xs.length ≤ 1000000) : E0 (fun K => herbariumref0_EqPairs K xs xs) true := by
  have key : ∀ i, i ≤ xs.length → E1 (fun K k => herbariumref0_EqPairs.l1 K xs xs k (i : Int)) true := by
    refine upto ?_ ?_
    · refine step1 (fun _ _ _ _ _ => herbariumref0_EqPairs.l1.eq_2 ..) ?_
      exact negD (by omega) (now _)
    · intro i hi ih
      refine step1 (fun _ _ _ _ _ => herbariumref0_EqPairs.l1.eq_2 ..) ?_
      refine posD (by omega) (pos (by omega) (pos (by omega) (negB (by simp) ?_)))
      rw [w1 (by omega)]; exact ih
  exact negN rfl (key 0 (by omega)).e1
def sumR : Nat → (Nat → Nat) → Nat
  | 0, _ => 0
  | n + 1, f => sumR n f + f n
theorem sumR_congr {f g : Nat → Nat} : ∀ n, (∀ i, i < n → f i = g i) → sumR n f = sumR n g
  | 0, _ => rfl
  | n + 1, h => by rw [sumR, sumR, sumR_congr n fun i hi => h i (by omega), h n (by omega)]
theorem sumR_add {f g : Nat → Nat} : ∀ n, sumR n (fun i => f i + g i) = sumR n f + sumR n g
  | 0 => rfl
  | n + 1 => by rw [sumR, sumR, sumR, sumR_add n]; omega
theorem sumR_0 : ∀ n, sumR n (fun _ => 0) = 0
  | 0 => rfl
  | n + 1 => by rw [sumR, sumR_0 n]
theorem sumR_one {x : Nat} : ∀ n, sumR n (fun i => if i = x then 1 else 0) = if x < n then 1 else 0
  | 0 => by simp [sumR]
  | n + 1 => by
    rw [sumR, sumR_one n]
    by_cases c : n = x
    · subst c; simp
    · rw [if_neg c]
      by_cases d : x < n
      · rw [if_pos d, if_pos (by omega)]
      · rw [if_neg d, if_neg (by omega)]
theorem cnt_row {L : List Int} (h : L.Pairwise (· < ·)) (hb : ∀ x ∈ L, 0 ≤ x ∧ x ≤ 15) (p : Int → Bool) : (L.filter p).length = sumR 16 (fun b => if (b : Int) ∈ L ∧ p (b : Int) = true then 1 else 0) := by
  induction L with
  | nil => simp only [List.not_mem_nil, false_and, if_false]; exact (sumR_0 16).symm
  | cons x L ih =>
    obtain ⟨h1, h2⟩ := List.pairwise_cons.1 h
    have ih := ih h2 fun y hy => hb y (List.mem_cons_of_mem _ hy)
    have hx := hb x List.mem_cons_self
    obtain ⟨n, rfl⟩ := Int.eq_ofNat_of_zero_le hx.1
    have hn : (n : Int) ∉ L := fun k => by have := h1 _ k; omega
    have e : ∀ b : Nat, (if (b : Int) ∈ (n : Int) :: L ∧ p (b : Int) = true then 1 else 0) = (if (b : Int) ∈ L ∧ p (b : Int) = true then 1 else 0) + if b = n then (if p (n : Int) = true then 1 else 0) else 0 := by
      intro b
      by_cases c : b = n
      · rw [c, if_pos rfl]
        have z1 : (if (n : Int) ∈ L ∧ p (n : Int) = true then 1 else 0) = 0 := if_neg fun z => hn z.1
        rw [z1, Nat.zero_add]
        by_cases d : p (n : Int) = true
        · rw [if_pos ⟨List.mem_cons_self, d⟩, if_pos d]
        · rw [if_neg fun z => d z.2, if_neg d]
      · rw [if_neg c, Nat.add_zero]
        have : ((b : Int) ∈ (n : Int) :: L) ↔ (b : Int) ∈ L := by
          rw [List.mem_cons]
          exact ⟨fun k => k.resolve_left fun e => c (by omega), .inr⟩
        simp only [this]
    rw [sumR_congr 16 fun b _ => e b, sumR_add, ← ih]
    by_cases c : p (n : Int) = true
    · rw [List.filter_cons_of_pos c, List.length_cons, if_pos c, sumR_one, if_pos (by omega)]
    · rw [List.filter_cons_of_neg c, if_neg c]
      have : ∀ b : Nat, (if b = n then 0 else 0) = 0 := fun b => by split <;> rfl
      rw [sumR_congr 16 fun b _ => this b, sumR_0]; rfl
def hasN (o : List (List Int)) (a : Nat) (b : Nat) : Prop := (b : Int) ∈ o.getD a []
instance (o : List (List Int)) (a b : Nat) : Decidable (hasN o a b) := by unfold hasN; infer_instance
theorem cnt_prs : ∀ (o : List (List Int)) (i : Nat) (p : api_Pair → Bool), (∀ L ∈ o, MayP L) → i + o.length ≤ 16 →
    ((prs i o).filter p).length = sumR 16 (fun a => sumR 16 (fun b => if i ≤ a ∧ hasN o (a - i) b ∧ p ((a : Int), (b : Int)) = true then 1 else 0))
  | [], i, p, _, _ => by
    have : ∀ a b : Nat, (if i ≤ a ∧ hasN [] (a - i) b ∧ p ((a : Int), (b : Int)) = true then 1 else 0) = 0 := fun a b => if_neg fun k => by have := k.2.1; simp [hasN] at this
    rw [sumR_congr 16 fun a _ => (sumR_congr 16 fun b _ => this a b).trans (sumR_0 16), sumR_0]; rfl
  | L :: o, i, p, hm, hl => by
    rw [List.length_cons] at hl
    have hL := (mayP_iff L).1 (hm L List.mem_cons_self)
    have ih := cnt_prs o (i + 1) p (fun M hM => hm M (List.mem_cons_of_mem _ hM)) (by omega)
    rw [prs, List.filter_append, List.length_append, ih, List.filter_map, List.length_map]
    have e0 : (L.filter (p ∘ fun b => ((i : Int), b))).length = sumR 16 (fun a => if a = i then sumR 16 (fun b => if (b : Int) ∈ L ∧ p ((i : Int), (b : Int)) = true then 1 else 0) else 0) := by
      rw [cnt_row hL.1 hL.2]
      generalize hS : sumR 16 (fun b => if (b : Int) ∈ L ∧ (p ∘ fun b => ((i : Int), b)) (b : Int) = true then 1 else 0) = S
      have hS' : sumR 16 (fun b => if (b : Int) ∈ L ∧ p ((i : Int), (b : Int)) = true then 1 else 0) = S := hS
      rw [hS']
      have : ∀ n, i < n → sumR n (fun a => if a = i then S else 0) = S := by
        intro n
        induction n with
        | zero => intro h; omega
        | succ n ihn =>
          intro h
          rw [sumR]
          by_cases c : n = i
          · subst c
            rw [if_pos rfl]
            have : sumR n (fun a => if a = n then S else 0) = 0 := by
              rw [sumR_congr n (g := fun _ => 0) fun a ha => if_neg (by omega), sumR_0]
            omega
          · rw [if_neg c, ihn (by omega)]; rfl
      exact (this 16 (by omega)).symm
    rw [e0, ← sumR_add]
    refine sumR_congr 16 fun a ha => ?_
    by_cases c : a = i
    · subst c
      rw [if_pos rfl]
      have z : ∀ b : Nat, (if a + 1 ≤ a ∧ hasN o (a - (a + 1)) b ∧ p ((a : Int), (b : Int)) = true then 1 else 0) = 0 := fun b => if_neg fun k => by omega
      rw [sumR_congr 16 fun b _ => z b, sumR_0, Nat.add_zero]
      refine sumR_congr 16 fun b _ => ?_
      have : hasN (L :: o) (a - a) b ↔ (b : Int) ∈ L := by unfold hasN; simp
      simp only [this, Nat.le_refl, true_and]
    · rw [if_neg c, Nat.zero_add]
      refine sumR_congr 16 fun b _ => ?_
      by_cases d : i ≤ a
      · have e1 : a - i = (a - (i + 1)) + 1 := by omega
        have : hasN (L :: o) (a - i) b ↔ hasN o (a - (i + 1)) b := by unfold hasN; rw [e1]; simp
        simp only [this, d, true_and]
        have d' : i + 1 ≤ a := by omega
        simp only [d', true_and]
      · rw [if_neg (fun k => by omega), if_neg (fun k => d k.1)]
theorem cnt_g {g : api_Graph} (h : GraphP g) (p : api_Pair → Bool) : ((prs 0 g.Out).filter p).length = sumR 16 (fun a => sumR 16 (fun b => if HasE g (a : Int) (b : Int) ∧ p ((a : Int), (b : Int)) = true then 1 else 0)) := by
  have hg := h.gp
  rw [cnt_prs g.Out 0 p hg.may (by have := hg.le; omega)]
  refine sumR_congr 16 fun a _ => sumR_congr 16 fun b _ => ?_
  have : (0 ≤ a ∧ hasN g.Out (a - 0) b ∧ p ((a : Int), (b : Int)) = true) ↔ (HasE g (a : Int) (b : Int) ∧ p ((a : Int), (b : Int)) = true) := by
    unfold hasN HasE
    rw [Nat.sub_zero, Int.toNat_natCast]
    refine ⟨fun k => ⟨⟨by omega, ?_, k.2.1⟩, k.2.2⟩, fun k => ⟨by omega, k.1.2.2, k.2⟩⟩
    have : a < g.Out.length := by
      apply Classical.byContradiction
      intro z
      have k1 := k.2.1
      rw [List.getD_eq_getElem?_getD, List.getElem?_eq_none (by omega)] at k1
      cases k1
    have := hg.n
    omega
  simp only [this]
theorem cnt_diff {a b : api_Graph} (ha : GraphP a) (hb : GraphP b) : (prs 0 a.Out).length + ((prs 0 b.Out).filter (keep a)).length = (prs 0 b.Out).length + ((prs 0 a.Out).filter (keep b)).length := by
  have t : ∀ l : List api_Pair, l.length = (l.filter fun _ => true).length := fun l => by rw [List.filter_eq_self.2 fun _ _ => rfl]
  rw [t (prs 0 a.Out), t (prs 0 b.Out), cnt_g ha, cnt_g hb, cnt_g ha, cnt_g hb, ← sumR_add, ← sumR_add]
  refine sumR_congr 16 fun x _ => ?_
  rw [← sumR_add, ← sumR_add]
  refine sumR_congr 16 fun y _ => ?_
  have e1 : (keep a ((x : Int), (y : Int)) = true) ↔ ¬ HasE a (x : Int) (y : Int) := by unfold keep; simp
  have e2 : (keep b ((x : Int), (y : Int)) = true) ↔ ¬ HasE b (x : Int) (y : Int) := by unfold keep; simp
  simp only [e1, e2]
  by_cases c1 : HasE a (x : Int) (y : Int) <;> by_cases c2 : HasE b (x : Int) (y : Int) <;> simp [c1, c2]
end
end Go.XL
end
section
namespace Go.XL
open Go.XM
set_option maxRecDepth 100000
theorem graphFull_plain (x : herbariumlaw6_Script) : herbariumlaw6_GraphFull 200 x = some true := by kernel_rfl
theorem graphFull_pure (x : herbariumlaw6_Script) : ∃ K, herbariumlaw6_GraphFull K x = some true := ⟨200, graphFull_plain x⟩
end Go.XL
end
section
namespace Go.XL
open Go.XM
def lo (b : Int) : List Int → Nat
  | [] => 0
  | x :: l => if x < b then lo b l + 1 else 0
theorem lo_le (b : Int) : ∀ l : List Int, lo b l ≤ l.length
  | [] => Nat.le_refl _
  | x :: l => by
    rw [lo]
    split
    · have := lo_le b l; simp; omega
    · simp
theorem lo_lt {b : Int} : ∀ {l : List Int}, l.Pairwise (· < ·) → ∀ h, h < l.length → (l.getD h 0 < b ↔ h < lo b l)
  | [], _, h, hh => by simp at hh
  | x :: l, hp, h, hh => by
    obtain ⟨p1, p2⟩ := List.pairwise_cons.1 hp
    rw [lo]
    cases h with
    | zero =>
      rw [List.getD_cons_zero]
      split
      · rename_i c; exact ⟨fun _ => by omega, fun _ => c⟩
      · rename_i c; exact ⟨fun k => absurd k c, fun k => by omega⟩
    | succ h =>
      rw [List.getD_cons_succ]
      have hl : h < l.length := by simpa using hh
      split
      · rw [lo_lt p2 h hl]; omega
      · rename_i c
        have := p1 _ (getD_mem (d := 0) hl)
        exact ⟨fun k => by omega, fun k => by omega⟩
theorem lo_mem {b : Int} {l : List Int} (hp : l.Pairwise (· < ·)) : b ∈ l ↔ lo b l < l.length ∧ l.getD (lo b l) 0 = b := by
  constructor
  · intro h
    obtain ⟨i, hi, e⟩ := List.mem_iff_getElem.1 h
    have e0 : l.getD i 0 = b := by rw [getD_lt hi]; exact e
    have h1 : ¬ i < lo b l := fun k => by have := (lo_lt (b := b) hp i hi).2 k; omega
    have hlt : lo b l < l.length := by omega
    refine ⟨hlt, ?_⟩
    have h2 : ¬ l.getD (lo b l) 0 < b := fun k => by have := (lo_lt (b := b) hp _ hlt).1 k; omega
    by_cases c : lo b l = i
    · rw [c, e0]
    · have := List.pairwise_iff_getElem.1 hp (lo b l) i hlt hi (by omega)
      rw [← getD_lt (d := 0) hlt, ← getD_lt (d := 0) hi] at this
      omega
  · rintro ⟨h1, h2⟩
    rw [← h2]; exact getD_mem h1
theorem less_ev (a b : Int) : E0 (fun K => cmp_Less_int_ K a b) (decide (a < b)) := by
  refine bnd (now _) (neg ?_ (now _))
  simp
theorem u64N {a : Int} (h : 0 ≤ a) (h2 : a < 9223372036854775808) : wr .u64 a = a := by
  show IntKind.wrap .u64 _ = _
  unfold IntKind.wrap
  simp only [IntKind.bits, IntKind.signed]
  simp
  omega
theorem half_eq {i j : Nat} (h : i + j < 4611686018427387904) : wr .i64 ((wr .u64 (wr .i64 ((i : Int) + (j : Int)))).fdiv (2 ^ min ((1 : Int)).toNat 64)) = (((i + j) / 2 : Nat) : Int) := by
  have e1 : wr .i64 ((i : Int) + (j : Int)) = ((i + j : Nat) : Int) := by rw [w64 (by omega) (by omega)]; omega
  have e2 : wr .u64 ((i + j : Nat) : Int) = ((i + j : Nat) : Int) := u64N (by omega) (by omega)
  have e3 : (2 : Int) ^ min ((1 : Int)).toNat 64 = 2 := by decide
  rw [e1, e2, e3]
  have e4 : (((i + j : Nat) : Int)).fdiv 2 = (((i + j) / 2 : Nat) : Int) := by
    rw [Int.fdiv_eq_ediv_of_nonneg _ (by omega)]; omega
  rw [e4, w64 (by omega) (by omega)]
theorem bs_l1 {b : Int} {l : List Int} (hp : l.Pairwise (· < ·)) (hl : l.length ≤ 1000000) : ∀ (d i j : Nat), j - i ≤ d → i ≤ lo b l → lo b l ≤ j → j ≤ l.length →
    E1 (fun K k => slices_BinarySearch___int_int_.l1 K l b k ((l.length : Nat) : Int) (i : Int) (j : Int)) ((lo b l : Int), decide (b ∈ l)) := by
  intro d
  induction d with
  | zero =>
    intro i j hd h1 h2 h3
    obtain rfl : i = lo b l := by omega
    refine step1 (fun _ _ _ _ _ => slices_BinarySearch___int_int_.l1.eq_2 ..) ?_
    refine negD (by omega) ?_
    by_cases c : lo b l < l.length
    · refine posD (by omega) (pos (by omega) ?_)
      rw [rdN]
      by_cases e : l.getD (lo b l) 0 = b
      · refine posE e (nowE ?_)
        rw [decide_eq_true ((lo_mem hp).2 ⟨c, e⟩)]
      · refine negE e (pos (by omega) (bnd (now _) (neg (by simp) (nowE ?_))))
        rw [decide_eq_false fun z => e ((lo_mem hp).1 z).2]
    · refine negD (by omega) (nowE ?_)
      rw [decide_eq_false fun z => c ((lo_mem hp).1 z).1]
  | succ d ih =>
    intro i j hd h1 h2 h3
    by_cases c : i < j
    · refine step1 (fun _ _ _ _ _ => slices_BinarySearch___int_int_.l1.eq_2 ..) ?_
      rw [half_eq (by omega)]
      have hm : (i + j) / 2 < l.length := by omega
      refine posD (by omega) (pos (by decide) (pos (by omega) (bnd (less_ev _ _) ?_)))
      rw [rdN]
      by_cases e : l.getD ((i + j) / 2) 0 < b
      · refine posD e ?_
        rw [w1 (by omega)]
        have := (lo_lt hp _ hm).1 e
        exact ih _ j (by omega) (by omega) h2 h3
      · refine negD e ?_
        have : ¬ (i + j) / 2 < lo b l := fun k => e ((lo_lt hp _ hm).2 k)
        exact ih i _ (by omega) h1 (by omega) (by omega)
    · exact ih i j (by omega) h1 h2 h3
theorem bs_ev {b : Int} {l : List Int} (hp : l.Pairwise (· < ·)) (hl : l.length ≤ 1000000) : E0 (fun K => slices_BinarySearch___int_int_ K l b) ((lo b l : Int), decide (b ∈ l)) :=
  (bs_l1 hp hl l.length 0 l.length (by omega) (by omega) (lo_le b l) (by omega)).e1
theorem row_pw {g : api_Graph} (h : GraphP g) (i : Nat) : (g.Out.getD i []).Pairwise (· < ·) := by
  by_cases c : i < g.Out.length
  · exact ((mayP_iff _).1 (h.2.2.2.1 i c).1).1
  · rw [List.getD_eq_getElem?_getD, List.getElem?_eq_none (by omega)]; exact List.Pairwise.nil
theorem row_mem {g : api_Graph} (h : GraphP g) {i : Nat} {b : Int} (hb : b ∈ g.Out.getD i []) : 0 ≤ b ∧ b < g.N := by
  have c : i < g.Out.length := by
    apply Classical.byContradiction
    intro c
    rw [List.getD_eq_getElem?_getD, List.getElem?_eq_none (by omega)] at hb
    cases hb
  obtain ⟨r1, r2⟩ := h.2.2.2.1 i c
  obtain ⟨p1, p2⟩ := (mayP_iff _).1 r1
  refine ⟨(p2 b hb).1, ?_⟩
  obtain ⟨k, hk, e⟩ := List.mem_iff_getElem.1 hb
  have hlast := r2 (by omega)
  by_cases c2 : k = (g.Out.getD i []).length - 1
  · rw [← c2, getD_lt hk, e] at hlast; exact hlast
  · have := List.pairwise_iff_getElem.1 p1 k ((g.Out.getD i []).length - 1) hk (by omega) (by omega)
    rw [← getD_lt (d := 0) (show (g.Out.getD i []).length - 1 < _ by omega), e] at this
    omega
end Go.XL
end
section
namespace Go.XL
open Go.XM
abbrev Z0 : api_Graph := (0, [])
def gr (g : api_Graph) (a : Int) : List Int := g.Out.getD a.toNat []
theorem rdR (g : api_Graph) (a : Int) : nth g.Out a = gr g a := rfl
theorem gr_pw {g : api_Graph} (h : GraphP g) (a : Int) : (gr g a).Pairwise (· < ·) := row_pw h a.toNat
def ins (b : Int) (l : List Int) : List Int := l.take (lo b l) ++ b :: l.drop (lo b l)
def rem (b : Int) (l : List Int) : List Int := l.take (lo b l) ++ l.drop (lo b l + 1)
def InV (g : api_Graph) (a : Int) : Prop := 0 ≤ a ∧ a < g.N
instance (g : api_Graph) (a : Int) : Decidable (InV g a) := by unfold InV; infer_instance
def addP (g : api_Graph) (a b : Int) : api_Graph × Int :=
  if ¬ InV g a then (Z0, 3) else if ¬ InV g b then (Z0, 3) else if HasE g a b then (Z0, 4) else if 120 ≤ lsum g.Out then (Z0, 2) else ((g.N, g.Out.set a.toNat (ins b (gr g a))), 0)
def cutP (g : api_Graph) (a b : Int) : api_Graph × Int := if ¬ HasE g a b then (Z0, 3) else ((g.N, g.Out.set a.toNat (rem b (gr g a))), 0)
theorem isV_ev (g : api_Graph) (a : Int) : E0 (fun K => graph_Is K g a) (decide (InV g a)) := ofEq (gIs_ev g a) (decide_eq_decide.2 Iff.rfl)
theorem asked_ev {g : api_Graph} (hs : GSm g) (a b : Int) : E0 (fun K => graph_asked K g a b) (if GraphP g then (if InV g a ∧ InV g b then 0 else 3) else 1) := by
  refine bnd (gmayG_ev g hs) ?_
  by_cases c : GraphP g
  · rw [if_pos c]
    refine negM c (bnd (isV_ev g a) ?_)
    by_cases c1 : InV g a
    · refine negM c1 (bnd (isV_ev g b) ?_)
      by_cases c2 : InV g b
      · exact ofEq (negM c2 (now _)) (if_pos ⟨c1, c2⟩).symm
      · exact ofEq (posM c2 (now _)) (if_neg (fun z => c2 z.2)).symm
    · exact ofEq (posM c1 (now _)) (if_neg (fun z => c1 z.1)).symm
  · rw [if_neg c]; exact posM c (now _)
theorem own_ev {g : api_Graph} (hs : GSm g) : E0 (fun K => graph_Own K g) g := by
  unfold GSm at hs
  refine pos ⟨?_, fun l hl => ?_⟩ (now _)
  · show g.Out.length * 24 ≤ _; omega
  · have := lsum_mem (show l ∈ g.Out from hl); omega
theorem gr_len {g : api_Graph} (h : GraphP g) (a : Int) : (gr g a).length ≤ 16 := by
  by_cases c : a.toNat < g.Out.length
  · exact (h.gp.may _ (getD_mem c)).len
  · show (g.Out.getD a.toNat []).length ≤ 16
    rw [List.getD_eq_getElem?_getD, List.getElem?_eq_none (by omega)]; simp
theorem hasE_iff {g : api_Graph} {a b : Int} (h : InV g a) : HasE g a b ↔ b ∈ gr g a := ⟨fun k => k.2.2, fun k => ⟨h.1, h.2, k⟩⟩
theorem gadd_ev {g : api_Graph} (hs : GSm g) (a b : Int) : E0 (fun K => graph_Add K g a b) (if GraphP g then addP g a b else (Z0, 1)) := by
  refine bnd (asked_ev hs a b) ?_
  by_cases c : GraphP g
  · rw [if_pos c, if_pos c]
    unfold addP
    by_cases c1 : InV g a
    · rw [if_neg (not_not_intro c1)]
      by_cases c2 : InV g b
      · rw [if_neg (not_not_intro c2), if_pos ⟨c1, c2⟩]
        have hn := c.2.2.1
        have hp := gr_pw c a
        have hl := gr_len c a
        obtain ⟨a1, a2⟩ := c1
        refine negN rfl (pos ⟨a1, by omega⟩ ?_)
        rw [rdR]
        refine bnd (bs_ev hp (by omega)) ?_
        by_cases c3 : b ∈ gr g a
        · rw [if_pos ((hasE_iff ⟨a1, a2⟩).2 c3)]
          exact pos (by simpa using c3) (now _)
        · rw [if_neg fun z => c3 ((hasE_iff ⟨a1, a2⟩).1 z)]
          refine neg (by simpa using c3) (bnd (many_ev g hs) ?_)
          by_cases c4 : 120 ≤ lsum g.Out
          · rw [if_pos c4]; exact posD (by omega) (now _)
          · rw [if_neg c4]
            refine negD (by omega) (bnd (own_ev hs) (pos ⟨a1, by omega⟩ ?_))
            rw [rdR]
            have hlo := lo_le b (gr g a)
            have e : ∀ K, slices_Insert___int_int_ K (gr g a) ((lo b (gr g a) : Nat) : Int) [b] = some (ins b (gr g a)) := fun K => by
              unfold slices_Insert___int_int_ insF
              rw [if_pos ⟨⟨by omega, by omega⟩, by omega⟩]
              rfl
            exact bnd (congr (fun K _ _ _ _ => e K) (now _)) (pos ⟨a1, by omega⟩ (pos rfl (now _)))
      · rw [if_pos c2, if_neg (fun z => c2 z.2)]; exact posN (by decide) (now _)
    · rw [if_pos c1, if_neg (fun z => c1 z.1)]; exact posN (by decide) (now _)
  · rw [if_neg c, if_neg c]; exact posN (by decide) (now _)
theorem gcut_ev {g : api_Graph} (hs : GSm g) (a b : Int) : E0 (fun K => graph_Cut K g a b) (if GraphP g then cutP g a b else (Z0, 1)) := by
  refine bnd (asked_ev hs a b) ?_
  by_cases c : GraphP g
  · rw [if_pos c, if_pos c]
    unfold cutP
    by_cases c1 : InV g a
    · by_cases c2 : InV g b
      · rw [if_pos ⟨c1, c2⟩]
        have hn := c.2.2.1
        have hp := gr_pw c a
        have hl := gr_len c a
        obtain ⟨a1, a2⟩ := c1
        refine negN rfl (pos ⟨a1, by omega⟩ ?_)
        rw [rdR]
        refine bnd (bs_ev hp (by omega)) ?_
        by_cases c3 : b ∈ gr g a
        · rw [if_neg (not_not_intro ((hasE_iff ⟨a1, a2⟩).2 c3))]
          refine neg (by simpa using c3) (bnd (own_ev hs) (pos ⟨a1, by omega⟩ ?_))
          rw [rdR]
          obtain ⟨k1, k2⟩ := (lo_mem hp).1 c3
          have k1 : lo b (gr g a) < (gr g a).length := k1
          have e : ∀ K, slices_Delete___int_int_ K (gr g a) ((lo b (gr g a) : Nat) : Int) (wr .i64 (((lo b (gr g a) : Nat) : Int) + 1)) = some (rem b (gr g a)) := fun K => by
            unfold slices_Delete___int_int_ delF
            rw [w1 (by omega), if_pos ⟨⟨by omega, by omega, by omega⟩, by omega, by omega⟩]
            rfl
          exact bnd (congr (fun K _ _ _ _ => e K) (now _)) (pos ⟨a1, by omega⟩ (pos rfl (now _)))
        · rw [if_pos fun z => c3 ((hasE_iff ⟨a1, a2⟩).1 z)]
          exact pos (by simpa using c3) (now _)
      · rw [if_pos fun z => c2 (row_mem c z.2.2), if_neg (fun z => c2 z.2)]; exact posN (by decide) (now _)
    · rw [if_pos fun z => c1 ⟨z.1, z.2.1⟩, if_neg (fun z => c1 z.1)]; exact posN (by decide) (now _)
  · rw [if_neg c, if_neg c]; exact posN (by decide) (now _)
theorem lsum_set : ∀ (xs : List (List Int)) (i : Nat) (y : List Int), i < xs.length → lsum (xs.set i y) + (xs.getD i []).length = lsum xs + y.length
  | x :: xs, 0, y, _ => by rw [List.set_cons_zero, lsum_cons, lsum_cons, List.getD_cons_zero]; omega
  | x :: xs, i + 1, y, h => by
    have := lsum_set xs i y (by simpa using h)
    rw [List.set_cons_succ, lsum_cons, lsum_cons, List.getD_cons_succ]; omega
end Go.XL
end
section
namespace Go.XL
open Go.XM
set_option maxRecDepth 100000
theorem wakes6j (j : Nat) : herbariumlaw6_wakes (j + 40) = some true := by kernel_rfl
theorem wakes6_ev : E0 (fun K => herbariumlaw6_wakes K) true :=
  ⟨40, fun K _ _ _ _ h _ _ _ _ => by
    obtain ⟨j, rfl⟩ : ∃ j, K = j + 40 := ⟨K - 40, by omega⟩
    exact wakes6j j⟩
variable {x : herbariumlaw6_Script} {gs : List api_Graph}
theorem le8 {n c : Nat} (h : n * c ≤ 140737488351232) (hc : 8 ≤ c) : n ≤ 17592186044416 := by
  have := Nat.mul_le_mul_left n hc
  omega
end Go.XL
end
section
namespace Go.XL
open Go.XM
theorem gedges_ev {g : api_Graph} (hs : GSm g) : E0 (fun K => graph_Edges K g) (if GraphP g then ((lsum g.Out : Int), 0) else (0, 1)) := by
  refine bnd (gmayG_ev g hs) ?_
  by_cases c : GraphP g
  · rw [if_pos c]; exact negM c (bnd (many_ev g hs) (now _))
  · rw [if_neg c]; exact posM c (now _)
theorem gpairs_ev {g : api_Graph} (hs : GSm g) : E0 (fun K => graph_Pairs K g) (if GraphP g then (prs 0 g.Out, 0) else ([], 1)) := by
  refine bnd (gmayG_ev g hs) ?_
  by_cases c : GraphP g
  · rw [if_pos c]; exact negM c (bnd (glist_ev hs) (now _))
  · rw [if_neg c]; exact posM c (now _)
def foldT : List api_Pair → List (List Int) → List (List Int)
  | [], x => x
  | p :: ps, x => foldT ps (x.set p.B.toNat (x.getD p.B.toNat [] ++ [p.A]))
theorem foldT_len : ∀ (ps : List api_Pair) (x : List (List Int)), (foldT ps x).length = x.length
  | [], _ => rfl
  | p :: ps, x => by rw [foldT, foldT_len ps, List.length_set]
theorem foldT_sum : ∀ (ps : List api_Pair) (x : List (List Int)), (∀ p ∈ ps, 0 ≤ p.B ∧ p.B < (x.length : Int)) → lsum (foldT ps x) = lsum x + ps.length
  | [], _, _ => rfl
  | p :: ps, x, h => by
    have hp := h p List.mem_cons_self
    have := lsum_set x p.B.toNat (x.getD p.B.toNat [] ++ [p.A]) (by omega)
    rw [foldT, foldT_sum ps _ (fun q hq => by rw [List.length_set]; exact h q (List.mem_cons_of_mem _ hq)), List.length_cons]
    rw [List.length_append, List.length_singleton] at this
    omega
theorem gturn_l1 {ps : List api_Pair} {r8 : api_Graph} (hl : ps.length ≤ 1000) : ∀ i, i ≤ ps.length → ∀ x : List (List Int), (∀ p ∈ ps, 0 ≤ p.B ∧ p.B < (x.length : Int)) → lsum x ≤ i →
    E1 (fun K k => graph_Turned.l1 K ps r8 k ((ps.length : Nat) : Int) (i : Int) 0 x) (r8.N, foldT (ps.drop i) x) := by
  refine upto ?_ ?_
  · intro x _ _
    refine step1 (fun _ _ _ _ _ => graph_Turned.l1.eq_2 ..) ?_
    rw [List.drop_length]
    exact negD (by omega) (now _)
  · intro i hi ih x hx hs
    refine step1 (fun _ _ _ _ _ => graph_Turned.l1.eq_2 ..) ?_
    have hp := hx _ (getD_mem (d := default) hi)
    have hm : (nth x (ps.getD i default).B).length ≤ lsum x := by
      obtain ⟨n, hn⟩ := Int.eq_ofNat_of_zero_le hp.1
      rw [hn, rd1N]
      exact lsum_mem (getD_mem (by omega))
    refine posD (by omega) (pos (by omega) ?_)
    rw [nthN]
    refine pos hp (pos (by rw [List.length_singleton]; omega) (pos hp (pos rfl ?_)))
    rw [w1 (by omega), drop_getD (d := default) hi, foldT]
    have e : nth x (ps.getD i default).B = x.getD (ps.getD i default).B.toNat [] := rfl
    rw [e]
    refine ih _ (fun q hq => by rw [List.length_set]; exact hx q hq) ?_
    have := lsum_set x (ps.getD i default).B.toNat (x.getD (ps.getD i default).B.toNat [] ++ [(ps.getD i default).A]) (by omega)
    rw [List.length_append, List.length_singleton] at this
    omega
theorem rturn_l1 {ps : List api_Pair} {r8 : api_Graph} (hl : ps.length ≤ 1000) : ∀ i, i ≤ ps.length → ∀ x : List (List Int), (∀ p ∈ ps, 0 ≤ p.B ∧ p.B < (x.length : Int)) → lsum x ≤ i →
    E1 (fun K k => herbariumref6_Turn.l1 K ps r8 k (i : Int) 0 x) (r8.N, foldT (ps.drop i) x) := by
  refine upto ?_ ?_
  · intro x _ _
    refine step1 (fun _ _ _ _ _ => herbariumref6_Turn.l1.eq_2 ..) ?_
    rw [List.drop_length]
    exact negD (by omega) (now _)
  · intro i hi ih x hx hs
    refine step1 (fun _ _ _ _ _ => herbariumref6_Turn.l1.eq_2 ..) ?_
    have hp := hx _ (getD_mem (d := default) hi)
    have hm : (nth x (ps.getD i default).B).length ≤ lsum x := by
      obtain ⟨n, hn⟩ := Int.eq_ofNat_of_zero_le hp.1
      rw [hn, rd1N]
      exact lsum_mem (getD_mem (by omega))
    refine posD (by omega) (pos (by omega) (pos (by omega) ?_))
    rw [nthN]
    refine pos hp (pos (by omega) (pos (by rw [List.length_singleton]; omega) (pos hp (pos rfl ?_))))
    rw [w1 (by omega), drop_getD (d := default) hi, foldT]
    have e : nth x (ps.getD i default).B = x.getD (ps.getD i default).B.toNat [] := rfl
    rw [e]
    refine ih _ (fun q hq => by rw [List.length_set]; exact hx q hq) ?_
    have := lsum_set x (ps.getD i default).B.toNat (x.getD (ps.getD i default).B.toNat [] ++ [(ps.getD i default).A]) (by omega)
    rw [List.length_append, List.length_singleton] at this
    omega
theorem prs_mem : ∀ (o : List (List Int)) (i : Nat) (p : api_Pair), p ∈ prs i o ↔ ∃ k, k < o.length ∧ p.A = ((i + k : Nat) : Int) ∧ p.B ∈ o.getD k []
  | [], i, p => by simp [prs]
  | out :: r, i, p => by
    rw [prs, List.mem_append, prs_mem r (i + 1) p]
    constructor
    · rintro (h | ⟨k, h1, h2, h3⟩)
      · obtain ⟨b, hb, rfl⟩ := List.mem_map.1 h
        exact ⟨0, by simp, by simp, by simpa using hb⟩
      · exact ⟨k + 1, by simpa using h1, by rw [h2]; congr 1; omega, by simpa using h3⟩
    · rintro ⟨k, h1, h2, h3⟩
      cases k with
      | zero => exact .inl (List.mem_map.2 ⟨p.B, by simpa using h3, Prod.ext (by rw [show (p.1 : Int) = p.A from rfl, h2]; simp) rfl⟩)
      | succ k => exact .inr ⟨k, by simpa using h1, by rw [h2]; congr 1; omega, by simpa using h3⟩
theorem prs_has {g : api_Graph} (h : GraphP g) (p : api_Pair) : p ∈ prs 0 g.Out ↔ HasE g p.A p.B := by
  have hn := h.2.2.1
  rw [prs_mem]
  constructor
  · rintro ⟨k, h1, h2, h3⟩
    rw [Nat.zero_add] at h2
    exact ⟨by omega, by omega, by rw [h2, Int.toNat_natCast]; exact h3⟩
  · rintro ⟨h1, h2, h3⟩
    exact ⟨p.A.toNat, by omega, by omega, h3⟩
theorem prs_B {g : api_Graph} (h : GraphP g) : ∀ p ∈ prs 0 g.Out, 0 ≤ p.B ∧ p.B < g.N := fun p hp => row_mem h ((prs_has h p).1 hp).2.2
theorem prs_120 {g : api_Graph} (h : GraphP g) : (prs 0 g.Out).length ≤ 120 := by rw [prs_len]; exact h.2.2.2.2
abbrev rep (g : api_Graph) : List (List Int) := List.replicate g.N.toNat []
theorem rep_0 (k : Nat) : lsum (List.replicate k []) = 0 := by induction k with | zero => rfl | succ k ih => rw [List.replicate_succ, lsum_cons, ih]; rfl
def turnP (g : api_Graph) : api_Graph := (g.N, foldT (prs 0 g.Out) (rep g))
theorem gturn_ev {g : api_Graph} (hs : GSm g) : E0 (fun K => graph_Turn K g) (if GraphP g then (turnP g, 0) else (Z0, 1)) := by
  refine bnd (gmayG_ev g hs) ?_
  by_cases c : GraphP g
  · rw [if_pos c]
    have h0 := c.1
    have h1 := c.2.1
    have h2 := prs_120 c
    refine negM c (bnd (bnd (pos (by omega) (now _)) (bnd (glist_ev hs) ?_)) (now _))
    have := (gturn_l1 (ps := prs 0 g.Out) (r8 := (g.N, rep g)) (by omega) 0 (by omega) (rep g) (fun p hp => by have := prs_B c p hp; rw [List.length_replicate]; omega) (by rw [rep_0]; omega)).e1
    exact this
  · rw [if_neg c]; exact posM c (now _)
theorem rpairs_l2 {g : api_Graph} {go : Nat → Nat → Int → List api_Pair → Option (List api_Pair)} {i : Nat} (hi : i < g.Out.length) (hl : (g.Out.getD i []).length ≤ 1000) {v : List api_Pair} : ∀ j, j ≤ (g.Out.getD i []).length → ∀ acc : List api_Pair, acc.length + ((g.Out.getD i []).length - j) ≤ 1000000 →
    E1 (fun K a => go K a (wr .i64 ((i : Int) + 1)) (acc ++ ((g.Out.getD i []).drop j).map (fun b => ((i : Int), b)))) v → E2 (fun K a b => herbariumref6_Pairs.l2 K (go K a) (i : Int) g b (j : Int) acc) v := by
  refine upto ?_ ?_
  · intro acc _ hv
    refine step2 (fun _ _ _ _ _ => herbariumref6_Pairs.l2.eq_2 ..) ?_
    rw [List.drop_length, List.map_nil, List.append_nil] at hv
    rw [rd1N]
    exact pos (by omega) (negD (by omega) hv)
  · intro j hj ih acc ha hv
    refine step2 (fun _ _ _ _ _ => herbariumref6_Pairs.l2.eq_2 ..) ?_
    rw [rd1N, rdN]
    refine pos (by omega) (posD (by omega) (pos (by omega) (pos (by omega) (pos (by simp; omega) ?_))))
    rw [w1 (by omega)]
    refine ih _ (by rw [List.length_append, List.length_singleton]; omega) ?_
    rw [drop_getD (d := 0) hj] at hv
    rw [List.append_assoc]; exact hv
theorem rpairs_ev {g : api_Graph} (h : GraphP g) : E0 (fun K => herbariumref6_Pairs K g) (prs 0 g.Out) := by
  have hn := h.2.2.1
  have h16 := h.2.1
  have key : ∀ i, i ≤ g.Out.length → ∀ acc : List api_Pair, acc.length + lsum (g.Out.drop i) ≤ 1000000 → E1 (fun K a => herbariumref6_Pairs.l1 K g a (i : Int) acc) (acc ++ prs i (g.Out.drop i)) := by
    refine upto ?_ ?_
    · intro acc _
      refine step1 (fun _ _ _ _ _ => herbariumref6_Pairs.l1.eq_2 ..) ?_
      rw [List.drop_length]
      exact negD (by omega) (nowE (by simp [prs]))
    · intro i hi ih acc ha
      refine step1 (fun _ _ _ _ _ => herbariumref6_Pairs.l1.eq_2 ..) ?_
      have hl := (h.gp.may _ (getD_mem (d := []) hi)).len
      rw [drop_getD (d := []) hi, lsum_cons] at ha
      refine posD (by omega) ?_
      refine (rpairs_l2 (go := fun K a => herbariumref6_Pairs.l1 K g a) hi (by omega) 0 (by omega) acc (by omega) ?_).e2
      rw [w1 (by omega)]
      have := ih (acc ++ (g.Out.getD i []).map (fun b => ((i : Int), b))) (by rw [List.length_append, List.length_map]; omega)
      rw [drop_getD (d := []) hi, prs, ← List.append_assoc]
      exact this
  have := (key 0 (by omega) [] (by have := h.2.2.2.2; simp; omega)).e1
  rw [List.nil_append, List.drop_zero] at this
  exact this
theorem rturn_ev {g : api_Graph} (h : GraphP g) : E0 (fun K => herbariumref6_Turn K g) (turnP g) := by
  have h0 := h.1
  have h1 := h.2.1
  have h2 := prs_120 h
  refine bnd (pos (by omega) (now _)) (bnd (rpairs_ev h) ?_)
  exact (rturn_l1 (ps := prs 0 g.Out) (r8 := (g.N, rep g)) (by omega) 0 (by omega) (rep g) (fun p hp => by have := prs_B h p hp; rw [List.length_replicate]; omega) (by rw [rep_0]; omega)).e1
theorem rless_ev {a b : api_Graph} (ha : GraphP a) (hb : GraphP b) : E0 (fun K => herbariumref6_Less K a b) ((prs 0 a.Out).filter (keep b)) := by
  have h2 := prs_120 ha
  refine bnd (rpairs_ev ha) ?_
  generalize prs 0 a.Out = ps at h2
  have key : ∀ i, i ≤ ps.length → ∀ acc : List api_Pair, acc.length ≤ i → E1 (fun K k => herbariumref6_Less.l1 K ps b k (i : Int) acc) (acc ++ (ps.drop i).filter (keep b)) := by
    refine upto ?_ ?_
    · intro acc _
      refine step1 (fun _ _ _ _ _ => herbariumref6_Less.l1.eq_2 ..) ?_
      rw [List.drop_length]
      exact negD (by omega) (nowE (by simp))
    · intro i hi ih acc hc
      refine step1 (fun _ _ _ _ _ => herbariumref6_Less.l1.eq_2 ..) ?_
      refine posD (by omega) (pos (by omega) (pos (by omega) ?_))
      rw [nthN, drop_getD (d := default) hi, w1 (by omega)]
      refine bnd (rhas_ev hb _ _) ?_
      by_cases c : HasE b (ps.getD i default).A (ps.getD i default).B
      · have hk : keep b (ps.getD i default) = false := by unfold keep; rw [decide_eq_true c]; rfl
        rw [List.filter_cons_of_neg (by rw [hk]; decide)]
        exact negM c (ih acc (by omega))
      · have hk : keep b (ps.getD i default) = true := by unfold keep; rw [decide_eq_false c]; rfl
        rw [List.filter_cons_of_pos hk]
        refine posM c (pos (by omega) (pos (by simp; omega) ?_))
        have := ih (acc ++ [ps.getD i default]) (by simp; omega)
        rwa [List.append_assoc] at this
  have := (key 0 (by omega) [] (by simp)).e1
  simpa using this
theorem lawP_ev (xs : List api_Pair) (hl : xs.length ≤ 1000000) : E0 (fun K => herbariumlaw0_Pairs K xs) () := by
  have key : ∀ i, i ≤ xs.length → ∀ ys : List api_Pair, ys.length = xs.length → E1 (fun K k => herbariumlaw0_Pairs.l1 K k (i : Int) ys) () := by
    refine upto ?_ ?_
    · intro ys hy
      refine step1 (fun _ _ _ _ _ => herbariumlaw0_Pairs.l1.eq_2 ..) ?_
      exact negD (by omega) (now _)
    · intro i hi ih ys hy
      refine step1 (fun _ _ _ _ _ => herbariumlaw0_Pairs.l1.eq_2 ..) ?_
      refine posD (by omega) (pos (by omega) ?_)
      rw [w1 (by omega)]
      exact ih _ (by rw [List.length_set]; exact hy)
  exact (key 0 (by omega) xs rfl).e1
theorem gdiff_any {a b : api_Graph} (ha : GSm a) (hb : GSm b) : E0 (fun K => graph_Diff K a b) (if GraphP a ∧ GraphP b then ((prs 0 b.Out).filter (keep a), (prs 0 a.Out).filter (keep b), 0) else ([], [], 1)) := by
  by_cases c : GraphP a ∧ GraphP b
  · rw [if_pos c]; exact gdiff_ev c.1 c.2
  · rw [if_neg c]
    refine bnd (gmayG_ev a ha) ?_
    by_cases d : GraphP a
    · exact negM d (bnd (gmayG_ev b hb) (posM (fun e => c ⟨d, e⟩) (now _)))
    · exact posM d (now _)
theorem turn_sm {g : api_Graph} (h : GraphP g) : GSm (turnP g) := by
  have h0 := h.1
  have h1 := h.2.1
  have h2 := prs_120 h
  show (foldT _ _).length + lsum (foldT _ _) ≤ _
  rw [foldT_len, foldT_sum _ _ (fun p hp => by have := prs_B h p hp; rw [List.length_replicate]; omega), rep_0, List.length_replicate]
  omega
variable {x : herbariumlaw6_Script}
theorem gd_j4 {go1 : Nat → Nat → Int → Option Bool} {go3 : Nat → Nat → Nat → Int → Option Bool} {i k : Nat} (hi : i < x.G.length) (hk : k < 5) {g : api_Graph} (hx : x.G.getD i zG = g) (hs : GSm g) {m l : List api_Pair} {e : Int} (hm : m.length ≤ 1000) (hl : l.length ≤ 1000) {r : Bool}
    (h3 : E2 (fun K a b => go3 K a b ((k + 1 : Nat) : Int)) true) : E2 (fun K a b => herbariumlaw6_GraphDiffs.j4 K (go1 K a) (go3 K a b) (m, l, e) g r (i : Int) (k : Int) x e m l) true := by
  refine bnd (now _) (negN rfl (bnd (eqp_ev m (by omega)) (negB rfl (bnd (eqp_ev l (by omega)) (negB rfl (pos (by omega) ?_))))))
  rw [rdG, hx, w1 (by omega)]
  exact bnd (eqG_ev g hs) (negB rfl h3)
theorem gd_l3 (hG : ∀ g ∈ x.G, GSm g) {go1 : Nat → Nat → Int → Option Bool} {i : Nat} (hi : i < x.G.length) (hi5 : i < 5) {g : api_Graph} (hx : x.G.getD i zG = g) (hs : GSm g) (h1 : E1 (fun K a => go1 K a ((i + 1 : Nat) : Int)) true) :
    ∀ k : Nat, k ≤ 5 → E2 (fun K a b => herbariumlaw6_GraphDiffs.l3 K (go1 K a) g (decide (GraphP g)) (i : Int) x b (k : Int)) true := by
  have out : E2 (fun K a _ => go1 K a (wr .i64 ((i : Int) + 1))) true := by rw [w1 (by omega)]; exact h1
  refine upto ?_ ?_
  · refine step2 (fun _ _ _ _ _ => herbariumlaw6_GraphDiffs.l3.eq_2 ..) ?_
    by_cases c : 5 < x.G.length
    · exact posD (by omega) (negD (by omega) out)
    · exact negD (by omega) out
  · intro k hk ih
    refine step2 (fun _ _ _ _ _ => herbariumlaw6_GraphDiffs.l3.eq_2 ..) ?_
    by_cases c : k < x.G.length
    · have hs2 := hG _ (getD_mem (d := zG) c)
      refine posD (by omega) (posD (by omega) (pos (by omega) ?_))
      rw [rdG]
      generalize hh : x.G.getD k zG = h at hs2
      have gd := gdiff_any hs hs2
      by_cases c1 : GraphP g
      · by_cases c2 : GraphP h
        · rw [if_pos ⟨c1, c2⟩] at gd
          have f1 := List.length_filter_le (keep g) (prs 0 h.Out)
          have f2 := List.length_filter_le (keep h) (prs 0 g.Out)
          have p1 := prs_120 c1
          have p2 := prs_120 c2
          refine bnd gd (pos (by simpa using c1) (pos (by omega) (bnd (rgraph_ev h hs2) (pos (by simpa using c2) (pos (by omega) ?_)))))
          rw [rdG, hh]
          refine bnd (rless_ev c2 c1) (pos (by omega) (bnd (rless_ev c1 c2) ?_))
          exact gd_j4 (go1 := go1) (go3 := fun K a b => herbariumlaw6_GraphDiffs.l3 K (go1 K a) g (decide (GraphP g)) (i : Int) x b) hi hk hx hs (by omega) (by omega) ih
        · rw [if_neg fun z => c2 z.2] at gd
          refine bnd gd (pos (by simpa using c1) (pos (by omega) (bnd (rgraph_ev h hs2) (neg (by simpa using c2) ?_))))
          exact gd_j4 (go1 := go1) (go3 := fun K a b => herbariumlaw6_GraphDiffs.l3 K (go1 K a) g (decide (GraphP g)) (i : Int) x b) hi hk hx hs (m := []) (l := []) (e := 1) (by simp) (by simp) ih
      · rw [if_neg fun z => c1 z.1] at gd
        refine bnd gd (neg (by simpa using c1) (neg (by decide) ?_))
        exact gd_j4 (go1 := go1) (go3 := fun K a b => herbariumlaw6_GraphDiffs.l3 K (go1 K a) g (decide (GraphP g)) (i : Int) x b) hi hk hx hs (m := []) (l := []) (e := 1) (by simp) (by simp) ih
    · exact negD (by omega) out
theorem gd_l1 (hG : ∀ g ∈ x.G, GSm g) : ∀ i : Nat, i ≤ 5 → E1 (fun K a => herbariumlaw6_GraphDiffs.l1 K x a (i : Int)) true := by
  refine upto ?_ ?_
  · refine step1 (fun _ _ _ _ _ => herbariumlaw6_GraphDiffs.l1.eq_2 ..) ?_
    by_cases c : 5 < x.G.length
    · exact posD (by omega) (negD (by omega) (bnd wakes6_ev (now _)))
    · exact negD (by omega) (bnd wakes6_ev (now _))
  · intro i hi ih
    refine step1 (fun _ _ _ _ _ => herbariumlaw6_GraphDiffs.l1.eq_2 ..) ?_
    by_cases c : i < x.G.length
    · have hs := hG _ (getD_mem (d := zG) c)
      refine posD (by omega) (posD (by omega) (pos (by omega) ?_))
      rw [rdG]
      generalize hh : x.G.getD i zG = g at hs
      refine bnd (copyG_ev g hs) (pos (by omega) (bnd (rgraph_ev g hs) (bnd (gedges_ev hs) (bnd (gpairs_ev hs) (bnd (gturn_ev hs) ?_)))))
      have fin := (gd_l3 (go1 := fun K a => herbariumlaw6_GraphDiffs.l1 K x a) hG c hi hh hs ih 0 (by omega)).e2
      by_cases c1 : GraphP g
      · rw [if_pos c1, if_pos c1, if_pos c1]
        have p1 := prs_120 c1
        refine pos (by simpa using c1) (bnd (redges_ev hs) (bnd (rpairs_ev c1) (bnd (rturn_ev c1) ?_)))
        refine bnd (now _) (negN rfl (bnd (now _) (negN rfl (bnd (now _) (negN rfl (negN rfl (bnd (eqp_ev _ (by show (prs 0 g.Out).length ≤ _; omega)) (negB rfl (bnd (eqG_ev (turnP g) (turn_sm c1)) (negB rfl (bnd (lawP_ev _ (by show (prs 0 g.Out).length ≤ _; omega)) (bnd (lawG_ev (turnP g) (turn_sm c1)) ?_))))))))))))
        exact fin
      · rw [if_neg c1, if_neg c1, if_neg c1]
        refine neg (by simpa using c1) ?_
        refine bnd (now _) (negN rfl (bnd (now _) (negN rfl (bnd (now _) (negN rfl (negN rfl (bnd (eqp_ev [] (by simp)) (negB rfl (bnd (eqG_ev Z0 (by decide)) (negB rfl (bnd (lawP_ev [] (by simp)) (bnd (lawG_ev Z0 (by decide)) ?_))))))))))))
        exact fin
    · exact negD (by omega) (bnd wakes6_ev (now _))
theorem graphDiffs_pure (x : herbariumlaw6_Script) (hl : x.G.length ≤ 17592186044416) (hx : ∀ g ∈ x.G, Gfit g) (ha : x.A.length ≤ 17592186044416) : ∃ K, herbariumlaw6_GraphDiffs K x = some true := by
  obtain ⟨b, e, hb⟩ := heavy6_ev x hl hx ha
  refine Ev.get (g := fun K => herbariumlaw6_GraphDiffs K x) (r := true) (bnd e ?_)
  cases b with
  | true => exact pos rfl (now _)
  | false =>
    obtain ⟨a1, a2, a3⟩ := hb rfl
    exact negB rfl (gd_l1 (fun g hg => wt_GSm (a3 g hg)) 0 (by omega)).e1
end Go.XL
end
section
namespace Go.XL
open Go.XM
theorem sorted_ext {l m : List Int} (h1 : l.Pairwise (· < ·)) (h2 : m.Pairwise (· < ·)) (h : ∀ x, x ∈ l ↔ x ∈ m) : l = m :=
  List.Perm.eq_of_pairwise (le := (· ≤ ·)) (fun a b _ _ h1 h2 => by omega) (h1.imp fun h => by omega) (h2.imp fun h => by omega) ((List.perm_ext_iff_of_nodup (nodup_of_lt h1) (nodup_of_lt h2)).2 h)
theorem g_ext {g h : api_Graph} (hg : GraphP g) (hh : GraphP h) (hn : g.N = h.N) (he : ∀ a b, HasE g a b ↔ HasE h a b) : g = h := by
  have n1 := hg.2.2.1
  have n2 := hh.2.2.1
  refine Prod.ext hn (List.ext_getElem (by show g.Out.length = h.Out.length; omega) fun i h1 h2 => ?_)
  have h1 : i < g.Out.length := h1
  have h2 : i < h.Out.length := h2
  have e := sorted_ext (row_pw hg i) (row_pw hh i) fun x => by
    have := he (i : Int) x
    unfold HasE at this
    rw [Int.toNat_natCast] at this
    exact ⟨fun k => (this.1 ⟨by omega, by omega, k⟩).2.2, fun k => (this.2 ⟨by omega, by omega, k⟩).2.2⟩
  rw [getD_lt h1, getD_lt h2] at e
  exact e
theorem rowP_of {n : Int} {l : List Int} (hp : l.Pairwise (· < ·)) (hb : ∀ x ∈ l, 0 ≤ x ∧ x < n) (hn : n ≤ 16) : RowP n l :=
  ⟨(mayP_iff l).2 ⟨hp, fun x hx => by have := hb x hx; omega⟩, fun h => (hb _ (getD_mem (by omega))).2⟩
theorem set_ok {g : api_Graph} (h : GraphP g) {i : Nat} (hi : i < g.Out.length) {l : List Int} (hp : l.Pairwise (· < ·)) (hb : ∀ x ∈ l, 0 ≤ x ∧ x < g.N) (hs : lsum (g.Out.set i l) ≤ 120) : GraphP ((g.N, g.Out.set i l) : api_Graph) := by
  refine ⟨h.1, h.2.1, by show ((g.Out.set i l).length : Int) = g.N; rw [List.length_set]; exact h.2.2.1, fun j hj => ?_, hs⟩
  show RowP g.N ((g.Out.set i l).getD j [])
  rw [getD_set _ _ _ _ hi]
  split
  · exact rowP_of hp hb h.2.1
  · exact h.2.2.2.1 j (by have : j < (g.Out.set i l).length := hj; rwa [List.length_set] at this)
theorem lo_split {b : Int} {l : List Int} (hp : l.Pairwise (· < ·)) (hb : b ∈ l) : l = l.take (lo b l) ++ b :: l.drop (lo b l + 1) := by
  obtain ⟨h1, h2⟩ := (lo_mem hp).1 hb
  have := List.take_append_drop (lo b l) l
  rw [drop_getD (d := 0) h1, h2] at this
  exact this.symm
theorem rem_mem {b : Int} {l : List Int} (hp : l.Pairwise (· < ·)) (hb : b ∈ l) (x : Int) : x ∈ rem b l ↔ x ∈ l ∧ x ≠ b := by
  have e := lo_split hp hb
  have hn : (l.take (lo b l) ++ b :: l.drop (lo b l + 1)).Nodup := by rw [← e]; exact nodup_of_lt hp
  rw [List.nodup_append] at hn
  obtain ⟨n1, n2, n3⟩ := hn
  obtain ⟨n4, n5⟩ := List.nodup_cons.1 n2
  constructor
  · intro h
    rcases List.mem_append.1 h with h | h
    · exact ⟨List.mem_of_mem_take h, fun k => n3 x h b List.mem_cons_self k⟩
    · exact ⟨List.mem_of_mem_drop h, fun k => n4 (k ▸ h)⟩
  · rintro ⟨h1, h2⟩
    rw [e] at h1
    rcases List.mem_append.1 h1 with h | h
    · exact List.mem_append_left _ h
    · rcases List.mem_cons.1 h with h | h
      · exact absurd h h2
      · exact List.mem_append_right _ h
theorem rem_pw {b : Int} {l : List Int} (hp : l.Pairwise (· < ·)) : (rem b l).Pairwise (· < ·) := by
  have h := hp
  rw [← List.take_append_drop (lo b l) l, List.pairwise_append] at h
  obtain ⟨h1, h2, h3⟩ := h
  refine List.pairwise_append.2 ⟨h1, hp.sublist (List.drop_sublist _ _), fun x hx y hy => h3 x hx y ?_⟩
  have : l.drop (lo b l + 1) = (l.drop (lo b l)).drop 1 := by rw [List.drop_drop]
  rw [this] at hy
  exact List.mem_of_mem_drop hy
theorem take_lo {b : Int} {l : List Int} (hp : l.Pairwise (· < ·)) : (∀ x ∈ l.take (lo b l), x < b) ∧ ∀ x ∈ l.drop (lo b l), b ≤ x := by
  have hlo := lo_le b l
  refine ⟨fun x hx => ?_, fun x hx => ?_⟩
  · obtain ⟨i, hi, rfl⟩ := List.mem_iff_getElem.1 hx
    rw [List.length_take] at hi
    have := (lo_lt (b := b) hp i (by omega)).2 (by omega)
    rw [getD_lt (by omega)] at this
    rw [List.getElem_take]; exact this
  · obtain ⟨i, hi, rfl⟩ := List.mem_iff_getElem.1 hx
    rw [List.length_drop] at hi
    have : ¬ l.getD (lo b l + i) 0 < b := fun k => by have := (lo_lt (b := b) hp _ (by omega)).1 k; omega
    rw [getD_lt (by omega)] at this
    rw [List.getElem_drop]; omega
theorem ins_mem {b : Int} {l : List Int} (x : Int) : x ∈ ins b l ↔ x = b ∨ x ∈ l := by
  unfold ins
  rw [List.mem_append, List.mem_cons]
  constructor
  · rintro (h | h | h)
    · exact .inr (List.mem_of_mem_take h)
    · exact .inl h
    · exact .inr (List.mem_of_mem_drop h)
  · rintro (h | h)
    · exact .inr (.inl h)
    · rw [← List.take_append_drop (lo b l) l] at h
      rcases List.mem_append.1 h with h | h
      · exact .inl h
      · exact .inr (.inr h)
theorem ins_pw {b : Int} {l : List Int} (hp : l.Pairwise (· < ·)) (hb : b ∉ l) : (ins b l).Pairwise (· < ·) := by
  obtain ⟨t1, t2⟩ := take_lo (b := b) hp
  have h := hp
  rw [← List.take_append_drop (lo b l) l, List.pairwise_append] at h
  obtain ⟨h1, h2, h3⟩ := h
  have t3 : ∀ x ∈ l.drop (lo b l), b < x := fun x hx => by
    have := t2 x hx
    have : x ≠ b := fun k => hb (k ▸ List.mem_of_mem_drop hx)
    omega
  refine List.pairwise_append.2 ⟨h1, List.pairwise_cons.2 ⟨t3, h2⟩, fun x hx y hy => ?_⟩
  rcases List.mem_cons.1 hy with rfl | hy
  · exact t1 x hx
  · exact h3 x hx y hy
theorem set_has {g : api_Graph} {a : Int} (ha : InV g a) (hn : (g.Out.length : Int) = g.N) (l : List Int) (x y : Int) : HasE ((g.N, g.Out.set a.toNat l) : api_Graph) x y ↔ if x = a then y ∈ l else HasE g x y := by
  unfold HasE
  show 0 ≤ x ∧ x < g.N ∧ y ∈ (g.Out.set a.toNat l).getD x.toNat [] ↔ _
  have ha := ha
  unfold InV at ha
  rw [getD_set _ _ _ _ (by omega)]
  by_cases c : x = a
  · subst c
    rw [if_pos rfl, if_pos rfl]
    exact ⟨fun k => k.2.2, fun k => ⟨ha.1, ha.2, k⟩⟩
  · rw [if_neg c]
    constructor
    · rintro ⟨h1, h2, h3⟩
      rw [if_neg (by omega)] at h3
      exact ⟨h1, h2, h3⟩
    · rintro ⟨h1, h2, h3⟩
      refine ⟨h1, h2, ?_⟩
      rw [if_neg (by omega)]; exact h3
theorem cut_ok {g : api_Graph} (h : GraphP g) {a b : Int} (he : HasE g a b) : ∃ g', cutP g a b = (g', 0) ∧ GraphP g' ∧ g'.N = g.N ∧ lsum g'.Out + 1 = lsum g.Out ∧ ∀ x y, HasE g' x y ↔ HasE g x y ∧ ¬ (x = a ∧ y = b) := by
  have ha : InV g a := ⟨he.1, he.2.1⟩
  have hn := h.2.2.1
  have hb : b ∈ gr g a := he.2.2
  have hp := gr_pw h a
  have hi : a.toNat < g.Out.length := by have := ha.1; have := ha.2; omega
  obtain ⟨k1, k2⟩ := (lo_mem hp).1 hb
  have hs := lsum_set g.Out a.toNat (rem b (gr g a)) hi
  have hl : (rem b (gr g a)).length + 1 = (gr g a).length := by simp [rem]; omega
  have e : (g.Out.getD a.toNat []).length = (gr g a).length := rfl
  have h120 := h.2.2.2.2
  refine ⟨_, by unfold cutP; rw [if_neg (not_not_intro he)], set_ok h hi (rem_pw hp) (fun x hx => row_mem h (show x ∈ g.Out.getD a.toNat [] from ((rem_mem hp hb x).1 hx).1)) (by omega), rfl, by show lsum (g.Out.set _ _) + 1 = _; omega, fun x y => ?_⟩
  rw [set_has ha hn]
  by_cases c : x = a
  · subst c
    rw [if_pos rfl, rem_mem hp hb]
    exact ⟨fun k => ⟨⟨ha.1, ha.2, k.1⟩, fun z => k.2 z.2⟩, fun k => ⟨k.1.2.2, fun z => k.2 ⟨rfl, z⟩⟩⟩
  · rw [if_neg c]
    exact ⟨fun k => ⟨k, fun z => c z.1⟩, fun k => k.1⟩
theorem add_ok {g : api_Graph} (h : GraphP g) {a b : Int} (ha : InV g a) (hb : InV g b) (he : ¬ HasE g a b) (hl : lsum g.Out < 120) : ∃ g', addP g a b = (g', 0) ∧ GraphP g' ∧ g'.N = g.N ∧ lsum g'.Out = lsum g.Out + 1 ∧ ∀ x y, HasE g' x y ↔ HasE g x y ∨ (x = a ∧ y = b) := by
  have hn := h.2.2.1
  have hnb : b ∉ gr g a := fun k => he ⟨ha.1, ha.2, k⟩
  have hp := gr_pw h a
  have hi : a.toNat < g.Out.length := by have := ha.1; have := ha.2; omega
  have hs := lsum_set g.Out a.toNat (ins b (gr g a)) hi
  have hlen : (ins b (gr g a)).length = (gr g a).length + 1 := by have := lo_le b (gr g a); simp [ins]; omega
  have e : (g.Out.getD a.toNat []).length = (gr g a).length := rfl
  refine ⟨_, by unfold addP; rw [if_neg (not_not_intro ha), if_neg (not_not_intro hb), if_neg he, if_neg (by omega)], set_ok h hi (ins_pw hp hnb) (fun x hx => ?_) (by omega), rfl, by show lsum (g.Out.set _ _) = _; omega, fun x y => ?_⟩
  · rcases (ins_mem x).1 hx with rfl | hx
    · exact hb
    · exact row_mem h (show x ∈ g.Out.getD a.toNat [] from hx)
  · rw [set_has ha hn]
    by_cases c : x = a
    · subst c
      rw [if_pos rfl, ins_mem]
      exact ⟨fun k => k.elim (fun z => .inr ⟨rfl, z⟩) (fun z => .inl ⟨ha.1, ha.2, z⟩), fun k => k.elim (fun z => .inr z.2.2) (fun z => .inl z.2)⟩
    · rw [if_neg c]
      exact ⟨fun k => .inl k, fun k => k.elim id fun z => absurd z.1 c⟩
theorem foldT_row : ∀ (ps : List api_Pair) (x : List (List Int)) (b : Nat), b < x.length → (∀ p ∈ ps, 0 ≤ p.B ∧ p.B < (x.length : Int)) →
    (foldT ps x).getD b [] = x.getD b [] ++ (ps.filter fun p => decide (p.B = (b : Int))).map fun p => p.A
  | [], x, b, _, _ => by simp [foldT]
  | p :: ps, x, b, hb, h => by
    have hp := h p List.mem_cons_self
    rw [foldT, foldT_row ps _ b (by rw [List.length_set]; exact hb) (fun q hq => by rw [List.length_set]; exact h q (List.mem_cons_of_mem _ hq)), getD_set _ _ _ _ (by omega)]
    by_cases c : p.B = (b : Int)
    · have c2 : b = p.B.toNat := by omega
      rw [if_pos c2, List.filter_cons_of_pos (by simpa using c), List.map_cons, ← c2, List.append_assoc]; rfl
    · have c2 : ¬ b = p.B.toNat := by omega
      rw [if_neg c2, List.filter_cons_of_neg (by simpa using c)]
def trow (b : Int) : Nat → List (List Int) → List Int
  | _, [] => []
  | i, out :: r => if b ∈ out then (i : Int) :: trow b (i + 1) r else trow b (i + 1) r
theorem filt_one {b : Int} : ∀ {l : List Int}, l.Nodup → l.filter (fun c => decide (c = b)) = if b ∈ l then [b] else []
  | [], _ => rfl
  | x :: l, h => by
    obtain ⟨h1, h2⟩ := List.nodup_cons.1 h
    by_cases c : x = b
    · subst c
      rw [List.filter_cons_of_pos (by simp), filt_one h2, if_neg h1, if_pos List.mem_cons_self]
    · rw [List.filter_cons_of_neg (by simpa using c), filt_one h2]
      by_cases d : b ∈ l
      · rw [if_pos d, if_pos (List.mem_cons_of_mem _ d)]
      · rw [if_neg d, if_neg fun z => (List.mem_cons.1 z).elim (fun e => c e.symm) d]
theorem prs_row (b : Int) : ∀ (o : List (List Int)) (i : Nat), (∀ l ∈ o, l.Nodup) → ((prs i o).filter fun p => decide (p.B = b)).map (fun p => p.A) = trow b i o
  | [], _, _ => rfl
  | out :: r, i, h => by
    rw [prs, List.filter_append, List.map_append, prs_row b r (i + 1) (fun l hl => h l (List.mem_cons_of_mem _ hl)), trow, List.filter_map]
    have e : (out.filter ((fun p : api_Pair => decide (p.B = b)) ∘ fun c => ((i : Int), c))) = out.filter fun c => decide (c = b) := rfl
    rw [e, filt_one (h out List.mem_cons_self)]
    by_cases c : b ∈ out
    · rw [if_pos c, if_pos c]; rfl
    · rw [if_neg c, if_neg c]; rfl
theorem trow_mem (b a : Int) : ∀ (o : List (List Int)) (i : Nat), a ∈ trow b i o ↔ ∃ k, k < o.length ∧ a = ((i + k : Nat) : Int) ∧ b ∈ o.getD k []
  | [], i => by simp [trow]
  | out :: r, i => by
    rw [trow]
    have ih := trow_mem b a r (i + 1)
    have key : (∃ k, k < (out :: r).length ∧ a = ((i + k : Nat) : Int) ∧ b ∈ (out :: r).getD k []) ↔ (a = (i : Int) ∧ b ∈ out) ∨ a ∈ trow b (i + 1) r := by
      rw [ih]
      constructor
      · rintro ⟨k, h1, h2, h3⟩
        cases k with
        | zero => exact .inl ⟨by simpa using h2, by simpa using h3⟩
        | succ k => exact .inr ⟨k, by simpa using h1, by rw [h2]; congr 1; omega, by simpa using h3⟩
      · rintro (⟨h1, h2⟩ | ⟨k, h1, h2, h3⟩)
        · exact ⟨0, by simp, by simpa using h1, by simpa using h2⟩
        · exact ⟨k + 1, by simpa using h1, by rw [h2]; congr 1; omega, by simpa using h3⟩
    rw [key]
    by_cases c : b ∈ out
    · rw [if_pos c, List.mem_cons]
      exact ⟨fun k => k.elim (fun z => .inl ⟨z, c⟩) .inr, fun k => k.elim (fun z => .inl z.1) .inr⟩
    · rw [if_neg c]
      exact ⟨.inr, fun k => k.elim (fun z => absurd z.2 c) id⟩
theorem trow_pw (b : Int) : ∀ (o : List (List Int)) (i : Nat), (trow b i o).Pairwise (· < ·)
  | [], _ => List.Pairwise.nil
  | out :: r, i => by
    rw [trow]
    split
    · refine List.pairwise_cons.2 ⟨fun a ha => ?_, trow_pw b r (i + 1)⟩
      obtain ⟨k, _, h2, _⟩ := (trow_mem b a r (i + 1)).1 ha
      omega
    · exact trow_pw b r (i + 1)
theorem turn_row {g : api_Graph} (h : GraphP g) {b : Nat} (hb : (b : Int) < g.N) : (turnP g).Out.getD b [] = trow (b : Int) 0 g.Out := by
  have h0 := h.1
  show (foldT (prs 0 g.Out) (rep g)).getD b [] = _
  rw [foldT_row _ _ b (by rw [List.length_replicate]; omega) (fun p hp => by have := prs_B h p hp; rw [List.length_replicate]; omega), prs_row _ _ _ (fun l hl => by
    obtain ⟨i, hi, rfl⟩ := List.mem_iff_getElem.1 hl
    have := row_pw h i
    rw [getD_lt hi] at this
    exact nodup_of_lt this)]
  have e : (rep g).getD b [] = [] := by rw [getD_lt (by rw [List.length_replicate]; omega)]; simp
  rw [e, List.nil_append]
theorem turn_G {g : api_Graph} (h : GraphP g) : GraphP (turnP g) := by
  have h0 := h.1
  have h1 := h.2.1
  have hn := h.2.2.1
  have hlen : (turnP g).Out.length = g.N.toNat := by show (foldT _ _).length = _; rw [foldT_len, List.length_replicate]
  refine ⟨h0, h1, by rw [hlen]; show ((g.N.toNat : Nat) : Int) = g.N; omega, fun i hi => ?_, ?_⟩
  · rw [hlen] at hi
    rw [turn_row h (by omega)]
    exact rowP_of (trow_pw _ _ _) (fun x hx => by
      obtain ⟨k, h2, h3, _⟩ := (trow_mem _ _ _ _).1 hx
      show 0 ≤ x ∧ x < g.N
      omega) h1
  · show lsum (foldT _ _) ≤ 120
    rw [foldT_sum _ _ (fun p hp => by have := prs_B h p hp; rw [List.length_replicate]; omega), rep_0]
    have := prs_120 h
    omega
theorem turn_has {g : api_Graph} (h : GraphP g) (a b : Int) : HasE (turnP g) b a ↔ HasE g a b := by
  have hn := h.2.2.1
  constructor
  · rintro ⟨h1, h2, h3⟩
    obtain ⟨n, rfl⟩ := Int.eq_ofNat_of_zero_le h1
    rw [Int.toNat_natCast, turn_row h h2] at h3
    obtain ⟨k, k1, k2, k3⟩ := (trow_mem _ _ _ _).1 h3
    rw [Nat.zero_add] at k2
    exact ⟨by omega, by omega, by rw [k2, Int.toNat_natCast]; exact k3⟩
  · rintro ⟨h1, h2, h3⟩
    obtain ⟨m1, m2⟩ := row_mem h h3
    obtain ⟨n, rfl⟩ := Int.eq_ofNat_of_zero_le m1
    refine ⟨m1, m2, ?_⟩
    rw [Int.toNat_natCast, turn_row h m2]
    exact (trow_mem _ _ _ _).2 ⟨a.toNat, by omega, by omega, h3⟩
theorem turn_turn {g : api_Graph} (h : GraphP g) : turnP (turnP g) = g :=
  g_ext (turn_G (turn_G h)) h rfl fun a b => (turn_has (turn_G h) b a).trans (turn_has h a b)
theorem prs_nodup : ∀ (o : List (List Int)) (i : Nat), (∀ l ∈ o, l.Nodup) → (prs i o).Nodup
  | [], _, _ => List.nodup_nil
  | out :: r, i, h => by
    rw [prs, List.nodup_append]
    refine ⟨?_, prs_nodup r (i + 1) fun l hl => h l (List.mem_cons_of_mem _ hl), fun p hp q hq e => ?_⟩
    · have := h out List.mem_cons_self
      rw [List.nodup_iff_pairwise_ne] at this ⊢
      rw [List.pairwise_map]
      exact this.imp fun k e => k (congrArg Prod.snd e)
    · subst e
      obtain ⟨c, _, rfl⟩ := List.mem_map.1 hp
      obtain ⟨k, _, h2, _⟩ := (prs_mem r (i + 1) _).1 hq
      have h2 : (i : Int) = ((i + 1 + k : Nat) : Int) := h2
      omega
theorem prsg_nodup {g : api_Graph} (h : GraphP g) : (prs 0 g.Out).Nodup := prs_nodup _ _ fun l hl => by
  obtain ⟨i, hi, rfl⟩ := List.mem_iff_getElem.1 hl
  have := row_pw h i
  rw [getD_lt hi] at this
  exact nodup_of_lt this
theorem not_take {α : Type} [Inhabited α] {l : List α} (h : l.Nodup) {j : Nat} (hj : j < l.length) : l.getD j default ∉ l.take j := by
  intro k
  obtain ⟨i, hi, e⟩ := List.mem_iff_getElem.1 k
  rw [List.length_take] at hi
  rw [List.getElem_take, getD_lt hj] at e
  exact List.pairwise_iff_getElem.1 (List.nodup_iff_pairwise_ne.1 h) i j (by omega) hj (by omega) e
theorem keep_iff {g : api_Graph} {p : api_Pair} : keep g p = true ↔ ¬ HasE g p.A p.B := by unfold keep; simp
variable {x : herbariumlaw6_Script} {g h : api_Graph}
theorem gt_l4 (hh : GraphP h) {k : Nat} (hk : k < x.G.length) (hk5 : k < 5) (hx : x.G.getD k zG = h) {i : Nat} {more less : List api_Pair} (hm : more = (prs 0 h.Out).filter (keep g))
    {go1 : Nat → Nat → Int → Option Bool} {go2 : Nat → Nat → Nat → Int → Option Bool} (h2 : E2 (fun K a b => go2 K a b ((k + 1 : Nat) : Int)) true) :
    ∀ j, j ≤ more.length → ∀ w : api_Graph, GraphP w → w.N = h.N → lsum w.Out + more.length = (prs 0 h.Out).length + j → (∀ a b, HasE w a b ↔ (HasE g a b ∧ HasE h a b) ∨ (a, b) ∈ more.take j) →
      E3 (fun K a b c => herbariumlaw6_GraphTurns.l4 K (go1 K a) (go2 K a b) (more, less, 0) (i : Int) (k : Int) x c (j : Int) w.N w.Out) true := by
  have hmem : ∀ p : api_Pair, p ∈ more ↔ HasE h p.A p.B ∧ ¬ HasE g p.A p.B := fun p => by rw [hm, List.mem_filter, prs_has hh, keep_iff]
  have hnd : more.Nodup := by rw [hm]; exact (prsg_nodup hh).filter _
  have hml : more.length ≤ 120 := by rw [hm]; exact Nat.le_trans (List.length_filter_le _ _) (prs_120 hh)
  refine upto ?_ ?_
  · intro w hw hN hl hE
    refine step3 (fun _ _ _ _ _ => herbariumlaw6_GraphTurns.l4.eq_2 ..) ?_
    have e : w = h := g_ext hw hh hN fun a b => by
      rw [hE, List.take_length, hmem]
      exact ⟨fun z => z.elim (fun z => z.2) fun z => z.1, fun z => by
        by_cases c : HasE g a b
        · exact .inl ⟨c, z⟩
        · exact .inr ⟨z, c⟩⟩
    subst e
    refine negD (by show ¬ ((more.length : Int) < ((more.length : Nat) : Int)); omega) (pos (by omega) ?_)
    rw [rdG, hx, w1 (by omega)]
    exact bnd (eqG_ev w hw.sm) (negB rfl h2)
  · intro j hj ih w hw hN hl hE
    refine step3 (fun _ _ _ _ _ => herbariumlaw6_GraphTurns.l4.eq_2 ..) ?_
    have hp := (hmem _).1 (getD_mem (d := default) hj)
    have hnt := not_take hnd hj
    have h120 := prs_120 hh
    have hno : ¬ HasE w (more.getD j default).A (more.getD j default).B := fun z => by
      rcases (hE _ _).1 z with z | z
      · exact hp.2 z.1
      · exact hnt z
    obtain ⟨w', e1, e2, e3, e4, e5⟩ := add_ok hw (a := (more.getD j default).A) (b := (more.getD j default).B) (by have := hp.1.1; have := hp.1.2.1; exact ⟨by omega, by omega⟩) (by have := row_mem hh hp.1.2.2; exact ⟨this.1, by omega⟩) hno (by omega)
    have ga := gadd_ev hw.sm (more.getD j default).A (more.getD j default).B
    rw [if_pos hw, e1] at ga
    refine posD (by show (j : Int) < ((more.length : Nat) : Int); omega) (pos (by show _ ∧ (j : Int) < ((more.length : Nat) : Int); omega) (pos (by show _ ∧ (j : Int) < ((more.length : Nat) : Int); omega) ?_))
    rw [nthN more]
    refine bnd ga (bnd (now _) (negN rfl ?_))
    rw [w1 (by omega)]
    refine ih w' e2 (by rw [e3, hN]) (by omega) fun a b => ?_
    rw [e5, hE, take_getD (d := default) hj, List.mem_append, List.mem_singleton, or_assoc]
    exact ⟨fun z => z.imp id (Or.imp id fun z => Prod.ext z.1 z.2), fun z => z.imp id (Or.imp id fun z => ⟨congrArg Prod.fst z, congrArg Prod.snd z⟩)⟩
theorem gt_l3 (hg : GraphP g) (hh : GraphP h) (hgh : h.N = g.N) {k : Nat} (hk : k < x.G.length) (hk5 : k < 5) (hx : x.G.getD k zG = h) {i : Nat} {more less : List api_Pair} (hm : more = (prs 0 h.Out).filter (keep g)) (hls : less = (prs 0 g.Out).filter (keep h))
    {go1 : Nat → Nat → Int → Option Bool} {go2 : Nat → Nat → Nat → Int → Option Bool} (h2 : E2 (fun K a b => go2 K a b ((k + 1 : Nat) : Int)) true) :
    ∀ j, j ≤ less.length → ∀ w : api_Graph, GraphP w → w.N = g.N → lsum w.Out + j = (prs 0 g.Out).length → (∀ a b, HasE w a b ↔ HasE g a b ∧ (a, b) ∉ less.take j) →
      E3 (fun K a b c => herbariumlaw6_GraphTurns.l3 K (go1 K a) (go2 K a b) (more, less, 0) (i : Int) (k : Int) x c (j : Int) w.N w.Out) true := by
  have hmem : ∀ p : api_Pair, p ∈ less ↔ HasE g p.A p.B ∧ ¬ HasE h p.A p.B := fun p => by rw [hls, List.mem_filter, prs_has hg, keep_iff]
  have hnd : less.Nodup := by rw [hls]; exact (prsg_nodup hg).filter _
  have hll : less.length ≤ 120 := by rw [hls]; exact Nat.le_trans (List.length_filter_le _ _) (prs_120 hg)
  refine upto ?_ ?_
  · intro w hw hN hl hE
    refine step3 (fun _ _ _ _ _ => herbariumlaw6_GraphTurns.l3.eq_2 ..) ?_
    have hc := cnt_diff hg hh
    rw [← hm, ← hls] at hc
    refine negD (by show ¬ ((less.length : Int) < ((less.length : Nat) : Int)); omega) ?_
    refine (gt_l4 (g := g) hh hk hk5 hx hm (less := less) h2 0 (by omega) w hw (by rw [hN, hgh]) (by omega) fun a b => ?_).e3
    rw [hE, List.take_length, hmem, List.take_zero]
    constructor
    · rintro ⟨z1, z2⟩
      exact .inl ⟨z1, Classical.byContradiction fun z => z2 ⟨z1, z⟩⟩
    · rintro (⟨z1, z2⟩ | z)
      · exact ⟨z1, fun z => z.2 z2⟩
      · cases z
  · intro j hj ih w hw hN hl hE
    refine step3 (fun _ _ _ _ _ => herbariumlaw6_GraphTurns.l3.eq_2 ..) ?_
    have hp := (hmem _).1 (getD_mem (d := default) hj)
    have hnt := not_take hnd hj
    obtain ⟨w', e1, e2, e3, e4, e5⟩ := cut_ok hw ((hE _ _).2 ⟨hp.1, hnt⟩)
    have gc := gcut_ev hw.sm (less.getD j default).A (less.getD j default).B
    rw [if_pos hw, e1] at gc
    refine posD (by show (j : Int) < ((less.length : Nat) : Int); omega) (pos (by show _ ∧ (j : Int) < ((less.length : Nat) : Int); omega) (pos (by show _ ∧ (j : Int) < ((less.length : Nat) : Int); omega) ?_))
    rw [nthN less]
    refine bnd gc (bnd (now _) (negN rfl ?_))
    rw [w1 (by omega)]
    refine ih w' e2 (by rw [e3, hN]) (by omega) fun a b => ?_
    rw [e5, hE, take_getD (d := default) hj, List.mem_append, List.mem_singleton]
    constructor
    · rintro ⟨⟨z1, z2⟩, z3⟩
      exact ⟨z1, fun z => z.elim z2 fun z => z3 ⟨congrArg Prod.fst z, congrArg Prod.snd z⟩⟩
    · rintro ⟨z1, z2⟩
      exact ⟨⟨z1, fun z => z2 (.inl z)⟩, fun z => z2 (.inr (Prod.ext z.1 z.2))⟩
theorem gt_l2 (hG : ∀ g ∈ x.G, GSm g) (hg : GraphP g) {i : Nat} (hi : i < x.G.length) (hi5 : i < 5) (hx : x.G.getD i zG = g) {go1 : Nat → Nat → Int → Option Bool} (h1 : E1 (fun K a => go1 K a ((i + 1 : Nat) : Int)) true) :
    ∀ k : Nat, k ≤ 5 → E2 (fun K a b => herbariumlaw6_GraphTurns.l2 K (go1 K a) (i : Int) x b (k : Int)) true := by
  have out : E2 (fun K a _ => go1 K a (wr .i64 ((i : Int) + 1))) true := by rw [w1 (by omega)]; exact h1
  refine upto ?_ ?_
  · refine step2 (fun _ _ _ _ _ => herbariumlaw6_GraphTurns.l2.eq_2 ..) ?_
    by_cases c : 5 < x.G.length
    · exact posD (by omega) (negD (by omega) out)
    · exact negD (by omega) out
  · intro k hk ih
    refine step2 (fun _ _ _ _ _ => herbariumlaw6_GraphTurns.l2.eq_2 ..) ?_
    by_cases c : k < x.G.length
    · have hs2 := hG _ (getD_mem (d := zG) c)
      refine posD (by omega) (posD (by omega) (pos (by omega) (pos (by omega) ?_)))
      rw [rdG, rdG, hx]
      generalize hy : x.G.getD k zG = h at hs2
      have gd := gdiff_any hg.sm hs2
      rw [w1 (by omega)]
      by_cases c1 : GraphP h
      · rw [if_pos ⟨hg, c1⟩] at gd
        refine bnd gd (bnd (now _) (negN rfl (pos (by omega) (pos (by omega) ?_))))
        by_cases c2 : h.N = g.N
        · refine negN c2 (pos (by omega) ?_)
          refine (gt_l3 (go1 := go1) (go2 := fun K a b => herbariumlaw6_GraphTurns.l2 K (go1 K a) (i : Int) x b) hg c1 c2 c (by omega) hy rfl rfl ih 0 (by omega) g hg rfl (by rw [prs_len]; omega) fun a b => ?_).e3
          rw [List.take_zero]
          exact ⟨fun z => ⟨z, fun k => by cases k⟩, fun z => z.1⟩
        · exact posN c2 ih
      · rw [if_neg fun z => c1 z.2] at gd
        exact bnd gd (bnd (now _) (posN (show ¬ ((1 : Int) = 0) by decide) ih))
    · exact negD (by omega) out
theorem gt_l1 (hG : ∀ g ∈ x.G, GSm g) : ∀ i : Nat, i ≤ 5 → E1 (fun K a => herbariumlaw6_GraphTurns.l1 K x a (i : Int)) true := by
  refine upto ?_ ?_
  · refine step1 (fun _ _ _ _ _ => herbariumlaw6_GraphTurns.l1.eq_2 ..) ?_
    by_cases c : 5 < x.G.length
    · exact posD (by omega) (negD (by omega) (bnd wakes6_ev (now _)))
    · exact negD (by omega) (bnd wakes6_ev (now _))
  · intro i hi ih
    refine step1 (fun _ _ _ _ _ => herbariumlaw6_GraphTurns.l1.eq_2 ..) ?_
    by_cases c : i < x.G.length
    · have hs := hG _ (getD_mem (d := zG) c)
      refine posD (by omega) (posD (by omega) (pos (by omega) ?_))
      rw [rdG]
      generalize hy : x.G.getD i zG = g at hs
      have gt := gturn_ev hs
      by_cases c1 : GraphP g
      · rw [if_pos c1] at gt
        have gt2 := gturn_ev (turn_sm c1)
        rw [if_pos (turn_G c1), turn_turn c1] at gt2
        refine bnd gt (bnd (now _) (negN rfl (bnd gt2 (bnd (now _) (negN rfl (pos (by omega) (bnd (eqG_ev g hs) (negB rfl ?_))))))))
        exact (gt_l2 (go1 := fun K a => herbariumlaw6_GraphTurns.l1 K x a) hG c1 c hi hy ih 0 (by omega)).e2
      · rw [if_neg c1] at gt
        refine bnd gt (bnd (now _) (posN (show ¬ ((1 : Int) = 0) by decide) ?_))
        rw [w1 (by omega)]; exact ih
    · exact negD (by omega) (bnd wakes6_ev (now _))
theorem graphTurns_pure (x : herbariumlaw6_Script) (hl : x.G.length ≤ 17592186044416) (hx : ∀ g ∈ x.G, Gfit g) (ha : x.A.length ≤ 17592186044416) : ∃ K, herbariumlaw6_GraphTurns K x = some true := by
  obtain ⟨b, e, hb⟩ := heavy6_ev x hl hx ha
  refine Ev.get (g := fun K => herbariumlaw6_GraphTurns K x) (r := true) (bnd e ?_)
  cases b with
  | true => exact pos rfl (now _)
  | false =>
    obtain ⟨a1, a2, a3⟩ := hb rfl
    exact negB rfl (gt_l1 (fun g hg => wt_GSm (a3 g hg)) 0 (by omega)).e1
end Go.XL
end
