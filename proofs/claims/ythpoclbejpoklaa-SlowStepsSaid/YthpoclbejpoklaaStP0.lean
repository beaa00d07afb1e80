import Derived.Test.YthpoclbejpoklaaStC0
set_option linter.all false
section
namespace Go.XL
open Go.XM
def Ev {α : Type} (g : Nat → Nat → Nat → Nat → Nat → Option α) (r : α) : Prop := ∃ m, ∀ K a b c d, m ≤ K → m ≤ a → m ≤ b → m ≤ c → m ≤ d → g K a b c d = some r
abbrev E0 {α : Type} (g : Nat → Option α) (r : α) : Prop := Ev (fun K _ _ _ _ => g K) r
abbrev E1 {α : Type} (g : Nat → Nat → Option α) (r : α) : Prop := Ev (fun K a _ _ _ => g K a) r
abbrev E2 {α : Type} (g : Nat → Nat → Nat → Option α) (r : α) : Prop := Ev (fun K a b _ _ => g K a b) r
abbrev E3 {α : Type} (g : Nat → Nat → Nat → Nat → Option α) (r : α) : Prop := Ev (fun K a b c _ => g K a b c) r
abbrev E4 {α : Type} (g : Nat → Nat → Nat → Nat → Nat → Option α) (r : α) : Prop := Ev g r
theorem now {α : Type} (r : α) : Ev (fun _ _ _ _ _ => some r) r := ⟨0, fun _ _ _ _ _ _ _ _ _ _ => rfl⟩
theorem nowE {α : Type} {r s : α} (h : s = r) : Ev (fun _ _ _ _ _ => some s) r := ⟨0, fun _ _ _ _ _ _ _ _ _ _ => by rw [h]⟩
theorem pos {α : Type} {c : Prop} [Decidable c] {f g : Nat → Nat → Nat → Nat → Nat → Option α} {r : α} (h : c) (k : Ev f r) : Ev (fun x y z u v => if c then f x y z u v else g x y z u v) r := by
  obtain ⟨m, k⟩ := k
  exact ⟨m, fun x y z u v a b c d e => (if_pos h).trans (k x y z u v a b c d e)⟩
theorem neg {α : Type} {c : Prop} [Decidable c] {f g : Nat → Nat → Nat → Nat → Nat → Option α} {r : α} (h : ¬ c) (k : Ev g r) : Ev (fun x y z u v => if c then f x y z u v else g x y z u v) r := by
  obtain ⟨m, k⟩ := k
  exact ⟨m, fun x y z u v a b c d e => (if_neg h).trans (k x y z u v a b c d e)⟩
theorem posD {α : Type} {c : Prop} [Decidable c] {f g : Nat → Nat → Nat → Nat → Nat → Option α} {r : α} (h : c) (k : Ev f r) : Ev (fun x y z u v => if decide c = true then f x y z u v else g x y z u v) r := pos (decide_eq_true h) k
theorem negD {α : Type} {c : Prop} [Decidable c] {f g : Nat → Nat → Nat → Nat → Nat → Option α} {r : α} (h : ¬ c) (k : Ev g r) : Ev (fun x y z u v => if decide c = true then f x y z u v else g x y z u v) r := neg (by simpa using h) k
theorem posM {α : Type} {c : Prop} [Decidable c] {f g : Nat → Nat → Nat → Nat → Nat → Option α} {r : α} (h : ¬ c) (k : Ev f r) : Ev (fun x y z u v => if (!decide c) = true then f x y z u v else g x y z u v) r := pos (by rw [decide_eq_false h]; rfl) k
theorem negM {α : Type} {c : Prop} [Decidable c] {f g : Nat → Nat → Nat → Nat → Nat → Option α} {r : α} (h : c) (k : Ev g r) : Ev (fun x y z u v => if (!decide c) = true then f x y z u v else g x y z u v) r := neg (by rw [decide_eq_true h]; decide) k
theorem posE {α : Type} {p q : Int} {f g : Nat → Nat → Nat → Nat → Nat → Option α} {r : α} (h : p = q) (k : Ev f r) : Ev (fun x y z u v => if (p == q) = true then f x y z u v else g x y z u v) r := pos (by simp [h]) k
theorem negE {α : Type} {p q : Int} {f g : Nat → Nat → Nat → Nat → Nat → Option α} {r : α} (h : ¬ p = q) (k : Ev g r) : Ev (fun x y z u v => if (p == q) = true then f x y z u v else g x y z u v) r := neg (by simpa using h) k
theorem posN {α : Type} {p q : Int} {f g : Nat → Nat → Nat → Nat → Nat → Option α} {r : α} (h : ¬ p = q) (k : Ev f r) : Ev (fun x y z u v => if (p != q) = true then f x y z u v else g x y z u v) r := pos (by simpa using h) k
theorem negN {α : Type} {p q : Int} {f g : Nat → Nat → Nat → Nat → Nat → Option α} {r : α} (h : p = q) (k : Ev g r) : Ev (fun x y z u v => if (p != q) = true then f x y z u v else g x y z u v) r := neg (by simp [h]) k
theorem bnd {α β : Type} {g : Nat → Nat → Nat → Nat → Nat → Option α} {f : Nat → Nat → Nat → Nat → Nat → α → Option β} {a : α} {r : β} (h : Ev g a) (k : Ev (fun x y z u v => f x y z u v a) r) : Ev (fun x y z u v => (g x y z u v).bind (f x y z u v)) r := by
  obtain ⟨m, h⟩ := h
  obtain ⟨m', k⟩ := k
  refine ⟨max m m', fun x y z u v a b c d e => ?_⟩
  show (g x y z u v).bind _ = _
  rw [h x y z u v (by omega) (by omega) (by omega) (by omega) (by omega)]
  exact k x y z u v (by omega) (by omega) (by omega) (by omega) (by omega)
theorem tail {α : Type} {g : Nat → Nat → Nat → Nat → Nat → Option α} {r : α} (h : Ev g r) : Ev (fun x y z u v => (g x y z u v).bind fun t => some t) r := bnd h (now r)
theorem ofEq {α : Type} {g : Nat → Nat → Nat → Nat → Nat → Option α} {r s : α} (h : Ev g r) (e : r = s) : Ev g s := e ▸ h
theorem congr {α : Type} {f g : Nat → Nat → Nat → Nat → Nat → Option α} {r : α} (e : ∀ x y z u v, g x y z u v = f x y z u v) (h : Ev f r) : Ev g r := by
  obtain ⟨m, h⟩ := h
  exact ⟨m, fun x y z u v a b c d k => by rw [e]; exact h x y z u v a b c d k⟩
theorem step1 {α : Type} {f g : Nat → Nat → Nat → Nat → Nat → Option α} {r : α} (e : ∀ x y z u v, g x (y + 1) z u v = f x y z u v) (h : Ev f r) : Ev g r := by
  obtain ⟨m, h⟩ := h
  refine ⟨m + 1, fun x y z u v a b c d k => ?_⟩
  obtain ⟨y, rfl⟩ : ∃ n, y = n + 1 := ⟨y - 1, by omega⟩
  rw [e]; exact h x y z u v (by omega) (by omega) (by omega) (by omega) (by omega)
theorem step2 {α : Type} {f g : Nat → Nat → Nat → Nat → Nat → Option α} {r : α} (e : ∀ x y z u v, g x y (z + 1) u v = f x y z u v) (h : Ev f r) : Ev g r := by
  obtain ⟨m, h⟩ := h
  refine ⟨m + 1, fun x y z u v a b c d k => ?_⟩
  obtain ⟨z, rfl⟩ : ∃ n, z = n + 1 := ⟨z - 1, by omega⟩
  rw [e]; exact h x y z u v (by omega) (by omega) (by omega) (by omega) (by omega)
theorem step3 {α : Type} {f g : Nat → Nat → Nat → Nat → Nat → Option α} {r : α} (e : ∀ x y z u v, g x y z (u + 1) v = f x y z u v) (h : Ev f r) : Ev g r := by
  obtain ⟨m, h⟩ := h
  refine ⟨m + 1, fun x y z u v a b c d k => ?_⟩
  obtain ⟨u, rfl⟩ : ∃ n, u = n + 1 := ⟨u - 1, by omega⟩
  rw [e]; exact h x y z u v (by omega) (by omega) (by omega) (by omega) (by omega)
theorem step4 {α : Type} {f g : Nat → Nat → Nat → Nat → Nat → Option α} {r : α} (e : ∀ x y z u v, g x y z u (v + 1) = f x y z u v) (h : Ev f r) : Ev g r := by
  obtain ⟨m, h⟩ := h
  refine ⟨m + 1, fun x y z u v a b c d k => ?_⟩
  obtain ⟨v, rfl⟩ : ∃ n, v = n + 1 := ⟨v - 1, by omega⟩
  rw [e]; exact h x y z u v (by omega) (by omega) (by omega) (by omega) (by omega)
theorem Ev.e1 {α : Type} {g : Nat → Nat → Nat → Nat → Nat → Option α} {r : α} (h : Ev g r) : Ev (fun x y z u v => g x x z u v) r := by
  obtain ⟨m, h⟩ := h
  exact ⟨m, fun x y z u v a b c d k => h x x z u v a a c d k⟩
theorem Ev.e2 {α : Type} {g : Nat → Nat → Nat → Nat → Nat → Option α} {r : α} (h : Ev g r) : Ev (fun x y z u v => g x y x u v) r := by
  obtain ⟨m, h⟩ := h
  exact ⟨m, fun x y z u v a b c d k => h x y x u v a b a d k⟩
theorem Ev.e3 {α : Type} {g : Nat → Nat → Nat → Nat → Nat → Option α} {r : α} (h : Ev g r) : Ev (fun x y z u v => g x y z x v) r := by
  obtain ⟨m, h⟩ := h
  exact ⟨m, fun x y z u v a b c d k => h x y z x v a b c a k⟩
theorem Ev.e4 {α : Type} {g : Nat → Nat → Nat → Nat → Nat → Option α} {r : α} (h : Ev g r) : Ev (fun x y z u v => g x y z u x) r := by
  obtain ⟨m, h⟩ := h
  exact ⟨m, fun x y z u v a b c d k => h x y z u x a b c d a⟩
theorem Ev.all {α : Type} {g : Nat → Option α} {r : α} (h : E0 g r) : ∃ m, ∀ K, m ≤ K → g K = some r := by
  obtain ⟨m, h⟩ := h
  exact ⟨m, fun K hK => h K K K K K hK hK hK hK hK⟩
theorem Ev.get {α : Type} {g : Nat → Option α} {r : α} (h : E0 g r) : ∃ K, g K = some r := by
  obtain ⟨m, h⟩ := h.all
  exact ⟨m, h m (Nat.le_refl _)⟩
theorem Ev.uniq {α : Type} {g : Nat → Nat → Nat → Nat → Nat → Option α} {r s : α} (h : Ev g r) (k : Ev g s) : r = s := by
  obtain ⟨K, h⟩ := h
  obtain ⟨K', k⟩ := k
  have e := h (max K K') (max K K') (max K K') (max K K') (max K K') (by omega) (by omega) (by omega) (by omega) (by omega)
  rw [k _ _ _ _ _ (by omega) (by omega) (by omega) (by omega) (by omega)] at e
  injection e with e
  exact e.symm
theorem w64 {i : Int} (h : -9223372036854775808 ≤ i) (h' : i ≤ 9223372036854775807) : wr .i64 i = i := by show Go.RowKit.wrap64 i = i; unfold Go.RowKit.wrap64; omega
theorem w1 {i : Nat} (h : i < 4611686018427387904) : wr .i64 ((i : Int) + 1) = ((i + 1 : Nat) : Int) := by rw [w64 (by omega) (by omega)]; omega
theorem upto {n : Nat} {Q : Nat → Prop} (base : Q n) (step : ∀ i, i < n → Q (i + 1) → Q i) : ∀ i, i ≤ n → Q i := by
  have key : ∀ d i, i + d = n → Q i := by
    intro d
    induction d with
    | zero => intro i hi; rw [show i = n by omega]; exact base
    | succ d ih => intro i hi; exact step i (by omega) (ih (i + 1) (by omega))
  intro i hi
  exact key (n - i) i (by omega)
theorem getD_lt {α : Type} {d : α} {xs : List α} {i : Nat} (h : i < xs.length) : xs.getD i d = xs[i] := by simp [List.getD_eq_getElem?_getD, List.getElem?_eq_getElem h]
theorem getD_mem {α : Type} {d : α} {xs : List α} {i : Nat} (h : i < xs.length) : xs.getD i d ∈ xs := by rw [getD_lt h]; exact List.getElem_mem h
theorem drop_getD {α : Type} {d : α} {xs : List α} {i : Nat} (h : i < xs.length) : xs.drop i = xs.getD i d :: xs.drop (i + 1) := by rw [getD_lt h]; exact List.drop_eq_getElem_cons h
theorem take_getD {α : Type} {d : α} {xs : List α} {i : Nat} (h : i < xs.length) : xs.take (i + 1) = xs.take i ++ [xs.getD i d] := by rw [getD_lt h, List.take_succ_eq_append_getElem h]
theorem getD_set {α : Type} {d : α} (xs : List α) (i j : Nat) (v : α) (h : i < xs.length) : (xs.set i v).getD j d = if j = i then v else xs.getD j d := by
  simp only [List.getD_eq_getElem?_getD, List.getElem?_set]
  by_cases e : i = j
  · subst e; simp [h]
  · simp [e, Ne.symm e]
theorem nthN {α : Type} [Inhabited α] (xs : List α) (i : Nat) : nth xs (i : Int) = xs.getD i default := by simp [nth]
theorem rdI (xs : List Int) (i : Int) : nth xs i = xs.getD i.toNat 0 := rfl
theorem rdN (xs : List Int) (i : Nat) : nth xs (i : Int) = xs.getD i 0 := nthN xs i
theorem rd1I (xs : List (List Int)) (i : Int) : nth xs i = xs.getD i.toNat [] := rfl
theorem rd1N (xs : List (List Int)) (i : Nat) : nth xs (i : Int) = xs.getD i [] := nthN xs i
def lsum (xs : List (List Int)) : Nat := (xs.map List.length).sum
theorem lsum_nil : lsum [] = 0 := rfl
theorem lsum_cons (x : List Int) (xs : List (List Int)) : lsum (x :: xs) = x.length + lsum xs := by simp [lsum]
theorem lsum_append (xs ys : List (List Int)) : lsum (xs ++ ys) = lsum xs + lsum ys := by simp [lsum]
theorem lsum_mem {x : List Int} {xs : List (List Int)} (h : x ∈ xs) : x.length ≤ lsum xs := by
  induction xs with
  | nil => simp at h
  | cons y ys ih =>
    rw [lsum_cons]
    rcases List.mem_cons.1 h with rfl | h
    · omega
    · have := ih h; omega
theorem lsum_drop {xs : List (List Int)} {i : Nat} (h : i < xs.length) : lsum (xs.drop i) = (xs.getD i []).length + lsum (xs.drop (i + 1)) := by rw [drop_getD (d := []) h, lsum_cons]
theorem lsum_take {xs : List (List Int)} {i : Nat} (h : i < xs.length) : lsum (xs.take (i + 1)) = lsum (xs.take i) + (xs.getD i []).length := by rw [take_getD (d := []) h, lsum_append]; simp [lsum]
theorem lsum_take_le (xs : List (List Int)) (i : Nat) : lsum (xs.take i) ≤ lsum xs := by
  have := lsum_append (xs.take i) (xs.drop i)
  rw [List.take_append_drop] at this
  omega
end Go.XL
end
section
namespace Go.XL
open Go.XM
theorem lists_ev (xs : List (List Int)) (hl : xs.length ≤ 17592186044416) (hx : ∀ y ∈ xs, y.length ≤ 17592186044416) :
    ∃ r : Int, E0 (fun K => herbariumlaw0_Lists K xs) r ∧ 0 ≤ r ∧ r ≤ 35184372088832 ∧ (r < 1048576 → r = xs.length + lsum xs) := by
  have key : ∀ i, i ≤ xs.length → ∀ s : Int, 0 ≤ s → s ≤ 35184372088832 → ∃ r : Int, E1 (fun K k => herbariumlaw0_Lists.l1 K xs k s (i : Int)) r ∧ 0 ≤ r ∧ r ≤ 35184372088832 ∧ (r < 1048576 → r = s + lsum (xs.drop i)) := by
    refine upto ?_ ?_
    · intro s h0 h1
      refine ⟨s, ?_, h0, h1, fun _ => by simp [lsum]⟩
      refine step1 (fun _ _ _ _ _ => herbariumlaw0_Lists.l1.eq_2 ..) ?_
      exact negD (by omega) (now s)
    · intro i hi ih s h0 h1
      by_cases hs : s < 1048576
      · have hy := hx _ (getD_mem (d := []) hi)
        obtain ⟨r, h, a, b, c⟩ := ih (s + ((xs.getD i []).length : Int)) (by omega) (by omega)
        refine ⟨r, ?_, a, b, fun hr => by rw [c hr, lsum_drop hi]; omega⟩
        refine step1 (fun _ _ _ _ _ => herbariumlaw0_Lists.l1.eq_2 ..) ?_
        refine posD (by omega) (posD hs (pos (by omega) ?_))
        rw [rd1N, w64 (by omega) (by omega), w1 (by omega)]
        exact h
      · refine ⟨s, ?_, h0, h1, fun h => by omega⟩
        refine step1 (fun _ _ _ _ _ => herbariumlaw0_Lists.l1.eq_2 ..) ?_
        exact posD (by omega) (negD hs (now s))
  obtain ⟨r, h, a, b, c⟩ := key 0 (by omega) xs.length (by omega) (by omega)
  exact ⟨r, h.e1, a, b, fun hr => by rw [c hr]; simp⟩
def wt (g : api_Graph) : Nat := g.Out.length + lsum g.Out
abbrev zG : api_Graph := default
theorem rdG (xs : List api_Graph) (i : Nat) : nth xs (i : Int) = xs.getD i zG := nthN xs i
def Gfit (g : api_Graph) : Prop := g.Out.length ≤ 17592186044416 ∧ ∀ y ∈ g.Out, y.length ≤ 17592186044416
theorem weight_ev (gs : List api_Graph) (hl : gs.length ≤ 17592186044416) (hx : ∀ g ∈ gs, Gfit g) :
    ∃ r : Int, E0 (fun K => herbariumlaw0_GraphsWeight K gs) r ∧ 0 ≤ r ∧ r ≤ 52776558133248 ∧ (r < 1048576 → (gs.length : Int) ≤ r ∧ ∀ g ∈ gs, (wt g : Int) ≤ r) := by
  have key : ∀ i, i ≤ gs.length → ∀ s : Int, 0 ≤ s → s ≤ 52776558133248 → ∃ r : Int, E1 (fun K k => herbariumlaw0_GraphsWeight.l1 K gs k s (i : Int)) r ∧ 0 ≤ r ∧ r ≤ 52776558133248 ∧ s ≤ r ∧ (r < 1048576 → ∀ g ∈ gs.drop i, (wt g : Int) ≤ r) := by
    refine upto ?_ ?_
    · intro s h0 h1
      refine ⟨s, ?_, h0, h1, by omega, fun _ => by simp⟩
      refine step1 (fun _ _ _ _ _ => herbariumlaw0_GraphsWeight.l1.eq_2 ..) ?_
      exact negD (by omega) (now s)
    · intro i hi ih s h0 h1
      by_cases hs : s < 1048576
      · have hg := hx _ (getD_mem (d := zG) hi)
        obtain ⟨q, e, q0, q1, q2⟩ := lists_ev (gs.getD i zG).Out hg.1 hg.2
        obtain ⟨r, h, a, b, l, c⟩ := ih (s + q) (by omega) (by omega)
        refine ⟨r, ?_, a, b, by omega, fun hr => ?_⟩
        · refine step1 (fun _ _ _ _ _ => herbariumlaw0_GraphsWeight.l1.eq_2 ..) ?_
          refine posD (by omega) (posD hs (pos (by omega) ?_))
          rw [rdG, w1 (by omega)]
          refine bnd e ?_
          rw [w64 (by omega) (by omega)]
          exact h
        · rw [drop_getD (d := zG) hi]
          intro g hg'
          rcases List.mem_cons.1 hg' with rfl | hg'
          · have := q2 (by omega)
            simp only [wt]; omega
          · exact c hr g hg'
      · refine ⟨s, ?_, h0, h1, by omega, fun h => by omega⟩
        refine step1 (fun _ _ _ _ _ => herbariumlaw0_GraphsWeight.l1.eq_2 ..) ?_
        exact posD (by omega) (negD hs (now s))
  obtain ⟨r, h, a, b, l, c⟩ := key 0 (by omega) gs.length (by omega) (by omega)
  exact ⟨r, h.e1, a, b, fun hr => ⟨l, by simpa using c hr⟩⟩
theorem heavy6_ev (x : herbariumlaw6_Script) (hl : x.G.length ≤ 17592186044416) (hx : ∀ g ∈ x.G, Gfit g) (ha : x.A.length ≤ 17592186044416) : ∃ b : Bool, E0 (fun K => herbariumlaw6_Heavy K x) b ∧ (b = false → x.G.length ≤ 1200 ∧ x.A.length ≤ 1200 ∧ ∀ g ∈ x.G, wt g ≤ 1200) := by
  obtain ⟨r, e, r0, r1, r2⟩ := weight_ev x.G hl hx
  refine ⟨_, bnd e (now _), fun hb => ?_⟩
  rw [w64 (by omega) (by omega)] at hb
  have hb : r + (x.A.length : Int) ≤ 1200 := by simpa using hb
  obtain ⟨ha, hw⟩ := r2 (by omega)
  exact ⟨by omega, by omega, fun g hg => by have := hw g hg; omega⟩
def OkAt (xs : List Int) (i : Nat) : Prop := 0 ≤ xs.getD i 0 ∧ xs.getD i 0 ≤ 15 ∧ (0 < i → xs.getD (i - 1) 0 < xs.getD i 0)
instance (xs : List Int) (i : Nat) : Decidable (OkAt xs i) := by unfold OkAt; infer_instance
def MayP (xs : List Int) : Prop := ∀ i, i < xs.length → OkAt xs i
instance (xs : List Int) : Decidable (MayP xs) := by unfold MayP; infer_instance
theorem ok_ge {xs : List Int} : ∀ i : Nat, (∀ j, j ≤ i → OkAt xs j) → (i : Int) ≤ xs.getD i 0 := by
  intro i
  induction i with
  | zero => intro h; exact_mod_cast (h 0 (by omega)).1
  | succ i ih =>
    intro h
    have h1 := ih (fun j hj => h j (by omega))
    have h2 := (h (i + 1) (by omega)).2.2 (by omega)
    simp only [Nat.add_sub_cancel] at h2
    omega
theorem MayP.len {xs : List Int} (h : MayP xs) : xs.length ≤ 16 := by
  rcases Nat.eq_zero_or_pos xs.length with h0 | h0
  · omega
  · have h1 := ok_ge (xs := xs) (xs.length - 1) (fun j hj => h j (by omega))
    have h2 := (h (xs.length - 1) (by omega)).2.1
    omega
theorem num_eq (K : Nat) (a b : Int) : herbariumref0_Num K a b = some (decide (0 ≤ a ∧ a ≤ b)) := by
  unfold herbariumref0_Num
  by_cases h : a ≥ 0
  · rw [if_pos (decide_eq_true h)]; simp [h]
  · rw [if_neg (by simpa using h)]; simp; omega
theorem origin_eq (K : Nat) (a : Int) : herbariumref3_Origin K a = some (decide (0 ≤ a ∧ a ≤ 15)) := by unfold herbariumref3_Origin; rw [num_eq]; rfl
theorem is_eq (K : Nat) (a : Int) : gaps_Is K a = some (decide (0 ≤ a ∧ a ≤ 15)) := by
  unfold gaps_Is
  by_cases h : a ≥ 0
  · rw [if_pos (decide_eq_true h)]; simp [h]; omega
  · rw [if_neg (by simpa using h)]; simp; omega
theorem may3_ev (xs : List Int) (hl : xs.length ≤ 17592186044416) : E0 (fun K => herbariumref3_May K xs) (decide (MayP xs)) := by
  have key : ∀ i, i ≤ xs.length → (∀ j, j < i → OkAt xs j) → E1 (fun K k => herbariumref3_May.l1 K xs k (i : Int)) (decide (MayP xs)) := by
    refine upto ?_ ?_
    · intro hok
      have hm : MayP xs := hok
      have hn := hm.len
      refine step1 (fun _ _ _ _ _ => herbariumref3_May.l1.eq_2 ..) ?_
      exact negD (by omega) (nowE (by simp [hm]; omega))
    · intro i hi ih hok
      have h16 : i ≤ 16 := by
        rcases Nat.eq_zero_or_pos i with h0 | h0
        · omega
        · have h1 := ok_ge (xs := xs) (i - 1) (fun j hj => hok j (by omega))
          have h2 := (hok (i - 1) (by omega)).2.1
          omega
      refine step1 (fun _ _ _ _ _ => herbariumref3_May.l1.eq_2 ..) ?_
      refine posD (by omega) (posD (by omega) (pos (by omega) ?_))
      simp only [origin_eq]
      rw [rdN]
      refine bnd (now _) ?_
      by_cases ho : 0 ≤ xs.getD i 0 ∧ xs.getD i 0 ≤ 15
      · refine negM ho ?_
        rcases Nat.eq_zero_or_pos i with h0 | h0
        · refine negD (by omega) ?_
          rw [w1 (by omega)]
          refine ih fun j hj => ?_
          by_cases e : j = i
          · subst e; exact ⟨ho.1, ho.2, fun h => by omega⟩
          · exact hok j (by omega)
        · refine posD (by omega) ?_
          have e1 : wr .i64 ((i : Int) - 1) = ((i - 1 : Nat) : Int) := by rw [w64 (by omega) (by omega)]; omega
          rw [e1, rdN]
          refine pos (by omega) (pos (by omega) ?_)
          by_cases hlt : xs.getD (i - 1) 0 ≥ xs.getD i 0
          · refine posD hlt (nowE ?_)
            have : ¬ MayP xs := fun hm => by have := (hm i hi).2.2 h0; omega
            simp [this]
          · refine negD hlt ?_
            rw [w1 (by omega)]
            refine ih fun j hj => ?_
            by_cases e : j = i
            · subst e; exact ⟨ho.1, ho.2, fun h => by omega⟩
            · exact hok j (by omega)
      · refine posM ho (nowE ?_)
        have : ¬ MayP xs := fun hm => ho ⟨(hm i hi).1, (hm i hi).2.1⟩
        simp [this]
  exact (key 0 (by omega) (fun j hj => by omega)).e1
theorem gmay_ev (xs : List Int) (hl : xs.length ≤ 17592186044416) : E0 (fun K => gaps_May K xs) (decide (MayP xs)) := by
  have key : ∀ i, i ≤ xs.length → (∀ j, j < i → OkAt xs j) → E1 (fun K k => gaps_May.l1 K xs k ((xs.length : Nat) : Int) (i : Int)) (decide (MayP xs)) := by
    refine upto ?_ ?_
    · intro hok
      have hm : MayP xs := hok
      refine step1 (fun _ _ _ _ _ => gaps_May.l1.eq_2 ..) ?_
      exact negD (by omega) (nowE (by simp [hm]))
    · intro i hi ih hok
      refine step1 (fun _ _ _ _ _ => gaps_May.l1.eq_2 ..) ?_
      refine posD (by omega) (pos (by omega) ?_)
      simp only [is_eq]
      rw [rdN]
      refine bnd (now _) ?_
      by_cases ho : 0 ≤ xs.getD i 0 ∧ xs.getD i 0 ≤ 15
      · refine negM ho ?_
        rcases Nat.eq_zero_or_pos i with h0 | h0
        · refine negD (by omega) ?_
          rw [w1 (by omega)]
          refine ih fun j hj => ?_
          by_cases e : j = i
          · subst e; exact ⟨ho.1, ho.2, fun h => by omega⟩
          · exact hok j (by omega)
        · refine posD (by omega) ?_
          have e1 : wr .i64 ((i : Int) - 1) = ((i - 1 : Nat) : Int) := by rw [w64 (by omega) (by omega)]; omega
          rw [e1, rdN]
          refine pos (by omega) ?_
          by_cases hlt : xs.getD i 0 ≤ xs.getD (i - 1) 0
          · refine posD hlt (nowE ?_)
            have : ¬ MayP xs := fun hm => by have := (hm i hi).2.2 h0; omega
            simp [this]
          · refine negD hlt ?_
            rw [w1 (by omega)]
            refine ih fun j hj => ?_
            by_cases e : j = i
            · subst e; exact ⟨ho.1, ho.2, fun h => by omega⟩
            · exact hok j (by omega)
      · refine posM ho (nowE ?_)
        have : ¬ MayP xs := fun hm => ho ⟨(hm i hi).1, (hm i hi).2.1⟩
        simp [this]
  exact (key 0 (by omega) (fun j hj => by omega)).e1
def Sm (g : api_Graph) : Prop := g.Out.length + lsum g.Out ≤ 1000000
instance (g : api_Graph) : Decidable (Sm g) := by unfold Sm; infer_instance
theorem Sm.row {g : api_Graph} (h : Sm g) {i : Nat} (hi : i < g.Out.length) : (g.Out.getD i []).length ≤ 1000000 := by
  have := lsum_mem (getD_mem (d := []) hi)
  unfold Sm at h
  omega
theorem wt_Sm {g : api_Graph} (h : wt g ≤ 1200) : Sm g := by unfold wt at h; unfold Sm; omega
theorem edges_ev (g : api_Graph) (hl : Sm g) : E0 (fun K => herbariumref6_Edges K g) (lsum g.Out : Int) := by
  unfold Sm at hl
  have key : ∀ i, i ≤ g.Out.length → E1 (fun K k => herbariumref6_Edges.l1 K g k (lsum (g.Out.take i) : Int) (i : Int)) (lsum g.Out : Int) := by
    refine upto ?_ ?_
    · refine step1 (fun _ _ _ _ _ => herbariumref6_Edges.l1.eq_2 ..) ?_
      exact negD (by omega) (nowE (by rw [List.take_length]))
    · intro i hi ih
      have h1 := lsum_take hi
      have h2 := lsum_take_le g.Out (i + 1)
      refine step1 (fun _ _ _ _ _ => herbariumref6_Edges.l1.eq_2 ..) ?_
      refine posD (by omega) (pos (by omega) ?_)
      rw [rd1N, w64 (by omega) (by omega), w1 (by omega), show ((lsum (g.Out.take i) : Int) + ((g.Out.getD i []).length : Int)) = (lsum (g.Out.take (i + 1)) : Int) by omega]
      exact ih
  exact (key 0 (by omega)).e1
theorem many_ev (g : api_Graph) (hl : Sm g) : E0 (fun K => graph_many K g) (lsum g.Out : Int) := by
  unfold Sm at hl
  have key : ∀ i, i ≤ g.Out.length → E1 (fun K k => graph_many.l1 K g k (lsum (g.Out.take i) : Int) ((g.Out.length : Nat) : Int) (i : Int)) (lsum g.Out : Int) := by
    refine upto ?_ ?_
    · refine step1 (fun _ _ _ _ _ => graph_many.l1.eq_2 ..) ?_
      exact negD (by omega) (nowE (by rw [List.take_length]))
    · intro i hi ih
      have h1 := lsum_take hi
      have h2 := lsum_take_le g.Out (i + 1)
      refine step1 (fun _ _ _ _ _ => graph_many.l1.eq_2 ..) ?_
      refine posD (by omega) (pos (by omega) ?_)
      rw [rd1N, w64 (by omega) (by omega), w1 (by omega), show ((lsum (g.Out.take i) : Int) + ((g.Out.getD i []).length : Int)) = (lsum (g.Out.take (i + 1)) : Int) by omega]
      exact ih
  exact (key 0 (by omega)).e1
def RowP (n : Int) (xs : List Int) : Prop := MayP xs ∧ (0 < xs.length → xs.getD (xs.length - 1) 0 < n)
instance (n : Int) (xs : List Int) : Decidable (RowP n xs) := by unfold RowP; infer_instance
def GraphP (g : api_Graph) : Prop := 0 ≤ g.N ∧ g.N ≤ 16 ∧ (g.Out.length : Int) = g.N ∧ (∀ i, i < g.Out.length → RowP g.N (g.Out.getD i [])) ∧ lsum g.Out ≤ 120
instance (g : api_Graph) : Decidable (GraphP g) := by unfold GraphP; infer_instance
theorem graph6_ev (g : api_Graph) (hs : Sm g) : E0 (fun K => herbariumref6_Graph K g) (decide (GraphP g)) := by
  have key : (g.Out.length : Int) = g.N → 0 ≤ g.N → g.N ≤ 16 → ∀ i, i ≤ g.Out.length → (∀ j, j < i → RowP g.N (g.Out.getD j [])) → E1 (fun K k => herbariumref6_Graph.l1 K g k (i : Int)) (decide (GraphP g)) := by
    intro hn n0 n16
    refine upto ?_ ?_
    · intro hok
      refine step1 (fun _ _ _ _ _ => herbariumref6_Graph.l1.eq_2 ..) ?_
      refine negD (by omega) (bnd (edges_ev g hs) (nowE ?_))
      have : GraphP g ↔ lsum g.Out ≤ 120 := ⟨fun h => h.2.2.2.2, fun h => ⟨n0, n16, hn, hok, h⟩⟩
      simp [this]; omega
    · intro i hi ih hok
      have hr := hs.row hi
      refine step1 (fun _ _ _ _ _ => herbariumref6_Graph.l1.eq_2 ..) ?_
      refine posD (by omega) (pos (by omega) ?_)
      rw [rd1N]
      refine bnd (may3_ev _ (by omega)) ?_
      have hno : ¬ RowP g.N (g.Out.getD i []) → decide (GraphP g) = false := fun h => by
        have : ¬ GraphP g := fun hg => h (hg.2.2.2.1 i hi)
        simp [this]
      have hgo : RowP g.N (g.Out.getD i []) → ∀ j, j < i + 1 → RowP g.N (g.Out.getD j []) := fun h j hj => by
        by_cases e : j = i
        · subst e; exact h
        · exact hok j (by omega)
      by_cases hm : MayP (g.Out.getD i [])
      · refine neg (by simpa using hm) (pos (by omega) ?_)
        rw [w1 (by omega)]
        by_cases h0 : 0 < (g.Out.getD i []).length
        · refine posD (by omega) ?_
          have e1 : wr .i64 (((g.Out.getD i []).length : Int) - 1) = (((g.Out.getD i []).length - 1 : Nat) : Int) := by rw [w64 (by omega) (by omega)]; omega
          rw [e1, rdN]
          refine pos (by omega) (pos (by omega) (pos (by omega) ?_))
          by_cases hlt : (g.Out.getD i []).getD ((g.Out.getD i []).length - 1) 0 ≥ g.N
          · exact posD hlt (nowE (hno fun h => by have := h.2 h0; omega).symm)
          · exact negD hlt (ih (hgo ⟨hm, fun _ => by omega⟩))
        · exact negD (by omega) (ih (hgo ⟨hm, fun h => absurd h h0⟩))
      · exact pos (by simpa using hm) (nowE (hno fun h => hm h.1).symm)
  unfold herbariumref6_Graph
  simp only [num_eq]
  refine bnd (now _) ?_
  by_cases h : 0 ≤ g.N ∧ g.N ≤ 16
  · refine neg (by simpa using h) ?_
    by_cases hn : (g.Out.length : Int) = g.N
    · exact negN hn (key hn h.1 h.2 0 (by omega) (fun j hj => by omega)).e1
    · exact posN hn (nowE (by have : ¬ GraphP g := fun hg => hn hg.2.2.1
                              simp [this]))
  · exact posM h (nowE (decide_eq_false (fun hg : GraphP g => h ⟨hg.1, hg.2.1⟩)).symm)
theorem gmayG_ev (g : api_Graph) (hs : Sm g) : E0 (fun K => graph_May K g) (decide (GraphP g)) := by
  have key : (g.Out.length : Int) = g.N → 0 ≤ g.N → g.N ≤ 16 → ∀ i, i ≤ g.Out.length → (∀ j, j < i → RowP g.N (g.Out.getD j [])) → E1 (fun K k => graph_May.l1 K g k ((g.Out.length : Nat) : Int) (i : Int)) (decide (GraphP g)) := by
    intro hn n0 n16
    refine upto ?_ ?_
    · intro hok
      refine step1 (fun _ _ _ _ _ => graph_May.l1.eq_2 ..) ?_
      refine negD (by omega) (bnd (many_ev g hs) (nowE ?_))
      have : GraphP g ↔ lsum g.Out ≤ 120 := ⟨fun h => h.2.2.2.2, fun h => ⟨n0, n16, hn, hok, h⟩⟩
      simp [this]; omega
    · intro i hi ih hok
      have hr := hs.row hi
      refine step1 (fun _ _ _ _ _ => graph_May.l1.eq_2 ..) ?_
      refine posD (by omega) (pos (by omega) ?_)
      rw [rd1N]
      refine bnd (gmay_ev _ (by omega)) ?_
      have hno : ¬ RowP g.N (g.Out.getD i []) → decide (GraphP g) = false := fun h => by
        have : ¬ GraphP g := fun hg => h (hg.2.2.2.1 i hi)
        simp [this]
      have hgo : RowP g.N (g.Out.getD i []) → ∀ j, j < i + 1 → RowP g.N (g.Out.getD j []) := fun h j hj => by
        by_cases e : j = i
        · subst e; exact h
        · exact hok j (by omega)
      by_cases hm : MayP (g.Out.getD i [])
      · refine neg (by simpa using hm) ?_
        rw [w1 (by omega)]
        by_cases h0 : 0 < (g.Out.getD i []).length
        · refine posD (by omega) ?_
          have e1 : wr .i64 (((g.Out.getD i []).length : Int) - 1) = (((g.Out.getD i []).length - 1 : Nat) : Int) := by rw [w64 (by omega) (by omega)]; omega
          rw [e1, rdN]
          refine pos (by omega) ?_
          by_cases hlt : (g.Out.getD i []).getD ((g.Out.getD i []).length - 1) 0 ≥ g.N
          · exact posD hlt (nowE (hno fun h => by have := h.2 h0; omega).symm)
          · exact negD hlt (ih (hgo ⟨hm, fun _ => by omega⟩))
        · exact negD (by omega) (ih (hgo ⟨hm, fun h => absurd h h0⟩))
      · exact pos (by simpa using hm) (nowE (hno fun h => hm h.1).symm)
  unfold graph_May
  by_cases h0 : g.N < 0
  · exact posD h0 (nowE (by have : ¬ GraphP g := fun hg => by have := hg.1; omega
                            simp [this]))
  · refine negD h0 ?_
    by_cases h1 : g.N > 16
    · exact posD h1 (nowE (by have : ¬ GraphP g := fun hg => by have := hg.2.1; omega
                              simp [this]))
    · refine negD h1 ?_
      by_cases hn : (g.Out.length : Int) = g.N
      · exact negN hn (key hn (by omega) (by omega) 0 (by omega) (fun j hj => by omega)).e1
      · exact posN hn (nowE (by have : ¬ GraphP g := fun hg => hn hg.2.2.1
                                simp [this]))
end Go.XL
end
section
namespace Go.XL
open Go.XM
abbrev zP : api_Pair := default
theorem MayP.mono {xs : List Int} (h : MayP xs) : ∀ d j : Nat, j + d < xs.length → xs.getD j 0 + d ≤ xs.getD (j + d) 0 := by
  intro d
  induction d with
  | zero => intro j hj; simp
  | succ d ih =>
    intro j hj
    have h1 := ih j (by omega)
    have h2 := (h (j + (d + 1)) hj).2.2 (by omega)
    rw [show j + (d + 1) - 1 = j + d by omega] at h2
    omega
theorem RowP.mem {n : Int} {xs : List Int} (h : RowP n xs) {v : Int} (hv : v ∈ xs) : 0 ≤ v ∧ v < n := by
  obtain ⟨j, hj, rfl⟩ := List.mem_iff_getElem.1 hv
  rw [← getD_lt (d := 0) hj]
  have h0 := h.1.mono (xs.length - 1 - j) j (by omega)
  have h1 := h.2 (by omega)
  rw [show j + (xs.length - 1 - j) = xs.length - 1 by omega] at h0
  exact ⟨(h.1 j hj).1, by omega⟩
structure Good (N : Nat) (out : List (List Int)) : Prop where
  le : N ≤ 16
  len : out.length = N
  row : ∀ i, i < N → ∀ v ∈ out.getD i [], 0 ≤ v ∧ v < N
  may : ∀ i, i < N → MayP (out.getD i [])
  sum : lsum out ≤ 120
theorem GraphP.good {g : api_Graph} (h : GraphP g) : g.N = (g.N.toNat : Int) ∧ Good g.N.toNat g.Out := by
  obtain ⟨h0, h1, h2, h3, h4⟩ := h
  have e : g.N = (g.N.toNat : Int) := by omega
  refine ⟨e, ⟨by omega, by omega, fun i hi v hv => ?_, fun i hi => (h3 i (by omega)).1, h4⟩⟩
  have := (h3 i (by omega)).mem hv
  omega
theorem Good.rlen {N : Nat} {out : List (List Int)} (h : Good N out) (i : Nat) : (out.getD i []).length ≤ 16 := by
  by_cases hi : i < N
  · exact (h.may i hi).len
  · have := h.len; simp [List.getD_eq_getElem?_getD, List.getElem?_eq_none (show out.length ≤ i by omega)]
theorem Good.at {N : Nat} {out : List (List Int)} (h : Good N out) {i j : Nat} (hi : i < N) (hj : j < (out.getD i []).length) : 0 ≤ (out.getD i []).getD j 0 ∧ (out.getD i []).getD j 0 < N := h.row i hi _ (getD_mem hj)
theorem copy_ev (xs : List Int) (h : xs.length ≤ 1000000) : E0 (fun K => herbariumref0_CopyNumbers K xs) xs := by
  have key : ∀ i, i ≤ xs.length → E1 (fun K k => herbariumref0_CopyNumbers.l1 K xs k (i : Int) (xs.take i)) xs := by
    refine upto ?_ ?_
    · refine step1 (fun _ _ _ _ _ => herbariumref0_CopyNumbers.l1.eq_2 ..) ?_
      exact negD (by omega) (nowE (List.take_length))
    · intro i hi ih
      refine step1 (fun _ _ _ _ _ => herbariumref0_CopyNumbers.l1.eq_2 ..) ?_
      refine posD (by omega) (pos (by omega) (pos (by simp; omega) ?_))
      rw [rdN, w1 (by omega), ← take_getD hi]
      exact ih
  exact (key 0 (by omega)).e1
def prs : Nat → List (List Int) → List api_Pair
  | _, [] => []
  | i, r :: rs => r.map (fun v => ((i, v) : api_Pair)) ++ prs (i + 1) rs
theorem prs_length : ∀ (i : Nat) (xs : List (List Int)), (prs i xs).length = lsum xs
  | _, [] => rfl
  | i, r :: rs => by rw [prs, List.length_append, List.length_map, prs_length (i + 1) rs, lsum_cons]
theorem prs_mem : ∀ (i : Nat) (xs : List (List Int)) (p : api_Pair), p ∈ prs i xs → ∃ j, j < xs.length ∧ p.A = ((i + j : Nat) : Int) ∧ p.B ∈ xs.getD j []
  | _, [], p, h => by simp [prs] at h
  | i, r :: rs, p, h => by
    rw [prs] at h
    rcases List.mem_append.1 h with h | h
    · obtain ⟨v, hv, rfl⟩ := List.mem_map.1 h
      exact ⟨0, by simp, by simp, by simpa using hv⟩
    · obtain ⟨j, hj, e, hm⟩ := prs_mem (i + 1) rs p h
      exact ⟨j + 1, by simp; omega, by rw [e]; omega, by simpa using hm⟩
theorem mem_prs : ∀ (i : Nat) (xs : List (List Int)) (j : Nat) (v : Int), j < xs.length → v ∈ xs.getD j [] → ((((i + j : Nat) : Int), v) : api_Pair) ∈ prs i xs
  | _, [], j, v, h, _ => by simp at h
  | i, r :: rs, j, v, h, hv => by
    rw [prs]
    rcases Nat.eq_zero_or_pos j with rfl | hj
    · exact List.mem_append.2 (.inl (List.mem_map.2 ⟨v, by simpa using hv, by simp⟩))
    · obtain ⟨j, rfl⟩ : ∃ m, j = m + 1 := ⟨j - 1, by omega⟩
      refine List.mem_append.2 (.inr ?_)
      have := mem_prs (i + 1) rs j v (by simpa using h) (by simpa using hv)
      rwa [show i + 1 + j = i + (j + 1) by omega] at this
theorem prs_drop {xs : List (List Int)} {i : Nat} (h : i < xs.length) : prs i (xs.drop i) = (xs.getD i []).map (fun v => ((i, v) : api_Pair)) ++ prs (i + 1) (xs.drop (i + 1)) := by rw [drop_getD (d := []) h, prs]
theorem pairs_ev (g : api_Graph) (hs : Sm g) (hn : g.N = g.Out.length) : E0 (fun K => herbariumref6_Pairs K g) (prs 0 g.Out) := by
  have key : ∀ i, i ≤ g.Out.length → ∀ acc : List api_Pair, acc.length + lsum (g.Out.drop i) ≤ 1000000 → acc ++ prs i (g.Out.drop i) = prs 0 g.Out → E1 (fun K k => herbariumref6_Pairs.l1 K g k (i : Int) acc) (prs 0 g.Out) := by
    refine upto ?_ ?_
    · intro acc hl he
      refine step1 (fun _ _ _ _ _ => herbariumref6_Pairs.l1.eq_2 ..) ?_
      exact negD (by omega) (nowE (by simpa [prs] using he))
    · intro i hi ih acc hl he
      have hr := hs.row hi
      have hs' : g.Out.length + lsum g.Out ≤ 1000000 := hs
      have h1 := lsum_drop hi
      have h2 : (prs (i + 1) (g.Out.drop (i + 1))).length = lsum (g.Out.drop (i + 1)) := prs_length _ _
      have h3 : (prs 0 g.Out).length = lsum g.Out := prs_length _ _
      have inner : ∀ j, j ≤ (g.Out.getD i []).length → ∀ acc : List api_Pair, acc.length + ((g.Out.getD i []).length - j) ≤ 1000000 → acc ++ ((g.Out.getD i []).drop j).map (fun v => ((i, v) : api_Pair)) ++ prs (i + 1) (g.Out.drop (i + 1)) = prs 0 g.Out → E2 (fun K k m => herbariumref6_Pairs.l2 K (herbariumref6_Pairs.l1 K g k) (i : Int) g m (j : Int) acc) (prs 0 g.Out) := by
        refine upto ?_ ?_
        · intro acc hl he
          refine step2 (fun _ _ _ _ _ => herbariumref6_Pairs.l2.eq_2 ..) ?_
          refine pos (by omega) ?_
          rw [rd1N]
          refine negD (by omega) ?_
          rw [w1 (by omega)]
          refine ih acc ?_ (by simpa using he)
          have := congrArg List.length he
          simp only [List.length_append, List.length_map, List.drop_length, List.length_nil, h2, h3] at this
          omega
        · intro j hj ih acc hl he
          refine step2 (fun _ _ _ _ _ => herbariumref6_Pairs.l2.eq_2 ..) ?_
          refine pos (by omega) ?_
          rw [rd1N]
          refine posD (by omega) (pos (by omega) (pos (by omega) (pos (by simp; omega) ?_)))
          rw [rdN, w1 (by omega)]
          refine ih _ (by simp only [List.length_append, List.length_cons, List.length_nil]; omega) ?_
          rw [← he, drop_getD (d := 0) hj]
          simp
      refine step1 (fun _ _ _ _ _ => herbariumref6_Pairs.l1.eq_2 ..) ?_
      refine posD (by omega) ?_
      exact (inner 0 (by omega) acc (by omega) (by rw [← he, prs_drop hi]; simp)).e2
  exact (key 0 (by omega) [] (by simpa [Sm] using (show lsum g.Out ≤ 1000000 by unfold Sm at hs; omega)) (by simp)).e1
def tstep (st : List (List Int)) (p : api_Pair) : List (List Int) := st.set p.B.toNat (st.getD p.B.toNat [] ++ [p.A])
def turn (N : Nat) (out : List (List Int)) : List (List Int) := (prs 0 out).foldl tstep (List.replicate N [])
theorem rdP (xs : List api_Pair) (i : Nat) : nth xs (i : Int) = xs.getD i zP := nthN xs i
theorem tstep_length (st : List (List Int)) (p : api_Pair) : (tstep st p).length = st.length := by simp [tstep]
theorem tstep_rows {st : List (List Int)} {p : api_Pair} {b : Nat} (h : ∀ j, (st.getD j []).length ≤ b) (hp : p.B.toNat < st.length) (j : Nat) : ((tstep st p).getD j []).length ≤ b + 1 := by
  unfold tstep
  rw [getD_set _ _ _ _ hp]
  have := h j
  have := h p.B.toNat
  split
  · simp only [List.length_append, List.length_cons, List.length_nil]; omega
  · omega
theorem fold_length (ps : List api_Pair) : ∀ st, (ps.foldl tstep st).length = st.length := by
  induction ps with
  | nil => intro st; rfl
  | cons p ps ih => intro st; rw [List.foldl_cons, ih, tstep_length]
theorem turn_length (N : Nat) (out : List (List Int)) : (turn N out).length = N := by unfold turn; rw [fold_length]; simp
theorem turn6_ev (g : api_Graph) (N : Nat) (e : g.N = (N : Int)) (h : Good N g.Out) : E0 (fun K => herbariumref6_Turn K g) (((N : Int), turn N g.Out) : api_Graph) := by
  have hle := h.le
  have hlen := h.len
  have hsum := h.sum
  have hps : ∀ p ∈ prs 0 g.Out, 0 ≤ p.B ∧ p.B < N := fun p hp => by
    obtain ⟨j, hj, _, hm⟩ := prs_mem 0 g.Out p hp
    exact h.row j (by omega) _ hm
  have hpl : (prs 0 g.Out).length = lsum g.Out := prs_length _ _
  have key : ∀ i, i ≤ (prs 0 g.Out).length → ∀ (r8 : api_Graph) (st : List (List Int)), r8.N = (N : Int) → st.length = N → (∀ j, (st.getD j []).length ≤ i) → E1 (fun K k => herbariumref6_Turn.l1 K (prs 0 g.Out) r8 k (i : Int) 0 st) (((N : Int), ((prs 0 g.Out).drop i).foldl tstep st) : api_Graph) := by
    refine upto ?_ ?_
    · intro r8 st hr8 hst hr
      refine step1 (fun _ _ _ _ _ => herbariumref6_Turn.l1.eq_2 ..) ?_
      exact negD (by omega) (nowE (by rw [hr8]; simp))
    · intro i hi ih r8 st hr8 hst hr
      have hp := hps _ (getD_mem (d := zP) hi)
      have hr1 := hr ((prs 0 g.Out).getD i zP).B.toNat
      refine step1 (fun _ _ _ _ _ => herbariumref6_Turn.l1.eq_2 ..) ?_
      refine posD (by omega) (pos (by omega) (pos (by omega) ?_))
      rw [rdP]
      refine pos (by omega) (pos (by omega) ?_)
      rw [rd1I, w1 (by omega)]
      refine pos (by simp only [List.length_cons, List.length_nil]; omega) (pos (by omega) (pos rfl ?_))
      have := ih r8 (tstep st ((prs 0 g.Out).getD i zP)) hr8 (by rw [tstep_length]; exact hst) (tstep_rows hr (by omega))
      rw [drop_getD (d := zP) hi, List.foldl_cons]
      exact this
  have he : ∀ K, herbariumref6_New K g.N = some (((N : Int), List.replicate N []) : api_Graph) := by
    intro K
    unfold herbariumref6_New
    rw [e, if_pos (by omega)]; simp
  unfold herbariumref6_Turn
  simp only [he]
  refine bnd (now _) (bnd (pairs_ev g (by unfold Sm; omega) (by omega)) ?_)
  exact (key 0 (by omega) ((N : Int), List.replicate N []) (List.replicate N []) rfl (by simp) (fun j => by simp [List.getD_eq_getElem?_getD, List.getElem?_replicate]; split <;> simp)).e1
def pad (c : List Int) (l : Nat) : List Int := c ++ List.replicate (l + 1 - c.length) 0
def cstep (c : List Int) (r : List Int) : List Int := (pad c r.length).set r.length (wr .i64 ((pad c r.length).getD r.length 0 + 1))
def cnt (out : List (List Int)) : List Int := out.foldl cstep []
theorem pad_length (c : List Int) (l : Nat) : (pad c l).length = max c.length (l + 1) := by unfold pad; simp; omega
theorem cstep_length (c r : List Int) : (cstep c r).length = max c.length (r.length + 1) := by unfold cstep; rw [List.length_set, pad_length]
theorem count10_ev (g : api_Graph) (hs : Sm g) (hn : g.N = g.Out.length) : E0 (fun K => herbariumref10_Count K g) (cnt g.Out) := by
  have hs' : g.Out.length + lsum g.Out ≤ 1000000 := hs
  have key : ∀ i, i ≤ g.Out.length → ∀ c : List Int, c.length ≤ 1000001 → E1 (fun K k => herbariumref10_Count.l1 K g k (i : Int) c) ((g.Out.drop i).foldl cstep c) := by
    refine upto ?_ ?_
    · intro c hc
      refine step1 (fun _ _ _ _ _ => herbariumref10_Count.l1.eq_2 ..) ?_
      exact negD (by omega) (nowE (by simp))
    · intro i hi ih c hc
      have hr := hs.row hi
      have inner : ∀ (d : Nat) (c : List Int), (g.Out.getD i []).length + 1 - c.length = d → c.length ≤ 1000001 → E2 (fun K k m => herbariumref10_Count.l2 K (herbariumref10_Count.l1 K g k) (i : Int) g m c) ((g.Out.drop (i + 1)).foldl cstep (cstep c (g.Out.getD i []))) := by
        intro d
        induction d with
        | zero =>
          intro c hd hc
          have hp : pad c (g.Out.getD i []).length = c := by unfold pad; rw [hd]; simp
          refine step2 (fun _ _ _ _ _ => herbariumref10_Count.l2.eq_2 ..) ?_
          refine pos (by omega) ?_
          rw [rd1N]
          refine negD (by omega) (pos (by omega) (pos (by omega) (pos (by omega) ?_)))
          rw [rdN, Int.toNat_natCast, w1 (by omega)]
          have := ih (c.set (g.Out.getD i []).length (wr .i64 (c.getD (g.Out.getD i []).length 0 + 1))) (by simpa using hc)
          unfold cstep at this ⊢
          rw [hp]
          exact this
        | succ d ihd =>
          intro c hd hc
          refine step2 (fun _ _ _ _ _ => herbariumref10_Count.l2.eq_2 ..) ?_
          refine pos (by omega) ?_
          rw [rd1N]
          refine posD (by omega) (pos (by simp; omega) ?_)
          have h0 : (c ++ [0]).length = c.length + 1 := by simp
          have := ihd (c ++ [0]) (by omega) (by omega)
          have hp : cstep (c ++ [0]) (g.Out.getD i []) = cstep c (g.Out.getD i []) := by
            unfold cstep pad
            rw [show (g.Out.getD i []).length + 1 - (c ++ [(0 : Int)]).length = d by omega, hd, List.replicate_succ]
            simp
          rw [hp] at this
          exact this
      refine step1 (fun _ _ _ _ _ => herbariumref10_Count.l1.eq_2 ..) ?_
      refine posD (by omega) ?_
      rw [drop_getD (d := []) hi, List.foldl_cons]
      exact (inner _ c rfl hc).e2
  exact (key 0 (by omega) [] (by simp)).e1
def flat (ps : List api_Pair) : List Int := ps.flatMap fun p => [p.A, p.B]
theorem flat_length (ps : List api_Pair) : (flat ps).length = 2 * ps.length := by
  unfold flat
  induction ps with
  | nil => rfl
  | cons p ps ih => rw [List.flatMap_cons, List.length_append, ih]; simp; omega
theorem askAll_ev (g : api_Graph) (hs : Sm g) : E0 (fun K => herbariumref10_Ask.l1 K (prs 0 g.Out) K 0 ([] : List Int)) (flat (prs 0 g.Out)) := by
  have hpl : (prs 0 g.Out).length = lsum g.Out := prs_length _ _
  have hs' : g.Out.length + lsum g.Out ≤ 1000000 := hs
  have key : ∀ i, i ≤ (prs 0 g.Out).length → ∀ acc : List Int, acc.length ≤ 2 * i → E1 (fun K k => herbariumref10_Ask.l1 K (prs 0 g.Out) k (i : Int) acc) (acc ++ flat ((prs 0 g.Out).drop i)) := by
    refine upto ?_ ?_
    · intro acc ha
      refine step1 (fun _ _ _ _ _ => herbariumref10_Ask.l1.eq_2 ..) ?_
      exact negD (by omega) (nowE (by simp [flat]))
    · intro i hi ih acc ha
      refine step1 (fun _ _ _ _ _ => herbariumref10_Ask.l1.eq_2 ..) ?_
      refine posD (by omega) (pos (by omega) (pos (by omega) ?_))
      rw [rdP, w1 (by omega)]
      refine pos (by simp; omega) ?_
      have := ih (acc ++ [((prs 0 g.Out).getD i zP).A, ((prs 0 g.Out).getD i zP).B]) (by simp; omega)
      rw [drop_getD (d := zP) hi]
      simpa [flat] using this
  simpa using (key 0 (by omega) [] (by simp)).e1
end Go.XL
end
section
namespace Go.XL
open Go.XM
theorem ext_getD {xs ys : List Int} (hl : xs.length = ys.length) (h : ∀ j, j < xs.length → xs.getD j 0 = ys.getD j 0) : xs = ys := by
  refine List.ext_getElem hl fun j h1 h2 => ?_
  have := h j h1
  rwa [getD_lt h1, getD_lt h2] at this
theorem nodup_le : ∀ (xs ys : List Int), xs.Nodup → (∀ x ∈ xs, x ∈ ys) → xs.length ≤ ys.length
  | [], _, _, _ => Nat.zero_le _
  | x :: xs, ys, hn, hs => by
    have hx := hs x (by simp)
    obtain ⟨h1, h2⟩ := List.nodup_cons.1 hn
    have := nodup_le xs (ys.erase x) h2 (fun y hy => (List.mem_erase_of_ne (fun e => h1 (by rw [← e]; exact hy))).2 (hs y (by simp [hy])))
    rw [List.length_erase_of_mem hx] at this
    have := List.length_pos_of_mem hx
    simp only [List.length_cons]
    omega
def Edge (out : List (List Int)) (u w : Nat) : Prop := (w : Int) ∈ out.getD u []
theorem edge_of {N : Nat} {out : List (List Int)} (h : Good N out) {u j : Nat} (hu : u < N) (hj : j < (out.getD u []).length) : Edge out u ((out.getD u []).getD j 0).toNat ∧ ((out.getD u []).getD j 0).toNat < N ∧ (((out.getD u []).getD j 0).toNat : Int) = (out.getD u []).getD j 0 := by
  have := h.at hu hj
  have e : (((out.getD u []).getD j 0).toNat : Int) = (out.getD u []).getD j 0 := by omega
  exact ⟨by unfold Edge; rw [e]; exact getD_mem hj, by omega, e⟩
theorem edge_at {out : List (List Int)} {u w : Nat} (h : Edge out u w) : ∃ j, j < (out.getD u []).length ∧ (out.getD u []).getD j 0 = (w : Int) := by
  obtain ⟨j, hj, e⟩ := List.mem_iff_getElem.1 h
  exact ⟨j, hj, by rw [getD_lt hj, e]⟩
structure Half (N : Nat) (out : List (List Int)) (a : Nat) (d : List Int) : Prop where
  len : d.length = N
  src : d.getD a 0 = 0
  zero : ∀ v, v < N → d.getD v 0 = 0 → v = a
  low : ∀ v, v < N → -1 ≤ d.getD v 0
  pred : ∀ v, v < N → 0 < d.getD v 0 → ∃ u, u < N ∧ Edge out u v ∧ d.getD u 0 = d.getD v 0 - 1
theorem Half.init {N : Nat} {out : List (List Int)} {a : Nat} (ha : a < N) : Half N out a ((List.replicate N (-1)).set a 0) := by
  have hg : ∀ v, v < N → ((List.replicate N (-1 : Int)).set a 0).getD v 0 = if v = a then 0 else -1 := fun v hv => by
    rw [getD_set _ _ _ _ (by simpa using ha)]
    split
    · rfl
    · simp [List.getD_eq_getElem?_getD, List.getElem?_replicate, hv]
  refine ⟨by simp, by rw [hg a ha]; simp, fun v hv h => ?_, fun v hv => ?_, fun v hv h => ?_⟩
  · rw [hg v hv] at h
    split at h
    · assumption
    · omega
  · rw [hg v hv]; split <;> omega
  · rw [hg v hv] at h
    split at h <;> omega
theorem Half.put {N : Nat} {out : List (List Int)} {a : Nat} {d : List Int} (h : Half N out a d) {u w : Nat} (hu : u < N) (hw : w < N) (he : Edge out u w) (h0 : 0 ≤ d.getD u 0) (h1 : d.getD w 0 < 0) : Half N out a (d.set w (d.getD u 0 + 1)) := by
  have hl := h.len
  have hs := h.src
  have hg : ∀ v, (d.set w (d.getD u 0 + 1)).getD v 0 = if v = w then d.getD u 0 + 1 else d.getD v 0 := fun v => getD_set _ _ _ _ (by omega)
  refine ⟨by simpa using hl, ?_, fun v hv hz => ?_, fun v hv => ?_, fun v hv hp => ?_⟩
  · rw [hg]
    split
    · rename_i e; rw [e] at hs; omega
    · exact hs
  · rw [hg] at hz
    split at hz
    · omega
    · exact h.zero v hv hz
  · rw [hg]
    have := h.low v hv
    split <;> omega
  · rw [hg] at hp
    split at hp
    · rename_i e
      refine ⟨u, hu, by rw [e]; exact he, ?_⟩
      rw [hg, hg, if_pos e, if_neg (by intro e2; rw [e2] at h0; omega)]
      omega
    · rename_i e
      obtain ⟨p, hp1, hp2, hp3⟩ := h.pred v hv hp
      refine ⟨p, hp1, hp2, ?_⟩
      rw [hg, hg, if_neg e, if_neg (by intro e2; rw [e2] at hp3; omega)]
      exact hp3
theorem Half.lt {N : Nat} {out : List (List Int)} {a : Nat} {d : List Int} (h : Half N out a d) {v : Nat} (hv : v < N) : d.getD v 0 < N := by
  have key : ∀ s : Nat, ∀ v, v < N → d.getD v 0 = s → ∀ t : Nat, t ≤ s → ∃ u, u < N ∧ d.getD u 0 = t := by
    intro s
    induction s with
    | zero => intro v hv hs t ht; exact ⟨v, hv, by rw [hs]; omega⟩
    | succ s ih =>
      intro v hv hs t ht
      by_cases e : t = s + 1
      · exact ⟨v, hv, by rw [hs, e]⟩
      · obtain ⟨u, hu, _, h3⟩ := h.pred v hv (by omega)
        exact ih u hu (by omega) t (by omega)
  by_cases h0 : d.getD v 0 < 0
  · omega
  · have hk := key (d.getD v 0).toNat v hv (by omega)
    have := nodup_le ((List.range ((d.getD v 0).toNat + 1)).map fun (t : Nat) => (t : Int)) d ?_ ?_
    · simp only [List.length_map, List.length_range] at this
      have := h.len
      omega
    · refine List.Pairwise.map _ (fun x y (hxy : x ≠ y) => ?_) List.nodup_range
      omega
    · intro x hx
      obtain ⟨t, ht, rfl⟩ := List.mem_map.1 hx
      obtain ⟨u, hu, e⟩ := hk t (by have := List.mem_range.1 ht; omega)
      rw [← e]
      exact getD_mem (by have := h.len; omega)
structure Dist (N : Nat) (out : List (List Int)) (a : Nat) (d : List Int) : Prop where
  half : Half N out a d
  edge : ∀ u w, u < N → w < N → Edge out u w → 0 ≤ d.getD u 0 → 0 ≤ d.getD w 0 ∧ d.getD w 0 ≤ d.getD u 0 + 1
theorem Dist.below {N : Nat} {out : List (List Int)} {a : Nat} {d d' : List Int} (h : Dist N out a d) (h' : Dist N out a d') : ∀ s : Nat, ∀ v, v < N → d.getD v 0 = s → 0 ≤ d'.getD v 0 ∧ d'.getD v 0 ≤ d.getD v 0 := by
  intro s
  induction s with
  | zero =>
    intro v hv hs
    obtain rfl := h.half.zero v hv (by simpa using hs)
    rw [h'.half.src, h.half.src]; omega
  | succ s ih =>
    intro v hv hs
    obtain ⟨u, hu, he, h3⟩ := h.half.pred v hv (by omega)
    have h4 := ih u hu (by omega)
    have h5 := h'.edge u v hu hv he h4.1
    omega
theorem Dist.uniq {N : Nat} {out : List (List Int)} {a : Nat} {d d' : List Int} (h : Dist N out a d) (h' : Dist N out a d') : d = d' := by
  have l := h.half.len
  have l' := h'.half.len
  refine ext_getD (by omega) fun v hv => ?_
  have hv : v < N := by omega
  have a1 := h.half.low v hv
  have a2 := h'.half.low v hv
  by_cases h0 : 0 ≤ d.getD v 0
  · have := h.below h' (d.getD v 0).toNat v hv (by omega)
    have := h'.below h (d'.getD v 0).toNat v hv (by omega)
    omega
  · by_cases h1 : 0 ≤ d'.getD v 0
    · have := h'.below h (d'.getD v 0).toNat v hv (by omega)
      omega
    · omega
structure Lev (N : Nat) (out : List (List Int)) (a t : Nat) (d : List Int) : Prop where
  half : Half N out a d
  cap : ∀ v, v < N → d.getD v 0 ≤ t
  clos : ∀ u w, u < N → w < N → Edge out u w → 0 ≤ d.getD u 0 → d.getD u 0 < t → 0 ≤ d.getD w 0 ∧ d.getD w 0 ≤ d.getD u 0 + 1
structure Lin (N : Nat) (out : List (List Int)) (a t u0 j0 : Nat) (d : List Int) : Prop where
  half : Half N out a d
  cap : ∀ v, v < N → d.getD v 0 ≤ t + 1
  clos : ∀ u w, u < N → w < N → Edge out u w → 0 ≤ d.getD u 0 → d.getD u 0 < t → 0 ≤ d.getD w 0 ∧ d.getD w 0 ≤ d.getD u 0 + 1
  fin : ∀ u w, u < u0 → u < N → w < N → Edge out u w → d.getD u 0 = t → 0 ≤ d.getD w 0
  part : ∀ j, j < j0 → j < (out.getD u0 []).length → d.getD u0 0 = t → 0 ≤ d.getD ((out.getD u0 []).getD j 0).toNat 0
theorem Lin.put {N : Nat} {out : List (List Int)} {a t u0 j0 : Nat} {d : List Int} (hg : Good N out) (h : Lin N out a t u0 j0 d) (hu : u0 < N) (hj : j0 < (out.getD u0 []).length) (ht : d.getD u0 0 = t) (hw : d.getD ((out.getD u0 []).getD j0 0).toNat 0 < 0) :
    Lin N out a t u0 (j0 + 1) (d.set ((out.getD u0 []).getD j0 0).toNat ((t : Int) + 1)) := by
  obtain ⟨he, hwN, hwe⟩ := edge_of hg hu hj
  have hl := h.half.len
  generalize ((out.getD u0 []).getD j0 0).toNat = w at *
  have hG : ∀ v, (d.set w ((t : Int) + 1)).getD v 0 = if v = w then (t : Int) + 1 else d.getD v 0 := fun v => getD_set _ _ _ _ (by omega)
  refine ⟨by have := h.half.put hu hwN he (by omega) hw; rwa [ht] at this, fun v hv => ?_, fun u x hu' hx hE h0 h1 => ?_, fun u x h1 h2 h3 hE h4 => ?_, fun j hj1 hj2 h4 => ?_⟩
  · rw [hG]; have := h.cap v hv; split <;> omega
  · rw [hG] at h0 h1 ⊢
    rw [hG u]
    by_cases e : u = w
    · rw [if_pos e] at h1; omega
    · rw [if_neg e] at h0 h1 ⊢
      have := h.clos u x hu' hx hE h0 h1
      by_cases e2 : x = w
      · rw [e2] at this; omega
      · rw [if_neg e2]; exact this
  · rw [hG] at h4 ⊢
    by_cases e : u = w
    · rw [if_pos e] at h4; omega
    · rw [if_neg e] at h4
      have := h.fin u x h1 h2 h3 hE h4
      split <;> omega
  · rw [hG]
    split
    · omega
    · rename_i e
      by_cases e2 : j = j0
      · subst e2; omega
      · exact h.part j (by omega) hj2 ht
theorem Lin.keep {N : Nat} {out : List (List Int)} {a t u0 j0 : Nat} {d : List Int} (h : Lin N out a t u0 j0 d) (hw : 0 ≤ d.getD ((out.getD u0 []).getD j0 0).toNat 0) : Lin N out a t u0 (j0 + 1) d :=
  ⟨h.half, h.cap, h.clos, h.fin, fun j h1 h2 h3 => by
    by_cases e : j = j0
    · subst e; exact hw
    · exact h.part j (by omega) h2 h3⟩
theorem Lin.next {N : Nat} {out : List (List Int)} {a t u0 j0 : Nat} {d : List Int} (hg : Good N out) (h : Lin N out a t u0 j0 d) (hu : u0 < N) (hd : d.getD u0 0 = t → (out.getD u0 []).length ≤ j0) : Lin N out a t (u0 + 1) 0 d :=
  ⟨h.half, h.cap, h.clos, fun u w h1 h2 h3 hE h4 => by
    by_cases e : u = u0
    · subst e
      obtain ⟨j, hj, ej⟩ := edge_at hE
      have := h.part j (by have := hd h4; omega) hj h4
      rwa [ej, Int.toNat_natCast] at this
    · exact h.fin u w (by omega) h2 h3 hE h4, fun j h1 => by omega⟩
theorem far10_ev (g : api_Graph) (N : Nat) (e : g.N = (N : Int)) (hg : Good N g.Out) (a : Nat) (ha : a < N) : ∃ d, Dist N g.Out a d ∧ E0 (fun K => herbariumref10_Far K g (a : Int)) d := by
  have hN := hg.le
  have hlen := hg.len
  have l2 : ∀ t, t ≤ N → ∀ d, Lev N g.Out a t d → ∃ r, Dist N g.Out a r ∧ E1 (fun K k => herbariumref10_Far.l2 K g k (t : Int) d) r := by
    refine upto ?_ ?_
    · intro d hd
      refine ⟨d, ⟨hd.half, fun u w hu hw hE h0 => hd.clos u w hu hw hE h0 (hd.half.lt hu)⟩, ?_⟩
      refine step1 (fun _ _ _ _ _ => herbariumref10_Far.l2.eq_2 ..) ?_
      exact negD (by omega) (now _)
    · intro t ht ih d hd
      have l3 : ∀ u0, u0 ≤ N → ∀ d, Lin N g.Out a t u0 0 d → ∃ r, Dist N g.Out a r ∧ E2 (fun K k m => herbariumref10_Far.l3 K (herbariumref10_Far.l2 K g k) (t : Int) g m (u0 : Int) d) r := by
        refine upto ?_ ?_
        · intro d hd
          obtain ⟨r, h1, h2⟩ := ih d ⟨hd.half, fun v hv => by have := hd.cap v hv; omega, fun u w hu hw hE h0 h1 => by
            by_cases e : d.getD u 0 = t
            · have := hd.fin u w hu hu hw hE e
              have := hd.cap w hw
              omega
            · exact hd.clos u w hu hw hE h0 (by omega)⟩
          refine ⟨r, h1, ?_⟩
          refine step2 (fun _ _ _ _ _ => herbariumref10_Far.l3.eq_2 ..) ?_
          refine negD (by omega) ?_
          rw [w1 (by omega)]
          exact h2
        · intro u0 hu ihu d hd
          have hnext : ∀ d j0, Lin N g.Out a t u0 j0 d → (d.getD u0 0 = t → (g.Out.getD u0 []).length ≤ j0) → ∃ r, Dist N g.Out a r ∧ E2 (fun K k m => herbariumref10_Far.l3 K (herbariumref10_Far.l2 K g k) (t : Int) g m (wr .i64 ((u0 : Int) + 1)) d) r := by
            intro d j0 hd hj
            obtain ⟨r, h1, h2⟩ := ihu d (hd.next hg hu hj)
            refine ⟨r, h1, ?_⟩
            rw [w1 (by omega)]
            exact h2
          have hrl := hg.rlen u0
          have l4 : ∀ j0, j0 ≤ (g.Out.getD u0 []).length → ∀ d, Lin N g.Out a t u0 j0 d → ∃ r, Dist N g.Out a r ∧ E3 (fun K k m n => herbariumref10_Far.l4 K (herbariumref10_Far.l2 K g k) (herbariumref10_Far.l3 K (herbariumref10_Far.l2 K g k) (t : Int) g m) (t : Int) (u0 : Int) g n (j0 : Int) d) r := by
            refine upto ?_ ?_
            · intro d hd
              obtain ⟨r, h1, h2⟩ := hnext d _ hd (fun _ => Nat.le_refl _)
              refine ⟨r, h1, ?_⟩
              refine step3 (fun _ _ _ _ _ => herbariumref10_Far.l4.eq_2 ..) ?_
              refine pos (by omega) ?_
              rw [rd1N]
              exact negD (by omega) h2
            · intro j0 hj ihj d hd
              have hdl := hd.half.len
              obtain ⟨he, hwN, hwe⟩ := edge_of hg hu hj
              by_cases e : d.getD u0 0 = t
              · by_cases hw : d.getD ((g.Out.getD u0 []).getD j0 0).toNat 0 < 0
                · obtain ⟨r, h1, h2⟩ := ihj _ (hd.put hg hu hj e hw)
                  refine ⟨r, h1, ?_⟩
                  refine step3 (fun _ _ _ _ _ => herbariumref10_Far.l4.eq_2 ..) ?_
                  refine pos (by omega) ?_
                  rw [rd1N, rdN, rdN, rdI, w1 (by omega), w64 (by omega) (by omega)]
                  exact posD (by omega) (pos (by omega) (posE e (pos (by omega) (pos (by omega) (pos (by omega) (posD hw (pos (by omega) (pos (by omega) (pos (by omega) h2)))))))))
                · obtain ⟨r, h1, h2⟩ := ihj d (hd.keep (by omega))
                  refine ⟨r, h1, ?_⟩
                  refine step3 (fun _ _ _ _ _ => herbariumref10_Far.l4.eq_2 ..) ?_
                  refine pos (by omega) ?_
                  rw [rd1N, rdN, rdN, rdI, w1 (by omega), w64 (by omega) (by omega)]
                  exact posD (by omega) (pos (by omega) (posE e (pos (by omega) (pos (by omega) (pos (by omega) (negD hw h2))))))
              · obtain ⟨r, h1, h2⟩ := hnext d j0 hd (fun h => absurd h e)
                refine ⟨r, h1, ?_⟩
                refine step3 (fun _ _ _ _ _ => herbariumref10_Far.l4.eq_2 ..) ?_
                refine pos (by omega) ?_
                rw [rd1N, rdN]
                exact posD (by omega) (pos (by omega) (negE e h2))
          obtain ⟨r, h1, h2⟩ := l4 0 (by omega) d hd
          refine ⟨r, h1, ?_⟩
          refine step2 (fun _ _ _ _ _ => herbariumref10_Far.l3.eq_2 ..) ?_
          exact posD (by omega) h2.e3
      obtain ⟨r, h1, h2⟩ := l3 0 (by omega) d ⟨hd.half, fun v hv => by have := hd.cap v hv; omega, hd.clos, fun u w h1 => by omega, fun j h1 => by omega⟩
      refine ⟨r, h1, ?_⟩
      refine step1 (fun _ _ _ _ _ => herbariumref10_Far.l2.eq_2 ..) ?_
      exact posD (by omega) h2.e2
  have l1 : ∀ i, i ≤ N → ∀ d : List Int, d.length = N → (∀ j, j < i → d.getD j 0 = -1) → ∃ r, Dist N g.Out a r ∧ E1 (fun K k => herbariumref10_Far.l1 K g (a : Int) k (i : Int) d) r := by
    refine upto ?_ ?_
    · intro d hl hd
      have e : d = List.replicate N (-1) := ext_getD (by simpa using hl) fun j hj => by
        rw [hd j (by omega)]
        simp [List.getD_eq_getElem?_getD, List.getElem?_replicate, show j < N by omega]
      have hi := Half.init (out := g.Out) ha
      obtain ⟨r, h1, h2⟩ := l2 0 (by omega) ((List.replicate N (-1)).set a 0) ⟨hi, fun v hv => by
          by_cases e : 0 < ((List.replicate N (-1 : Int)).set a 0).getD v 0
          · rw [getD_set _ _ _ _ (by simpa using ha)] at e
            split at e
            · omega
            · simp [List.getD_eq_getElem?_getD, List.getElem?_replicate, hv] at e
          · omega, fun u w _ _ _ h0 h1 => by omega⟩
      refine ⟨r, h1, ?_⟩
      refine step1 (fun _ _ _ _ _ => herbariumref10_Far.l1.eq_2 ..) ?_
      refine negD (by omega) (pos (by omega) ?_)
      rw [Int.toNat_natCast, e]
      exact h2.e1
    · intro i hi ih d hl hd
      obtain ⟨r, h1, h2⟩ := ih (d.set i (-1)) (by simpa using hl) (fun j hj => by
        rw [getD_set _ _ _ _ (by omega)]
        split
        · rfl
        · exact hd j (by omega))
      refine ⟨r, h1, ?_⟩
      refine step1 (fun _ _ _ _ _ => herbariumref10_Far.l1.eq_2 ..) ?_
      refine posD (by omega) (pos (by omega) ?_)
      rw [Int.toNat_natCast, w1 (by omega)]
      exact h2
  obtain ⟨r, h1, h2⟩ := l1 0 (by omega) (List.replicate N 0) (by simp) (fun j hj => by omega)
  refine ⟨r, h1, ?_⟩
  unfold herbariumref10_Far
  rw [e]
  refine pos (by omega) ?_
  rw [Int.toNat_natCast]
  exact h2.e1
def unv : List Int → Nat
  | [] => 0
  | x :: xs => (if x < 0 then 1 else 0) + unv xs
theorem unv_set : ∀ (d : List Int) (w : Nat) (v : Int), w < d.length → d.getD w 0 < 0 → 0 ≤ v → unv (d.set w v) + 1 = unv d
  | [], w, v, h, _, _ => by simp at h
  | x :: d, 0, v, _, h1, h2 => by
    have h1 : x < 0 := by simpa using h1
    simp only [List.set_cons_zero, unv]
    rw [if_neg (by omega), if_pos h1]; omega
  | x :: d, w + 1, v, h, h1, h2 => by
    have := unv_set d w v (by simpa using h) (by simpa using h1) h2
    simp only [List.set_cons_succ, unv]
    omega
theorem unv_le : ∀ d : List Int, unv d ≤ d.length
  | [] => Nat.le_refl _
  | x :: d => by
    have := unv_le d
    simp only [unv, List.length_cons]
    split <;> omega
structure Bfs (N : Nat) (out : List (List Int)) (a : Nat) (d q : List Int) : Prop where
  half : Half N out a d
  qin : ∀ x ∈ q, 0 ≤ x ∧ x < N ∧ 0 ≤ d.getD x.toNat 0
  clos : ∀ u, u < N → 0 ≤ d.getD u 0 → (u : Int) ∉ q → ∀ w, w < N → Edge out u w → 0 ≤ d.getD w 0 ∧ d.getD w 0 ≤ d.getD u 0 + 1
  cap : ∀ x ∈ q, ∀ v, v < N → d.getD v 0 ≤ d.getD x.toNat 0 + 1
  srt : q.Pairwise fun x y => d.getD x.toNat 0 ≤ d.getD y.toNat 0
structure Bin (N : Nat) (out : List (List Int)) (a x j0 : Nat) (d q : List Int) : Prop where
  half : Half N out a d
  qin : ∀ x ∈ q, 0 ≤ x ∧ x < N ∧ 0 ≤ d.getD x.toNat 0
  vis : 0 ≤ d.getD x 0
  clos : ∀ u, u < N → 0 ≤ d.getD u 0 → (u : Int) ∉ q → u ≠ x → ∀ w, w < N → Edge out u w → 0 ≤ d.getD w 0 ∧ d.getD w 0 ≤ d.getD u 0 + 1
  part : ∀ j, j < j0 → j < (out.getD x []).length → 0 ≤ d.getD ((out.getD x []).getD j 0).toNat 0
  cap : ∀ v, v < N → d.getD v 0 ≤ d.getD x 0 + 1
  low : ∀ y ∈ q, d.getD x 0 ≤ d.getD y.toNat 0
  srt : q.Pairwise fun x y => d.getD x.toNat 0 ≤ d.getD y.toNat 0
theorem Bin.put {N : Nat} {out : List (List Int)} {a x j0 : Nat} {d q : List Int} (hg : Good N out) (h : Bin N out a x j0 d q) (hx : x < N) (hj : j0 < (out.getD x []).length) (hw : d.getD ((out.getD x []).getD j0 0).toNat 0 < 0) :
    Bin N out a x (j0 + 1) (d.set ((out.getD x []).getD j0 0).toNat (d.getD x 0 + 1)) (q ++ [(out.getD x []).getD j0 0]) := by
  obtain ⟨he, hwN, hwe⟩ := edge_of hg hx hj
  have hl := h.half.len
  have hpt := h.part
  generalize hwd : ((out.getD x []).getD j0 0).toNat = w at *
  rw [← hwe]
  have hG : ∀ v, (d.set w (d.getD x 0 + 1)).getD v 0 = if v = w then d.getD x 0 + 1 else d.getD v 0 := fun v => getD_set _ _ _ _ (by omega)
  have hv := h.vis
  have hxw : x ≠ w := fun e => by rw [← e] at hw; omega
  have hGx : (d.set w (d.getD x 0 + 1)).getD x 0 = d.getD x 0 := by rw [hG, if_neg hxw]
  have hq : ∀ y ∈ q, (d.set w (d.getD x 0 + 1)).getD y.toNat 0 = d.getD y.toNat 0 := fun y hy => by
    rw [hG, if_neg]
    intro e
    have := (h.qin y hy).2.2
    rw [e] at this
    omega
  have hGw : (d.set w (d.getD x 0 + 1)).getD w 0 = d.getD x 0 + 1 := by rw [hG, if_pos rfl]
  refine ⟨h.half.put hx hwN he hv hw, fun y hy => ?_, by rw [hGx]; exact hv, fun u hu h0 hn hne v hvN hE => ?_, fun j hj1 hj2 => ?_, fun v hvN => ?_, fun y hy => ?_, ?_⟩
  · rcases List.mem_append.1 hy with hy | hy
    · rw [hq y hy]; exact h.qin y hy
    · obtain rfl := List.mem_singleton.1 hy
      rw [Int.toNat_natCast, hGw]; omega
  · have hn1 : (u : Int) ∉ q := fun m => hn (List.mem_append.2 (.inl m))
    have hn2 : u ≠ w := fun e => hn (List.mem_append.2 (.inr (by simp [e])))
    rw [hG, if_neg hn2] at h0
    have := h.clos u hu h0 hn1 hne v hvN hE
    rw [hG, hG u, if_neg hn2]
    by_cases e : v = w
    · rw [e] at this; omega
    · rw [if_neg e]; exact this
  · rw [hG]
    split
    · omega
    · rename_i e
      by_cases e2 : j = j0
      · subst e2; omega
      · exact hpt j (by omega) hj2
  · rw [hG, hGx]; have := h.cap v hvN; split <;> omega
  · rw [hGx]
    rcases List.mem_append.1 hy with hy | hy
    · rw [hq y hy]; exact h.low y hy
    · obtain rfl := List.mem_singleton.1 hy
      rw [Int.toNat_natCast, hGw]; omega
  · refine List.pairwise_append.2 ⟨?_, List.pairwise_singleton _ _, fun y hy z hz => ?_⟩
    · refine h.srt.imp_of_mem fun {y z} hy hz hyz => ?_
      rw [hq y hy, hq z hz]; exact hyz
    · obtain rfl := List.mem_singleton.1 hz
      rw [hq y hy, Int.toNat_natCast, hGw]
      exact h.cap _ (by have := h.qin y hy; omega)
theorem Bin.keep {N : Nat} {out : List (List Int)} {a x j0 : Nat} {d q : List Int} (h : Bin N out a x j0 d q) (hw : 0 ≤ d.getD ((out.getD x []).getD j0 0).toNat 0) : Bin N out a x (j0 + 1) d q :=
  ⟨h.half, h.qin, h.vis, h.clos, fun j h1 h2 => by
    by_cases e : j = j0
    · subst e; exact hw
    · exact h.part j (by omega) h2, h.cap, h.low, h.srt⟩
theorem Bin.out {N : Nat} {out : List (List Int)} {a x j0 : Nat} {d q : List Int} (h : Bin N out a x j0 d q) (hj : (out.getD x []).length ≤ j0) : Bfs N out a d q :=
  ⟨h.half, h.qin, fun u hu h0 hn w hw hE => by
    by_cases e : u = x
    · subst e
      obtain ⟨j, hj1, ej⟩ := edge_at hE
      have := h.part j (by omega) hj1
      rw [ej, Int.toNat_natCast] at this
      exact ⟨this, h.cap w hw⟩
    · exact h.clos u hu h0 hn e w hw hE, fun y hy v hv => by have := h.cap v hv; have := h.low y hy; omega, h.srt⟩
end Go.XL
end
section
namespace Go.XL
open Go.XM
def mn (a b : Int) : Int := if b < a then b else a
def Conn (N : Nat) (out : List (List Int)) (u v : Nat) : Prop := ∀ f : Nat → Int, (∀ a b, a < N → b < N → Edge out a b → f a = f b) → f u = f v
theorem Conn.rfl' {N : Nat} {out : List (List Int)} (u : Nat) : Conn N out u u := fun _ _ => rfl
theorem Conn.symm {N : Nat} {out : List (List Int)} {u v : Nat} (h : Conn N out u v) : Conn N out v u := fun f hf => (h f hf).symm
theorem Conn.trans {N : Nat} {out : List (List Int)} {u v w : Nat} (h : Conn N out u v) (k : Conn N out v w) : Conn N out u w := fun f hf => (h f hf).trans (k f hf)
theorem Conn.of {N : Nat} {out : List (List Int)} {u v : Nat} (hu : u < N) (hv : v < N) (h : Edge out u v) : Conn N out u v := fun f hf => hf u v hu hv h
structure PHalf (N : Nat) (out : List (List Int)) (l : List Int) : Prop where
  len : l.length = N
  num : ∀ v, v < N → 0 ≤ l.getD v 0 ∧ l.getD v 0 ≤ v
  con : ∀ v, v < N → Conn N out v (l.getD v 0).toNat
structure PartOf (N : Nat) (out : List (List Int)) (l : List Int) : Prop where
  half : PHalf N out l
  edge : ∀ u w, u < N → w < N → Edge out u w → l.getD u 0 = l.getD w 0
theorem PartOf.le {N : Nat} {out : List (List Int)} {l l' : List Int} (h : PartOf N out l) (h' : PartOf N out l') {v : Nat} (hv : v < N) : l'.getD v 0 ≤ l.getD v 0 := by
  have h1 := h.half.num v hv
  have h2 : l'.getD v 0 = l'.getD (l.getD v 0).toNat 0 := h.half.con v hv (fun u => l'.getD u 0) h'.edge
  have h3 := h'.half.num (l.getD v 0).toNat (by omega)
  omega
theorem PartOf.uniq {N : Nat} {out : List (List Int)} {l l' : List Int} (h : PartOf N out l) (h' : PartOf N out l') : l = l' := by
  have a := h.half.len
  have b := h'.half.len
  refine ext_getD (by omega) fun v hv => ?_
  have := h.le h' (v := v) (by omega)
  have := h'.le h (v := v) (by omega)
  omega
theorem PHalf.init {N : Nat} {out : List (List Int)} {l : List Int} (hl : l.length = N) (h : ∀ j, j < N → l.getD j 0 = j) : PHalf N out l :=
  ⟨hl, fun v hv => by rw [h v hv]; omega, fun v hv => by rw [h v hv, Int.toNat_natCast]; exact Conn.rfl' v⟩
def Fin1 (N : Nat) (out : List (List Int)) (l : List Int) (v : Nat) : Prop := ∀ u, u < N → Conn N out v u → l.getD v 0 ≤ u
theorem Fin1.le {N : Nat} {out : List (List Int)} {l l' : List Int} {v : Nat} (h : Fin1 N out l v) (k : l'.getD v 0 ≤ l.getD v 0) : Fin1 N out l' v := fun u hu hc => by have := h u hu hc; omega
theorem fin_near {N : Nat} {out : List (List Int)} {l : List Int} (h : PHalf N out l) : ∀ n v, v < n → v < N → ∃ u, u < N ∧ Conn N out v u ∧ Fin1 N out l u := by
  intro n
  induction n with
  | zero => intro v hv; omega
  | succ n ih =>
    intro v hv hN
    by_cases hf : Fin1 N out l v
    · exact ⟨v, hN, Conn.rfl' v, hf⟩
    · obtain ⟨u, hu⟩ := Classical.not_forall.1 hf
      obtain ⟨hu1, hu2⟩ := Classical.not_forall.1 hu
      obtain ⟨hu2, hu3⟩ := Classical.not_forall.1 hu2
      have := h.num v hN
      obtain ⟨x, hx1, hx2, hx3⟩ := ih u (by omega) hu1
      exact ⟨x, hx1, hu2.trans hx2, hx3⟩
theorem fin_cross {N : Nat} {out : List (List Int)} {l : List Int} (h : PHalf N out l) {v : Nat} (hv : v < N) (hf : ¬ Fin1 N out l v) : ∃ a b, a < N ∧ b < N ∧ Edge out a b ∧ ((Fin1 N out l a ∧ ¬ Fin1 N out l b) ∨ (¬ Fin1 N out l a ∧ Fin1 N out l b)) := by
  apply Classical.byContradiction
  intro hn
  obtain ⟨u, hu, hc, hfu⟩ := fin_near h (v + 1) v (by omega) hv
  have := hc (fun x => @ite _ (Fin1 N out l x) (Classical.propDecidable _) 1 0) (fun a b ha hb he => by
    by_cases h1 : Fin1 N out l a <;> by_cases h2 : Fin1 N out l b
    · simp only [h1, h2]
    · exact absurd ⟨a, b, ha, hb, he, .inl ⟨h1, h2⟩⟩ hn
    · exact absurd ⟨a, b, ha, hb, he, .inr ⟨h1, h2⟩⟩ hn
    · simp only [h1, h2])
  simp only [if_neg hf, if_pos hfu] at this
  omega
def Settled (N : Nat) (out : List (List Int)) (l : List Int) (t : Nat) : Prop := (∀ v, v < N → Fin1 N out l v) ∨ ∃ xs : List Nat, xs.Nodup ∧ (∀ x ∈ xs, x < N ∧ Fin1 N out l x) ∧ t ≤ xs.length
theorem nodup_ltN {N : Nat} {xs : List Nat} (h : xs.Nodup) (hx : ∀ x ∈ xs, x < N) : xs.length ≤ N := by
  have := nodup_le (xs.map fun (x : Nat) => (x : Int)) ((List.range N).map fun (x : Nat) => (x : Int)) (List.Pairwise.map _ (fun x y (hxy : x ≠ y) => by omega) h) (fun y hy => by
    obtain ⟨x, hm, rfl⟩ := List.mem_map.1 hy
    exact List.mem_map.2 ⟨x, List.mem_range.2 (hx x hm), rfl⟩)
  simpa using this
theorem Settled.all {N : Nat} {out : List (List Int)} {l : List Int} (h : Settled N out l N) : ∀ v, v < N → Fin1 N out l v := by
  rcases h with h | ⟨xs, h1, h2, h3⟩
  · exact h
  · intro v hv
    by_cases hm : v ∈ xs
    · exact (h2 v hm).2
    · have := nodup_ltN (N := N) (List.nodup_cons.2 ⟨hm, h1⟩) (fun x hx => by
        rcases List.mem_cons.1 hx with rfl | hx
        · exact hv
        · exact (h2 x hx).1)
      simp only [List.length_cons] at this
      omega
theorem settled_part {N : Nat} {out : List (List Int)} {l : List Int} (h : PHalf N out l) (hs : ∀ v, v < N → Fin1 N out l v) : PartOf N out l := by
  refine ⟨h, fun u w hu hw he => ?_⟩
  have hc := Conn.of hu hw he
  have a := h.num u hu
  have b := h.num w hw
  have h1 := hs u hu (l.getD w 0).toNat (by omega) (hc.trans (h.con w hw))
  have h2 := hs w hw (l.getD u 0).toNat (by omega) (hc.symm.trans (h.con u hu))
  omega
structure Swp (N : Nat) (out : List (List Int)) (l0 : List Int) (u0 j0 : Nat) (l : List Int) : Prop where
  half : PHalf N out l
  le : ∀ v, v < N → l.getD v 0 ≤ l0.getD v 0
  fin : ∀ u w, u < u0 → u < N → w < N → Edge out u w → (Fin1 N out l0 u ∨ Fin1 N out l0 w) → Fin1 N out l u ∧ Fin1 N out l w
  part : ∀ j, j < j0 → j < (out.getD u0 []).length → (Fin1 N out l0 u0 ∨ Fin1 N out l0 ((out.getD u0 []).getD j 0).toNat) → Fin1 N out l u0 ∧ Fin1 N out l ((out.getD u0 []).getD j 0).toNat
theorem mn_le (a b : Int) : mn a b ≤ a ∧ mn a b ≤ b ∧ (mn a b = a ∨ mn a b = b) := by unfold mn; split <;> omega
theorem Swp.put {N : Nat} {out : List (List Int)} {l0 : List Int} {u0 j0 : Nat} {l : List Int} (hg : Good N out) (h : Swp N out l0 u0 j0 l) (hu : u0 < N) (hj : j0 < (out.getD u0 []).length) :
    Swp N out l0 u0 (j0 + 1) ((l.set u0 (mn (l.getD u0 0) (l.getD ((out.getD u0 []).getD j0 0).toNat 0))).set ((out.getD u0 []).getD j0 0).toNat (mn (l.getD u0 0) (l.getD ((out.getD u0 []).getD j0 0).toNat 0))) := by
  obtain ⟨he, hwN, hwe⟩ := edge_of hg hu hj
  have hl := h.half.len
  have hpt := h.part
  generalize hwd : ((out.getD u0 []).getD j0 0).toNat = w at *
  obtain ⟨hm1, hm2, hm3⟩ := mn_le (l.getD u0 0) (l.getD w 0)
  generalize mn (l.getD u0 0) (l.getD w 0) = m at *
  have hG : ∀ v, ((l.set u0 m).set w m).getD v 0 = if v = w ∨ v = u0 then m else l.getD v 0 := fun v => by
    rw [getD_set _ _ _ _ (by rw [List.length_set]; omega), getD_set _ _ _ _ (by omega)]
    by_cases e1 : v = w
    · simp [e1]
    · by_cases e2 : v = u0 <;> simp [e1, e2]
  have hle : ∀ v, ((l.set u0 m).set w m).getD v 0 ≤ l.getD v 0 := fun v => by
    rw [hG]
    split
    · rename_i e; rcases e with rfl | rfl <;> assumption
    · omega
  have hfu : ∀ v, Fin1 N out l v → Fin1 N out ((l.set u0 m).set w m) v := fun v hv => hv.le (hle v)
  have hc := Conn.of hu hwN he
  have hm : m = l.getD u0 0 ∨ m = l.getD w 0 := hm3
  have a := h.half.num u0 hu
  have b := h.half.num w hwN
  have hmc : Conn N out u0 m.toNat := by
    rcases hm with e | e
    · rw [e]; exact h.half.con u0 hu
    · rw [e]; exact hc.trans (h.half.con w hwN)
  refine ⟨⟨by simp [hl], fun v hv => ?_, fun v hv => ?_⟩, fun v hv => Int.le_trans (hle v) (h.le v hv), fun u x h1 h2 h3 hE h4 => ?_, fun j h1 h2 h4 => ?_⟩
  · have := h.half.num v hv
    have := hle v
    refine ⟨?_, by omega⟩
    rw [hG]
    split <;> omega
  · rw [hG]
    split
    · rename_i e
      rcases e with rfl | rfl
      · exact hc.symm.trans hmc
      · exact hmc
    · exact h.half.con v hv
  · obtain ⟨p, q⟩ := h.fin u x h1 h2 h3 hE h4
    exact ⟨hfu u p, hfu x q⟩
  · by_cases e : j = j0
    · subst e
      rw [hwd] at h4 ⊢
      have hG1 : ((l.set u0 m).set w m).getD u0 0 = m := by rw [hG]; simp
      have hG2 : ((l.set u0 m).set w m).getD w 0 = m := by rw [hG]; simp
      have hmin : ∀ y, y < N → Conn N out u0 y → m ≤ y := by
        intro y hy hcy
        rcases h4 with h4 | h4
        · have := h4 y hy hcy
          have := h.le u0 hu
          omega
        · have := h4 y hy (hc.symm.trans hcy)
          have := h.le w hwN
          omega
      exact ⟨fun y hy hcy => by rw [hG1]; exact hmin y hy hcy, fun y hy hcy => by rw [hG2]; exact hmin y hy (hc.trans hcy)⟩
    · obtain ⟨p, q⟩ := hpt j (by omega) h2 h4
      exact ⟨hfu u0 p, hfu _ q⟩
theorem Swp.next {N : Nat} {out : List (List Int)} {l0 : List Int} {u0 j0 : Nat} {l : List Int} (h : Swp N out l0 u0 j0 l) (hj : (out.getD u0 []).length ≤ j0) : Swp N out l0 (u0 + 1) 0 l :=
  ⟨h.half, h.le, fun u w h1 h2 h3 hE h4 => by
    by_cases e : u = u0
    · subst e
      obtain ⟨j, hj1, ej⟩ := edge_at hE
      have := h.part j (by omega) hj1
      rw [ej, Int.toNat_natCast] at this
      exact this h4
    · exact h.fin u w (by omega) h2 h3 hE h4, fun j h1 => by omega⟩
theorem Swp.done {N : Nat} {out : List (List Int)} {l0 l : List Int} {t : Nat} (h0 : PHalf N out l0) (hs : Settled N out l0 t) (h : Swp N out l0 N 0 l) : Settled N out l (t + 1) := by
  have hup : ∀ v, v < N → Fin1 N out l0 v → Fin1 N out l v := fun v hv hf => hf.le (h.le v hv)
  rcases hs with hs | ⟨xs, h1, h2, h3⟩
  · exact .inl fun v hv => hup v hv (hs v hv)
  · by_cases hall : ∀ v, v < N → Fin1 N out l0 v
    · exact .inl fun v hv => hup v hv (hall v hv)
    · obtain ⟨v, hv⟩ := Classical.not_forall.1 hall
      obtain ⟨hvN, hvf⟩ := Classical.not_forall.1 hv
      obtain ⟨a, b, ha, hb, hE, hab⟩ := fin_cross h0 hvN hvf
      obtain ⟨fa, fb⟩ := h.fin a b ha ha hb hE (hab.elim (fun x => .inl x.1) (fun x => .inr x.2))
      rcases hab with ⟨_, hnb⟩ | ⟨hna, _⟩
      · exact .inr ⟨b :: xs, List.nodup_cons.2 ⟨fun hm => hnb (h2 b hm).2, h1⟩, fun x hx => by
          rcases List.mem_cons.1 hx with rfl | hx
          · exact ⟨hb, fb⟩
          · exact ⟨(h2 x hx).1, hup x (h2 x hx).1 (h2 x hx).2⟩, by simp only [List.length_cons]; omega⟩
      · exact .inr ⟨a :: xs, List.nodup_cons.2 ⟨fun hm => hna (h2 a hm).2, h1⟩, fun x hx => by
          rcases List.mem_cons.1 hx with rfl | hx
          · exact ⟨ha, fa⟩
          · exact ⟨(h2 x hx).1, hup x (h2 x hx).1 (h2 x hx).2⟩, by simp only [List.length_cons]; omega⟩
theorem part10_ev (g : api_Graph) (N : Nat) (e : g.N = (N : Int)) (hg : Good N g.Out) : ∃ l, PartOf N g.Out l ∧ E0 (fun K => herbariumref10_Part K g) l := by
  have hN := hg.le
  have hlen := hg.len
  have l2 : ∀ t, t ≤ N → ∀ l, PHalf N g.Out l → Settled N g.Out l t → ∃ r, PartOf N g.Out r ∧ E1 (fun K k => herbariumref10_Part.l2 K g k (t : Int) l) r := by
    refine upto ?_ ?_
    · intro l hl hs
      refine ⟨l, settled_part hl hs.all, ?_⟩
      refine step1 (fun _ _ _ _ _ => herbariumref10_Part.l2.eq_2 ..) ?_
      exact negD (by omega) (now _)
    · intro t ht ih l0 hl0 hs0
      have l3 : ∀ u0, u0 ≤ N → ∀ l, Swp N g.Out l0 u0 0 l → ∃ r, PartOf N g.Out r ∧ E2 (fun K k m => herbariumref10_Part.l3 K (herbariumref10_Part.l2 K g k) (t : Int) g m (u0 : Int) l) r := by
        refine upto ?_ ?_
        · intro l hl
          obtain ⟨r, h1, h2⟩ := ih l hl.half (hl.done hl0 hs0)
          refine ⟨r, h1, ?_⟩
          refine step2 (fun _ _ _ _ _ => herbariumref10_Part.l3.eq_2 ..) ?_
          refine negD (by omega) ?_
          rw [w1 (by omega)]
          exact h2
        · intro u0 hu ihu l hl
          have hrl := hg.rlen u0
          have l4 : ∀ j0, j0 ≤ (g.Out.getD u0 []).length → ∀ l, Swp N g.Out l0 u0 j0 l → ∃ r, PartOf N g.Out r ∧ E3 (fun K k m n => herbariumref10_Part.l4 K (herbariumref10_Part.l2 K g k) (herbariumref10_Part.l3 K (herbariumref10_Part.l2 K g k) (t : Int) g m) (t : Int) (u0 : Int) g n (j0 : Int) l) r := by
            refine upto ?_ ?_
            · intro l hl
              obtain ⟨r, h1, h2⟩ := ihu l (hl.next (Nat.le_refl _))
              refine ⟨r, h1, ?_⟩
              refine step3 (fun _ _ _ _ _ => herbariumref10_Part.l4.eq_2 ..) ?_
              refine pos (by omega) ?_
              rw [rd1N]
              refine negD (by omega) ?_
              rw [w1 (by omega)]
              exact h2
            · intro j0 hj ihj l hl
              have hll := hl.half.len
              obtain ⟨he, hwN, hwe⟩ := edge_of hg hu hj
              obtain ⟨r, h1, h2⟩ := ihj _ (hl.put hg hu hj)
              refine ⟨r, h1, ?_⟩
              refine step3 (fun _ _ _ _ _ => herbariumref10_Part.l4.eq_2 ..) ?_
              refine pos (by omega) ?_
              rw [rd1N, rdN, rdN, rdI, w1 (by omega), Int.toNat_natCast]
              exact posD (by omega) (pos (by omega) (pos (by omega) (pos (by omega) (pos (by omega) (pos (by omega) (pos (by rw [List.length_set]; omega) h2))))))
          obtain ⟨r, h1, h2⟩ := l4 0 (by omega) l hl
          refine ⟨r, h1, ?_⟩
          refine step2 (fun _ _ _ _ _ => herbariumref10_Part.l3.eq_2 ..) ?_
          exact posD (by omega) h2.e3
      obtain ⟨r, h1, h2⟩ := l3 0 (by omega) l0 ⟨hl0, fun v hv => Int.le_refl _, fun u w h1 => by omega, fun j h1 => by omega⟩
      refine ⟨r, h1, ?_⟩
      refine step1 (fun _ _ _ _ _ => herbariumref10_Part.l2.eq_2 ..) ?_
      exact posD (by omega) h2.e2
  have l1 : ∀ i, i ≤ N → ∀ l : List Int, l.length = N → (∀ j, j < i → l.getD j 0 = j) → ∃ r, PartOf N g.Out r ∧ E1 (fun K k => herbariumref10_Part.l1 K g k (i : Int) l) r := by
    refine upto ?_ ?_
    · intro l hl hd
      obtain ⟨r, h1, h2⟩ := l2 0 (by omega) l (PHalf.init hl hd) (.inr ⟨[], List.nodup_nil, by simp, by simp⟩)
      refine ⟨r, h1, ?_⟩
      refine step1 (fun _ _ _ _ _ => herbariumref10_Part.l1.eq_2 ..) ?_
      exact negD (by omega) h2.e1
    · intro i hi ih l hl hd
      obtain ⟨r, h1, h2⟩ := ih (l.set i i) (by simpa using hl) (fun j hj => by
        rw [getD_set _ _ _ _ (by omega)]
        split
        · rename_i e; rw [e]
        · exact hd j (by omega))
      refine ⟨r, h1, ?_⟩
      refine step1 (fun _ _ _ _ _ => herbariumref10_Part.l1.eq_2 ..) ?_
      refine posD (by omega) (pos (by omega) ?_)
      rw [Int.toNat_natCast, w1 (by omega)]
      exact h2
  obtain ⟨r, h1, h2⟩ := l1 0 (by omega) (List.replicate N 0) (by simp) (fun j hj => by omega)
  refine ⟨r, h1, ?_⟩
  unfold herbariumref10_Part
  rw [e]
  refine pos (by omega) ?_
  rw [Int.toNat_natCast]
  exact h2.e1
end Go.XL
end
section
namespace Go.XL
open Go.XM
theorem eqn_ev (xs ys : List Int) (h : xs.length ≤ 1000000) : E0 (fun K => herbariumref0_EqNumbers K xs ys) (decide (xs = ys)) := by
  unfold herbariumref0_EqNumbers
  by_cases hl : xs.length = ys.length
  · have key : ∀ i, i ≤ xs.length → (∀ j, j < i → xs.getD j 0 = ys.getD j 0) → E1 (fun K k => herbariumref0_EqNumbers.l1 K xs ys k (i : Int)) (decide (xs = ys)) := by
      refine upto ?_ ?_
      · intro hd
        refine step1 (fun _ _ _ _ _ => herbariumref0_EqNumbers.l1.eq_2 ..) ?_
        exact negD (by omega) (nowE (by rw [ext_getD hl hd]; simp))
      · intro i hi ih hd
        refine step1 (fun _ _ _ _ _ => herbariumref0_EqNumbers.l1.eq_2 ..) ?_
        refine posD (by omega) (pos (by omega) (pos (by omega) ?_))
        rw [rdN, rdN, w1 (by omega)]
        by_cases e : xs.getD i 0 = ys.getD i 0
        · refine negN e (ih fun j hj => ?_)
          by_cases q : j = i
          · rw [q]; exact e
          · exact hd j (by omega)
        · refine posN e (nowE ?_)
          have : ¬ xs = ys := fun h => e (by rw [h])
          simp [this]
    exact negN (by omega) (key 0 (by omega) (fun j hj => by omega)).e1
  · refine posN (by omega) (nowE ?_)
    have : ¬ xs = ys := fun h => hl (by rw [h])
    simp [this]
theorem equal_ev (xs ys : List Int) (h : xs.length ≤ 1000000) : E0 (fun K => slices_Equal___int_int_ K xs ys) (decide (xs = ys)) := by
  unfold slices_Equal___int_int_
  by_cases hl : xs.length = ys.length
  · have key : ∀ i, i ≤ xs.length → (∀ j, j < i → xs.getD j 0 = ys.getD j 0) → E1 (fun K k => slices_Equal___int_int_.l1 K xs ys k ((xs.length : Nat) : Int) (i : Int)) (decide (xs = ys)) := by
      refine upto ?_ ?_
      · intro hd
        refine step1 (fun _ _ _ _ _ => slices_Equal___int_int_.l1.eq_2 ..) ?_
        exact negD (by omega) (nowE (by rw [ext_getD hl hd]; simp))
      · intro i hi ih hd
        refine step1 (fun _ _ _ _ _ => slices_Equal___int_int_.l1.eq_2 ..) ?_
        refine posD (by omega) (pos (by omega) (pos (by omega) ?_))
        rw [rdN, rdN, w1 (by omega)]
        by_cases e : xs.getD i 0 = ys.getD i 0
        · refine negN e (ih fun j hj => ?_)
          by_cases q : j = i
          · rw [q]; exact e
          · exact hd j (by omega)
        · refine posN e (nowE ?_)
          have : ¬ xs = ys := fun h => e (by rw [h])
          simp [this]
    exact negN (by omega) (key 0 (by omega) (fun j hj => by omega)).e1
  · refine posN (by omega) (nowE ?_)
    have : ¬ xs = ys := fun h => hl (by rw [h])
    simp [this]
def JSm (j : api_Job) : Prop := j.List_.length ≤ 1000000 ∧ j.Out.length ≤ 1000000
theorem jeq (x y : api_Job) : x = y ↔ x.Kind = y.Kind ∧ x.A = y.A ∧ x.At = y.At ∧ x.Move = y.Move ∧ x.List_ = y.List_ ∧ x.Out = y.Out := by
  obtain ⟨a, b, c, d, e, f⟩ := x
  obtain ⟨a', b', c', d', e', f'⟩ := y
  simp only [Prod.mk.injEq]
instance (x y : api_Job) : Decidable (x = y) := decidable_of_iff _ (jeq x y).symm
theorem posBE {α : Type} {p q : Bool} {f g : Nat → Nat → Nat → Nat → Nat → Option α} {r : α} (h : p = q) (k : Ev f r) : Ev (fun x y z u v => if (p == q) = true then f x y z u v else g x y z u v) r := pos (by simp [h]) k
theorem negBE {α : Type} {p q : Bool} {f g : Nat → Nat → Nat → Nat → Nat → Option α} {r : α} (h : ¬ p = q) (k : Ev g r) : Ev (fun x y z u v => if (p == q) = true then f x y z u v else g x y z u v) r := neg (by simpa using h) k
theorem eqjob_ev (x y : api_Job) (h : JSm x) : E0 (fun K => herbariumref0_EqJob K x y) (decide (x = y)) := by
  unfold herbariumref0_EqJob
  have no : ∀ {q : Prop}, (x = y → q) → ¬ q → false = decide (x = y) := fun a b => (decide_eq_false fun e => b (a e)).symm
  by_cases h1 : x.Kind = y.Kind
  · refine posE h1 ?_
    by_cases h2 : x.A = y.A
    · refine posE h2 ?_
      by_cases h3 : x.At = y.At
      · refine posE h3 ?_
        by_cases h4 : x.Move = y.Move
        · refine posBE h4 (bnd (eqn_ev _ _ h.1) ?_)
          by_cases h5 : x.List_ = y.List_
          · refine posD h5 (bnd (eqn_ev _ _ h.2) (nowE ?_))
            exact decide_eq_decide.2 ⟨fun h6 => (jeq x y).2 ⟨h1, h2, h3, h4, h5, h6⟩, fun e => ((jeq x y).1 e).2.2.2.2.2⟩
          · exact negD h5 (nowE (no (fun e => by rw [e]) h5))
        · exact negBE h4 (nowE (no (fun e => by rw [e]) h4))
      · exact negE h3 (nowE (no (fun e => by rw [e]) h3))
    · exact negE h2 (nowE (no (fun e => by rw [e]) h2))
  · exact negE h1 (nowE (no (fun e => by rw [e]) h1))
theorem same_ev (x y : api_Job) (h : JSm x) : E0 (fun K => slow_same K x y) (decide (x = y)) := by
  unfold slow_same
  have no : ∀ {q : Prop}, (x = y → q) → ¬ q → false = decide (x = y) := fun a b => (decide_eq_false fun e => b (a e)).symm
  by_cases h1 : x.Kind = y.Kind
  · refine posE h1 ?_
    by_cases h2 : x.A = y.A
    · refine posE h2 ?_
      by_cases h3 : x.At = y.At
      · refine posE h3 ?_
        by_cases h4 : x.Move = y.Move
        · refine posBE h4 (bnd (equal_ev _ _ h.1) ?_)
          by_cases h5 : x.List_ = y.List_
          · refine posD h5 (bnd (equal_ev _ _ h.2) (nowE ?_))
            exact decide_eq_decide.2 ⟨fun h6 => (jeq x y).2 ⟨h1, h2, h3, h4, h5, h6⟩, fun e => ((jeq x y).1 e).2.2.2.2.2⟩
          · exact negD h5 (nowE (no (fun e => by rw [e]) h5))
        · exact negBE h4 (nowE (no (fun e => by rw [e]) h4))
      · exact negE h3 (nowE (no (fun e => by rw [e]) h3))
    · exact negE h2 (nowE (no (fun e => by rw [e]) h2))
  · exact negE h1 (nowE (no (fun e => by rw [e]) h1))
theorem clone_eq (K : Nat) (xs : List Int) (h : xs.length ≤ 1000000) : slices_Clone___int_int_ K xs = some xs := by
  unfold slices_Clone___int_int_
  rw [if_pos (by simp; omega)]; rfl
theorem own_eq (K : Nat) (j : api_Job) (h : JSm j) : slow_Own K j = some j := by
  unfold slow_Own
  rw [clone_eq K _ h.1, clone_eq K _ h.2]; rfl
theorem copyjob_ev (j : api_Job) (h : JSm j) : E0 (fun K => herbariumref0_CopyJob K j) j := by
  unfold herbariumref0_CopyJob
  exact bnd (copy_ev _ h.1) (bnd (copy_ev _ h.2) (now _))
theorem in_ev (xs : List Int) (a : Int) (h : xs.length ≤ 1000000) : ∃ r, E0 (fun K => herbariumref0_In K xs a) r ∧ (0 ≤ r ↔ a ∈ xs) := by
  have key : ∀ i, i ≤ xs.length → ∃ r, E1 (fun K k => herbariumref0_In.l1 K xs a k (i : Int)) r ∧ (0 ≤ r ↔ a ∈ xs.drop i) := by
    refine upto ?_ ?_
    · refine ⟨-1, ?_, by simp⟩
      refine step1 (fun _ _ _ _ _ => herbariumref0_In.l1.eq_2 ..) ?_
      exact negD (by omega) (now _)
    · intro i hi ih
      obtain ⟨r, h1, h2⟩ := ih
      by_cases e : xs.getD i 0 = a
      · refine ⟨i, ?_, by rw [drop_getD (d := 0) hi, e]; simp⟩
        refine step1 (fun _ _ _ _ _ => herbariumref0_In.l1.eq_2 ..) ?_
        refine posD (by omega) (pos (by omega) ?_)
        rw [rdN]
        exact posE e (now _)
      · refine ⟨r, ?_, by rw [drop_getD (d := 0) hi, h2, List.mem_cons]; exact ⟨.inr, fun q => q.resolve_left (fun q => e q.symm)⟩⟩
        refine step1 (fun _ _ _ _ _ => herbariumref0_In.l1.eq_2 ..) ?_
        refine posD (by omega) (pos (by omega) ?_)
        rw [rdN, w1 (by omega)]
        exact negE e h1
  obtain ⟨r, h1, h2⟩ := key 0 (by omega)
  exact ⟨r, h1.e1, by simpa using h2⟩
theorem contains_ev (xs : List Int) (a : Int) (h : xs.length ≤ 1000000) : E0 (fun K => slices_Contains___int_int_ K xs a) (decide (a ∈ xs)) := by
  have key : ∀ i, i ≤ xs.length → ∃ r, E1 (fun K k => slices_Index___int_int_.l1 K xs a k ((xs.length : Nat) : Int) (i : Int)) r ∧ (0 ≤ r ↔ a ∈ xs.drop i) := by
    refine upto ?_ ?_
    · refine ⟨-1, ?_, by simp⟩
      refine step1 (fun _ _ _ _ _ => slices_Index___int_int_.l1.eq_2 ..) ?_
      exact negD (by omega) (now _)
    · intro i hi ih
      obtain ⟨r, h1, h2⟩ := ih
      by_cases e : a = xs.getD i 0
      · refine ⟨i, ?_, by rw [drop_getD (d := 0) hi, ← e]; simp⟩
        refine step1 (fun _ _ _ _ _ => slices_Index___int_int_.l1.eq_2 ..) ?_
        refine posD (by omega) (pos (by omega) ?_)
        rw [rdN]
        exact posE e (now _)
      · refine ⟨r, ?_, by rw [drop_getD (d := 0) hi, h2, List.mem_cons]; exact ⟨.inr, fun q => q.resolve_left e⟩⟩
        refine step1 (fun _ _ _ _ _ => slices_Index___int_int_.l1.eq_2 ..) ?_
        refine posD (by omega) (pos (by omega) ?_)
        rw [rdN, w1 (by omega)]
        exact negE e h1
  obtain ⟨r, h1, h2⟩ := key 0 (by omega)
  unfold slices_Contains___int_int_ slices_Index___int_int_
  refine bnd h1.e1 (nowE ?_)
  exact decide_eq_decide.2 (by simpa using h2)
theorem repeat_ev (N : Nat) (h : N ≤ 16) : E0 (fun K => slices_Repeat___int_int_ K ([(-1)] : List Int) (N : Int)) (List.replicate N (-1)) := by
  have : ∀ n : Nat, n < 17 → ∀ K, slices_Repeat___int_int_ (K + 10) ([(-1)] : List Int) (n : Int) = some (List.replicate n (-1)) := by
    intro n hn K
    match n, hn with
    | 0, _ => rfl
    | 1, _ => rfl
    | 2, _ => rfl
    | 3, _ => rfl
    | 4, _ => rfl
    | 5, _ => rfl
    | 6, _ => rfl
    | 7, _ => rfl
    | 8, _ => rfl
    | 9, _ => rfl
    | 10, _ => rfl
    | 11, _ => rfl
    | 12, _ => rfl
    | 13, _ => rfl
    | 14, _ => rfl
    | 15, _ => rfl
    | 16, _ => rfl
    | n + 17, h => exact absurd h (by omega)
  refine ⟨10, fun K _ _ _ _ hK _ _ _ _ => ?_⟩
  obtain ⟨k, rfl⟩ : ∃ k, K = k + 10 := ⟨K - 10, by omega⟩
  exact this N (by omega) k
def code (n kind a : Int) : Int := if 1 ≤ kind ∧ kind ≤ 6 then (if kind = 1 ∨ kind = 2 ∨ kind = 4 then (if 0 ≤ a ∧ a < n then 0 else 3) else 0) else 1
theorem named_eq (K : Nat) (a : Int) : kernel_Named K a = some (decide (a = 1 ∨ a = 2 ∨ a = 4)) := by
  unfold kernel_Named
  by_cases h1 : a = 1
  · simp [h1]
  · by_cases h2 : a = 2
    · simp [h2]
    · rw [if_neg (by simpa using h1), if_neg (by simpa using h2)]
      by_cases h4 : a = 4
      · simp [h4]
      · simp [h1, h2, h4]
theorem named10_eq (K : Nat) (a : Int) : herbariumref10_Named K a = some (decide (a = 1 ∨ a = 2 ∨ a = 4)) := by
  unfold herbariumref10_Named
  by_cases h1 : a = 1
  · simp [h1]
  · by_cases h2 : a = 2
    · simp [h2]
    · rw [if_neg (by simpa using h1), if_neg (by simpa using h2)]
      by_cases h4 : a = 4
      · simp [h4]
      · simp [h1, h2, h4]
theorem isG_eq (K : Nat) (g : api_Graph) (a : Int) : graph_Is K g a = some (decide (0 ≤ a ∧ a < g.N)) := by
  unfold graph_Is
  by_cases h : a ≥ 0
  · rw [if_pos (decide_eq_true h)]; simp [h]
  · rw [if_neg (by simpa using h)]; simp; omega
theorem btw_eq (K : Nat) (a b c : Int) : herbariumref0_Between K a b c = some (decide (b ≤ a ∧ a ≤ c)) := by
  unfold herbariumref0_Between
  by_cases h : a ≥ b
  · rw [if_pos (decide_eq_true h)]; simp [h]
  · rw [if_neg (by simpa using h)]; simp; omega
theorem may10_eq (K : Nat) (g : api_Graph) (kind a : Int) (h0 : 0 ≤ g.N) (h1 : g.N ≤ 16) : herbariumref10_May K g kind a = some (code g.N kind a) := by
  unfold herbariumref10_May
  rw [btw_eq, named10_eq, num_eq, w64 (by omega) (by omega)]
  simp only [Option.bind_some, decide_eq_true_eq]
  unfold code
  by_cases hk : 1 ≤ kind ∧ kind ≤ 6
  · rw [if_neg (by rw [decide_eq_true hk]; decide), if_pos hk]
    split
    · by_cases q : 0 ≤ a ∧ a < g.N
      · rw [if_pos q, if_neg (by rw [decide_eq_true (show 0 ≤ a ∧ a ≤ g.N - 1 by omega)]; decide)]
      · rw [if_neg q, if_pos (by rw [decide_eq_false (show ¬ (0 ≤ a ∧ a ≤ g.N - 1) by omega)]; decide)]
    · rfl
  · rw [if_pos (by rw [decide_eq_false hk]; rfl), if_neg hk]
theorem asked_ev (g : api_Graph) (kind a : Int) (hs : Sm g) : E0 (fun K => kernel_Asked K g kind a) (if GraphP g then code g.N kind a else 1) := by
  unfold kernel_Asked
  refine bnd (gmayG_ev g hs) ?_
  unfold kernel_Asked.j1
  by_cases hg : GraphP g
  · rw [if_pos hg]
    refine negM hg ?_
    by_cases h1 : kind < 1
    · exact posD h1 (pos rfl (nowE (by unfold code; rw [if_neg (by omega)])))
    · refine negD h1 ?_
      by_cases h6 : kind > 6
      · exact posD h6 (nowE (by unfold code; rw [if_neg (by omega)]))
      · refine negD h6 ?_
        simp only [named_eq, isG_eq]
        unfold code
        rw [if_pos (by omega)]
        refine bnd (now _) ?_
        by_cases hk : kind = 1 ∨ kind = 2 ∨ kind = 4
        · rw [if_pos hk]
          refine posD hk (bnd (now _) ?_)
          by_cases ha : 0 ≤ a ∧ a < g.N
          · rw [if_pos ha]; exact negM ha (now _)
          · rw [if_neg ha]; exact posM ha (now _)
        · rw [if_neg hk]
          exact negD hk (now _)
  · rw [if_neg hg]
    exact posM hg (pos rfl (now _))
end Go.XL
end
section
namespace Go.XL
open Go.XM
def ov (g : api_Graph) (j : api_Job) : Bool := if j.Kind = 1 then decide (j.At ≥ 1) else if j.Kind = 4 then decide (j.At ≥ ((j.List_.length : Nat) : Int)) else decide (j.At ≥ g.N)
theorem over_eq (K : Nat) (g : api_Graph) (j : api_Job) : slow_Over K g j = some (ov g j) := by
  unfold slow_Over ov
  by_cases h1 : j.Kind = 1
  · rw [if_pos (by simpa using h1), if_pos h1]
  · rw [if_neg (by simpa using h1), if_neg h1]
    by_cases h4 : j.Kind = 4
    · rw [if_pos (by simpa using h4), if_pos h4]
    · rw [if_neg (by simpa using h4), if_neg h4]
theorem ended_eq (K : Nat) (g : api_Graph) (j : api_Job) : herbariumref10_Ended K g j = some (ov g j) := by
  unfold herbariumref10_Ended ov
  by_cases h1 : j.Kind = 1
  · rw [if_pos (by simpa using h1), if_pos h1]
  · rw [if_neg (by simpa using h1), if_neg h1]
    by_cases h4 : j.Kind = 4
    · rw [if_pos (by simpa using h4), if_pos h4]
    · rw [if_neg (by simpa using h4), if_neg h4]
def Vis (g : api_Graph) (j j' : api_Job) : Prop := E0 (fun K => slow_visit K g j) j' ∧ E0 (fun K => herbariumref10_Visit K g j) j'
structure Tr (g : api_Graph) (kind a : Int) (n : Nat) (tr : Nat → api_Job) : Prop where
  kd : ∀ i, i ≤ n → (tr i).Kind = kind ∧ (tr i).A = (tr 0).A
  sm : ∀ i, i ≤ n → JSm (tr i)
  go : ∀ i, i < n → ov g (tr i) = false
  vis : ∀ i, i < n → Vis g (tr i) (tr (i + 1))
  fin : ov g (tr n) = true
  le : n ≤ 1000
  beg : E0 (fun K => slow_Begin K g kind a) (tr 0, 0)
  beg2 : E0 (fun K => slow_Begin K g kind (tr 0).A) (tr 0, 0)
  ref : E0 (fun K => herbariumref10_Begin K g kind a) (tr 0)
  un : ¬ (kind = 1 ∨ kind = 2 ∨ kind = 4) → (tr 0).A = 0
theorem eta (j : api_Job) : ((j.Kind, j.A, j.At, j.Move, j.List_, j.Out) : api_Job) = j := rfl
section
variable {g : api_Graph} {kind a : Int} {n : Nat} {tr : Nat → api_Job}
theorem Tr.may (h : Tr g kind a n tr) (i : Nat) (hi : i ≤ n) : E0 (fun K => slow_May K g (tr i)) true := by
  have key : ∀ m, m ≤ i → E1 (fun K k => slow_May.l1 K g (tr i) k (tr m).Kind (tr m).A (tr m).At (tr m).Move (tr m).List_ (tr m).Out) true := by
    refine upto ?_ ?_
    · refine step1 (fun _ _ _ _ _ => slow_May.l1.eq_2 ..) ?_
      exact bnd (same_ev (tr i) (tr i) (h.sm i hi)) (posD rfl (now _))
    · intro m hm ih
      refine step1 (fun _ _ _ _ _ => slow_May.l1.eq_2 ..) ?_
      refine bnd (same_ev (tr m) (tr i) (h.sm m (by omega))) ?_
      by_cases e : tr m = tr i
      · exact posD e (now _)
      · refine negD e ?_
        simp only [eta, over_eq, h.go m (by omega)]
        refine bnd (now _) (neg (by decide) (bnd (h.vis m (by omega)).1 ih))
  unfold slow_May
  rw [(h.kd i hi).1, (h.kd i hi).2]
  exact bnd h.beg2 (negN rfl (key 0 (by omega)).e1)
theorem Tr.goes (h : Tr g kind a n tr) (m : Nat) (hm : m ≤ 1000) (i : Nat) (hi : i ≤ n) : E0 (fun K => slow_Go K g (tr i) (m : Int)) (tr (min (i + m) n)) := by
  have key : ∀ m : Nat, m ≤ 1000 → ∀ i, i ≤ n → E1 (fun K k => slow_Go.l1 K g k (m : Int) (tr i).Kind (tr i).A (tr i).At (tr i).Move (tr i).List_ (tr i).Out 0 0 0) (tr (min (i + m) n)) := by
    intro m
    induction m with
    | zero =>
      intro _ i hi
      refine step1 (fun _ _ _ _ _ => slow_Go.l1.eq_2 ..) ?_
      exact negD (by omega) (nowE (by rw [show min (i + 0) n = i by omega]))
    | succ m ih =>
      intro hm i hi
      refine step1 (fun _ _ _ _ _ => slow_Go.l1.eq_2 ..) ?_
      refine posD (by omega) ?_
      simp only [eta, over_eq]
      refine bnd (now _) ?_
      by_cases e : i = n
      · subst e
        rw [h.fin]
        exact neg (by decide) (nowE (by rw [show min (i + (m + 1)) i = i by omega]))
      · rw [h.go i (by omega)]
        refine pos (by decide) (bnd (h.vis i (by omega)).1 ?_)
        rw [w64 (by omega) (by omega), show (((m + 1 : Nat) : Int) - 1) = (m : Int) by omega, show i + (m + 1) = i + 1 + m by omega]
        exact ih (by omega) (i + 1) (by omega)
  unfold slow_Go
  simp only [own_eq _ _ (h.sm i hi)]
  exact bnd (now _) (key m hm i hi).e1
theorem Tr.step (h : Tr g kind a n tr) (m : Nat) (hm : m ≤ 1000) (i : Nat) (hi : i ≤ n) : E0 (fun K => slow_Step K g (tr i) (m : Int)) (tr (min (i + m) n), 0) := by
  unfold slow_Step
  refine bnd (h.may i hi) (neg (by decide) (negD (by omega) (negD (by omega) (bnd (h.goes m hm i hi) (now _)))))
theorem Tr.rstep (h : Tr g kind a n tr) (m : Nat) (hm : m ≤ 1000) (i : Nat) (hi : i ≤ n) : E0 (fun K => herbariumref10_Step K g (tr i) (m : Int)) (tr (min (i + m) n)) := by
  have key : ∀ t : Nat, t ≤ m → ∀ i, i ≤ n → E1 (fun K k => herbariumref10_Step.l1 K g (m : Int) k (t : Int) (tr i).Kind (tr i).A (tr i).At (tr i).Move (tr i).List_ (tr i).Out 0 0 0) (tr (min (i + (m - t)) n)) := by
    refine upto ?_ ?_
    · intro i hi
      refine step1 (fun _ _ _ _ _ => herbariumref10_Step.l1.eq_2 ..) ?_
      exact negD (by omega) (nowE (by rw [show min (i + (m - m)) n = i by omega]))
    · intro t ht ih i hi
      refine step1 (fun _ _ _ _ _ => herbariumref10_Step.l1.eq_2 ..) ?_
      refine posD (by omega) ?_
      simp only [eta, ended_eq]
      refine bnd (now _) ?_
      by_cases e : i = n
      · subst e
        rw [h.fin]
        exact neg (by decide) (nowE (by rw [show min (i + (m - t)) i = i by omega]))
      · rw [h.go i (by omega)]
        refine pos (by decide) (bnd (h.vis i (by omega)).2 ?_)
        rw [w1 (by omega), show i + (m - t) = i + 1 + (m - (t + 1)) by omega]
        exact ih (i + 1) (by omega)
  unfold herbariumref10_Step
  have := (key 0 (by omega) i hi).e1
  simpa using this
end
end Go.XL
end
section
namespace Go.XL
open Go.XM
structure Fit (x : herbariumlaw11_Ask) : Prop where
  g : x.G.G.length ≤ 17592186044416
  gs : ∀ g ∈ x.G.G, Gfit g
  a : x.G.A.length ≤ 17592186044416
  j : x.J.length ≤ 17592186044416
  js : ∀ j ∈ x.J, j.List_.length ≤ 17592186044416 ∧ j.Out.length ≤ 17592186044416
  n : x.N.length ≤ 17592186044416
abbrev zJ : api_Job := default
theorem rdJ (xs : List api_Job) (i : Nat) : nth xs (i : Int) = xs.getD i zJ := nthN xs i
theorem heavy_ev (x : herbariumlaw11_Ask) (hx : Fit x) : ∃ b : Bool, E0 (fun K => herbariumlaw11_Heavy K x) b ∧
    (b = false → x.N.length ≤ 600 ∧ x.J.length ≤ 600 ∧ (∀ j ∈ x.J, j.List_.length + j.Out.length ≤ 600) ∧ x.G.G.length ≤ 1200 ∧ ∀ g ∈ x.G.G, wt g ≤ 1200) := by
  obtain ⟨b6, e6, h6⟩ := heavy6_ev x.G hx.g hx.gs hx.a
  have key : ∀ i, i ≤ x.J.length → ∀ s : Int, (x.N.length : Int) + x.J.length ≤ s → s ≤ 35184372088832 + 1048576 + 35184372088832 → ∃ b, E1 (fun K k => herbariumlaw11_Heavy.l1 K x k s (i : Int)) b ∧
      (b = false → s ≤ 600 ∧ (∀ j ∈ x.J.drop i, j.List_.length + j.Out.length ≤ 600) ∧ b6 = false) := by
    refine upto ?_ ?_
    · intro s hs hs2
      by_cases q : s > 600
      · refine ⟨true, ?_, fun h => by cases h⟩
        refine step1 (fun _ _ _ _ _ => herbariumlaw11_Heavy.l1.eq_2 ..) ?_
        exact negD (by omega) (posD q (now _))
      · refine ⟨b6, ?_, fun h => ⟨by omega, by simp, h⟩⟩
        refine step1 (fun _ _ _ _ _ => herbariumlaw11_Heavy.l1.eq_2 ..) ?_
        exact negD (by omega) (negD q (tail e6))
    · intro i hi ih s hs hs2
      by_cases q : s < 1048576
      · have hj := hx.js _ (getD_mem (d := zJ) hi)
        obtain ⟨b, h1, h2⟩ := ih (s + (((x.J.getD i zJ).List_.length : Int) + ((x.J.getD i zJ).Out.length : Int))) (by omega) (by omega)
        refine ⟨b, ?_, fun hb => ?_⟩
        · refine step1 (fun _ _ _ _ _ => herbariumlaw11_Heavy.l1.eq_2 ..) ?_
          refine posD (by omega) (posD q (pos (by omega) ?_))
          unfold herbariumlaw0_JobWeight
          rw [rdJ, w1 (by omega)]
          refine bnd (now _) ?_
          rw [w64 (i := _ + ((x.J.getD i zJ).Out.length : Int)) (by omega) (by omega), w64 (by omega) (by omega)]
          exact h1
        · obtain ⟨a1, a2, a3⟩ := h2 hb
          refine ⟨by omega, fun j hj => ?_, a3⟩
          rw [drop_getD (d := zJ) hi] at hj
          rcases List.mem_cons.1 hj with rfl | hj
          · omega
          · exact a2 j hj
      · refine ⟨true, ?_, fun h => by cases h⟩
        refine step1 (fun _ _ _ _ _ => herbariumlaw11_Heavy.l1.eq_2 ..) ?_
        exact posD (by omega) (negD q (posD (by omega) (now _)))
  obtain ⟨b, h1, h2⟩ := key 0 (by omega) ((x.N.length : Int) + x.J.length) (by omega) (by have := hx.n; have := hx.j; omega)
  refine ⟨b, ?_, fun hb => ?_⟩
  · unfold herbariumlaw11_Heavy
    rw [w64 (by omega) (by have := hx.n; have := hx.j; omega)]
    exact h1.e1
  · obtain ⟨a1, a2, a3⟩ := h2 hb
    obtain ⟨c1, _, c3⟩ := h6 a3
    exact ⟨by omega, by omega, by simpa using a2, c1, c3⟩
theorem made_ok (K : Nat) : ((List.range 17).all fun n => (List.range 4).all fun t => match herbariumlaw7_Made (K + 40) (n : Int) (t : Int), herbariumlaw7_Made 40 (n : Int) (t : Int) with
    | some p, some q => decide (p = q) && decide (Sm q)
    | _, _ => false) = true := by kernel_rfl
theorem made_ev (n t : Nat) (hn : n < 17) (ht : t < 4) : ∃ p, E0 (fun K => herbariumlaw7_Made K (n : Int) (t : Int)) p ∧ Sm p := by
  have h : ∀ K, (match herbariumlaw7_Made (K + 40) (n : Int) (t : Int), herbariumlaw7_Made 40 (n : Int) (t : Int) with
    | some p, some q => decide (p = q) && decide (Sm q)
    | _, _ => false) = true := fun K => List.all_eq_true.1 (List.all_eq_true.1 (made_ok K) n (List.mem_range.2 hn)) t (List.mem_range.2 ht)
  cases e : herbariumlaw7_Made 40 (n : Int) (t : Int) with
  | none => have := h 0; rw [e] at this; split at this <;> simp_all
  | some q =>
    rw [e] at h
    have h2 : ∀ K, herbariumlaw7_Made (K + 40) (n : Int) (t : Int) = some q ∧ Sm q := by
      intro K
      have := h K
      split at this
      · rename_i p q' e1 e2
        simp only [Bool.and_eq_true, decide_eq_true_eq] at this
        cases e2
        rw [e1, this.1]
        exact ⟨rfl, this.2⟩
      · cases this
    refine ⟨q, ⟨40, fun K _ _ _ _ hK _ _ _ _ => ?_⟩, (h2 0).2⟩
    obtain ⟨k, rfl⟩ : ∃ k, K = k + 40 := ⟨K - 40, by omega⟩
    exact (h2 k).1
theorem wakes_ev : E0 (fun K => herbariumlaw11_wakes K) true := by
  refine ⟨40, fun K _ _ _ _ hK _ _ _ _ => ?_⟩
  obtain ⟨k, rfl⟩ : ∃ k, K = k + 40 := ⟨K - 40, by omega⟩
  have : herbariumlaw11_wakes (k + 40) = some true := by kernel_rfl
  exact this
def Ends (kind : Int) : Prop := ∀ (g : api_Graph) (a : Int), GraphP g → code g.N kind a = 0 → ∃ n tr, Tr g kind a n tr ∧ (tr n).Out.length ≤ 1000 ∧ E0 (fun K => herbariumref10_Ask K g kind a) (tr n).Out
theorem one_ev (x : herbariumlaw11_Ask) (hx : Fit x) (kind : Int) (hk : Ends kind) : E0 (fun K => herbariumlaw11_one K x kind) true := by
  obtain ⟨b, hb, hw⟩ := heavy_ev x hx
  unfold herbariumlaw11_one
  refine bnd hb ?_
  cases b with
  | true => exact pos rfl (now _)
  | false =>
    obtain ⟨hN, hJ, _, hl, hg⟩ := hw rfl
    refine neg (by decide) (pos (by simp only [List.length_nil]; omega) ?_)
    have l3 : ∀ gs : List api_Graph, (∀ g ∈ gs, Sm g) → gs.length ≤ 1000000 → ∀ i, i ≤ gs.length → E1 (fun K k => herbariumlaw11_one.l3 K x kind k (i : Int) gs) true := by
      intro gs hgs hgl
      refine upto ?_ ?_
      · refine step1 (fun _ _ _ _ _ => herbariumlaw11_one.l3.eq_2 ..) ?_
        exact negD (by omega) (tail wakes_ev)
      · intro i hi ih
        have hsm := hgs _ (getD_mem (d := zG) hi)
        generalize hgd : gs.getD i zG = g at hsm
        have ha : wr .i64 ((i : Int) + ((x.J.length : Nat) : Int)) = ((i + x.J.length : Nat) : Int) := by rw [w64 (by omega) (by omega)]; omega
        refine step1 (fun _ _ _ _ _ => herbariumlaw11_one.l3.eq_2 ..) ?_
        refine posD (by omega) (pos (by decide) (pos (by omega) ?_))
        rw [rdG, ha, hgd]
        generalize hat : ((i + x.J.length : Nat) : Int).tmod 4 = at'
        have hask := asked_ev g kind at' hsm
        have skip : ∀ c : Int, c ≠ 0 → E1 (fun K k => herbariumlaw11_one.j4 K (herbariumlaw11_one.l3 K x kind k) (((0, 0, 0, false, ([] : List Int), ([] : List Int)) : api_Job), c) (i : Int) gs x kind at' c) true := by
          intro c hc
          unfold herbariumlaw11_one.j4 herbariumlaw11_num
          refine bnd (now _) (negN rfl (posN hc ?_))
          rw [w1 (by omega)]
          exact ih
        by_cases hgp : GraphP g
        · rw [if_pos hgp] at hask
          by_cases hc : code g.N kind at' = 0
          · obtain ⟨n, tr, hT, hlen, hA⟩ := hk g at' hgp hc
            refine bnd hT.beg (pos (by omega) (bnd (graph6_ev g hsm) (posD hgp (pos (by omega) ?_))))
            simp only [may10_eq _ g kind at' hgp.1 hgp.2.1, hc]
            refine bnd (now _) ?_
            unfold herbariumlaw11_one.j4 herbariumlaw11_num
            refine bnd (now _) (negN rfl (negN rfl (pos (by omega) ?_)))
            rw [rdG, hgd]
            refine bnd hT.ref ?_
            have l5 : ∀ t : Nat, t ≤ 40 → E2 (fun K k m => herbariumlaw11_one.l5 K (herbariumlaw11_one.l3 K x kind k) (i : Int) at' x kind m (t : Int) gs (tr (min t n)).Kind (tr (min t n)).A (tr (min t n)).At (tr (min t n)).Move (tr (min t n)).List_ (tr (min t n)).Out (tr (min t n)).Kind (tr (min t n)).A (tr (min t n)).At (tr (min t n)).Move (tr (min t n)).List_ (tr (min t n)).Out) true := by
              refine upto ?_ ?_
              · refine step2 (fun _ _ _ _ _ => herbariumlaw11_one.l5.eq_2 ..) ?_
                refine negD (by omega) ?_
                rw [w1 (by omega)]
                exact ih
              · intro t ht iht
                have hle := hT.le
                have s1 := hT.step 1 (by omega) (min t n) (by omega)
                have s2 := hT.step 1000 (by omega) (min t n) (by omega)
                have s3 := hT.rstep 1 (by omega) (min t n) (by omega)
                rw [show min (min t n + 1) n = min (t + 1) n by omega] at s1 s3
                rw [show min (min t n + 1000) n = n by omega] at s2
                refine step2 (fun _ _ _ _ _ => herbariumlaw11_one.l5.eq_2 ..) ?_
                refine posD (by omega) (pos (by omega) ?_)
                rw [rdG, hgd]
                refine bnd s1 (pos (by omega) (bnd s2 (pos (by omega) (bnd s3 ?_))))
                unfold herbariumlaw11_num
                refine bnd (now _) (negN rfl (bnd (now _) (negN rfl (bnd (eqjob_ev _ _ (hT.sm _ (by omega))) (negM rfl (pos (by omega) (bnd hA (bnd (eqn_ev _ _ (by dsimp only; omega)) (negM rfl ?_)))))))))
                rw [w1 (by omega)]
                exact iht
            have := (l5 0 (by omega)).e2
            rw [show min 0 n = 0 by omega] at this
            exact this
          · have hbeg : E0 (fun K => slow_Begin K g kind at') (((0, 0, 0, false, ([] : List Int), ([] : List Int)) : api_Job), code g.N kind at') := by
              unfold slow_Begin
              exact bnd hask (posN hc (now _))
            refine bnd hbeg (pos (by omega) (bnd (graph6_ev g hsm) (posD hgp (pos (by omega) ?_))))
            simp only [may10_eq _ g kind at' hgp.1 hgp.2.1]
            exact bnd (now _) (skip _ hc)
        · rw [if_neg hgp] at hask
          have hbeg : E0 (fun K => slow_Begin K g kind at') (((0, 0, 0, false, ([] : List Int), ([] : List Int)) : api_Job), 1) := by
            unfold slow_Begin
            exact bnd hask (posN (by decide) (now _))
          exact bnd hbeg (pos (by omega) (bnd (graph6_ev g hsm) (negD hgp (skip 1 (by decide)))))
    have l2 : ∀ i, i ≤ 4 → ∀ gs : List api_Graph, (∀ g ∈ gs, Sm g) → gs.length ≤ 4 + i → E1 (fun K k => herbariumlaw11_one.l2 K x kind k (i : Int) gs) true := by
      refine upto ?_ ?_
      · intro gs h1 h2
        refine step1 (fun _ _ _ _ _ => herbariumlaw11_one.l2.eq_2 ..) ?_
        exact negD (by omega) (l3 gs h1 (by omega) 0 (by omega)).e1
      · intro i hi ih gs h1 h2
        obtain ⟨p, hp, hps⟩ := made_ev ((x.N.length + 5 * i) % 17) i (by omega) (by omega)
        refine step1 (fun _ _ _ _ _ => herbariumlaw11_one.l2.eq_2 ..) ?_
        refine posD (by omega) (pos (by decide) ?_)
        rw [w64 (i := 5 * (i : Int)) (by omega) (by omega), w64 (by omega) (by omega), show ((((x.N.length : Nat) : Int) + 5 * (i : Int)).tmod 17) = (((x.N.length + 5 * i) % 17 : Nat) : Int) by rw [Int.tmod_eq_emod_of_nonneg (by omega)]; omega, w1 (by omega)]
        refine bnd hp (pos (by simp; omega) ?_)
        refine ih _ (fun g hg => ?_) (by simp only [List.length_append, List.length_singleton]; omega)
        rcases List.mem_append.1 hg with hg | hg
        · exact h1 g hg
        · obtain rfl := List.mem_singleton.1 hg
          exact hps
    rw [List.nil_append]
    unfold herbariumlaw11_one.j1
    by_cases h4 : ((x.G.G.length : Nat) : Int) > 4
    · refine posD h4 (pos (by omega) (l2 0 (by omega) _ (fun g h => wt_Sm (hg g (List.mem_of_mem_take h))) ?_).e1)
      rw [List.length_take]
      omega
    · exact negD h4 (l2 0 (by omega) _ (fun g h => wt_Sm (hg g h)) (by omega)).e1
theorem le8 {n c : Nat} (h : n * c ≤ 140737488351232) (hc : 8 ≤ c) : n ≤ 17592186044416 := by
  have := Nat.mul_le_mul_left n hc
  omega
theorem slow_pure {kind : Int} (hk : Ends kind) {f : Nat → herbariumlaw11_Ask → Option Bool} (hf : ∀ K x, f K x = (herbariumlaw11_one K x kind).bind fun r => some r) (x : herbariumlaw11_Ask) (hx : Fit x) : ∃ K, f K x = some true := by
  obtain ⟨K, h⟩ := (one_ev x hx kind hk).get
  exact ⟨K, by rw [hf, h]; rfl⟩
end Go.XL
end
section
namespace Go.XL
open Go.XM
def a0 (kind a : Int) : Int := if kind = 1 ∨ kind = 2 ∨ kind = 4 then a else 0
def upN (N : Nat) : List Int := (List.range N).map fun (i : Nat) => (i : Int)
theorem upN_succ (N : Nat) : upN (N + 1) = upN N ++ [(N : Int)] := by simp [upN, List.range_succ]
theorem upN_length (N : Nat) : (upN N).length = N := by simp [upN]
theorem upN_getD {N i : Nat} (h : i < N) : (upN N).getD i 0 = i := by simp [upN, List.getD_eq_getElem?_getD, h]
def out0 (N : Nat) (kind : Int) : List Int := if kind = 4 then List.replicate N (-1) else if kind = 5 then upN N else []
theorem out0_len (N : Nat) (kind : Int) : (out0 N kind).length ≤ N := by
  unfold out0
  split
  · simp
  · split
    · rw [upN_length]; omega
    · simp
def job0 (N : Nat) (kind a : Int) : api_Job := (kind, a0 kind a, 0, false, if kind = 4 then [a] else [], if kind = 4 then (out0 N kind).set a.toNat 0 else out0 N kind)
theorem code_rng {n kind a : Int} (hc : code n kind a = 0) : (1 ≤ kind ∧ kind ≤ 6) ∧ ((kind = 1 ∨ kind = 2 ∨ kind = 4) → 0 ≤ a ∧ a < n) := by
  unfold code at hc
  by_cases hk : 1 ≤ kind ∧ kind ≤ 6
  · refine ⟨hk, fun h => ?_⟩
    rw [if_pos hk, if_pos h] at hc
    apply Classical.byContradiction
    intro hn
    rw [if_neg hn] at hc
    omega
  · rw [if_neg hk] at hc; omega
theorem code_a0 {n kind a : Int} (hc : code n kind a = 0) : code n kind (a0 kind a) = 0 := by
  unfold a0
  split
  · exact hc
  · rename_i h
    unfold code at hc ⊢
    split
    · rfl
    · rename_i q; rw [if_neg q] at hc; omega
theorem job0_a0 (N : Nat) (kind a : Int) : job0 N kind (a0 kind a) = job0 N kind a := by
  by_cases h : kind = 1 ∨ kind = 2 ∨ kind = 4
  · have : a0 kind a = a := by unfold a0; rw [if_pos h]
    rw [this]
  · have h4 : ¬ kind = 4 := fun e => h (.inr (.inr e))
    have e : ∀ b, a0 kind b = 0 := fun b => by unfold a0; rw [if_neg h]
    unfold job0
    simp only [e, if_neg h4]
theorem rbeg_ev (g : api_Graph) (N : Nat) (e : g.N = (N : Int)) (hN : N ≤ 16) (kind a : Int) (hc : code g.N kind a = 0) : E0 (fun K => herbariumref10_Begin K g kind a) (job0 N kind a) := by
  obtain ⟨hk, ha⟩ := code_rng hc
  have key : ∀ A : Int, A = a0 kind a → ∀ v, v ≤ N → E1 (fun K k => herbariumref10_Begin.l2 K A 0 g kind a k (v : Int) (out0 v kind)) (job0 N kind a) := by
    intro A hA
    refine upto ?_ ?_
    · refine step1 (fun _ _ _ _ _ => herbariumref10_Begin.l2.eq_2 ..) ?_
      refine negD (by omega) ?_
      by_cases h4 : kind = 4
      · have := ha (.inr (.inr h4))
        refine posE h4 (pos (by unfold out0; rw [if_pos h4]; simp; omega) (nowE ?_))
        unfold job0; rw [if_pos h4, if_pos h4, hA]
      · refine negE h4 (nowE ?_)
        unfold job0; rw [if_neg h4, if_neg h4, hA]
    · intro v hv ih
      have hol := out0_len v kind
      refine step1 (fun _ _ _ _ _ => herbariumref10_Begin.l2.eq_2 ..) ?_
      refine posD (by omega) ?_
      rw [w1 (by omega)]
      by_cases h4 : kind = 4
      · refine posE h4 (pos (by simp; omega) ?_)
        have : out0 v kind ++ [(-1)] = out0 (v + 1) kind := by unfold out0; rw [if_pos h4, if_pos h4, List.replicate_succ']
        rw [this]; exact ih
      · refine negE h4 ?_
        by_cases h5 : kind = 5
        · refine posE h5 (pos (by simp; omega) ?_)
          have : out0 v kind ++ [(v : Int)] = out0 (v + 1) kind := by unfold out0; rw [if_neg h4, if_neg h4, if_pos h5, if_pos h5, upN_succ]
          rw [this]; exact ih
        · refine negE h5 ?_
          have : out0 v kind = out0 (v + 1) kind := by unfold out0; rw [if_neg h4, if_neg h4, if_neg h5, if_neg h5]
          rw [this]; exact ih
  have h0 : out0 0 kind = [] := by unfold out0; split; · rfl
                                   · split <;> rfl
  unfold herbariumref10_Begin herbariumref10_Begin.j1
  simp only [named10_eq]
  refine bnd (now _) ?_
  by_cases h : kind = 1 ∨ kind = 2 ∨ kind = 4
  · refine posD h ?_
    have := (key a (by unfold a0; rw [if_pos h]) 0 (by omega)).e1
    rw [h0] at this; exact this
  · refine negD h ?_
    have := (key 0 (by unfold a0; rw [if_neg h]) 0 (by omega)).e1
    rw [h0] at this; exact this
theorem sbeg_ev (g : api_Graph) (N : Nat) (e : g.N = (N : Int)) (hN : N ≤ 16) (hg : GraphP g) (hs : Sm g) (kind a : Int) (hc : code g.N kind a = 0) : E0 (fun K => slow_Begin K g kind a) (job0 N kind a, 0) := by
  obtain ⟨hk, ha⟩ := code_rng hc
  have hask := asked_ev g kind a hs
  rw [if_pos hg, hc] at hask
  have j1 : ∀ A : Int, A = a0 kind a → E0 (fun K => slow_start.j1 K g kind a 0 0 0 A 0) (job0 N kind a) := by
    intro A hA
    unfold slow_start.j1
    by_cases h4 : kind = 4
    · have := ha (.inr (.inr h4))
      refine posE h4 ?_
      rw [e]
      refine bnd (repeat_ev N hN) (pos (by simp; omega) (nowE ?_))
      unfold job0 out0; rw [if_pos h4, if_pos h4, if_pos h4, hA]
    · refine negE h4 ?_
      by_cases h5 : kind = 5
      · refine posE h5 ?_
        have key : ∀ v, v ≤ N → E1 (fun K k => slow_start.l2 K A 0 g kind k (v : Int) (upN v)) (job0 N kind a) := by
          refine upto ?_ ?_
          · refine step1 (fun _ _ _ _ _ => slow_start.l2.eq_2 ..) ?_
            refine negD (by omega) (nowE ?_)
            unfold job0 out0; rw [if_neg h4, if_neg h4, if_neg h4, if_pos h5, hA]
          · intro v hv ih
            refine step1 (fun _ _ _ _ _ => slow_start.l2.eq_2 ..) ?_
            refine posD (by omega) (pos (by simp [upN_length]; omega) ?_)
            rw [w1 (by omega), ← upN_succ]
            exact ih
        exact (key 0 (by omega)).e1
      · refine negE h5 (nowE ?_)
        unfold job0 out0; rw [if_neg h4, if_neg h4, if_neg h4, if_neg h5, hA]
  unfold slow_Begin
  refine bnd hask (negN rfl (bnd ?_ (now _)))
  unfold slow_start
  simp only [named_eq]
  refine bnd (now _) ?_
  by_cases h : kind = 1 ∨ kind = 2 ∨ kind = 4
  · exact posD h (j1 a (by unfold a0; rw [if_pos h]))
  · exact negD h (j1 0 (by unfold a0; rw [if_neg h]))
theorem tr_of {g : api_Graph} {N : Nat} (hg : GraphP g) (e : g.N = (N : Int)) (hN : N ≤ 16) (hs : Sm g) {kind a : Int} (hc : code g.N kind a = 0) {n : Nat} {tr : Nat → api_Job} (h0 : tr 0 = job0 N kind a) (hn : n ≤ 1000)
    (kd : ∀ i, i ≤ n → (tr i).Kind = kind ∧ (tr i).A = a0 kind a) (sm : ∀ i, i ≤ n → JSm (tr i)) (go : ∀ i, i < n → ov g (tr i) = false) (vis : ∀ i, i < n → Vis g (tr i) (tr (i + 1))) (fin : ov g (tr n) = true) : Tr g kind a n tr := by
  have hA : (tr 0).A = a0 kind a := (kd 0 (by omega)).2
  refine ⟨fun i hi => ⟨(kd i hi).1, by rw [hA]; exact (kd i hi).2⟩, sm, go, vis, fin, hn, ?_, ?_, ?_, fun h => by rw [hA]; unfold a0; rw [if_neg h]⟩
  · rw [h0]; exact sbeg_ev g N e hN hg hs kind a hc
  · rw [hA, h0, ← job0_a0]; exact sbeg_ev g N e hN hg hs kind _ (code_a0 hc)
  · rw [h0]; exact rbeg_ev g N e hN kind a hc
theorem GraphP.sm {g : api_Graph} (h : GraphP g) : Sm g := by
  have := h.2.1; have := h.2.2.1; have := h.2.2.2.2
  unfold Sm; omega
end Go.XL
end
section
namespace Go.XL
open Go.XM
theorem pKind (k a t m l o) : api_Job.Kind (k, a, t, m, l, o) = k := rfl
theorem pA (k a t m l o) : api_Job.A (k, a, t, m, l, o) = a := rfl
theorem pAt (k a t m l o) : api_Job.At (k, a, t, m, l, o) = t := rfl
theorem pMove (k a t m l o) : api_Job.Move (k, a, t, m, l, o) = m := rfl
theorem pList (k a t m l o) : api_Job.List_ (k, a, t, m, l, o) = l := rfl
theorem pOut (k a t m l o) : api_Job.Out (k, a, t, m, l, o) = o := rfl
theorem pgN (n o) : api_Graph.N (n, o) = n := rfl
theorem pgO (n o) : api_Graph.Out (n, o) = o := rfl
theorem at1 (i : Nat) (h : i < 1000) : wr .i64 ((i : Int) + 1) = ((i + 1 : Nat) : Int) := w1 (by omega)
theorem ends1 : Ends 1 := by
  intro g a hg hc
  obtain ⟨en, hG⟩ := hg.good
  have ha := (code_rng hc).2 (.inl rfl)
  have hs := hg.sm
  generalize g.N.toNat = N at *
  have hN := hG.le
  have hlen := hG.len
  obtain ⟨a, rfl⟩ : ∃ m : Nat, a = m := ⟨a.toNat, by omega⟩
  have hr := hG.rlen a
  have ho : ∀ i : Nat, (if i = 0 then [] else g.Out.getD a []).length ≤ 16 := fun i => by
    split
    · exact Nat.zero_le _
    · omega
  refine ⟨1, fun i => (1, a, i, false, [], if i = 0 then [] else g.Out.getD a []), tr_of hg en hN hs hc rfl (by omega) (fun i _ => ⟨rfl, by simp [a0]⟩) (fun i hi => ⟨Nat.zero_le _, Nat.le_trans (ho i) (by omega)⟩) (fun i hi => ?_) (fun i hi => ?_) rfl, Nat.le_trans (ho 1) (by omega), ?_⟩
  · obtain rfl : i = 0 := by omega
    rfl
  · obtain rfl : i = 0 := by omega
    have hsm : JSm ((1, (a : Int), ((0 : Nat) : Int), false, [], []) : api_Job) := ⟨Nat.zero_le _, Nat.zero_le _⟩
    show Vis g ((1, (a : Int), ((0 : Nat) : Int), false, [], []) : api_Job) ((1, (a : Int), ((1 : Nat) : Int), false, [], g.Out.getD a []) : api_Job)
    constructor
    · unfold slow_visit
      simp only [pKind, pA, pAt, pMove, pList, pOut, pgN, pgO]
      refine negE (by decide) (posE rfl (pos (by omega) ?_))
      simp only [rd1N, clone_eq _ _ (show (g.Out.getD a []).length ≤ 1000000 by omega)]
      exact bnd (now _) (nowE rfl)
    · unfold herbariumref10_Visit
      refine bnd (copyjob_ev _ hsm) ?_
      simp only [pKind, pA, pAt, pMove, pList, pOut, pgN, pgO]
      refine posE rfl (pos (by omega) ?_)
      simp only [rd1N]
      exact bnd (copy_ev _ (by omega)) (nowE rfl)
  · unfold herbariumref10_Ask
    refine posE rfl (pos (by omega) ?_)
    rw [rd1N]
    exact tail (copy_ev _ (by omega))
def ins (out : List (List Int)) (a : Int) (n : Nat) : List Int := ((List.range n).filter fun v => decide (a ∈ out.getD v [])).map fun (v : Nat) => (v : Int)
theorem ins_succ (out : List (List Int)) (a : Int) (n : Nat) : ins out a (n + 1) = if a ∈ out.getD n [] then ins out a n ++ [(n : Int)] else ins out a n := by
  unfold ins
  rw [List.range_succ, List.filter_append, List.map_append]
  by_cases h : a ∈ out.getD n []
  · rw [if_pos h, List.filter_cons_of_pos (p := fun v => decide (a ∈ out.getD v [])) (by exact decide_eq_true h)]; rfl
  · rw [if_neg h, List.filter_cons_of_neg (by rw [decide_eq_true_eq]; exact h)]; simp
theorem ins_len (out : List (List Int)) (a : Int) (n : Nat) : (ins out a n).length ≤ n := by
  unfold ins
  rw [List.length_map]
  exact Nat.le_trans (List.length_filter_le _ _) (by simp)
theorem fold_row (ps : List api_Pair) (a : Nat) : ∀ st : List (List Int), a < st.length → (∀ p ∈ ps, 0 ≤ p.B ∧ p.B < st.length) → (ps.foldl tstep st).getD a [] = st.getD a [] ++ (ps.filter fun (p : api_Pair) => decide (p.B = (a : Int))).map (fun (p : api_Pair) => p.A) := by
  induction ps with
  | nil => intro st _ _; simp
  | cons p ps ih =>
    intro st ha hp
    have h0 := hp p (by simp)
    rw [List.foldl_cons, ih (tstep st p) (by rw [tstep_length]; exact ha) (fun q hq => by rw [tstep_length]; exact hp q (by simp [hq]))]
    unfold tstep
    rw [getD_set _ _ _ _ (by omega)]
    by_cases e : p.B = (a : Int)
    · have e2 : a = p.B.toNat := by omega
      rw [if_pos e2, List.filter_cons_of_pos (by simpa using e)]
      rw [← e2]
      simp
    · have e2 : ¬ a = p.B.toNat := by omega
      rw [if_neg e2, List.filter_cons_of_neg (by simpa using e)]
theorem mayp_lt {xs : List Int} (h : MayP xs) : xs.Pairwise (· < ·) := by
  rw [List.pairwise_iff_getElem]
  intro i j hi hj hij
  have := h.mono (j - i) i (by omega)
  rw [show i + (j - i) = j by omega, getD_lt hi, getD_lt hj] at this
  omega
theorem row_filter (i : Nat) (a : Int) : ∀ (r : List Int), r.Pairwise (· < ·) → ((r.map fun v => ((i, v) : api_Pair)).filter fun (p : api_Pair) => decide (p.B = a)).map (fun (p : api_Pair) => p.A) = if a ∈ r then [(i : Int)] else []
  | [], _ => by simp
  | x :: r, h => by
    obtain ⟨h1, h2⟩ := List.pairwise_cons.1 h
    have ih := row_filter i a r h2
    rw [List.map_cons]
    by_cases e : x = a
    · have : a ∉ r := fun hm => by have := h1 a hm; omega
      rw [if_neg this] at ih
      rw [List.filter_cons_of_pos (by simpa using e), List.map_cons, ih, if_pos (by simp [e])]
    · rw [List.filter_cons_of_neg (by simpa using e), ih]
      have : (a ∈ x :: r) ↔ a ∈ r := by simp [Ne.symm e]
      simp only [this]
theorem prs_filter (a : Int) : ∀ (xs : List (List Int)) (i : Nat), (∀ r ∈ xs, r.Pairwise (· < ·)) → ((prs i xs).filter fun (p : api_Pair) => decide (p.B = a)).map (fun (p : api_Pair) => p.A) = ((List.range xs.length).filter fun v => decide (a ∈ xs.getD v [])).map fun (v : Nat) => ((i + v : Nat) : Int)
  | [], i, _ => by simp [prs]
  | r :: rs, i, h => by
    rw [prs, List.filter_append, List.map_append, row_filter i a r (h r (by simp)), prs_filter a rs (i + 1) (fun q hq => h q (by simp [hq]))]
    rw [List.length_cons, List.range_succ_eq_map, List.filter_cons]
    have e : ∀ f : Nat → Int, (List.filter (fun v => decide (a ∈ (r :: rs).getD v [])) (List.map Nat.succ (List.range rs.length))).map f = ((List.range rs.length).filter fun v => decide (a ∈ rs.getD v [])).map fun v => f (v + 1) := fun f => by
      rw [List.filter_map, List.map_map]; rfl
    by_cases q : a ∈ r
    · rw [if_pos q, if_pos (by simpa using q), List.map_cons, e]
      simp only [List.cons_append, List.nil_append, Nat.add_zero]
      congr 1
      refine List.map_congr_left fun v _ => ?_
      omega
    · rw [if_neg q, if_neg (by simpa using q), e]
      simp only [List.nil_append]
      refine List.map_congr_left fun v _ => ?_
      omega
theorem turn_row {N : Nat} {out : List (List Int)} (h : Good N out) {a : Nat} (ha : a < N) : (turn N out).getD a [] = ins out a N := by
  have hlen := h.len
  unfold turn
  rw [fold_row _ a _ (by simpa using ha) (fun p hp => by
    obtain ⟨j, hj, _, hm⟩ := prs_mem 0 out p hp
    have := h.row j (by omega) _ hm
    simpa using this)]
  rw [prs_filter (a : Int) out 0 (fun r hr => by
    obtain ⟨i, hi, rfl⟩ := List.mem_iff_getElem.1 hr
    rw [← getD_lt (d := []) hi]
    exact mayp_lt (h.may i (by omega)))]
  have : (List.replicate N ([] : List Int)).getD a [] = [] := by simp [List.getD_eq_getElem?_getD, List.getElem?_replicate]; split <;> rfl
  rw [this, List.nil_append, hlen]
  unfold ins
  refine List.map_congr_left fun v _ => by simp
theorem ends2 : Ends 2 := by
  intro g a hg hc
  obtain ⟨en, hG⟩ := hg.good
  have ha := (code_rng hc).2 (.inr (.inl rfl))
  have hs := hg.sm
  generalize g.N.toNat = N at *
  have hN := hG.le
  have hlen := hG.len
  obtain ⟨a, rfl⟩ : ∃ m : Nat, a = m := ⟨a.toNat, by omega⟩
  have hl : ∀ i, i ≤ N → (ins g.Out a i).length ≤ 16 := fun i hi => by have := ins_len g.Out a i; omega
  refine ⟨N, fun i => (2, a, i, false, [], ins g.Out a i), tr_of hg en hN hs hc rfl (by omega) (fun i _ => ⟨rfl, by simp [a0]⟩) (fun i hi => ⟨Nat.zero_le _, by have := hl i hi; show (ins g.Out a i).length ≤ _; omega⟩) (fun i hi => ?_) (fun i hi => ?_) ?_, by have := hl N (by omega); show (ins g.Out a N).length ≤ _; omega, ?_⟩
  · show decide ((i : Int) ≥ g.N) = false
    exact decide_eq_false (by omega)
  · have hr := hG.rlen i
    have hli := hl i (by omega)
    have hsm : JSm ((2, (a : Int), (i : Int), false, [], ins g.Out a i) : api_Job) := ⟨Nat.zero_le _, by show (ins g.Out a i).length ≤ _; omega⟩
    constructor
    · unfold slow_visit
      simp only [pKind, pA, pAt, pMove, pList, pOut, pgN, pgO]
      refine negE (by decide) (negE (by decide) (posE rfl (pos (by omega) ?_)))
      simp only [rd1N, ins_succ, at1 i (by omega)]
      refine bnd (contains_ev _ _ (by omega)) ?_
      by_cases hm : (a : Int) ∈ g.Out.getD i []
      · exact posD hm (pos (by simp; omega) (nowE (by rw [if_pos hm])))
      · exact negD hm (nowE (by rw [if_neg hm]))
    · obtain ⟨r, hr1, hr2⟩ := in_ev (g.Out.getD i []) (a : Int) (by omega)
      unfold herbariumref10_Visit
      refine bnd (copyjob_ev _ hsm) ?_
      simp only [pKind, pA, pAt, pMove, pList, pOut, pgN, pgO]
      refine negE (by decide) (posE rfl (pos (by omega) ?_))
      simp only [rd1N, ins_succ, at1 i (by omega)]
      refine bnd hr1 ?_
      by_cases hm : (a : Int) ∈ g.Out.getD i []
      · exact posD (hr2.2 hm) (pos (by simp; omega) (nowE (by rw [if_pos hm])))
      · exact negD (fun h => hm (hr2.1 h)) (nowE (by rw [if_neg hm]))
  · show decide ((N : Int) ≥ g.N) = true
    exact decide_eq_true (by omega)
  · have htl := turn_length N g.Out
    have hli := hl N (by omega)
    unfold herbariumref10_Ask
    refine negE (by decide) (posE rfl (bnd (turn6_ev g N en hG) ?_))
    simp only [pKind, pA, pAt, pMove, pList, pOut, pgN, pgO]
    refine pos (by omega) ?_
    simp only [rd1N, turn_row hG (show a < N by omega)]
    exact bnd (copy_ev _ (by omega)) (nowE rfl)
theorem cnt_len {N : Nat} {out : List (List Int)} (hg : Good N out) (i : Nat) : ((out.take i).foldl cstep []).length ≤ 17 := by
  have key : ∀ (xs : List (List Int)) (c : List Int), (∀ r ∈ xs, r.length ≤ 16) → c.length ≤ 17 → (xs.foldl cstep c).length ≤ 17 := by
    intro xs
    induction xs with
    | nil => intro c _ h; exact h
    | cons r rs ih =>
      intro c hr hc
      rw [List.foldl_cons]
      refine ih _ (fun q hq => hr q (by simp [hq])) ?_
      rw [cstep_length]
      have := hr r (by simp)
      omega
  refine key _ [] (fun r hr => ?_) (by simp)
  obtain ⟨i, hi, rfl⟩ := List.mem_iff_getElem.1 (List.mem_of_mem_take hr)
  rw [← getD_lt (d := []) hi]
  exact hg.rlen i
theorem visit3 (g : api_Graph) (N : Nat) (en : g.N = (N : Int)) (hG : Good N g.Out) (i : Nat) (hi : i < N) (c0 : List Int) (h0 : c0.length ≤ 17) : Vis g ((3, 0, (i : Int), false, [], c0) : api_Job) ((3, 0, ((i + 1 : Nat) : Int), false, [], cstep c0 (g.Out.getD i [])) : api_Job) := by
  have hN := hG.le
  have hlen := hG.len
  have hr := hG.rlen i
  have hsm : JSm ((3, (0 : Int), (i : Int), false, [], c0) : api_Job) := ⟨Nat.zero_le _, by show c0.length ≤ _; omega⟩
  have e0 : ∀ c : List Int, (g.Out.getD i []).length + 1 - c.length = 0 → pad c (g.Out.getD i []).length = c := fun c hd => by unfold pad; rw [hd]; simp
  have e1 : ∀ (d : Nat) (c : List Int), (g.Out.getD i []).length + 1 - c.length = d + 1 → cstep (c ++ [0]) (g.Out.getD i []) = cstep c (g.Out.getD i []) := fun d c hd => by
    unfold cstep pad
    rw [show (g.Out.getD i []).length + 1 - (c ++ [(0 : Int)]).length = d by simp only [List.length_append, List.length_singleton]; omega, hd, List.replicate_succ]
    simp
  constructor
  · have key : ∀ (d : Nat) (c : List Int), (g.Out.getD i []).length + 1 - c.length = d → c.length ≤ 17 → E1 (fun K k => slow_visit.l1 K g ((3, 0, (i : Int), false, [], c0) : api_Job) k ((i + 1 : Nat) : Int) c) ((3, 0, ((i + 1 : Nat) : Int), false, [], cstep c (g.Out.getD i [])) : api_Job) := by
      intro d
      induction d with
      | zero =>
        intro c hd hc
        refine step1 (fun _ _ _ _ _ => slow_visit.l1.eq_2 ..) ?_
        simp only [pKind, pA, pAt, pMove, pList, pOut, pgN, pgO]
        refine pos (by omega) ?_
        simp only [rd1N, rdN, Int.toNat_natCast]
        refine negD (by omega) (pos (by omega) (pos (by omega) (pos (by omega) (nowE ?_))))
        unfold cstep
        rw [e0 c hd]
      | succ d ih =>
        intro c hd hc
        have := ih (c ++ [0]) (by simp only [List.length_append, List.length_singleton]; omega) (by simp only [List.length_append, List.length_singleton]; omega)
        rw [e1 d c hd] at this
        refine step1 (fun _ _ _ _ _ => slow_visit.l1.eq_2 ..) ?_
        simp only [pKind, pA, pAt, pMove, pList, pOut, pgN, pgO]
        refine pos (by omega) ?_
        simp only [rd1N]
        exact posD (by omega) (pos (by simp; omega) this)
    unfold slow_visit
    simp only [pKind, pA, pAt, pMove, pList, pOut, pgN, pgO]
    refine negE (by decide) (negE (by decide) (negE (by decide) (posE rfl ?_)))
    simp only [at1 i (by omega)]
    exact (key _ c0 rfl h0).e1
  · have key : ∀ (d : Nat) (c : List Int), (g.Out.getD i []).length + 1 - c.length = d → c.length ≤ 17 → E1 (fun K k => herbariumref10_Visit.l1 K ((3, 0, (i : Int), false, [], c0) : api_Job) g k ((i + 1 : Nat) : Int) c 0 0 0) ((3, 0, ((i + 1 : Nat) : Int), false, [], cstep c (g.Out.getD i [])) : api_Job) := by
      intro d
      induction d with
      | zero =>
        intro c hd hc
        refine step1 (fun _ _ _ _ _ => herbariumref10_Visit.l1.eq_2 ..) ?_
        simp only [pKind, pA, pAt, pMove, pList, pOut, pgN, pgO]
        refine pos (by omega) ?_
        simp only [rd1N, rdN, Int.toNat_natCast]
        refine negD (by omega) (pos (by omega) (pos (by omega) (pos (by omega) (nowE ?_))))
        unfold cstep
        rw [e0 c hd]
      | succ d ih =>
        intro c hd hc
        have := ih (c ++ [0]) (by simp only [List.length_append, List.length_singleton]; omega) (by simp only [List.length_append, List.length_singleton]; omega)
        rw [e1 d c hd] at this
        refine step1 (fun _ _ _ _ _ => herbariumref10_Visit.l1.eq_2 ..) ?_
        simp only [pKind, pA, pAt, pMove, pList, pOut, pgN, pgO]
        refine pos (by omega) ?_
        simp only [rd1N]
        exact posD (by omega) (pos (by simp; omega) this)
    unfold herbariumref10_Visit
    refine bnd (copyjob_ev _ hsm) ?_
    simp only [pKind, pA, pAt, pMove, pList, pOut, pgN, pgO]
    refine negE (by decide) (negE (by decide) (posE rfl ?_))
    simp only [at1 i (by omega)]
    exact (key _ c0 rfl h0).e1
theorem ends3 : Ends 3 := by
  intro g a hg hc
  obtain ⟨en, hG⟩ := hg.good
  have hs := hg.sm
  generalize g.N.toNat = N at *
  have hN := hG.le
  have hlen := hG.len
  have hl := cnt_len hG
  refine ⟨N, fun i => (3, 0, i, false, [], (g.Out.take i).foldl cstep []), tr_of hg en hN hs hc rfl (by omega) (fun i _ => ⟨rfl, by simp [a0]⟩) (fun i hi => ⟨Nat.zero_le _, by have := hl i; show ((g.Out.take i).foldl cstep []).length ≤ _; omega⟩) (fun i hi => ?_) (fun i hi => ?_) ?_, by have := hl N; show ((g.Out.take N).foldl cstep []).length ≤ _; omega, ?_⟩
  · show decide ((i : Int) ≥ g.N) = false
    exact decide_eq_false (by omega)
  · have := visit3 g N en hG i hi _ (hl i)
    rw [take_getD (d := []) (by omega), List.foldl_append]
    exact this
  · show decide ((N : Int) ≥ g.N) = true
    exact decide_eq_true (by omega)
  · unfold herbariumref10_Ask
    refine negE (by decide) (negE (by decide) (posE rfl ?_))
    have := tail (count10_ev g hs (by omega))
    show Ev _ ((g.Out.take N).foldl cstep [])
    rw [List.take_of_length_le (by omega)]
    exact this
theorem flat_append (a b : List api_Pair) : flat (a ++ b) = flat a ++ flat b := by simp [flat]
theorem prs_append : ∀ (xs ys : List (List Int)) (i : Nat), prs i (xs ++ ys) = prs i xs ++ prs (i + xs.length) ys
  | [], ys, i => by simp [prs]
  | x :: xs, ys, i => by rw [List.cons_append, prs, prs, prs_append xs ys (i + 1), List.append_assoc]; simp only [List.length_cons]; rw [show i + 1 + xs.length = i + (xs.length + 1) by omega]
theorem flat_row (i : Nat) (r : List Int) : flat (r.map fun v => ((i, v) : api_Pair)) = r.flatMap fun v => [(i : Int), v] := by simp [flat, List.flatMap_map]
theorem visit6 (g : api_Graph) (N : Nat) (en : g.N = (N : Int)) (hG : Good N g.Out) (i : Nat) (hi : i < N) (c0 : List Int) (h0 : c0.length ≤ 1000) : Vis g ((6, 0, (i : Int), false, [], c0) : api_Job) ((6, 0, ((i + 1 : Nat) : Int), false, [], c0 ++ (g.Out.getD i []).flatMap fun v => [(i : Int), v]) : api_Job) := by
  have hN := hG.le
  have hlen := hG.len
  have hr := hG.rlen i
  have hsm : JSm ((6, (0 : Int), (i : Int), false, [], c0) : api_Job) := ⟨Nat.zero_le _, by show c0.length ≤ _; omega⟩
  constructor
  · have key : ∀ j, j ≤ (g.Out.getD i []).length → ∀ c : List Int, c.length ≤ 1000 + 2 * j → E1 (fun K k => slow_visit.l3 K ((6, 0, (i : Int), false, [], c0) : api_Job) k (g.Out.getD i []) (((g.Out.getD i []).length : Nat) : Int) (j : Int) ((i + 1 : Nat) : Int) c) ((6, 0, ((i + 1 : Nat) : Int), false, [], c ++ ((g.Out.getD i []).drop j).flatMap fun v => [(i : Int), v]) : api_Job) := by
      refine upto ?_ ?_
      · intro c hc
        refine step1 (fun _ _ _ _ _ => slow_visit.l3.eq_2 ..) ?_
        exact negD (by omega) (nowE (by simp))
      · intro j hj ih c hc
        refine step1 (fun _ _ _ _ _ => slow_visit.l3.eq_2 ..) ?_
        refine posD (by omega) (pos (by omega) (pos (by simp; omega) ?_))
        rw [rdN, w1 (by omega), drop_getD (d := 0) hj, List.flatMap_cons, ← List.append_assoc]
        exact ih _ (by simp; omega)
    unfold slow_visit
    simp only [pKind, pA, pAt, pMove, pList, pOut, pgN, pgO]
    refine negE (by decide) (negE (by decide) (negE (by decide) (negE (by decide) (negE (by decide) (posE rfl (pos (by omega) ?_))))))
    simp only [rd1N, at1 i (by omega)]
    exact (key 0 (by omega) c0 h0).e1
  · have key : ∀ j, j ≤ (g.Out.getD i []).length → ∀ c : List Int, c.length ≤ 1000 + 2 * j → E1 (fun K k => herbariumref10_Visit.l2 K ((6, 0, (i : Int), false, [], c0) : api_Job) g k (j : Int) ((i + 1 : Nat) : Int) c 0 0 0) ((6, 0, ((i + 1 : Nat) : Int), false, [], c ++ ((g.Out.getD i []).drop j).flatMap fun v => [(i : Int), v]) : api_Job) := by
      refine upto ?_ ?_
      · intro c hc
        refine step1 (fun _ _ _ _ _ => herbariumref10_Visit.l2.eq_2 ..) ?_
        simp only [pKind, pA, pAt, pMove, pList, pOut, pgN, pgO]
        refine pos (by omega) ?_
        simp only [rd1N]
        exact negD (by omega) (nowE (by simp))
      · intro j hj ih c hc
        refine step1 (fun _ _ _ _ _ => herbariumref10_Visit.l2.eq_2 ..) ?_
        simp only [pKind, pA, pAt, pMove, pList, pOut, pgN, pgO]
        refine pos (by omega) ?_
        simp only [rd1N]
        refine posD (by omega) (pos (by omega) (pos (by omega) (pos (by simp; omega) ?_)))
        rw [rdN, w1 (by omega), drop_getD (d := 0) hj, List.flatMap_cons, ← List.append_assoc]
        exact ih _ (by simp; omega)
    unfold herbariumref10_Visit
    refine bnd (copyjob_ev _ hsm) ?_
    simp only [pKind, pA, pAt, pMove, pList, pOut, pgN, pgO]
    refine negE (by decide) (negE (by decide) (negE (by decide) (posE rfl ?_)))
    simp only [at1 i (by omega)]
    exact (key 0 (by omega) c0 h0).e1
theorem ends6 : Ends 6 := by
  intro g a hg hc
  obtain ⟨en, hG⟩ := hg.good
  have hs := hg.sm
  generalize g.N.toNat = N at *
  have hN := hG.le
  have hlen := hG.len
  have hsum := hG.sum
  have hl : ∀ i, (flat (prs 0 (g.Out.take i))).length ≤ 240 := fun i => by
    rw [flat_length, prs_length]
    have := lsum_take_le g.Out i
    omega
  refine ⟨N, fun i => (6, 0, i, false, [], flat (prs 0 (g.Out.take i))), tr_of hg en hN hs hc rfl (by omega) (fun i _ => ⟨rfl, by simp [a0]⟩) (fun i hi => ⟨Nat.zero_le _, by have := hl i; show (flat (prs 0 (g.Out.take i))).length ≤ _; omega⟩) (fun i hi => ?_) (fun i hi => ?_) ?_, by have := hl N; show (flat (prs 0 (g.Out.take N))).length ≤ _; omega, ?_⟩
  · show decide ((i : Int) ≥ g.N) = false
    exact decide_eq_false (by omega)
  · have := visit6 g N en hG i hi (flat (prs 0 (g.Out.take i))) (by have := hl i; omega)
    rw [take_getD (d := []) (by omega), prs_append, flat_append, List.length_take, show 0 + min i g.Out.length = i by omega, prs, prs, List.append_nil, flat_row]
    exact this
  · show decide ((N : Int) ≥ g.N) = true
    exact decide_eq_true (by omega)
  · unfold herbariumref10_Ask
    refine negE (by decide) (negE (by decide) (negE (by decide) (negE (by decide) (negE (by decide) (bnd (pairs_ev g hs (by omega)) ?_)))))
    have := askAll_ev g hs
    show Ev _ (flat (prs 0 (g.Out.take N)))
    rw [List.take_of_length_le (by omega)]
    exact this
end Go.XL
end
section
namespace Go.XL
open Go.XM
theorem least (Q : Nat → Prop) : ∀ m, (∀ i, i < m → Q i) ∨ ∃ n, n < m ∧ ¬ Q n ∧ ∀ i, i < n → Q i := by
  intro m
  induction m with
  | zero => exact .inl fun i hi => by omega
  | succ m ih =>
    rcases ih with h | ⟨n, h1, h2, h3⟩
    · by_cases q : Q m
      · exact .inl fun i hi => by
          by_cases e : i = m
          · subst e; exact q
          · exact h i (by omega)
      · exact .inr ⟨m, by omega, q, h⟩
    · exact .inr ⟨n, by omega, h2, h3⟩
def far1 (u : Nat) (p : List Int × List Int) (w : Int) : List Int × List Int := if p.2.getD w.toNat 0 < 0 then (p.1 ++ [w], p.2.set w.toNat (p.2.getD u 0 + 1)) else p
structure FInv (N : Nat) (out : List (List Int)) (a u i j : Nat) (p : List Int × List Int) : Prop where
  bin : Bin N out a u j p.2 (p.1.drop (i + 1))
  len : p.1.length + unv p.2 ≤ N
  at_ : i + 1 ≤ p.1.length
theorem FInv.step {N : Nat} {out : List (List Int)} {a u i j : Nat} {p : List Int × List Int} (hg : Good N out) (h : FInv N out a u i j p) (hu : u < N) (hj : j < (out.getD u []).length) : FInv N out a u i (j + 1) (far1 u p ((out.getD u []).getD j 0)) := by
  obtain ⟨he, hwN, hwe⟩ := edge_of hg hu hj
  have hl := h.bin.half.len
  unfold far1
  by_cases hw : p.2.getD ((out.getD u []).getD j 0).toNat 0 < 0
  · rw [if_pos hw]
    have hv := unv_set p.2 _ (p.2.getD u 0 + 1) (by omega) hw (by have := h.bin.vis; omega)
    have h1 := h.at_
    have h2 := h.len
    refine ⟨?_, by simp only [List.length_append, List.length_singleton]; omega, by simp only [List.length_append, List.length_singleton]; omega⟩
    show Bin N out a u (j + 1) _ ((p.1 ++ [_]).drop (i + 1))
    rw [List.drop_append_of_le_length h1]
    exact h.bin.put hg hu hj hw
  · rw [if_neg hw]
    exact ⟨h.bin.keep (by omega), h.len, h.at_⟩
theorem FInv.run {N : Nat} {out : List (List Int)} {a u i : Nat} (hg : Good N out) (hu : u < N) : ∀ j, j ≤ (out.getD u []).length → ∀ p, FInv N out a u i j p → FInv N out a u i (out.getD u []).length (((out.getD u []).drop j).foldl (far1 u) p) := by
  refine upto ?_ ?_
  · intro p h; simpa using h
  · intro j hj ih p h
    rw [drop_getD (d := 0) hj, List.foldl_cons]
    exact ih _ (h.step hg hu hj)
theorem svis4 {g : api_Graph} {N : Nat} (hg : Good N g.Out) {a u i : Nat} (hu : u < N) (x : api_Job) (hx : x.Kind = 4 ∧ x.A = (a : Int) ∧ x.Move = false) : ∀ j, j ≤ (g.Out.getD u []).length → ∀ p, FInv N g.Out a u i j p →
    E1 (fun K k => slow_visit.l2 K x k (u : Int) (g.Out.getD u []) (((g.Out.getD u []).length : Nat) : Int) (j : Int) ((i + 1 : Nat) : Int) p.1 p.2) ((4, (a : Int), ((i + 1 : Nat) : Int), false, (((g.Out.getD u []).drop j).foldl (far1 u) p).1, (((g.Out.getD u []).drop j).foldl (far1 u) p).2) : api_Job) := by
  have hN := hg.le
  have hr := hg.rlen u
  refine upto ?_ ?_
  · intro p h
    refine step1 (fun _ _ _ _ _ => slow_visit.l2.eq_2 ..) ?_
    refine negD (by omega) (nowE ?_)
    rw [hx.1, hx.2.1, hx.2.2]; simp
  · intro j hj ih p h
    obtain ⟨he, hwN, hwe⟩ := edge_of hg hu hj
    have hl := h.bin.half.len
    have hlt := h.bin.half.lt hu
    have hv := h.bin.vis
    have hlen := h.len
    have := ih _ (h.step hg hu hj)
    rw [drop_getD (d := 0) hj, List.foldl_cons]
    refine step1 (fun _ _ _ _ _ => slow_visit.l2.eq_2 ..) ?_
    rw [rdN, rdN, rdI, w1 (by omega), w64 (by omega) (by omega)]
    refine posD (by omega) (pos (by omega) (pos (by omega) ?_))
    by_cases hw : p.2.getD ((g.Out.getD u []).getD j 0).toNat 0 < 0
    · refine posD hw (pos (by omega) (pos (by simp; omega) (pos (by omega) ?_)))
      unfold far1 at this ⊢
      rw [if_pos hw] at this ⊢
      exact this
    · refine negD hw ?_
      unfold far1 at this ⊢
      rw [if_neg hw] at this ⊢
      exact this
theorem rvis4 {g : api_Graph} {N : Nat} (hg : Good N g.Out) {a u i : Nat} (hu : u < N) (x : api_Job) (hx : x.Kind = 4 ∧ x.A = (a : Int) ∧ x.Move = false) : ∀ j, j ≤ (g.Out.getD u []).length → ∀ p, FInv N g.Out a u i j p →
    E1 (fun K k => herbariumref10_Visit.l3 K x g k (u : Int) (j : Int) ((i + 1 : Nat) : Int) p.1 p.2 0 0 0) ((4, (a : Int), ((i + 1 : Nat) : Int), false, (((g.Out.getD u []).drop j).foldl (far1 u) p).1, (((g.Out.getD u []).drop j).foldl (far1 u) p).2) : api_Job) := by
  have hN := hg.le
  have hlen := hg.len
  have hr := hg.rlen u
  refine upto ?_ ?_
  · intro p h
    refine step1 (fun _ _ _ _ _ => herbariumref10_Visit.l3.eq_2 ..) ?_
    refine pos (by omega) ?_
    rw [rd1N]
    refine negD (by omega) (nowE ?_)
    rw [hx.1, hx.2.1, hx.2.2]; simp
  · intro j hj ih p h
    obtain ⟨he, hwN, hwe⟩ := edge_of hg hu hj
    have hl := h.bin.half.len
    have hlt := h.bin.half.lt hu
    have hv := h.bin.vis
    have hlen2 := h.len
    have := ih _ (h.step hg hu hj)
    rw [drop_getD (d := 0) hj, List.foldl_cons]
    refine step1 (fun _ _ _ _ _ => herbariumref10_Visit.l3.eq_2 ..) ?_
    refine pos (by omega) ?_
    rw [rd1N, rdN, rdN, rdI, w1 (by omega), w64 (by omega) (by omega)]
    refine posD (by omega) (pos (by omega) (pos (by omega) (pos (by omega) ?_)))
    by_cases hw : p.2.getD ((g.Out.getD u []).getD j 0).toNat 0 < 0
    · refine posD hw (pos (by omega) (pos (by omega) (pos (by simp; omega) ?_)))
      unfold far1 at this ⊢
      rw [if_pos hw] at this ⊢
      exact this
    · refine negD hw ?_
      unfold far1 at this ⊢
      rw [if_neg hw] at this ⊢
      exact this
structure FSt (N : Nat) (out : List (List Int)) (a i : Nat) (p : List Int × List Int) : Prop where
  bfs : Bfs N out a p.2 (p.1.drop i)
  len : p.1.length + unv p.2 ≤ N
def v4 (out : List (List Int)) (i : Nat) (p : List Int × List Int) : List Int × List Int := (out.getD (p.1.getD i 0).toNat []).foldl (far1 (p.1.getD i 0).toNat) p
def s4 (N : Nat) (out : List (List Int)) (a : Nat) : Nat → List Int × List Int
  | 0 => ([(a : Int)], (List.replicate N (-1)).set a 0)
  | i + 1 => v4 out i (s4 N out a i)
theorem FSt.inv {N : Nat} {out : List (List Int)} {a i : Nat} {p : List Int × List Int} (h : FSt N out a i p) (hi : i < p.1.length) : (p.1.getD i 0).toNat < N ∧ (((p.1.getD i 0).toNat : Nat) : Int) = p.1.getD i 0 ∧ FInv N out a (p.1.getD i 0).toNat i 0 p := by
  have hd := drop_getD (d := (0 : Int)) hi
  have hb := h.bfs
  rw [hd] at hb
  generalize p.1.getD i 0 = x at *
  obtain ⟨hx0, hx1, hx2⟩ := hb.qin x (by simp)
  have hsr := List.pairwise_cons.1 hb.srt
  have e : ((x.toNat : Nat) : Int) = x := by omega
  refine ⟨by omega, e, ⟨⟨hb.half, fun y hy => hb.qin y (by simp [hy]), hx2, fun u hu h0 hn hne w hw hE => hb.clos u hu h0 (by simp only [List.mem_cons, not_or]; exact ⟨by omega, hn⟩) w hw hE, fun j hj => by omega, fun v hv => by simpa using hb.cap x (by simp) v hv, fun y hy => by simpa using hsr.1 y hy, hsr.2⟩, h.len, by omega⟩⟩
theorem FSt.next {N : Nat} {out : List (List Int)} {a i : Nat} {p : List Int × List Int} (hg : Good N out) (h : FSt N out a i p) (hi : i < p.1.length) : FSt N out a (i + 1) (v4 out i p) := by
  obtain ⟨hu, _, hF⟩ := h.inv hi
  have := FInv.run hg hu 0 (by omega) p hF
  rw [List.drop_zero] at this
  exact ⟨this.bin.out (Nat.le_refl _), this.len⟩
theorem FSt.init {N : Nat} {out : List (List Int)} {a : Nat} (ha : a < N) : FSt N out a 0 (s4 N out a 0) := by
  have hi := Half.init (out := out) ha
  have hGi : ∀ v, v < N → ((List.replicate N (-1 : Int)).set a 0).getD v 0 = if v = a then 0 else -1 := fun v hv => by
    rw [getD_set _ _ _ _ (by simpa using ha)]
    split
    · rfl
    · simp [List.getD_eq_getElem?_getD, List.getElem?_replicate, hv]
  refine ⟨⟨hi, fun x hx => ?_, fun u hu h0 hn => ?_, fun x hx v hv => ?_, List.pairwise_singleton _ _⟩, ?_⟩
  · obtain rfl := List.mem_singleton.1 hx
    show _ ∧ _ ∧ 0 ≤ ((List.replicate N (-1 : Int)).set a 0).getD ((a : Int)).toNat 0
    rw [Int.toNat_natCast, hi.src]; omega
  · have h0 : 0 ≤ ((List.replicate N (-1 : Int)).set a 0).getD u 0 := h0
    rw [hGi u hu] at h0
    split at h0
    · rename_i e; exact absurd (show (u : Int) ∈ [(a : Int)] by simp [e]) hn
    · omega
  · obtain rfl := List.mem_singleton.1 hx
    show ((List.replicate N (-1 : Int)).set a 0).getD v 0 ≤ ((List.replicate N (-1 : Int)).set a 0).getD ((a : Int)).toNat 0 + 1
    rw [Int.toNat_natCast, hi.src, hGi v hv]
    split <;> omega
  · have := unv_set (List.replicate N (-1 : Int)) a 0 (by simpa using ha) (by simp [List.getD_eq_getElem?_getD, List.getElem?_replicate, ha]) (by omega)
    have h2 := unv_le (List.replicate N (-1 : Int))
    rw [List.length_replicate] at h2
    show 1 + unv ((List.replicate N (-1 : Int)).set a 0) ≤ N
    omega
theorem ends4 : Ends 4 := by
  intro g a hg hc
  obtain ⟨en, hG⟩ := hg.good
  have ha := (code_rng hc).2 (.inr (.inr rfl))
  have hs := hg.sm
  generalize g.N.toNat = N at *
  have hN := hG.le
  have hlen := hG.len
  obtain ⟨a, rfl⟩ : ∃ m : Nat, a = m := ⟨a.toNat, by omega⟩
  have haN : a < N := by omega
  have hinv : ∀ m, (∀ i, i < m → i < (s4 N g.Out a i).1.length) → FSt N g.Out a m (s4 N g.Out a m) := by
    intro m
    induction m with
    | zero => intro _; exact FSt.init haN
    | succ m ih => intro h; exact (ih fun i hi => h i (by omega)).next hG (h m (by omega))
  obtain ⟨n, hnN, hn1, hn2⟩ : ∃ n, n ≤ N ∧ ¬ n < (s4 N g.Out a n).1.length ∧ ∀ i, i < n → i < (s4 N g.Out a i).1.length := by
    rcases least (fun i => i < (s4 N g.Out a i).1.length) (N + 1) with h | ⟨n, h1, h2, h3⟩
    · have := (hinv N fun i hi => h i (by omega)).len
      have := h N (by omega)
      omega
    · exact ⟨n, by omega, h2, h3⟩
  have hI : ∀ i, i ≤ n → FSt N g.Out a i (s4 N g.Out a i) := fun i hi => hinv i fun m hm => hn2 m (by omega)
  have hL : ∀ i, i ≤ n → (s4 N g.Out a i).1.length ≤ 16 ∧ (s4 N g.Out a i).2.length ≤ 16 := fun i hi => by
    have := (hI i hi).len
    have := (hI i hi).bfs.half.len
    omega
  have hdist : Dist N g.Out a (s4 N g.Out a n).2 := by
    have h := (hI n (Nat.le_refl _)).bfs
    rw [List.drop_eq_nil_of_le (by omega)] at h
    exact ⟨h.half, fun u w hu hw hE h0 => h.clos u hu h0 (by simp) w hw hE⟩
  refine ⟨n, fun i => (4, a, i, false, (s4 N g.Out a i).1, (s4 N g.Out a i).2), tr_of hg en hN hs hc ?_ (by omega) (fun i _ => ⟨rfl, by simp [a0]⟩) (fun i hi => ⟨Nat.le_trans (hL i hi).1 (by omega), Nat.le_trans (hL i hi).2 (by omega)⟩) (fun i hi => ?_) (fun i hi => ?_) ?_, Nat.le_trans (hL n (Nat.le_refl _)).2 (by omega), ?_⟩
  · simp [job0, a0, out0, s4]
  · show decide ((i : Int) ≥ _) = false
    have := hn2 i hi
    exact decide_eq_false (by simp only [pList]; omega)
  · have hlt := hn2 i hi
    obtain ⟨hu, hue, hF⟩ := (hI i (by omega)).inv hlt
    have hll := hL i (by omega)
    have hsm : JSm ((4, (a : Int), (i : Int), false, (s4 N g.Out a i).1, (s4 N g.Out a i).2) : api_Job) := ⟨Nat.le_trans hll.1 (by omega), Nat.le_trans hll.2 (by omega)⟩
    constructor
    · have h1 := svis4 hG hu ((4, (a : Int), (i : Int), false, (s4 N g.Out a i).1, (s4 N g.Out a i).2) : api_Job) ⟨rfl, rfl, rfl⟩ 0 (by omega) _ hF
      rw [List.drop_zero] at h1
      unfold slow_visit
      simp only [pKind, pA, pAt, pMove, pList, pOut]
      refine negE (by decide) (negE (by decide) (negE (by decide) (negE (by decide) (posE rfl (pos (by omega) ?_)))))
      simp only [rdN, at1 i (by omega)]
      rw [← hue]
      simp only [rd1N]
      exact pos (by omega) h1.e1
    · have h1 := rvis4 hG hu ((4, (a : Int), (i : Int), false, (s4 N g.Out a i).1, (s4 N g.Out a i).2) : api_Job) ⟨rfl, rfl, rfl⟩ 0 (by omega) _ hF
      rw [List.drop_zero] at h1
      unfold herbariumref10_Visit
      refine bnd (copyjob_ev _ hsm) ?_
      simp only [pKind, pA, pAt, pMove, pList, pOut]
      refine negE (by decide) (negE (by decide) (negE (by decide) (negE (by decide) (posE rfl (pos (by omega) ?_)))))
      simp only [rdN, at1 i (by omega)]
      rw [← hue]
      exact h1.e1
  · show decide ((n : Int) ≥ _) = true
    exact decide_eq_true (by simp only [pList]; omega)
  · obtain ⟨d, h1, h2⟩ := far10_ev g N en hG a haN
    obtain rfl := h1.uniq hdist
    unfold herbariumref10_Ask
    exact negE (by decide) (negE (by decide) (negE (by decide) (posE rfl (tail h2))))
end Go.XL
end
section
namespace Go.XL
open Go.XM
theorem set_self (l : List Int) (i : Nat) (h : i < l.length) : l.set i (l.getD i 0) = l := by
  rw [getD_lt h]; simp
theorem mn_eq (a b : Int) : (if b < a then b else a) = mn a b := rfl
def prt1 (u : Nat) (p : Bool × List Int) (w : Int) : Bool × List Int := (p.1 || (p.2.getD u 0 != p.2.getD w.toNat 0), (p.2.set u (mn (p.2.getD u 0) (p.2.getD w.toNat 0))).set w.toNat (mn (p.2.getD u 0) (p.2.getD w.toNat 0)))
structure PInv (N : Nat) (out : List (List Int)) (l0 : List Int) (u j : Nat) (p : Bool × List Int) : Prop where
  swp : Swp N out l0 u j p.2
  id : p.1 = false → p.2 = l0
  ev : p.1 = false → ∀ v w, v < u → v < N → w < N → Edge out v w → p.2.getD v 0 = p.2.getD w 0
  evj : p.1 = false → ∀ i, i < j → i < (out.getD u []).length → p.2.getD u 0 = p.2.getD ((out.getD u []).getD i 0).toNat 0
  no : PartOf N out l0 → p.1 = false
theorem PInv.step {N : Nat} {out : List (List Int)} {l0 : List Int} {u j : Nat} {p : Bool × List Int} (hg : Good N out) (h : PInv N out l0 u j p) (hu : u < N) (hj : j < (out.getD u []).length) : PInv N out l0 u (j + 1) (prt1 u p ((out.getD u []).getD j 0)) := by
  obtain ⟨he, hwN, hwe⟩ := edge_of hg hu hj
  have hl := h.swp.half.len
  have hput := h.swp.put hg hu hj
  obtain ⟨mv, l⟩ := p
  dsimp only at hl hput
  have key : (mv || (l.getD u 0 != l.getD ((out.getD u []).getD j 0).toNat 0)) = false → mv = false ∧ l.getD u 0 = l.getD ((out.getD u []).getD j 0).toNat 0 ∧ (l.set u (mn (l.getD u 0) (l.getD ((out.getD u []).getD j 0).toNat 0))).set ((out.getD u []).getD j 0).toNat (mn (l.getD u 0) (l.getD ((out.getD u []).getD j 0).toNat 0)) = l := by
    intro hm
    rw [Bool.or_eq_false_iff] at hm
    have e : l.getD u 0 = l.getD ((out.getD u []).getD j 0).toNat 0 := by
      have h3 := hm.2
      simp only [bne_eq_false_iff_eq] at h3
      exact h3
    refine ⟨hm.1, e, ?_⟩
    have em : mn (l.getD u 0) (l.getD ((out.getD u []).getD j 0).toNat 0) = l.getD u 0 := by
      unfold mn; split <;> omega
    rw [em, set_self l u (by omega), e, set_self l _ (by omega)]
  refine ⟨hput, fun hm => ?_, fun hm => ?_, fun hm => ?_, fun hp => ?_⟩
  · obtain ⟨h1, h2, h3⟩ := key hm
    exact h3.trans (h.id h1)
  · obtain ⟨h1, h2, h3⟩ := key hm
    show ∀ v w, _ → _ → _ → _ → List.getD (List.set _ _ _) _ _ = List.getD (List.set _ _ _) _ _
    rw [h3]
    exact h.ev h1
  · obtain ⟨h1, h2, h3⟩ := key hm
    show ∀ i, _ → _ → List.getD (List.set _ _ _) _ _ = List.getD (List.set _ _ _) _ _
    rw [h3]
    intro i hi hi2
    by_cases e : i = j
    · rw [e]; exact h2
    · exact h.evj h1 i (by omega) hi2
  · have h1 : mv = false := h.no hp
    have h2 : l = l0 := h.id h1
    have h3 := hp.edge u _ hu hwN he
    show (mv || (l.getD u 0 != l.getD ((out.getD u []).getD j 0).toNat 0)) = false
    rw [h1, h2, h3]
    simp
theorem PInv.run {N : Nat} {out : List (List Int)} {l0 : List Int} {u : Nat} (hg : Good N out) (hu : u < N) : ∀ j, j ≤ (out.getD u []).length → ∀ p, PInv N out l0 u j p → PInv N out l0 u (out.getD u []).length (((out.getD u []).drop j).foldl (prt1 u) p) := by
  refine upto ?_ ?_
  · intro p h; simpa using h
  · intro j hj ih p h
    rw [drop_getD (d := 0) hj, List.foldl_cons]
    exact ih _ (h.step hg hu hj)
theorem PInv.next {N : Nat} {out : List (List Int)} {l0 : List Int} {u : Nat} {p : Bool × List Int} (h : PInv N out l0 u (out.getD u []).length p) : PInv N out l0 (u + 1) 0 p :=
  ⟨h.swp.next (Nat.le_refl _), h.id, fun hm v w h1 h2 h3 hE => by
    by_cases e : v = u
    · subst e
      obtain ⟨i, hi, ei⟩ := edge_at hE
      have := h.evj hm i hi hi
      rwa [ei, Int.toNat_natCast] at this
    · exact h.ev hm v w (by omega) h2 h3 hE, fun hm i hi => by omega, h.no⟩
def pend (N u : Nat) (p : Bool × List Int) : Nat × Bool × List Int := if u + 1 = N then (if p.1 then (0, false, p.2) else (N, false, p.2)) else (u + 1, p.1, p.2)
def pjob (s : Nat × Bool × List Int) : api_Job := (5, 0, (s.1 : Int), s.2.1, [], s.2.2)
theorem svis5 {g : api_Graph} {N : Nat} (en : g.N = (N : Int)) (hg : Good N g.Out) {l0 : List Int} {u : Nat} (hu : u < N) (x : api_Job) (hx : x.Kind = 5 ∧ x.A = 0 ∧ x.At = (u : Int) ∧ x.List_ = []) : ∀ j, j ≤ (g.Out.getD u []).length → ∀ p, PInv N g.Out l0 u j p →
    E1 (fun K k => slow_part.l1 K g x k (g.Out.getD u []) (((g.Out.getD u []).length : Nat) : Int) (j : Int) p.1 p.2) (pjob (pend N u (((g.Out.getD u []).drop j).foldl (prt1 u) p))) := by
  have hN := hg.le
  have hr := hg.rlen u
  refine upto ?_ ?_
  · intro p h
    rw [List.drop_length]
    simp only [List.foldl_nil]
    refine step1 (fun _ _ _ _ _ => slow_part.l1.eq_2 ..) ?_
    refine negD (by omega) ?_
    rw [hx.2.2.1, w1 (by omega), en]
    unfold slow_part.j3
    rw [hx.1, hx.2.1, hx.2.2.2]
    unfold pend pjob
    by_cases e : u + 1 = N
    · rw [if_pos e]
      refine posE (by omega) ?_
      cases hm : p.1 with
      | true => exact pos rfl (nowE rfl)
      | false => exact neg (by decide) (nowE (by rw [e]; rfl))
    · rw [if_neg e]
      exact negE (by omega) (neg (by decide) (nowE rfl))
  · intro j hj ih p h
    obtain ⟨he, hwN, hwe⟩ := edge_of hg hu hj
    have hl := h.swp.half.len
    have := ih _ (h.step hg hu hj)
    rw [drop_getD (d := 0) hj, List.foldl_cons]
    refine step1 (fun _ _ _ _ _ => slow_part.l1.eq_2 ..) ?_
    unfold slow_part.j2
    rw [hx.2.2.1, rdN, rdN, rdI, w1 (by omega), Int.toNat_natCast, mn_eq]
    refine posD (by omega) (pos (by omega) (pos (by omega) (pos (by omega) ?_)))
    unfold prt1 at this ⊢
    cases hm : p.1 with
    | true =>
      rw [hm] at this
      exact pos rfl (pos (by omega) (pos (by rw [List.length_set]; omega) this))
    | false =>
      rw [hm] at this
      exact neg (by decide) (pos (by omega) (pos (by omega) (pos (by omega) (pos (by rw [List.length_set]; omega) this))))
theorem rvis5 {g : api_Graph} {N : Nat} (en : g.N = (N : Int)) (hg : Good N g.Out) {l0 : List Int} {u : Nat} (hu : u < N) (x : api_Job) (hx : x.Kind = 5 ∧ x.A = 0 ∧ x.At = (u : Int) ∧ x.List_ = []) : ∀ j, j ≤ (g.Out.getD u []).length → ∀ p, PInv N g.Out l0 u j p →
    E1 (fun K k => herbariumref10_Visit.l4 K x g k (j : Int) ((u + 1 : Nat) : Int) p.1 p.2 0 0 0) (pjob (pend N u (((g.Out.getD u []).drop j).foldl (prt1 u) p))) := by
  have hN := hg.le
  have hlen := hg.len
  have hr := hg.rlen u
  refine upto ?_ ?_
  · intro p h
    rw [List.drop_length]
    simp only [List.foldl_nil]
    refine step1 (fun _ _ _ _ _ => herbariumref10_Visit.l4.eq_2 ..) ?_
    rw [hx.2.2.1, rd1N]
    refine pos (by omega) (negD (by omega) ?_)
    rw [hx.1, hx.2.1, hx.2.2.2]
    unfold pend pjob
    by_cases e : u + 1 = N
    · rw [if_pos e]
      refine posD (by omega) ?_
      cases hm : p.1 with
      | true => exact pos rfl (nowE rfl)
      | false => exact neg (by decide) (nowE (by rw [e]; rfl))
    · rw [if_neg e]
      exact negD (by omega) (nowE rfl)
  · intro j hj ih p h
    obtain ⟨he, hwN, hwe⟩ := edge_of hg hu hj
    have hl := h.swp.half.len
    have := ih _ (h.step hg hu hj)
    rw [drop_getD (d := 0) hj, List.foldl_cons]
    refine step1 (fun _ _ _ _ _ => herbariumref10_Visit.l4.eq_2 ..) ?_
    unfold herbariumref10_Visit.j5
    rw [hx.2.2.1, rd1N, rdN, rdN, rdI, w1 (by omega), Int.toNat_natCast, mn_eq]
    refine pos (by omega) (posD (by omega) (pos (by omega) (pos (by omega) ?_)))
    unfold prt1 at this ⊢
    cases hm : p.1 with
    | true =>
      rw [hm] at this
      exact pos rfl (pos (by omega) (pos (by omega) (pos (by omega) (pos (by rw [List.length_set]; omega) this))))
    | false =>
      rw [hm] at this
      exact neg (by decide) (pos (by omega) (pos (by omega) (pos (by omega) (pos (by omega) (pos (by omega) (pos (by rw [List.length_set]; omega) this))))))
def PSt (N : Nat) (out : List (List Int)) (i : Nat) (s : Nat × Bool × List Int) : Prop :=
  (s.1 < N ∧ ∃ t l0, i = t * N + s.1 ∧ t ≤ N ∧ PHalf N out l0 ∧ Settled N out l0 t ∧ PInv N out l0 s.1 0 s.2) ∨ (¬ s.1 < N ∧ PartOf N out s.2.2)
def v5 (N : Nat) (out : List (List Int)) (s : Nat × Bool × List Int) : Nat × Bool × List Int := pend N s.1 ((out.getD s.1 []).foldl (prt1 s.1) s.2)
def s5 (N : Nat) (out : List (List Int)) : Nat → Nat × Bool × List Int
  | 0 => (0, false, upN N)
  | i + 1 => v5 N out (s5 N out i)
theorem PInv.beg {N : Nat} {out : List (List Int)} {l0 : List Int} (h : PHalf N out l0) : PInv N out l0 0 0 (false, l0) :=
  ⟨⟨h, fun v hv => Int.le_refl _, fun u w h1 => by omega, fun j h1 => by omega⟩, fun _ => rfl, fun _ v w h1 => by omega, fun _ i h1 => by omega, fun _ => rfl⟩
theorem PSt.next {N : Nat} {out : List (List Int)} (hg : Good N out) {i : Nat} {s : Nat × Bool × List Int} (h : PSt N out i s) (hs : s.1 < N) : PSt N out (i + 1) (v5 N out s) := by
  rcases h with ⟨_, t, l0, h1, h2, h3, h4, h5⟩ | ⟨h, _⟩
  · have hr := PInv.run hg hs 0 (by omega) s.2 h5
    rw [List.drop_zero] at hr
    have hn := hr.next
    unfold v5
    generalize (out.getD s.1 []).foldl (prt1 s.1) s.2 = p at *
    unfold pend
    by_cases e : s.1 + 1 = N
    · rw [if_pos e]
      cases hm : p.1 with
      | true =>
        left
        rw [e] at hn
        have hdone := hn.swp.done h3 h4
        have htN : t < N := by
          apply Classical.byContradiction
          intro q
          have ht : t = N := by omega
          rw [ht] at h4
          have := hn.no (settled_part h3 h4.all)
          rw [hm] at this
          cases this
        refine ⟨by show 0 < N; omega, t + 1, p.2, ?_, htN, hn.swp.half, hdone, PInv.beg hn.swp.half⟩
        show i + 1 = (t + 1) * N + 0
        rw [Nat.add_mul]; omega
      | false =>
        right
        rw [e] at hn
        refine ⟨by show ¬ N < N; omega, hn.swp.half, fun u w hu hw hE => ?_⟩
        exact hn.ev hm u w hu hu hw hE
    · rw [if_neg e]
      left
      exact ⟨by show s.1 + 1 < N; omega, t, l0, by show i + 1 = t * N + (s.1 + 1); omega, h2, h3, h4, hn⟩
  · exact absurd hs h
theorem ends5 : Ends 5 := by
  intro g a hg hc
  obtain ⟨en, hG⟩ := hg.good
  have hs := hg.sm
  generalize g.N.toNat = N at *
  have hN := hG.le
  have hlen := hG.len
  have h0 : PHalf N g.Out (upN N) := PHalf.init (upN_length N) (fun j hj => upN_getD hj)
  have hz : PSt N g.Out 0 (s5 N g.Out 0) := by
    by_cases e : 0 < N
    · exact .inl ⟨e, 0, upN N, by show 0 = 0 * N + 0; omega, by omega, h0, .inr ⟨[], List.nodup_nil, by simp, by simp⟩, PInv.beg h0⟩
    · exact .inr ⟨e, h0, fun u w hu => by omega⟩
  have hinv : ∀ m, (∀ i, i < m → (s5 N g.Out i).1 < N) → PSt N g.Out m (s5 N g.Out m) := by
    intro m
    induction m with
    | zero => intro _; exact hz
    | succ m ih => intro h; exact (ih fun i hi => h i (by omega)).next hG (h m (by omega))
  have hNN : (N + 1) * N ≤ 272 := by
    have := Nat.mul_le_mul (show N + 1 ≤ 17 by omega) hN
    omega
  obtain ⟨n, hnN, hn1, hn2⟩ : ∃ n, n ≤ 272 ∧ ¬ (s5 N g.Out n).1 < N ∧ ∀ i, i < n → (s5 N g.Out i).1 < N := by
    rcases least (fun i => (s5 N g.Out i).1 < N) ((N + 1) * N + 1) with h | ⟨n, h1, h2, h3⟩
    · have h1 := h ((N + 1) * N) (by omega)
      rcases hinv ((N + 1) * N) (fun i hi => h i (by omega)) with ⟨_, t, l0, a1, a2, _⟩ | ⟨a1, _⟩
      · have := Nat.mul_le_mul_right N a2
        have := Nat.add_mul N 1 N
        omega
      · exact absurd h1 a1
    · exact ⟨n, by omega, h2, h3⟩
  have hI : ∀ i, i ≤ n → PSt N g.Out i (s5 N g.Out i) := fun i hi => hinv i fun m hm => hn2 m (by omega)
  have hL : ∀ i, i ≤ n → (s5 N g.Out i).2.2.length ≤ 16 := fun i hi => by
    rcases hI i hi with ⟨_, t, l0, _, _, _, _, h⟩ | ⟨_, h⟩
    · have := h.swp.half.len; omega
    · have := h.half.len; omega
  have hpart : PartOf N g.Out (s5 N g.Out n).2.2 := by
    rcases hI n (Nat.le_refl _) with ⟨h, _⟩ | ⟨_, h⟩
    · exact absurd h hn1
    · exact h
  refine ⟨n, fun i => pjob (s5 N g.Out i), tr_of hg en hN hs hc ?_ (by omega) (fun i _ => ⟨rfl, by simp [a0, pjob]⟩) (fun i hi => ⟨Nat.zero_le _, Nat.le_trans (hL i hi) (by omega)⟩) (fun i hi => ?_) (fun i hi => ?_) ?_, Nat.le_trans (hL n (Nat.le_refl _)) (by omega), ?_⟩
  · simp [job0, a0, out0, s5, pjob]
  · show decide (((s5 N g.Out i).1 : Int) ≥ g.N) = false
    have := hn2 i hi
    exact decide_eq_false (by omega)
  · have hlt := hn2 i hi
    have hll := hL i (by omega)
    rcases hI i (by omega) with ⟨_, t, l0, _, _, _, _, hF⟩ | ⟨h, _⟩
    · have hsm : JSm (pjob (s5 N g.Out i)) := ⟨Nat.zero_le _, Nat.le_trans hll (by omega)⟩
      show Vis g (pjob (s5 N g.Out i)) (pjob (v5 N g.Out (s5 N g.Out i)))
      constructor
      · have h1 := svis5 en hG hlt (pjob (s5 N g.Out i)) ⟨rfl, rfl, rfl, rfl⟩ 0 (by omega) _ hF
        rw [List.drop_zero] at h1
        unfold slow_visit
        refine posE rfl (tail ?_)
        unfold slow_part
        refine pos (by show (0 : Int) ≤ ((s5 N g.Out i).1 : Int) ∧ ((s5 N g.Out i).1 : Int) < _; omega) ?_
        have e : nth g.Out (pjob (s5 N g.Out i)).At = g.Out.getD (s5 N g.Out i).1 [] := rd1N g.Out _
        rw [e]
        exact h1.e1
      · have h1 := rvis5 en hG hlt (pjob (s5 N g.Out i)) ⟨rfl, rfl, rfl, rfl⟩ 0 (by omega) _ hF
        rw [List.drop_zero] at h1
        unfold herbariumref10_Visit
        refine bnd (copyjob_ev _ hsm) ?_
        refine negE (by show ¬ (5 : Int) = 1; decide) (negE (by show ¬ (5 : Int) = 2; decide) (negE (by show ¬ (5 : Int) = 3; decide) (negE (by show ¬ (5 : Int) = 6; decide) (negE (by show ¬ (5 : Int) = 4; decide) ?_))))
        have e : wr .i64 ((pjob (s5 N g.Out i)).At + 1) = (((s5 N g.Out i).1 + 1 : Nat) : Int) := at1 _ (by omega)
        rw [e]
        exact h1.e1
    · exact absurd hlt h
  · show decide (((s5 N g.Out n).1 : Int) ≥ g.N) = true
    exact decide_eq_true (by omega)
  · obtain ⟨d, h1, h2⟩ := part10_ev g N en hG
    obtain rfl := h1.uniq hpart
    unfold herbariumref10_Ask
    exact negE (by decide) (negE (by decide) (negE (by decide) (negE (by decide) (posE rfl (tail h2)))))
end Go.XL
end
section
namespace Go.XL
open Go.XM
abbrev zj : api_Job := ((0, 0, 0, false, ([] : List Int), ([] : List Int)) : api_Job)
theorem zj_sm : JSm zj := ⟨Nat.zero_le _, Nat.zero_le _⟩
theorem etaG (g : api_Graph) : ((g.N, g.Out) : api_Graph) = g := rfl
theorem ends_any {n kind a : Int} (h : code n kind a = 0) : Ends kind := by
  obtain ⟨h1, _⟩ := code_rng h
  have : kind = 1 ∨ kind = 2 ∨ kind = 3 ∨ kind = 4 ∨ kind = 5 ∨ kind = 6 := by omega
  rcases this with rfl | rfl | rfl | rfl | rfl | rfl
  · exact ends1
  · exact ends2
  · exact ends3
  · exact ends4
  · exact ends5
  · exact ends6
theorem sbeg_bad (g : api_Graph) (kind a : Int) (hs : Sm g) (c : Int) (hc : (if GraphP g then code g.N kind a else 1) = c) (h0 : c ≠ 0) : E0 (fun K => slow_Begin K g kind a) (zj, c) := by
  have := asked_ev g kind a hs
  rw [hc] at this
  unfold slow_Begin
  exact bnd this (posN h0 (now _))
theorem run_bad (g : api_Graph) (kind a : Int) (hs : Sm g) (c : Int) (hc : (if GraphP g then code g.N kind a else 1) = c) (h0 : c ≠ 0) : E0 (fun K => slow_Run K g kind a) ((0, c) : Int × Int) := by
  unfold slow_Run
  exact bnd (sbeg_bad g kind a hs c hc h0) (posN h0 (now _))
theorem may_bad (g : api_Graph) (j : api_Job) (hs : Sm g) (h0 : (if GraphP g then code g.N j.Kind j.A else 1) ≠ 0) : E0 (fun K => slow_May K g j) false := by
  unfold slow_May
  exact bnd (sbeg_bad g j.Kind j.A hs _ rfl h0) (posN h0 (now _))
theorem step_bad {g : api_Graph} {j : api_Job} (h : E0 (fun K => slow_May K g j) false) (m : Int) : E0 (fun K => slow_Step K g j m) (zj, 1) := by
  unfold slow_Step
  exact bnd h (pos rfl (now _))
theorem step_far {g : api_Graph} {j : api_Job} (h : E0 (fun K => slow_May K g j) true) (m : Int) (hm : ¬ (0 ≤ m ∧ m ≤ 1000)) : E0 (fun K => slow_Step K g j m) (zj, 1) := by
  unfold slow_Step
  refine bnd h (neg (by decide) ?_)
  by_cases h0 : m < 0
  · exact posD h0 (now _)
  · exact negD h0 (posD (by omega) (now _))
theorem sended_ev (g : api_Graph) (j : api_Job) (hs : Sm g) : E0 (fun K => slow_Ended K g j) (if GraphP g ∧ 1 ≤ j.Kind ∧ j.Kind ≤ 6 then (ov g j, (0 : Int)) else (false, 1)) := by
  unfold slow_Ended
  refine bnd (gmayG_ev g hs) ?_
  by_cases hg : GraphP g
  · refine negM hg ?_
    by_cases h1 : j.Kind < 1
    · exact posD h1 (nowE (by rw [if_neg (fun h => by omega)]))
    · refine negD h1 ?_
      by_cases h6 : j.Kind > 6
      · exact posD h6 (nowE (by rw [if_neg (fun h => by omega)]))
      · refine negD h6 ?_
        simp only [over_eq]
        exact bnd (now _) (nowE (by rw [if_pos ⟨hg, by omega, by omega⟩]))
  · exact posM hg (nowE (by rw [if_neg (fun h => hg h.1)]))
section
variable {g : api_Graph} {kind a : Int} {n : Nat} {tr : Nat → api_Job}
theorem Tr.run (h : Tr g kind a n tr) : E0 (fun K => slow_Run K g kind a) (((n : Int), 0) : Int × Int) := by
  have hle := h.le
  have key : ∀ i, i ≤ n → E1 (fun K k => slow_Run.l1 K g k (i : Int) (tr i).Kind (tr i).A (tr i).At (tr i).Move (tr i).List_ (tr i).Out) (((n : Int), 0) : Int × Int) := by
    refine upto ?_ ?_
    · refine step1 (fun _ _ _ _ _ => slow_Run.l1.eq_2 ..) ?_
      simp only [eta, over_eq, h.fin]
      exact bnd (now _) (neg (by decide) (now _))
    · intro i hi ih
      refine step1 (fun _ _ _ _ _ => slow_Run.l1.eq_2 ..) ?_
      simp only [eta, over_eq, h.go i hi]
      refine bnd (now _) (pos (by decide) (bnd (h.vis i hi).1 ?_))
      rw [w1 (by omega)]
      exact ih
  unfold slow_Run
  exact bnd h.beg (negN rfl (key 0 (by omega)).e1)
theorem Tr.rrun (h : Tr g kind a n tr) : E0 (fun K => herbariumref10_Run K g kind a) (n : Int) := by
  have hle := h.le
  have key : ∀ i, i ≤ n → E1 (fun K k => herbariumref10_Run.l1 K g k (i : Int) (tr i).Kind (tr i).A (tr i).At (tr i).Move (tr i).List_ (tr i).Out) (n : Int) := by
    refine upto ?_ ?_
    · refine step1 (fun _ _ _ _ _ => herbariumref10_Run.l1.eq_2 ..) ?_
      simp only [eta, ended_eq, h.fin]
      exact bnd (now _) (neg (by decide) (now _))
    · intro i hi ih
      refine step1 (fun _ _ _ _ _ => herbariumref10_Run.l1.eq_2 ..) ?_
      simp only [eta, ended_eq, h.go i hi]
      refine bnd (now _) (pos (by decide) (bnd (h.vis i hi).2 ?_))
      rw [w1 (by omega)]
      exact ih
  unfold herbariumref10_Run
  exact bnd h.ref (key 0 (by omega)).e1
end
section
variable {g : api_Graph} {j : api_Job} {n : Nat} {tr : Nat → api_Job}
theorem Tr.mayNo (h : Tr g j.Kind j.A n tr) (hj : ∀ i, i ≤ n → tr i ≠ j) : E0 (fun K => slow_May K g j) false := by
  have key : ∀ i, i ≤ n → E1 (fun K k => slow_May.l1 K g j k (tr i).Kind (tr i).A (tr i).At (tr i).Move (tr i).List_ (tr i).Out) false := by
    refine upto ?_ ?_
    · refine step1 (fun _ _ _ _ _ => slow_May.l1.eq_2 ..) ?_
      simp only [eta, over_eq, h.fin]
      exact bnd (same_ev _ _ (h.sm n (Nat.le_refl _))) (negD (hj n (Nat.le_refl _)) (bnd (now _) (pos rfl (now _))))
    · intro i hi ih
      refine step1 (fun _ _ _ _ _ => slow_May.l1.eq_2 ..) ?_
      simp only [eta, over_eq, h.go i hi]
      exact bnd (same_ev _ _ (h.sm i (by omega))) (negD (hj i (by omega)) (bnd (now _) (neg (by decide) (bnd (h.vis i hi).1 ih))))
  unfold slow_May
  exact bnd h.beg (negN rfl (key 0 (by omega)).e1)
theorem Tr.jobNo (h : Tr g j.Kind j.A n tr) (hg : GraphP g) (hc : code g.N j.Kind j.A = 0) (hj : ∀ i, i ≤ n → tr i ≠ j) : E0 (fun K => herbariumref10_Job K g j) false := by
  have key : ∀ i, i ≤ n → E1 (fun K k => herbariumref10_Job.l1 K g j k (tr i).Kind (tr i).A (tr i).At (tr i).Move (tr i).List_ (tr i).Out) false := by
    refine upto ?_ ?_
    · refine step1 (fun _ _ _ _ _ => herbariumref10_Job.l1.eq_2 ..) ?_
      simp only [eta, ended_eq, h.fin]
      exact bnd (eqjob_ev _ _ (h.sm n (Nat.le_refl _))) (posM (hj n (Nat.le_refl _)) (bnd (now _) (pos rfl (now _))))
    · intro i hi ih
      refine step1 (fun _ _ _ _ _ => herbariumref10_Job.l1.eq_2 ..) ?_
      simp only [eta, ended_eq, h.go i hi]
      exact bnd (eqjob_ev _ _ (h.sm i (by omega))) (posM (hj i (by omega)) (bnd (now _) (neg (by decide) (bnd (h.vis i hi).2 ih))))
  have h0 := bnd (f := fun K _ _ _ _ (r29 : api_Job) => herbariumref10_Job.l1 K g j K r29.Kind r29.A r29.At r29.Move r29.List_ r29.Out) h.ref (key 0 (by omega)).e1
  unfold herbariumref10_Job
  simp only [may10_eq _ g j.Kind j.A hg.1 hg.2.1, hc, named10_eq]
  refine bnd (now _) (negN rfl (bnd (now _) ?_))
  by_cases hn : j.Kind = 1 ∨ j.Kind = 2 ∨ j.Kind = 4
  · exact negM hn h0
  · refine posM hn ?_
    by_cases hA : j.A = 0
    · exact negN hA h0
    · exact posN hA (now _)
theorem Tr.jobYes (h : Tr g j.Kind j.A n tr) (hg : GraphP g) (hc : code g.N j.Kind j.A = 0) (i : Nat) (hi : i ≤ n) (hj : tr i = j) : E0 (fun K => herbariumref10_Job K g j) true := by
  have key : ∀ m, m ≤ i → E1 (fun K k => herbariumref10_Job.l1 K g j k (tr m).Kind (tr m).A (tr m).At (tr m).Move (tr m).List_ (tr m).Out) true := by
    refine upto ?_ ?_
    · refine step1 (fun _ _ _ _ _ => herbariumref10_Job.l1.eq_2 ..) ?_
      exact bnd (eqjob_ev (tr i) j (h.sm i hi)) (negM hj (now _))
    · intro m hm ih
      refine step1 (fun _ _ _ _ _ => herbariumref10_Job.l1.eq_2 ..) ?_
      simp only [eta, ended_eq, h.go m (by omega)]
      refine bnd (eqjob_ev _ _ (h.sm m (by omega))) ?_
      by_cases e : tr m = j
      · exact negM e (now _)
      · exact posM e (bnd (now _) (neg (by decide) (bnd (h.vis m (by omega)).2 ih)))
  have h0 := bnd (f := fun K _ _ _ _ (r29 : api_Job) => herbariumref10_Job.l1 K g j K r29.Kind r29.A r29.At r29.Move r29.List_ r29.Out) h.ref (key 0 (by omega)).e1
  unfold herbariumref10_Job
  simp only [may10_eq _ g j.Kind j.A hg.1 hg.2.1, hc, named10_eq]
  refine bnd (now _) (negN rfl (bnd (now _) ?_))
  by_cases hn : j.Kind = 1 ∨ j.Kind = 2 ∨ j.Kind = 4
  · exact negM hn h0
  · refine posM hn (negN ?_ h0)
    rw [← hj, (h.kd i hi).2]
    exact h.un hn
end
theorem jobBad {g : api_Graph} {j : api_Job} (hg : GraphP g) (hc : code g.N j.Kind j.A ≠ 0) : E0 (fun K => herbariumref10_Job K g j) false := by
  unfold herbariumref10_Job
  simp only [may10_eq _ g j.Kind j.A hg.1 hg.2.1]
  exact bnd (now _) (posN hc (now _))
theorem any_job (g : api_Graph) (j : api_Job) (hs : Sm g) : (GraphP g ∧ ∃ j', E0 (fun K => slow_Step K g j 2) (j', 0) ∧ E0 (fun K => herbariumref10_Job K g j) true ∧ E0 (fun K => herbariumref10_Step K g j 2) j' ∧ JSm j') ∨
    (E0 (fun K => slow_Step K g j 2) (zj, 1) ∧ (GraphP g → E0 (fun K => herbariumref10_Job K g j) false)) := by
  by_cases hg : GraphP g
  · by_cases hc : code g.N j.Kind j.A = 0
    · obtain ⟨n, tr, hT, _, _⟩ := ends_any hc g j.A hg hc
      by_cases hj : ∃ i, i ≤ n ∧ tr i = j
      · obtain ⟨i, hi, e⟩ := hj
        have s1 := hT.step 2 (by omega) i hi
        have s2 := hT.rstep 2 (by omega) i hi
        rw [e] at s1 s2
        exact .inl ⟨hg, _, s1, hT.jobYes hg hc i hi e, s2, hT.sm _ (by omega)⟩
      · have hj' : ∀ i, i ≤ n → tr i ≠ j := fun i hi e => hj ⟨i, hi, e⟩
        exact .inr ⟨step_bad (hT.mayNo hj') 2, fun _ => hT.jobNo hg hc hj'⟩
    · exact .inr ⟨step_bad (may_bad g j hs (by rw [if_pos hg]; exact hc)) 2, fun _ => jobBad hg hc⟩
  · exact .inr ⟨step_bad (may_bad g j hs (by rw [if_neg hg]; decide)) 2, fun h => absurd h hg⟩
theorem copylists_ev (xs : List (List Int)) (hl : xs.length ≤ 1000000) (hr : ∀ i, i < xs.length → (xs.getD i []).length ≤ 1000000) : E0 (fun K => herbariumref0_CopyNumberLists K xs) xs := by
  have key : ∀ i, i ≤ xs.length → E1 (fun K k => herbariumref0_CopyNumberLists.l1 K xs k (i : Int) (xs.take i)) xs := by
    refine upto ?_ ?_
    · refine step1 (fun _ _ _ _ _ => herbariumref0_CopyNumberLists.l1.eq_2 ..) ?_
      exact negD (by omega) (nowE (List.take_length))
    · intro i hi ih
      refine step1 (fun _ _ _ _ _ => herbariumref0_CopyNumberLists.l1.eq_2 ..) ?_
      refine posD (by omega) (pos (by omega) ?_)
      rw [rd1N]
      refine bnd (copy_ev _ (hr i hi)) (pos (by simp; omega) ?_)
      rw [w1 (by omega), ← take_getD hi]
      exact ih
  exact (key 0 (by omega)).e1
theorem copyG_ev (g : api_Graph) (hs : Sm g) : E0 (fun K => herbariumref0_CopyGraph K g) g := by
  unfold herbariumref0_CopyGraph
  exact bnd (copylists_ev _ (by unfold Sm at hs; omega) (fun i hi => hs.row hi)) (now _)
theorem eqG_ev (g : api_Graph) (hs : Sm g) : E0 (fun K => herbariumref0_EqGraph K g g) true := by
  have key : ∀ i, i ≤ g.Out.length → E1 (fun K k => herbariumref0_EqNumberLists.l1 K g.Out g.Out k (i : Int)) true := by
    have hl : g.Out.length ≤ 1000000 := by unfold Sm at hs; omega
    refine upto ?_ ?_
    · refine step1 (fun _ _ _ _ _ => herbariumref0_EqNumberLists.l1.eq_2 ..) ?_
      exact negD (by omega) (now _)
    · intro i hi ih
      refine step1 (fun _ _ _ _ _ => herbariumref0_EqNumberLists.l1.eq_2 ..) ?_
      refine posD (by omega) (pos (by omega) (pos (by omega) ?_))
      rw [rd1N]
      refine bnd (eqn_ev _ _ (hs.row hi)) (negM rfl ?_)
      rw [w1 (by omega)]
      exact ih
  unfold herbariumref0_EqGraph herbariumref0_EqNumberLists
  exact posE rfl (tail (negN rfl (key 0 (by omega)).e1))
theorem nums_ev (xs : List Int) (hl : xs.length ≤ 1000000) : E0 (fun K => herbariumlaw0_Numbers K xs) () := by
  have key : ∀ i, i ≤ xs.length → ∀ ys : List Int, ys.length = xs.length → E1 (fun K k => herbariumlaw0_Numbers.l1 K k (i : Int) ys) () := by
    refine upto ?_ ?_
    · intro ys hy
      refine step1 (fun _ _ _ _ _ => herbariumlaw0_Numbers.l1.eq_2 ..) ?_
      exact negD (by omega) (now _)
    · intro i hi ih ys hy
      refine step1 (fun _ _ _ _ _ => herbariumlaw0_Numbers.l1.eq_2 ..) ?_
      refine posD (by omega) (pos (by omega) ?_)
      rw [w1 (by omega)]
      exact ih _ (by rw [List.length_set]; exact hy)
  exact (key 0 (by omega) xs rfl).e1
theorem scr_ev (j : api_Job) (h : JSm j) : E0 (fun K => herbariumlaw0_Job K j) () := by
  unfold herbariumlaw0_Job
  exact bnd (nums_ev _ h.1) (bnd (nums_ev _ h.2) (now _))
end Go.XL
end
section
namespace Go.XL
open Go.XM
section
variable (x : herbariumlaw11_Ask) (g : api_Graph) (hs : Sm g) (ns : List Int) (hns : ns.length ≤ 7) (t11 t12 : Int)
include hs hns
theorem l6_ev {kind a : Int} {n : Nat} {tr : Nat → api_Job} (hg : GraphP g) (hk : 1 ≤ kind ∧ kind ≤ 6) (hT : Tr g kind a n tr) (go2 : Nat → Nat → Nat → Nat → Int → Option Bool) (go3 go4 : Nat → Nat → Nat → Nat → Int → List (List Int) → Option Bool) (t13 : Int)
    (h4 : Ev (fun K k m p _ => go4 K k m p (wr .i64 (t13 + 1)) g.Out) true) : ∀ t : Nat, t ≤ ns.length → ∀ i, i ≤ n →
    Ev (fun K k m p q => herbariumlaw11_SlowSteps.l6 K (go2 K k m p) (go3 K k m p) (go4 K k m p) g true ns t11 t12 t13 0 x q (t : Int) g.Out (tr i).Kind (tr i).A (tr i).At (tr i).Move (tr i).List_ (tr i).Out) true := by
  refine upto ?_ ?_
  · intro i hi
    refine step4 (fun _ _ _ _ _ => herbariumlaw11_SlowSteps.l6.eq_2 ..) ?_
    exact negD (by omega) h4
  · intro t ht ih i hi
    have hsm := hT.sm i hi
    have hmay := hT.may i hi
    refine step4 (fun _ _ _ _ _ => herbariumlaw11_SlowSteps.l6.eq_2 ..) ?_
    unfold herbariumlaw11_SlowSteps.j7 herbariumlaw11_num
    simp only [eta, etaG, num_eq, rdN, w1 (show t < 4611686018427387904 by omega)]
    refine posD (by omega) (posE rfl (bnd (copyjob_ev _ hsm) (pos (by omega) ?_)))
    by_cases hm : 0 ≤ ns.getD t 0 ∧ ns.getD t 0 ≤ 1000
    · obtain ⟨m, em⟩ : ∃ m : Nat, ns.getD t 0 = m := ⟨(ns.getD t 0).toNat, by omega⟩
      have s1 := hT.step m (by omega) i hi
      have s2 := hT.rstep m (by omega) i hi
      have hi' : min (i + m) n ≤ n := by omega
      generalize min (i + m) n = i' at *
      have hkd := hT.kd i' hi'
      have hend := sended_ev g (tr i') hs
      rw [if_pos ⟨hg, by rw [hkd.1]; exact hk⟩] at hend
      rw [em] at hm ⊢
      refine bnd s1 (pos (by omega) (bnd (now _) (posD hm (pos (by omega) (bnd s2 ?_)))))
      simp only [ended_eq]
      refine bnd hend (bnd (now _) (negN rfl (bnd (eqjob_ev _ _ (hT.sm i' hi')) (negM rfl (bnd (eqjob_ev _ _ hsm) (negM rfl (posE rfl (bnd (now _) (negN rfl (bnd (now _) (neg (by simp) (bnd (scr_ev _ (hT.sm i' hi')) (posE rfl ?_)))))))))))))
      exact ih i' hi'
    · have s1 := step_far hmay (ns.getD t 0) hm
      have hend := sended_ev g zj hs
      rw [if_neg (fun h => absurd h.2.1 (by decide))] at hend
      refine bnd s1 (pos (by omega) (bnd (now _) (negD hm ?_)))
      refine bnd hend (bnd (now _) (negN rfl (bnd (eqjob_ev _ _ zj_sm) (negM rfl (bnd (eqjob_ev _ _ hsm) (negM rfl (negE (by decide) (bnd (scr_ev _ zj_sm) (negE (by decide) ?_)))))))))
      exact ih i hi
theorem l4_ev (hk : -1 ≤ t12 ∧ t12 ≤ 7) (go2 : Nat → Nat → Nat → Nat → Int → Option Bool) (go3 : Nat → Nat → Nat → Nat → Int → List (List Int) → Option Bool)
    (h3 : Ev (fun K k m _ _ => go3 K k m 0 (wr .i64 (t12 + 1)) g.Out) true) : ∀ t : Nat, t ≤ 3 →
    Ev (fun K k m p _ => herbariumlaw11_SlowSteps.l4 K (go2 K k m 0) (go3 K k m 0) g (decide (GraphP g)) ns t11 t12 x p (t : Int) g.Out) true := by
  refine upto ?_ ?_
  · refine step3 (fun _ _ _ _ _ => herbariumlaw11_SlowSteps.l4.eq_2 ..) ?_
    exact negD (by decide) h3
  · intro t ht ih
    refine step3 (fun _ _ _ _ _ => herbariumlaw11_SlowSteps.l4.eq_2 ..) ?_
    refine posD (by omega) (pos (by simp; omega) ?_)
    simp only [etaG]
    generalize nth ([0, 3, (-1)] : List Int) (t : Int) = a
    have bad : ∀ c : Int, (if GraphP g then code g.N t12 a else 1) = c → c ≠ 0 → Ev (fun K k m p _ => herbariumlaw11_SlowSteps.j5 K (go2 K k m 0) (go3 K k m 0) (herbariumlaw11_SlowSteps.l4 K (go2 K k m 0) (go3 K k m 0) g (decide (GraphP g)) ns t11 t12 x p) g (decide (GraphP g)) (zj, c) ((0, c) : Int × Int) ns t11 t12 (t : Int) g.Out x c 0 0 0 0 false [] []) true := by
      intro c hc h0
      unfold herbariumlaw11_SlowSteps.j5 herbariumlaw11_num
      refine bnd (now _) (negN rfl (bnd (eqjob_ev _ _ zj_sm) (negM rfl (bnd (now _) (negN rfl (negN rfl ?_))))))
      have l6 : Ev (fun K k m p q => herbariumlaw11_SlowSteps.l6 K (go2 K k m 0) (go3 K k m 0) (herbariumlaw11_SlowSteps.l4 K (go2 K k m 0) (go3 K k m 0) g (decide (GraphP g)) ns t11 t12 x p) g (decide (GraphP g)) ns t11 t12 (t : Int) c x q 0 g.Out 0 0 0 false [] []) true := by
        refine step4 (fun _ _ _ _ _ => herbariumlaw11_SlowSteps.l6.eq_2 ..) ?_
        have : Ev (fun K k m p _ => herbariumlaw11_SlowSteps.l4 K (go2 K k m 0) (go3 K k m 0) g (decide (GraphP g)) ns t11 t12 x p (wr .i64 ((t : Int) + 1)) g.Out) true := by rw [w1 (by omega)]; exact ih
        by_cases q : (0 : Int) < ((ns.length : Nat) : Int)
        · exact posD q (negE h0 this)
        · exact negD q this
      exact l6.e4
    by_cases hg : GraphP g
    · rw [if_pos hg] at bad
      by_cases hc : code g.N t12 a = 0
      · obtain ⟨n, tr, hT, _, _⟩ := ends_any hc g a hg hc
        refine bnd hT.beg (bnd hT.run (posD hg ?_))
        simp only [may10_eq _ g t12 a hg.1 hg.2.1, hc]
        refine bnd (now _) (posE rfl (bnd hT.ref (bnd hT.rrun ?_)))
        unfold herbariumlaw11_SlowSteps.j5 herbariumlaw11_num
        simp only [eta]
        refine bnd (now _) (negN rfl (bnd (eqjob_ev _ _ (hT.sm 0 (by omega))) (negM rfl (bnd (now _) (negN rfl (negN rfl ?_))))))
        have := (l6_ev x g hs ns hns t11 t12 hg (code_rng hc).1 hT (fun K k m _ => go2 K k m 0) (fun K k m _ => go3 K k m 0) (fun K k m p => herbariumlaw11_SlowSteps.l4 K (go2 K k m 0) (go3 K k m 0) g (decide (GraphP g)) ns t11 t12 x p) (t : Int) (by rw [w1 (by omega)]; exact ih) 0 (by omega) 0 (by omega)).e4
        simp only [decide_eq_true hg] at this ⊢
        exact this
      · refine bnd (sbeg_bad g t12 a hs _ (if_pos hg) hc) (bnd (run_bad g t12 a hs _ (if_pos hg) hc) (posD hg ?_))
        simp only [may10_eq _ g t12 a hg.1 hg.2.1]
        exact bnd (now _) (negE hc (bad _ rfl hc))
    · rw [if_neg hg] at bad
      exact bnd (sbeg_bad g t12 a hs 1 (if_neg hg) (by decide)) (bnd (run_bad g t12 a hs 1 (if_neg hg) (by decide)) (negD hg (bad 1 rfl (by decide))))
end
theorem l8_ev (x : herbariumlaw11_Ask) (g : api_Graph) (hs : Sm g) (ns : List Int) (i11 : Nat) (hi : i11 < x.G.G.length) (hl : x.G.G.length ≤ 1000000) (hgi : x.G.G.getD i11 zG = g) (hJl : x.J.length ≤ 600) (hJ : ∀ j ∈ x.J, j.List_.length + j.Out.length ≤ 600) (go2 : Nat → Nat → Int → Option Bool)
    (h2 : Ev (fun K k _ _ _ => go2 K k ((i11 + 1 : Nat) : Int)) true) : ∀ t : Nat, t ≤ 6 → t ≤ x.J.length →
    Ev (fun K k _ p _ => herbariumlaw11_SlowSteps.l8 K (go2 K k) g (decide (GraphP g)) ns (i11 : Int) x p (t : Int) g.Out) true := by
  have fin : Ev (fun K k _ _ _ => if (0 : Int) ≤ (i11 : Int) ∧ (i11 : Int) < ((x.G.G.length : Nat) : Int) then (herbariumref0_EqGraph K ((g.N, g.Out) : api_Graph) (nth x.G.G (i11 : Int))).bind fun r307 => if (!r307) then some false else go2 K k (wr .i64 ((i11 : Int) + 1)) else none) true := by
    refine pos (by omega) ?_
    simp only [etaG, rdG, hgi, w1 (show i11 < 4611686018427387904 by omega)]
    exact bnd (eqG_ev g hs) (neg (by decide) h2)
  refine upto ?_ ?_
  · intro _
    refine step3 (fun _ _ _ _ _ => herbariumlaw11_SlowSteps.l8.eq_2 ..) ?_
    by_cases q : ((6 : Nat) : Int) < ((x.J.length : Nat) : Int)
    · exact posD q (negD (by decide) fin)
    · exact negD q fin
  · intro t ht ih htl
    refine step3 (fun _ _ _ _ _ => herbariumlaw11_SlowSteps.l8.eq_2 ..) ?_
    by_cases q : (t : Int) < ((x.J.length : Nat) : Int)
    · have hj := hJ _ (getD_mem (d := zJ) (show t < x.J.length by omega))
      have ih := ih (by omega)
      refine posD q (posD (by omega) (pos (by omega) ?_))
      simp only [etaG, rdJ]
      generalize hxj : x.J.getD t zJ = j at *
      have hjs : JSm j := ⟨by omega, by omega⟩
      have hend := sended_ev g j hs
      have fin11 : ∀ (r226 : api_Job × Int) (t35 c : Int) (jx : api_Job) (e : Bool), JSm r226.1 → r226.1 = jx → r226.2 = c → (if GraphP g ∧ 1 ≤ j.Kind ∧ j.Kind ≤ 6 then (ov g j, (0 : Int)) else (false, 1)) = ((e, t35) : Bool × Int) →
          Ev (fun K k _ p _ => herbariumlaw11_SlowSteps.j11 K (go2 K k) (herbariumlaw11_SlowSteps.l8 K (go2 K k) g (decide (GraphP g)) ns (i11 : Int) x p) j r226 ((e, t35) : Bool × Int) g (decide (GraphP g)) ns (i11 : Int) (t : Int) g.Out c jx.Kind jx.A jx.At jx.Move jx.List_ jx.Out x t35 e) true := by
        intro r226 t35 c jx e hsm h1 h2 h3
        unfold herbariumlaw11_SlowSteps.j11 herbariumlaw11_num
        simp only [eta, rdJ, hxj, w1 (show t < 4611686018427387904 by omega)]
        refine bnd (now _) (negN h2 (bnd (eqjob_ev _ _ hsm) (negM h1 (bnd (now _) (negN rfl (neg (by simp) (pos (by omega) (bnd (eqjob_ev _ _ hjs) (negM rfl ?_)))))))))
        exact ih
      have fin12 : ∀ (r226 : api_Job × Int) (c : Int) (jx : api_Job), GraphP g → JSm r226.1 → r226.1 = jx → r226.2 = c →
          Ev (fun K k _ p _ => (herbariumref0_Between K j.Kind 1 6).bind fun r260 => herbariumlaw11_SlowSteps.j12 K (go2 K k) (herbariumlaw11_SlowSteps.l8 K (go2 K k) g (decide (GraphP g)) ns (i11 : Int) x p) j r226 (if GraphP g ∧ 1 ≤ j.Kind ∧ j.Kind ≤ 6 then (ov g j, (0 : Int)) else (false, 1)) g (decide (GraphP g)) ns (i11 : Int) (t : Int) 1 g.Out c jx.Kind jx.A jx.At jx.Move jx.List_ jx.Out x r260) true := by
        intro r226 c jx hg hsm h1 h2
        unfold herbariumlaw11_SlowSteps.j12
        simp only [etaG, rdJ, hxj, btw_eq, ended_eq]
        refine bnd (now _) ?_
        by_cases hk : 1 ≤ j.Kind ∧ j.Kind ≤ 6
        · refine posD hk (pos (by omega) (bnd (now _) ?_))
          rw [if_pos ⟨hg, hk⟩]
          exact fin11 r226 0 c jx _ hsm h1 h2 (if_pos ⟨hg, hk⟩)
        · refine negD hk ?_
          rw [if_neg (fun h => hk h.2)]
          exact fin11 r226 1 c jx _ hsm h1 h2 (if_neg (fun h => hk h.2))
      refine bnd (copyjob_ev j hjs) ?_
      unfold herbariumlaw11_SlowSteps.j10 herbariumlaw11_SlowSteps.j9
      simp only [etaG, rdJ, hxj]
      rcases any_job g j hs with ⟨hg, j', a1, a2, a3, a4⟩ | ⟨a1, a2⟩
      · refine bnd a1 (bnd hend (posD hg (pos (by omega) (bnd a2 (pos rfl (pos (by omega) (bnd a3 (posD hg (pos (by omega) ?_)))))))))
        exact fin12 (j', 0) 0 j' hg a4 rfl rfl
      · refine bnd a1 (bnd hend ?_)
        by_cases hg : GraphP g
        · refine posD hg (pos (by omega) (bnd (a2 hg) (neg (by decide) (posD hg (pos (by omega) ?_)))))
          exact fin12 (zj, 1) 1 zj hg zj_sm rfl rfl
        · refine negD hg (neg (by decide) (negD hg ?_))
          unfold herbariumlaw11_SlowSteps.j12
          refine neg (by decide) ?_
          rw [if_neg (fun h => hg h.1)]
          exact fin11 (zj, 1) 1 1 zj _ zj_sm rfl rfl (if_neg (fun h => hg h.1))
    · exact negD q fin
theorem steps_ev (x : herbariumlaw11_Ask) (hx : Fit x) : E0 (fun K => herbariumlaw11_SlowSteps K x) true := by
  obtain ⟨b, hb, hw⟩ := heavy_ev x hx
  unfold herbariumlaw11_SlowSteps
  refine bnd hb ?_
  cases b with
  | true => exact pos rfl (now _)
  | false =>
    obtain ⟨hN, hJ, hJs, hl, hg⟩ := hw rfl
    have l2 : ∀ ns : List Int, ns.length ≤ 7 → ∀ i : Nat, i ≤ 4 → i ≤ x.G.G.length → E1 (fun K k => herbariumlaw11_SlowSteps.l2 K ns x k (i : Int)) true := by
      intro ns hns
      refine upto ?_ ?_
      · intro _
        refine step1 (fun _ _ _ _ _ => herbariumlaw11_SlowSteps.l2.eq_2 ..) ?_
        by_cases q : ((4 : Nat) : Int) < ((x.G.G.length : Nat) : Int)
        · exact posD q (negD (by decide) (tail wakes_ev))
        · exact negD q (tail wakes_ev)
      · intro i hi ih hil
        refine step1 (fun _ _ _ _ _ => herbariumlaw11_SlowSteps.l2.eq_2 ..) ?_
        by_cases q : (i : Int) < ((x.G.G.length : Nat) : Int)
        · have hsm := wt_Sm (hg _ (getD_mem (d := zG) (show i < x.G.G.length by omega)))
          have ih := ih (by omega)
          refine posD q (posD (by omega) (pos (by omega) ?_))
          rw [rdG]
          generalize hgi : x.G.G.getD i zG = g at *
          refine bnd (copyG_ev g hsm) (bnd (graph6_ev g hsm) ?_)
          have l8 := (l8_ev x g hsm ns i (by omega) (by omega) hgi hJ hJs (fun K k => herbariumlaw11_SlowSteps.l2 K ns x k) ih 0 (by omega) (by omega)).e3
          have l3 : ∀ t : Nat, t ≤ 9 → E2 (fun K k m => herbariumlaw11_SlowSteps.l3 K (herbariumlaw11_SlowSteps.l2 K ns x k) g (decide (GraphP g)) ns (i : Int) x m ((t : Int) - 1) g.Out) true := by
            refine upto ?_ ?_
            · refine step2 (fun _ _ _ _ _ => herbariumlaw11_SlowSteps.l3.eq_2 ..) ?_
              exact negD (by decide) l8
            · intro t ht iht
              refine step2 (fun _ _ _ _ _ => herbariumlaw11_SlowSteps.l3.eq_2 ..) ?_
              refine posD (by omega) ?_
              have := (l4_ev x g hsm ns hns (i : Int) ((t : Int) - 1) (by omega) (fun K k _ _ => herbariumlaw11_SlowSteps.l2 K ns x k) (fun K k m _ => herbariumlaw11_SlowSteps.l3 K (herbariumlaw11_SlowSteps.l2 K ns x k) g (decide (GraphP g)) ns (i : Int) x m) (by rw [w64 (by omega) (by omega), show ((t : Int) - 1 + 1) = ((t + 1 : Nat) : Int) - 1 by omega]; exact iht) 0 (by omega)).e3
              exact this
          have := (l3 0 (by omega)).e2
          exact this
        · exact negD q (tail wakes_ev)
    refine neg (by decide) (pos (by simp; omega) ?_)
    unfold herbariumlaw11_SlowSteps.j1
    by_cases q : ((([1, 0, 3] ++ x.N : List Int).length : Nat) : Int) > 7
    · refine posD q (pos (by omega) (l2 _ ?_ 0 (by omega) (by omega)).e1)
      rw [List.length_take]; omega
    · exact negD q (l2 _ (by omega) 0 (by omega) (by omega)).e1
theorem steps_pure (x : herbariumlaw11_Ask) (hx : Fit x) : ∃ K, herbariumlaw11_SlowSteps K x = some true := (steps_ev x hx).get
end Go.XL
end
