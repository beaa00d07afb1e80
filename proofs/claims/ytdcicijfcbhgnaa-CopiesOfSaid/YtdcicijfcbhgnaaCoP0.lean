import Derived.Test.YtdcicijfcbhgnaaCoC0
set_option linter.all false
section
namespace Go.XL
open Go.XM
def Ev {α : Type} (g : Nat → Nat → Nat → Nat → Nat → Option α) (r : α) : Prop := ∃ m, ∀ K a b c d, m ≤ K → m ≤ a → m ≤ b → m ≤ c → m ≤ d → g K a b c d = some r
abbrev E0 {α : Type} (g : Nat → Option α) (r : α) : Prop := Ev (fun K _ _ _ _ => g K) r
abbrev E1 {α : Type} (g : Nat → Nat → Option α) (r : α) : Prop := Ev (fun K a _ _ _ => g K a) r
abbrev E2 {α : Type} (g : Nat → Nat → Nat → Option α) (r : α) : Prop := Ev (fun K a b _ _ => g K a b) r
abbrev E3 {α : Type} (g : Nat → Nat → Nat → Nat → Option α) (r : α) : Prop := Ev (fun K a b c _ => g K a b c) r
abbrev E4 {α : Type} (g : Nat → Nat → Nat → Nat → Nat → Option α) (r : α) : Prop := Ev g r
theorem now {α : Type} (r : α) : Ev (fun _ _ _ _ _ => some r) r := ⟨0, fun _ _ _ _ _ _ _ _ _ _ => rfl⟩
theorem nowE {α : Type} {r s : α} (h : s = r) : Ev (fun _ _ _ _ _ => some s) r := ⟨0, fun _ _ _ _ _ _ _ _ _ _ => by rw [h]⟩
theorem pos {α : Type} {c : Prop} [Decidable c] {f g : Nat → Nat → Nat → Nat → Nat → Option α} {r : α} (h : c) (k : Ev f r) : Ev (fun x y z u v => if c then f x y z u v else g x y z u v) r := by
  obtain ⟨m, k⟩ := k
  exact ⟨m, fun x y z u v a b c d e => (if_pos h).trans (k x y z u v a b c d e)⟩
theorem neg {α : Type} {c : Prop} [Decidable c] {f g : Nat → Nat → Nat → Nat → Nat → Option α} {r : α} (h : ¬ c) (k : Ev g r) : Ev (fun x y z u v => if c then f x y z u v else g x y z u v) r := by
  obtain ⟨m, k⟩ := k
  exact ⟨m, fun x y z u v a b c d e => (if_neg h).trans (k x y z u v a b c d e)⟩
theorem posD {α : Type} {c : Prop} [Decidable c] {f g : Nat → Nat → Nat → Nat → Nat → Option α} {r : α} (h : c) (k : Ev f r) : Ev (fun x y z u v => if decide c = true then f x y z u v else g x y z u v) r := pos (decide_eq_true h) k
theorem negD {α : Type} {c : Prop} [Decidable c] {f g : Nat → Nat → Nat → Nat → Nat → Option α} {r : α} (h : ¬ c) (k : Ev g r) : Ev (fun x y z u v => if decide c = true then f x y z u v else g x y z u v) r := neg (by simpa using h) k
theorem posM {α : Type} {c : Prop} [Decidable c] {f g : Nat → Nat → Nat → Nat → Nat → Option α} {r : α} (h : ¬ c) (k : Ev f r) : Ev (fun x y z u v => if (!decide c) = true then f x y z u v else g x y z u v) r := pos (by rw [decide_eq_false h]; rfl) k
theorem negM {α : Type} {c : Prop} [Decidable c] {f g : Nat → Nat → Nat → Nat → Nat → Option α} {r : α} (h : c) (k : Ev g r) : Ev (fun x y z u v => if (!decide c) = true then f x y z u v else g x y z u v) r := neg (by rw [decide_eq_true h]; decide) k
theorem posE {α : Type} {p q : Int} {f g : Nat → Nat → Nat → Nat → Nat → Option α} {r : α} (h : p = q) (k : Ev f r) : Ev (fun x y z u v => if (p == q) = true then f x y z u v else g x y z u v) r := pos (by simp [h]) k
theorem negE {α : Type} {p q : Int} {f g : Nat → Nat → Nat → Nat → Nat → Option α} {r : α} (h : ¬ p = q) (k : Ev g r) : Ev (fun x y z u v => if (p == q) = true then f x y z u v else g x y z u v) r := neg (by simpa using h) k
theorem posN {α : Type} {p q : Int} {f g : Nat → Nat → Nat → Nat → Nat → Option α} {r : α} (h : ¬ p = q) (k : Ev f r) : Ev (fun x y z u v => if (p != q) = true then f x y z u v else g x y z u v) r := pos (by simpa using h) k
theorem negN {α : Type} {p q : Int} {f g : Nat → Nat → Nat → Nat → Nat → Option α} {r : α} (h : p = q) (k : Ev g r) : Ev (fun x y z u v => if (p != q) = true then f x y z u v else g x y z u v) r := neg (by simp [h]) k
theorem bnd {α β : Type} {g : Nat → Nat → Nat → Nat → Nat → Option α} {f : Nat → Nat → Nat → Nat → Nat → α → Option β} {a : α} {r : β} (h : Ev g a) (k : Ev (fun x y z u v => f x y z u v a) r) : Ev (fun x y z u v => (g x y z u v).bind (f x y z u v)) r := by
  obtain ⟨m, h⟩ := h
  obtain ⟨m', k⟩ := k
  refine ⟨max m m', fun x y z u v a b c d e => ?_⟩
  show (g x y z u v).bind _ = _
  rw [h x y z u v (by omega) (by omega) (by omega) (by omega) (by omega)]
  exact k x y z u v (by omega) (by omega) (by omega) (by omega) (by omega)
theorem tail {α : Type} {g : Nat → Nat → Nat → Nat → Nat → Option α} {r : α} (h : Ev g r) : Ev (fun x y z u v => (g x y z u v).bind fun t => some t) r := bnd h (now r)
theorem ofEq {α : Type} {g : Nat → Nat → Nat → Nat → Nat → Option α} {r s : α} (h : Ev g r) (e : r = s) : Ev g s := e ▸ h
theorem congr {α : Type} {f g : Nat → Nat → Nat → Nat → Nat → Option α} {r : α} (e : ∀ x y z u v, g x y z u v = f x y z u v) (h : Ev f r) : Ev g r := by
  obtain ⟨m, h⟩ := h
  exact ⟨m, fun x y z u v a b c d k => by rw [e]; exact h x y z u v a b c d k⟩
theorem step1 {α : Type} {f g : Nat → Nat → Nat → Nat → Nat → Option α} {r : α} (e : ∀ x y z u v, g x (y + 1) z u v = f x y z u v) (h : Ev f r) : Ev g r := by
  obtain ⟨m, h⟩ := h
  refine ⟨m + 1, fun x y z u v a b c d k => ?_⟩
  obtain ⟨y, rfl⟩ : ∃ n, y = n + 1 := ⟨y - 1, by omega⟩
  rw [e]; exact h x y z u v (by omega) (by omega) (by omega) (by omega) (by omega)
theorem step2 {α : Type} {f g : Nat → Nat → Nat → Nat → Nat → Option α} {r : α} (e : ∀ x y z u v, g x y (z + 1) u v = f x y z u v) (h : Ev f r) : Ev g r := by
  obtain ⟨m, h⟩ := h
  refine ⟨m + 1, fun x y z u v a b c d k => ?_⟩
  obtain ⟨z, rfl⟩ : ∃ n, z = n + 1 := ⟨z - 1, by omega⟩
  rw [e]; exact h x y z u v (by omega) (by omega) (by omega) (by omega) (by omega)
theorem step3 {α : Type} {f g : Nat → Nat → Nat → Nat → Nat → Option α} {r : α} (e : ∀ x y z u v, g x y z (u + 1) v = f x y z u v) (h : Ev f r) : Ev g r := by
  obtain ⟨m, h⟩ := h
  refine ⟨m + 1, fun x y z u v a b c d k => ?_⟩
  obtain ⟨u, rfl⟩ : ∃ n, u = n + 1 := ⟨u - 1, by omega⟩
  rw [e]; exact h x y z u v (by omega) (by omega) (by omega) (by omega) (by omega)
theorem step4 {α : Type} {f g : Nat → Nat → Nat → Nat → Nat → Option α} {r : α} (e : ∀ x y z u v, g x y z u (v + 1) = f x y z u v) (h : Ev f r) : Ev g r := by
  obtain ⟨m, h⟩ := h
  refine ⟨m + 1, fun x y z u v a b c d k => ?_⟩
  obtain ⟨v, rfl⟩ : ∃ n, v = n + 1 := ⟨v - 1, by omega⟩
  rw [e]; exact h x y z u v (by omega) (by omega) (by omega) (by omega) (by omega)
theorem Ev.e1 {α : Type} {g : Nat → Nat → Nat → Nat → Nat → Option α} {r : α} (h : Ev g r) : Ev (fun x y z u v => g x x z u v) r := by
  obtain ⟨m, h⟩ := h
  exact ⟨m, fun x y z u v a b c d k => h x x z u v a a c d k⟩
theorem Ev.e2 {α : Type} {g : Nat → Nat → Nat → Nat → Nat → Option α} {r : α} (h : Ev g r) : Ev (fun x y z u v => g x y x u v) r := by
  obtain ⟨m, h⟩ := h
  exact ⟨m, fun x y z u v a b c d k => h x y x u v a b a d k⟩
theorem Ev.e3 {α : Type} {g : Nat → Nat → Nat → Nat → Nat → Option α} {r : α} (h : Ev g r) : Ev (fun x y z u v => g x y z x v) r := by
  obtain ⟨m, h⟩ := h
  exact ⟨m, fun x y z u v a b c d k => h x y z x v a b c a k⟩
theorem Ev.e4 {α : Type} {g : Nat → Nat → Nat → Nat → Nat → Option α} {r : α} (h : Ev g r) : Ev (fun x y z u v => g x y z u x) r := by
  obtain ⟨m, h⟩ := h
  exact ⟨m, fun x y z u v a b c d k => h x y z u x a b c d a⟩
theorem Ev.all {α : Type} {g : Nat → Option α} {r : α} (h : E0 g r) : ∃ m, ∀ K, m ≤ K → g K = some r := by
  obtain ⟨m, h⟩ := h
  exact ⟨m, fun K hK => h K K K K K hK hK hK hK hK⟩
theorem Ev.get {α : Type} {g : Nat → Option α} {r : α} (h : E0 g r) : ∃ K, g K = some r := by
  obtain ⟨m, h⟩ := h.all
  exact ⟨m, h m (Nat.le_refl _)⟩
theorem Ev.uniq {α : Type} {g : Nat → Nat → Nat → Nat → Nat → Option α} {r s : α} (h : Ev g r) (k : Ev g s) : r = s := by
  obtain ⟨K, h⟩ := h
  obtain ⟨K', k⟩ := k
  have e := h (max K K') (max K K') (max K K') (max K K') (max K K') (by omega) (by omega) (by omega) (by omega) (by omega)
  rw [k _ _ _ _ _ (by omega) (by omega) (by omega) (by omega) (by omega)] at e
  injection e with e
  exact e.symm
theorem w64 {i : Int} (h : -9223372036854775808 ≤ i) (h' : i ≤ 9223372036854775807) : wr .i64 i = i := by show Go.RowKit.wrap64 i = i; unfold Go.RowKit.wrap64; omega
theorem w1 {i : Nat} (h : i < 4611686018427387904) : wr .i64 ((i : Int) + 1) = ((i + 1 : Nat) : Int) := by rw [w64 (by omega) (by omega)]; omega
theorem upto {n : Nat} {Q : Nat → Prop} (base : Q n) (step : ∀ i, i < n → Q (i + 1) → Q i) : ∀ i, i ≤ n → Q i := by
  have key : ∀ d i, i + d = n → Q i := by
    intro d
    induction d with
    | zero => intro i hi; rw [show i = n by omega]; exact base
    | succ d ih => intro i hi; exact step i (by omega) (ih (i + 1) (by omega))
  intro i hi
  exact key (n - i) i (by omega)
theorem getD_lt {α : Type} {d : α} {xs : List α} {i : Nat} (h : i < xs.length) : xs.getD i d = xs[i] := by simp [List.getD_eq_getElem?_getD, List.getElem?_eq_getElem h]
theorem getD_mem {α : Type} {d : α} {xs : List α} {i : Nat} (h : i < xs.length) : xs.getD i d ∈ xs := by rw [getD_lt h]; exact List.getElem_mem h
theorem drop_getD {α : Type} {d : α} {xs : List α} {i : Nat} (h : i < xs.length) : xs.drop i = xs.getD i d :: xs.drop (i + 1) := by rw [getD_lt h]; exact List.drop_eq_getElem_cons h
theorem take_getD {α : Type} {d : α} {xs : List α} {i : Nat} (h : i < xs.length) : xs.take (i + 1) = xs.take i ++ [xs.getD i d] := by rw [getD_lt h, List.take_succ_eq_append_getElem h]
theorem getD_set {α : Type} {d : α} (xs : List α) (i j : Nat) (v : α) (h : i < xs.length) : (xs.set i v).getD j d = if j = i then v else xs.getD j d := by
  simp only [List.getD_eq_getElem?_getD, List.getElem?_set]
  by_cases e : i = j
  · subst e; simp [h]
  · simp [e, Ne.symm e]
theorem nthN {α : Type} [Inhabited α] (xs : List α) (i : Nat) : nth xs (i : Int) = xs.getD i default := by simp [nth]
theorem rdI (xs : List Int) (i : Int) : nth xs i = xs.getD i.toNat 0 := rfl
theorem rdN (xs : List Int) (i : Nat) : nth xs (i : Int) = xs.getD i 0 := nthN xs i
theorem rd1I (xs : List (List Int)) (i : Int) : nth xs i = xs.getD i.toNat [] := rfl
theorem rd1N (xs : List (List Int)) (i : Nat) : nth xs (i : Int) = xs.getD i [] := nthN xs i
def lsum (xs : List (List Int)) : Nat := (xs.map List.length).sum
theorem lsum_nil : lsum [] = 0 := rfl
theorem lsum_cons (x : List Int) (xs : List (List Int)) : lsum (x :: xs) = x.length + lsum xs := by simp [lsum]
theorem lsum_append (xs ys : List (List Int)) : lsum (xs ++ ys) = lsum xs + lsum ys := by simp [lsum]
theorem lsum_mem {x : List Int} {xs : List (List Int)} (h : x ∈ xs) : x.length ≤ lsum xs := by
  induction xs with
  | nil => simp at h
  | cons y ys ih =>
    rw [lsum_cons]
    rcases List.mem_cons.1 h with rfl | h
    · omega
    · have := ih h; omega
theorem lsum_drop {xs : List (List Int)} {i : Nat} (h : i < xs.length) : lsum (xs.drop i) = (xs.getD i []).length + lsum (xs.drop (i + 1)) := by rw [drop_getD (d := []) h, lsum_cons]
theorem lsum_take {xs : List (List Int)} {i : Nat} (h : i < xs.length) : lsum (xs.take (i + 1)) = lsum (xs.take i) + (xs.getD i []).length := by rw [take_getD (d := []) h, lsum_append]; simp [lsum]
theorem lsum_take_le (xs : List (List Int)) (i : Nat) : lsum (xs.take i) ≤ lsum xs := by
  have := lsum_append (xs.take i) (xs.drop i)
  rw [List.take_append_drop] at this
  omega
theorem negB {α : Type} {b : Bool} {f g : Nat → Nat → Nat → Nat → Nat → Option α} {r : α} (h : b = false) (k : Ev g r) : Ev (fun x y z u v => if b = true then f x y z u v else g x y z u v) r := neg (by rw [h]; decide) k
end Go.XL
end
section
namespace Go.XL
open Go.XM
def follow (x : Int) : List Int → Nat
  | [] => 0
  | y :: l => if y = x + 1 then follow y l + 1 else 0
theorem follow_le : ∀ (x : Int) (l : List Int), follow x l ≤ l.length
  | _, [] => Nat.le_refl _
  | x, y :: l => by
    simp only [follow]
    split
    · have := follow_le y l; simp; omega
    · simp
theorem follow_lt : ∀ {x : Int} {l : List Int} {t : Nat}, t < follow x l → (x :: l).getD (t + 1) 0 = (x :: l).getD t 0 + 1
  | x, [], t, h => by simp [follow] at h
  | x, y :: l, t, h => by
    simp only [follow] at h
    split at h
    · rename_i e
      cases t with
      | zero => simpa using e
      | succ t => exact follow_lt (x := y) (l := l) (t := t) (by omega)
    · omega
theorem follow_end : ∀ {x : Int} {l : List Int}, follow x l < l.length → (x :: l).getD (follow x l + 1) 0 ≠ (x :: l).getD (follow x l) 0 + 1
  | x, [], h => by simp [follow] at h
  | x, y :: l, h => by
    simp only [follow] at h ⊢
    split
    · rename_i e
      rw [if_pos e] at h
      exact follow_end (x := y) (l := l) (by simpa using h)
    · rename_i e; simpa using e
def parts : List Int → List api_Run × List Int
  | [] => ([], [])
  | x :: l =>
    if 2 ≤ follow x l then ((x, ((follow x l + 1 : Nat) : Int)) :: (parts (l.drop (follow x l))).1, (parts (l.drop (follow x l))).2)
    else ((parts (l.drop (follow x l))).1, x :: l.take (follow x l) ++ (parts (l.drop (follow x l))).2)
termination_by l => l.length
decreasing_by all_goals (simp; omega)
def Sm (l : List Int) : Prop := l.length ≤ 1000 ∧ ∀ x ∈ l, -1000000 ≤ x ∧ x ≤ 1000000
theorem drop_cons {L : List Int} {i : Nat} (hi : i < L.length) : L.drop i = L.getD i 0 :: L.drop (i + 1) := drop_getD hi
theorem getD_drop (L : List Int) (i t : Nat) : (L.drop i).getD t 0 = L.getD (i + t) 0 := by simp [List.getD_eq_getElem?_getD]
theorem runs_Parts_l2 {L : List Int} (hL : Sm L) {go : Nat → Nat → Int → List api_Run → List Int → Option (List api_Run × List Int)} {i : Nat} (hi : i < L.length) {r : List api_Run} {s : List Int} (hr : r.length ≤ i) (hs : s.length ≤ i) {z : List api_Run × List Int}
    (hgo : let n := follow (L.getD i 0) (L.drop (i + 1)); Ev (fun K k _ _ _ => go K k ((i + 1 + n : Nat) : Int) (if 2 ≤ n then r ++ [(L.getD i 0, ((n + 1 : Nat) : Int))] else r) (if 2 ≤ n then s else s ++ (L.drop i).take (n + 1))) z) :
    E2 (fun K k k' => runs_Parts.l2 K (go K k) (i : Int) L k' ((i + 1 : Nat) : Int) r s) z := by
  generalize hn : follow (L.getD i 0) (L.drop (i + 1)) = n at hgo
  simp only at hgo
  have hnle : i + 1 + n ≤ L.length := by
    have := follow_le (L.getD i 0) (L.drop (i + 1))
    rw [hn, List.length_drop] at this; omega
  have hlen := hL.1
  have key : ∀ t, t ≤ n → E2 (fun K k k' => runs_Parts.l2 K (go K k) (i : Int) L k' ((i + 1 + t : Nat) : Int) r s) z := by
    refine upto ?_ ?_
    · have fin : E2 (fun K k k' => if decide ((wr .i64 (((i + 1 + n : Nat) : Int) - (i : Int))) ≥ 3) then
          if (0 : Int) ≤ (i : Int) ∧ (i : Int) < ((L.length : Nat) : Int) then
          if (r.length + ([((nth L (i : Int), wr .i64 (((i + 1 + n : Nat) : Int) - (i : Int))) : api_Run)] : List api_Run).length) * 16 ≤ 140737488355328 then
          go K k ((i + 1 + n : Nat) : Int) (r ++ ([((nth L (i : Int), wr .i64 (((i + 1 + n : Nat) : Int) - (i : Int))) : api_Run)] : List api_Run)) s
          else none
          else none
        else
          if (0 : Int) ≤ (i : Int) ∧ (i : Int) ≤ ((i + 1 + n : Nat) : Int) ∧ ((i + 1 + n : Nat) : Int) ≤ ((L.length : Nat) : Int) then
          if (s.length + (((L).drop ((i : Int)).toNat).take ((((i + 1 + n : Nat) : Int)).toNat - ((i : Int)).toNat)).length) * 8 ≤ 140737488355328 then
          go K k ((i + 1 + n : Nat) : Int) r (s ++ (((L).drop ((i : Int)).toNat).take ((((i + 1 + n : Nat) : Int)).toNat - ((i : Int)).toNat)))
          else none
          else none) z := by
        have e1 : wr .i64 (((i + 1 + n : Nat) : Int) - (i : Int)) = ((n + 1 : Nat) : Int) := by rw [w64 (by omega) (by omega)]; omega
        rw [e1]
        by_cases h2 : 2 ≤ n
        · rw [if_pos h2, if_pos h2] at hgo
          refine posD (by omega) (pos (by omega) (pos (by simp; omega) ?_))
          rw [rdN]; exact hgo
        · rw [if_neg h2, if_neg h2] at hgo
          refine negD (by omega) (pos (by omega) ?_)
          rw [Int.toNat_natCast, Int.toNat_natCast, show i + 1 + n - i = n + 1 by omega]
          exact pos (by simp; omega) hgo
      refine step2 (fun _ _ _ _ _ => runs_Parts.l2.eq_2 ..) ?_
      by_cases he : i + 1 + n < L.length
      · refine posD (by omega) (pos (by omega) ?_)
        have e2 : wr .i64 (((i + 1 + n : Nat) : Int) - 1) = ((i + n : Nat) : Int) := by rw [w64 (by omega) (by omega)]; omega
        rw [e2, rdN, rdN]
        have hb := hL.2 _ (getD_mem (d := 0) (show i + n < L.length by omega))
        rw [w64 (i := L.getD (i + n) 0 + 1) (by omega) (by omega)]
        refine pos (by omega) (negE ?_ fin)
        have := follow_end (x := L.getD i 0) (l := L.drop (i + 1)) (by rw [hn, List.length_drop]; omega)
        rw [hn, ← drop_cons hi, getD_drop, getD_drop] at this
        rw [show i + 1 + n = i + (n + 1) by omega]; exact this
      · exact negD (by omega) fin
    · intro t ht ih
      refine step2 (fun _ _ _ _ _ => runs_Parts.l2.eq_2 ..) ?_
      refine posD (by omega) (pos (by omega) ?_)
      have e2 : wr .i64 (((i + 1 + t : Nat) : Int) - 1) = ((i + t : Nat) : Int) := by rw [w64 (by omega) (by omega)]; omega
      rw [e2, rdN, rdN]
      have hb := hL.2 _ (getD_mem (d := 0) (show i + t < L.length by omega))
      rw [w64 (i := L.getD (i + t) 0 + 1) (by omega) (by omega)]
      refine pos (by omega) (posE ?_ ?_)
      · have := follow_lt (x := L.getD i 0) (l := L.drop (i + 1)) (t := t) (by omega)
        rw [← drop_cons hi, getD_drop, getD_drop] at this
        rw [show i + 1 + t = i + (t + 1) by omega]; exact this
      · rw [w1 (by omega)]; exact ih
  exact key 0 (by omega)
theorem runs_Parts_l1 {L : List Int} (hL : Sm L) : ∀ (d i : Nat), i + d = L.length → ∀ (r : List api_Run) (s : List Int), r.length ≤ i → s.length ≤ i →
    E1 (fun K k => runs_Parts.l1 K L k (i : Int) r s) (r ++ (parts (L.drop i)).1, s ++ (parts (L.drop i)).2) := by
  have hlen := hL.1
  intro d
  induction d using Nat.strongRecOn with
  | _ d ih =>
    intro i hi r s hr hs
    refine step1 (fun _ _ _ _ _ => runs_Parts.l1.eq_2 ..) ?_
    by_cases h : i < L.length
    · refine posD (by omega) ?_
      have hnle := follow_le (L.getD i 0) (L.drop (i + 1))
      rw [List.length_drop] at hnle
      have hz := ih (d - (1 + follow (L.getD i 0) (L.drop (i + 1)))) (by omega) (i + 1 + follow (L.getD i 0) (L.drop (i + 1))) (by omega)
      have hd : L.drop (i + 1 + follow (L.getD i 0) (L.drop (i + 1))) = (L.drop (i + 1)).drop (follow (L.getD i 0) (L.drop (i + 1))) := by rw [List.drop_drop]
      rw [hd] at hz
      rw [w1 (by omega)]
      refine Ev.e2 (runs_Parts_l2 (go := fun K k => runs_Parts.l1 K L k) hL h hr hs ?_)
      rw [drop_cons h, parts]
      simp only
      by_cases h2 : 2 ≤ follow (L.getD i 0) (L.drop (i + 1))
      · simp only [if_pos h2]
        refine ofEq (hz _ _ (by simp; omega) (by omega)) (by simp)
      · simp only [if_neg h2]
        refine ofEq (hz _ _ (by omega) (by simp; omega)) (by simp [List.take_succ_cons])
    · refine negD (by omega) (nowE ?_)
      rw [List.drop_eq_nil_of_le (by omega), parts]; simp
theorem Parts_ev {L : List Int} (hL : Sm L) : E0 (fun K => runs_Parts K L) (parts L) := by
  have := runs_Parts_l1 hL L.length 0 (by omega) [] [] (by simp) (by simp)
  refine ofEq this.e1 (by simp)
theorem herbariumref3_Split_l2 {L : List Int} (hL : Sm L) {go : Nat → Nat → Int → List api_Run → List Int → Option (List api_Run × List Int)} {i : Nat} (hi : i < L.length) {r : List api_Run} {s : List Int} (hr : r.length ≤ i) (hs : s.length ≤ i) {z : List api_Run × List Int}
    (hgo : let n := follow (L.getD i 0) (L.drop (i + 1)); Ev (fun K k _ _ _ => go K k ((i + 1 + n : Nat) : Int) (if 2 ≤ n then r ++ [(L.getD i 0, ((n + 1 : Nat) : Int))] else r) (if 2 ≤ n then s else s ++ (L.drop i).take (n + 1))) z) :
    E2 (fun K k k' => herbariumref3_Split.l2 K (go K k) (i : Int) L k' ((i + 1 : Nat) : Int) r s) z := by
  generalize hn : follow (L.getD i 0) (L.drop (i + 1)) = n at hgo
  simp only at hgo
  have hnle : i + 1 + n ≤ L.length := by
    have := follow_le (L.getD i 0) (L.drop (i + 1))
    rw [hn, List.length_drop] at this; omega
  have hlen := hL.1
  have key : ∀ t, t ≤ n → E2 (fun K k k' => herbariumref3_Split.l2 K (go K k) (i : Int) L k' ((i + 1 + t : Nat) : Int) r s) z := by
    refine upto ?_ ?_
    · have fin : E2 (fun K k k' => if decide ((wr .i64 (((i + 1 + n : Nat) : Int) - (i : Int))) ≥ 3) then
          if (0 : Int) ≤ (i : Int) ∧ (i : Int) < ((L.length : Nat) : Int) then
          if (r.length + ([((nth L (i : Int), wr .i64 (((i + 1 + n : Nat) : Int) - (i : Int))) : api_Run)] : List api_Run).length) * 16 ≤ 140737488355328 then
          go K k ((i + 1 + n : Nat) : Int) (r ++ ([((nth L (i : Int), wr .i64 (((i + 1 + n : Nat) : Int) - (i : Int))) : api_Run)] : List api_Run)) s
          else none
          else none
        else
          if (0 : Int) ≤ (i : Int) ∧ (i : Int) ≤ ((i + 1 + n : Nat) : Int) ∧ ((i + 1 + n : Nat) : Int) ≤ ((L.length : Nat) : Int) then
          if (s.length + (((L).drop ((i : Int)).toNat).take ((((i + 1 + n : Nat) : Int)).toNat - ((i : Int)).toNat)).length) * 8 ≤ 140737488355328 then
          go K k ((i + 1 + n : Nat) : Int) r (s ++ (((L).drop ((i : Int)).toNat).take ((((i + 1 + n : Nat) : Int)).toNat - ((i : Int)).toNat)))
          else none
          else none) z := by
        have e1 : wr .i64 (((i + 1 + n : Nat) : Int) - (i : Int)) = ((n + 1 : Nat) : Int) := by rw [w64 (by omega) (by omega)]; omega
        rw [e1]
        by_cases h2 : 2 ≤ n
        · rw [if_pos h2, if_pos h2] at hgo
          refine posD (by omega) (pos (by omega) (pos (by simp; omega) ?_))
          rw [rdN]; exact hgo
        · rw [if_neg h2, if_neg h2] at hgo
          refine negD (by omega) (pos (by omega) ?_)
          rw [Int.toNat_natCast, Int.toNat_natCast, show i + 1 + n - i = n + 1 by omega]
          exact pos (by simp; omega) hgo
      refine step2 (fun _ _ _ _ _ => herbariumref3_Split.l2.eq_2 ..) ?_
      by_cases he : i + 1 + n < L.length
      · refine posD (by omega) (pos (by omega) ?_)
        have e2 : wr .i64 (((i + 1 + n : Nat) : Int) - 1) = ((i + n : Nat) : Int) := by rw [w64 (by omega) (by omega)]; omega
        rw [e2, rdN, rdN]
        have hb := hL.2 _ (getD_mem (d := 0) (show i + n < L.length by omega))
        rw [w64 (i := L.getD (i + n) 0 + 1) (by omega) (by omega)]
        refine pos (by omega) (negE ?_ fin)
        have := follow_end (x := L.getD i 0) (l := L.drop (i + 1)) (by rw [hn, List.length_drop]; omega)
        rw [hn, ← drop_cons hi, getD_drop, getD_drop] at this
        rw [show i + 1 + n = i + (n + 1) by omega]; exact this
      · exact negD (by omega) fin
    · intro t ht ih
      refine step2 (fun _ _ _ _ _ => herbariumref3_Split.l2.eq_2 ..) ?_
      refine posD (by omega) (pos (by omega) ?_)
      have e2 : wr .i64 (((i + 1 + t : Nat) : Int) - 1) = ((i + t : Nat) : Int) := by rw [w64 (by omega) (by omega)]; omega
      rw [e2, rdN, rdN]
      have hb := hL.2 _ (getD_mem (d := 0) (show i + t < L.length by omega))
      rw [w64 (i := L.getD (i + t) 0 + 1) (by omega) (by omega)]
      refine pos (by omega) (posE ?_ ?_)
      · have := follow_lt (x := L.getD i 0) (l := L.drop (i + 1)) (t := t) (by omega)
        rw [← drop_cons hi, getD_drop, getD_drop] at this
        rw [show i + 1 + t = i + (t + 1) by omega]; exact this
      · rw [w1 (by omega)]; exact ih
  exact key 0 (by omega)
theorem herbariumref3_Split_l1 {L : List Int} (hL : Sm L) : ∀ (d i : Nat), i + d = L.length → ∀ (r : List api_Run) (s : List Int), r.length ≤ i → s.length ≤ i →
    E1 (fun K k => herbariumref3_Split.l1 K L k (i : Int) r s) (r ++ (parts (L.drop i)).1, s ++ (parts (L.drop i)).2) := by
  have hlen := hL.1
  intro d
  induction d using Nat.strongRecOn with
  | _ d ih =>
    intro i hi r s hr hs
    refine step1 (fun _ _ _ _ _ => herbariumref3_Split.l1.eq_2 ..) ?_
    by_cases h : i < L.length
    · refine posD (by omega) ?_
      have hnle := follow_le (L.getD i 0) (L.drop (i + 1))
      rw [List.length_drop] at hnle
      have hz := ih (d - (1 + follow (L.getD i 0) (L.drop (i + 1)))) (by omega) (i + 1 + follow (L.getD i 0) (L.drop (i + 1))) (by omega)
      have hd : L.drop (i + 1 + follow (L.getD i 0) (L.drop (i + 1))) = (L.drop (i + 1)).drop (follow (L.getD i 0) (L.drop (i + 1))) := by rw [List.drop_drop]
      rw [hd] at hz
      rw [w1 (by omega)]
      refine Ev.e2 (herbariumref3_Split_l2 (go := fun K k => herbariumref3_Split.l1 K L k) hL h hr hs ?_)
      rw [drop_cons h, parts]
      simp only
      by_cases h2 : 2 ≤ follow (L.getD i 0) (L.drop (i + 1))
      · simp only [if_pos h2]
        refine ofEq (hz _ _ (by simp; omega) (by omega)) (by simp)
      · simp only [if_neg h2]
        refine ofEq (hz _ _ (by omega) (by simp; omega)) (by simp [List.take_succ_cons])
    · refine negD (by omega) (nowE ?_)
      rw [List.drop_eq_nil_of_le (by omega), parts]; simp
theorem Split_ev {L : List Int} (hL : Sm L) : E0 (fun K => herbariumref3_Split K L) (parts L) := by
  have := herbariumref3_Split_l1 hL L.length 0 (by omega) [] [] (by simp) (by simp)
  refine ofEq this.e1 (by simp)
end Go.XL
end
section
namespace Go.XL
open Go.XM
theorem lists_ev (xs : List (List Int)) (hl : xs.length ≤ 17592186044416) (hx : ∀ y ∈ xs, y.length ≤ 17592186044416) :
    ∃ r : Int, E0 (fun K => herbariumlaw0_Lists K xs) r ∧ 0 ≤ r ∧ r ≤ 35184372088832 ∧ (r < 1048576 → r = xs.length + lsum xs) := by
  have key : ∀ i, i ≤ xs.length → ∀ s : Int, 0 ≤ s → s ≤ 35184372088832 → ∃ r : Int, E1 (fun K k => herbariumlaw0_Lists.l1 K xs k s (i : Int)) r ∧ 0 ≤ r ∧ r ≤ 35184372088832 ∧ (r < 1048576 → r = s + lsum (xs.drop i)) := by
    refine upto ?_ ?_
    · intro s h0 h1
      refine ⟨s, ?_, h0, h1, fun _ => by simp [lsum]⟩
      refine step1 (fun _ _ _ _ _ => herbariumlaw0_Lists.l1.eq_2 ..) ?_
      exact negD (by omega) (now s)
    · intro i hi ih s h0 h1
      by_cases hs : s < 1048576
      · have hy := hx _ (getD_mem (d := []) hi)
        obtain ⟨r, h, a, b, c⟩ := ih (s + ((xs.getD i []).length : Int)) (by omega) (by omega)
        refine ⟨r, ?_, a, b, fun hr => by rw [c hr, lsum_drop hi]; omega⟩
        refine step1 (fun _ _ _ _ _ => herbariumlaw0_Lists.l1.eq_2 ..) ?_
        refine posD (by omega) (posD hs (pos (by omega) ?_))
        rw [rd1N, w64 (by omega) (by omega), w1 (by omega)]
        exact h
      · refine ⟨s, ?_, h0, h1, fun h => by omega⟩
        refine step1 (fun _ _ _ _ _ => herbariumlaw0_Lists.l1.eq_2 ..) ?_
        exact posD (by omega) (negD hs (now s))
  obtain ⟨r, h, a, b, c⟩ := key 0 (by omega) xs.length (by omega) (by omega)
  exact ⟨r, h.e1, a, b, fun hr => by rw [c hr]; simp⟩
def OkAt (xs : List Int) (i : Nat) : Prop := 0 ≤ xs.getD i 0 ∧ xs.getD i 0 ≤ 15 ∧ (0 < i → xs.getD (i - 1) 0 < xs.getD i 0)
instance (xs : List Int) (i : Nat) : Decidable (OkAt xs i) := by unfold OkAt; infer_instance
def MayP (xs : List Int) : Prop := ∀ i, i < xs.length → OkAt xs i
instance (xs : List Int) : Decidable (MayP xs) := by unfold MayP; infer_instance
theorem ok_ge {xs : List Int} : ∀ i : Nat, (∀ j, j ≤ i → OkAt xs j) → (i : Int) ≤ xs.getD i 0 := by
  intro i
  induction i with
  | zero => intro h; exact_mod_cast (h 0 (by omega)).1
  | succ i ih =>
    intro h
    have h1 := ih (fun j hj => h j (by omega))
    have h2 := (h (i + 1) (by omega)).2.2 (by omega)
    simp only [Nat.add_sub_cancel] at h2
    omega
theorem MayP.len {xs : List Int} (h : MayP xs) : xs.length ≤ 16 := by
  rcases Nat.eq_zero_or_pos xs.length with h0 | h0
  · omega
  · have h1 := ok_ge (xs := xs) (xs.length - 1) (fun j hj => h j (by omega))
    have h2 := (h (xs.length - 1) (by omega)).2.1
    omega
theorem num_eq (K : Nat) (a b : Int) : herbariumref0_Num K a b = some (decide (0 ≤ a ∧ a ≤ b)) := by
  unfold herbariumref0_Num
  by_cases h : a ≥ 0
  · rw [if_pos (decide_eq_true h)]; simp [h]
  · rw [if_neg (by simpa using h)]; simp; omega
theorem origin_eq (K : Nat) (a : Int) : herbariumref3_Origin K a = some (decide (0 ≤ a ∧ a ≤ 15)) := by unfold herbariumref3_Origin; rw [num_eq]; rfl
theorem is_eq (K : Nat) (a : Int) : gaps_Is K a = some (decide (0 ≤ a ∧ a ≤ 15)) := by
  unfold gaps_Is
  by_cases h : a ≥ 0
  · rw [if_pos (decide_eq_true h)]; simp [h]; omega
  · rw [if_neg (by simpa using h)]; simp; omega
theorem may3_ev (xs : List Int) (hl : xs.length ≤ 17592186044416) : E0 (fun K => herbariumref3_May K xs) (decide (MayP xs)) := by
  have key : ∀ i, i ≤ xs.length → (∀ j, j < i → OkAt xs j) → E1 (fun K k => herbariumref3_May.l1 K xs k (i : Int)) (decide (MayP xs)) := by
    refine upto ?_ ?_
    · intro hok
      have hm : MayP xs := hok
      have hn := hm.len
      refine step1 (fun _ _ _ _ _ => herbariumref3_May.l1.eq_2 ..) ?_
      exact negD (by omega) (nowE (by simp [hm]; omega))
    · intro i hi ih hok
      have h16 : i ≤ 16 := by
        rcases Nat.eq_zero_or_pos i with h0 | h0
        · omega
        · have h1 := ok_ge (xs := xs) (i - 1) (fun j hj => hok j (by omega))
          have h2 := (hok (i - 1) (by omega)).2.1
          omega
      refine step1 (fun _ _ _ _ _ => herbariumref3_May.l1.eq_2 ..) ?_
      refine posD (by omega) (posD (by omega) (pos (by omega) ?_))
      simp only [origin_eq]
      rw [rdN]
      refine bnd (now _) ?_
      by_cases ho : 0 ≤ xs.getD i 0 ∧ xs.getD i 0 ≤ 15
      · refine negM ho ?_
        rcases Nat.eq_zero_or_pos i with h0 | h0
        · refine negD (by omega) ?_
          rw [w1 (by omega)]
          refine ih fun j hj => ?_
          by_cases e : j = i
          · subst e; exact ⟨ho.1, ho.2, fun h => by omega⟩
          · exact hok j (by omega)
        · refine posD (by omega) ?_
          have e1 : wr .i64 ((i : Int) - 1) = ((i - 1 : Nat) : Int) := by rw [w64 (by omega) (by omega)]; omega
          rw [e1, rdN]
          refine pos (by omega) (pos (by omega) ?_)
          by_cases hlt : xs.getD (i - 1) 0 ≥ xs.getD i 0
          · refine posD hlt (nowE ?_)
            have : ¬ MayP xs := fun hm => by have := (hm i hi).2.2 h0; omega
            simp [this]
          · refine negD hlt ?_
            rw [w1 (by omega)]
            refine ih fun j hj => ?_
            by_cases e : j = i
            · subst e; exact ⟨ho.1, ho.2, fun h => by omega⟩
            · exact hok j (by omega)
      · refine posM ho (nowE ?_)
        have : ¬ MayP xs := fun hm => ho ⟨(hm i hi).1, (hm i hi).2.1⟩
        simp [this]
  exact (key 0 (by omega) (fun j hj => by omega)).e1
theorem gmay_ev (xs : List Int) (hl : xs.length ≤ 17592186044416) : E0 (fun K => gaps_May K xs) (decide (MayP xs)) := by
  have key : ∀ i, i ≤ xs.length → (∀ j, j < i → OkAt xs j) → E1 (fun K k => gaps_May.l1 K xs k ((xs.length : Nat) : Int) (i : Int)) (decide (MayP xs)) := by
    refine upto ?_ ?_
    · intro hok
      have hm : MayP xs := hok
      refine step1 (fun _ _ _ _ _ => gaps_May.l1.eq_2 ..) ?_
      exact negD (by omega) (nowE (by simp [hm]))
    · intro i hi ih hok
      refine step1 (fun _ _ _ _ _ => gaps_May.l1.eq_2 ..) ?_
      refine posD (by omega) (pos (by omega) ?_)
      simp only [is_eq]
      rw [rdN]
      refine bnd (now _) ?_
      by_cases ho : 0 ≤ xs.getD i 0 ∧ xs.getD i 0 ≤ 15
      · refine negM ho ?_
        rcases Nat.eq_zero_or_pos i with h0 | h0
        · refine negD (by omega) ?_
          rw [w1 (by omega)]
          refine ih fun j hj => ?_
          by_cases e : j = i
          · subst e; exact ⟨ho.1, ho.2, fun h => by omega⟩
          · exact hok j (by omega)
        · refine posD (by omega) ?_
          have e1 : wr .i64 ((i : Int) - 1) = ((i - 1 : Nat) : Int) := by rw [w64 (by omega) (by omega)]; omega
          rw [e1, rdN]
          refine pos (by omega) ?_
          by_cases hlt : xs.getD i 0 ≤ xs.getD (i - 1) 0
          · refine posD hlt (nowE ?_)
            have : ¬ MayP xs := fun hm => by have := (hm i hi).2.2 h0; omega
            simp [this]
          · refine negD hlt ?_
            rw [w1 (by omega)]
            refine ih fun j hj => ?_
            by_cases e : j = i
            · subst e; exact ⟨ho.1, ho.2, fun h => by omega⟩
            · exact hok j (by omega)
      · refine posM ho (nowE ?_)
        have : ¬ MayP xs := fun hm => ho ⟨(hm i hi).1, (hm i hi).2.1⟩
        simp [this]
  exact (key 0 (by omega) (fun j hj => by omega)).e1
theorem ext_getD {xs ys : List Int} (hl : xs.length = ys.length) (h : ∀ j, j < xs.length → xs.getD j 0 = ys.getD j 0) : xs = ys := by
  refine List.ext_getElem hl fun j h1 h2 => ?_
  have := h j h1
  rwa [getD_lt h1, getD_lt h2] at this
theorem eqn_ev (xs ys : List Int) (h : xs.length ≤ 1000000) : E0 (fun K => herbariumref0_EqNumbers K xs ys) (decide (xs = ys)) := by
  unfold herbariumref0_EqNumbers
  by_cases hl : xs.length = ys.length
  · have key : ∀ i, i ≤ xs.length → (∀ j, j < i → xs.getD j 0 = ys.getD j 0) → E1 (fun K k => herbariumref0_EqNumbers.l1 K xs ys k (i : Int)) (decide (xs = ys)) := by
      refine upto ?_ ?_
      · intro hd
        refine step1 (fun _ _ _ _ _ => herbariumref0_EqNumbers.l1.eq_2 ..) ?_
        exact negD (by omega) (nowE (by rw [ext_getD hl hd]; simp))
      · intro i hi ih hd
        refine step1 (fun _ _ _ _ _ => herbariumref0_EqNumbers.l1.eq_2 ..) ?_
        refine posD (by omega) (pos (by omega) (pos (by omega) ?_))
        rw [rdN, rdN, w1 (by omega)]
        by_cases e : xs.getD i 0 = ys.getD i 0
        · refine negN e (ih fun j hj => ?_)
          by_cases q : j = i
          · rw [q]; exact e
          · exact hd j (by omega)
        · refine posN e (nowE ?_)
          have : ¬ xs = ys := fun h => e (by rw [h])
          simp [this]
    exact negN (by omega) (key 0 (by omega) (fun j hj => by omega)).e1
  · refine posN (by omega) (nowE ?_)
    have : ¬ xs = ys := fun h => hl (by rw [h])
    simp [this]
theorem clone_eq (K : Nat) (xs : List Int) (h : xs.length ≤ 1000000) : slices_Clone___int_int_ K xs = some xs := by
  unfold slices_Clone___int_int_
  rw [if_pos (by simp; omega)]; rfl
end Go.XL
end
section
namespace Go.XL
open Go.XM
theorem equal_ev (xs ys : List Int) (h : xs.length ≤ 1000000) : E0 (fun K => slices_Equal___int_int_ K xs ys) (decide (xs = ys)) := by
  unfold slices_Equal___int_int_
  by_cases hl : xs.length = ys.length
  · have key : ∀ i, i ≤ xs.length → (∀ j, j < i → xs.getD j 0 = ys.getD j 0) → E1 (fun K k => slices_Equal___int_int_.l1 K xs ys k ((xs.length : Nat) : Int) (i : Int)) (decide (xs = ys)) := by
      refine upto ?_ ?_
      · intro hd
        refine step1 (fun _ _ _ _ _ => slices_Equal___int_int_.l1.eq_2 ..) ?_
        exact negD (by omega) (nowE (by rw [ext_getD hl hd]; simp))
      · intro i hi ih hd
        refine step1 (fun _ _ _ _ _ => slices_Equal___int_int_.l1.eq_2 ..) ?_
        refine posD (by omega) (pos (by omega) (pos (by omega) ?_))
        rw [rdN, rdN, w1 (by omega)]
        by_cases e : xs.getD i 0 = ys.getD i 0
        · refine negN e (ih fun j hj => ?_)
          by_cases q : j = i
          · rw [q]; exact e
          · exact hd j (by omega)
        · refine posN e (nowE ?_)
          have : ¬ xs = ys := fun h => e (by rw [h])
          simp [this]
    exact negN (by omega) (key 0 (by omega) (fun j hj => by omega)).e1
  · refine posN (by omega) (nowE ?_)
    have : ¬ xs = ys := fun h => hl (by rw [h])
    simp [this]
theorem in_ev (xs : List Int) (a : Int) (h : xs.length ≤ 1000000) : ∃ r, E0 (fun K => herbariumref0_In K xs a) r ∧ (0 ≤ r ↔ a ∈ xs) := by
  have key : ∀ i, i ≤ xs.length → ∃ r, E1 (fun K k => herbariumref0_In.l1 K xs a k (i : Int)) r ∧ (0 ≤ r ↔ a ∈ xs.drop i) := by
    refine upto ?_ ?_
    · refine ⟨-1, ?_, by simp⟩
      refine step1 (fun _ _ _ _ _ => herbariumref0_In.l1.eq_2 ..) ?_
      exact negD (by omega) (now _)
    · intro i hi ih
      obtain ⟨r, h1, h2⟩ := ih
      by_cases e : xs.getD i 0 = a
      · refine ⟨i, ?_, by rw [drop_getD (d := 0) hi, e]; simp⟩
        refine step1 (fun _ _ _ _ _ => herbariumref0_In.l1.eq_2 ..) ?_
        refine posD (by omega) (pos (by omega) ?_)
        rw [rdN]
        exact posE e (now _)
      · refine ⟨r, ?_, by rw [drop_getD (d := 0) hi, h2, List.mem_cons]; exact ⟨.inr, fun q => q.resolve_left (fun q => e q.symm)⟩⟩
        refine step1 (fun _ _ _ _ _ => herbariumref0_In.l1.eq_2 ..) ?_
        refine posD (by omega) (pos (by omega) ?_)
        rw [rdN, w1 (by omega)]
        exact negE e h1
  obtain ⟨r, h1, h2⟩ := key 0 (by omega)
  exact ⟨r, h1.e1, by simpa using h2⟩
theorem contains_ev (xs : List Int) (a : Int) (h : xs.length ≤ 1000000) : E0 (fun K => slices_Contains___int_int_ K xs a) (decide (a ∈ xs)) := by
  have key : ∀ i, i ≤ xs.length → ∃ r, E1 (fun K k => slices_Index___int_int_.l1 K xs a k ((xs.length : Nat) : Int) (i : Int)) r ∧ (0 ≤ r ↔ a ∈ xs.drop i) := by
    refine upto ?_ ?_
    · refine ⟨-1, ?_, by simp⟩
      refine step1 (fun _ _ _ _ _ => slices_Index___int_int_.l1.eq_2 ..) ?_
      exact negD (by omega) (now _)
    · intro i hi ih
      obtain ⟨r, h1, h2⟩ := ih
      by_cases e : a = xs.getD i 0
      · refine ⟨i, ?_, by rw [drop_getD (d := 0) hi, ← e]; simp⟩
        refine step1 (fun _ _ _ _ _ => slices_Index___int_int_.l1.eq_2 ..) ?_
        refine posD (by omega) (pos (by omega) ?_)
        rw [rdN]
        exact posE e (now _)
      · refine ⟨r, ?_, by rw [drop_getD (d := 0) hi, h2, List.mem_cons]; exact ⟨.inr, fun q => q.resolve_left e⟩⟩
        refine step1 (fun _ _ _ _ _ => slices_Index___int_int_.l1.eq_2 ..) ?_
        refine posD (by omega) (pos (by omega) ?_)
        rw [rdN, w1 (by omega)]
        exact negE e h1
  obtain ⟨r, h1, h2⟩ := key 0 (by omega)
  unfold slices_Contains___int_int_ slices_Index___int_int_
  refine bnd h1.e1 (nowE ?_)
  exact decide_eq_decide.2 (by simpa using h2)
end Go.XL
end
section
namespace Go.XL
open Go.XM
def nums (x : api_Run) : List Int := (List.range x.Len.toNat).map fun (k : Nat) => x.At + (k : Int)
def alls (r : List api_Run) : List Int := r.flatMap nums
def OkR : Int → List api_Run → Prop
  | _, [] => True
  | e, x :: r => (3 ≤ x.Len ∧ e < x.At ∧ 0 ≤ x.At ∧ x.At ≤ 15 ∧ x.At + x.Len ≤ 16) ∧ OkR (x.At + x.Len) r
instance decOkR : ∀ (e : Int) (r : List api_Run), Decidable (OkR e r)
  | _, [] => .isTrue trivial
  | e, x :: r => @instDecidableAnd _ _ _ (decOkR _ r)
def join (r : List api_Run) (q : List Int) : Option (List Int) := if OkR (-1) r ∧ MayP q ∧ MayP (sortF (q ++ alls r)) then some (sortF (q ++ alls r)) else none
theorem sort_len (l : List Int) : (sortF l).length = l.length := List.length_mergeSort l
theorem mem_nums {x : api_Run} {a : Int} (h : 0 ≤ x.Len) : a ∈ nums x ↔ x.At ≤ a ∧ a < x.At + x.Len := by
  simp only [nums, List.mem_map, List.mem_range]
  constructor
  · rintro ⟨k, hk, rfl⟩; omega
  · rintro ⟨h1, h2⟩; exact ⟨(a - x.At).toNat, by omega, by omega⟩
theorem mem_alls {r : List api_Run} {a : Int} : a ∈ alls r ↔ ∃ x ∈ r, a ∈ nums x := by simp [alls]
theorem OkR.mem : ∀ {e : Int} {r : List api_Run}, OkR e r → ∀ a ∈ alls r, 0 ≤ a ∧ a ≤ 15 ∧ (-1 ≤ e → e < a)
  | e, [], _, a, ha => by simp [alls] at ha
  | e, x :: r, h, a, ha => by
    obtain ⟨⟨h1, h2, h3, h4, h5⟩, hr⟩ := h
    rcases List.mem_append.1 (show a ∈ nums x ++ alls r from by simpa [alls] using ha) with ha | ha
    · rw [mem_nums (by omega)] at ha; omega
    · have := OkR.mem hr a ha; omega
theorem OkR.nodup : ∀ {e : Int} {r : List api_Run}, OkR e r → (alls r).Nodup
  | e, [], _ => by simp [alls]
  | e, x :: r, h => by
    obtain ⟨⟨h1, h2, h3, h4, h5⟩, hr⟩ := h
    rw [show alls (x :: r) = nums x ++ alls r by simp [alls], List.nodup_append]
    refine ⟨?_, hr.nodup, fun a ha b hb => ?_⟩
    · rw [nums, List.nodup_iff_pairwise_ne, List.pairwise_map]
      exact List.pairwise_lt_range.imp fun h => by omega
    · rw [mem_nums (by omega)] at ha
      have := hr.mem b hb
      omega
theorem nums_len (x : api_Run) : (nums x).length = x.Len.toNat := by simp [nums]
theorem alls_cons (x : api_Run) (r : List api_Run) : alls (x :: r) = nums x ++ alls r := by simp [alls]
theorem OkR.len : ∀ {e : Int} {r : List api_Run}, e ≤ 16 → OkR e r → e + (alls r).length ≤ 16 ∧ 3 * r.length ≤ (alls r).length
  | e, [], he, h => by simp [alls]; exact he
  | e, x :: r, he, h => by
    obtain ⟨⟨h1, h2, h3, h4, h5⟩, hr⟩ := h
    obtain ⟨a1, a2⟩ := OkR.len (by omega) hr
    rw [alls_cons, List.length_append, nums_len, List.length_cons]
    omega
theorem whole_l2 {go : Nat → Nat → Int → Int → Int → List Int → Option (List Int × Bool)} {t11 t12 : Int} {r : List api_Run} {q : List Int} {x : api_Run} (h0 : 0 ≤ x.Len) (h1 : x.Len ≤ 16) (h2 : 0 ≤ x.At) (h3 : x.At ≤ 15) {s : List Int} (hs : s.length ≤ 1000100) {z : List Int × Bool}
    (hgo : Ev (fun K k _ _ _ => go K k (x.At + x.Len) t11 (wr .i64 (t12 + 1)) (s ++ nums x)) z) : E2 (fun K k k' => runs_Whole.l2 K (go K k) t11 t12 r q k' (x.At + x.Len) x.At s) z := by
  have hl := nums_len x
  have key : ∀ t, t ≤ x.Len.toNat → E2 (fun K k k' => runs_Whole.l2 K (go K k) t11 t12 r q k' (x.At + x.Len) (x.At + (t : Int)) (s ++ (nums x).take t)) z := by
    refine upto ?_ ?_
    · refine step2 (fun _ _ _ _ _ => runs_Whole.l2.eq_2 ..) ?_
      refine negD (by omega) ?_
      rw [List.take_of_length_le (by omega)]
      exact hgo
    · intro t ht ih
      refine step2 (fun _ _ _ _ _ => runs_Whole.l2.eq_2 ..) ?_
      refine posD (by omega) (pos ?_ ?_)
      · simp only [List.length_append, List.length_take, List.length_singleton]; omega
      · rw [w64 (by omega) (by omega)]
        have e : s ++ (nums x).take t ++ [x.At + (t : Int)] = s ++ (nums x).take (t + 1) := by
          rw [take_getD (d := 0) (by omega : t < (nums x).length), List.append_assoc]
          congr 3
          rw [getD_lt (by omega)]
          simp [nums]
        rw [e]
        refine ofEq (congr (fun _ _ _ _ _ => ?_) ih) rfl
        congr 1
        omega
  have := key 0 (by omega)
  simpa using this
theorem rdR (xs : List api_Run) (i : Nat) : nth xs (i : Int) = xs.getD i default := nthN xs i
theorem whole_l1 {r : List api_Run} {q : List Int} (hq : q.length ≤ 1000000) (hr : r.length ≤ 1000000) : ∀ i, i ≤ r.length → ∀ (e : Int) (s : List Int), -1 ≤ e → e ≤ 16 → (s.length : Int) ≤ 1000000 + e + 1 →
    E1 (fun K k => runs_Whole.l1 K r q k e (r.length : Int) (i : Int) s) (if OkR e (r.drop i) then (sortF (s ++ alls (r.drop i)), if MayP q then decide (MayP (sortF (s ++ alls (r.drop i)))) else false) else ([], false)) := by
  refine upto ?_ ?_
  · intro e s he he2 hs
    refine step1 (fun _ _ _ _ _ => runs_Whole.l1.eq_2 ..) ?_
    refine negD (by omega) (pos (by omega) ?_)
    rw [List.drop_length, if_pos (show OkR e [] from trivial), show alls [] = [] from rfl, List.append_nil]
    refine bnd (gmay_ev q (by omega)) ?_
    by_cases hm : MayP q
    · rw [if_pos hm]
      refine pos (decide_eq_true hm) ?_
      exact bnd (gmay_ev _ (by rw [sort_len]; omega)) (now _)
    · rw [if_neg hm]
      exact neg (by simpa using hm) (now _)
  · intro i hi ih e s he he2 hs
    refine step1 (fun _ _ _ _ _ => runs_Whole.l1.eq_2 ..) ?_
    refine posD (by omega) (pos (by omega) ?_)
    rw [rdR, drop_getD (d := default) hi]
    generalize r.getD i default = x
    by_cases c1 : x.Len < 3
    · rw [if_neg (fun h => by have := h.1.1; omega)]
      exact posD c1 (now _)
    refine negD c1 ?_
    by_cases c2 : x.Len > 16
    · rw [if_neg (fun h => by have := h.1; omega)]
      exact posD c2 (now _)
    refine negD c2 ?_
    by_cases c3 : x.At ≤ e
    · rw [if_neg (fun h => by have := h.1; omega)]
      exact posD c3 (now _)
    refine negD c3 ?_
    simp only [is_eq]
    refine bnd (now _) ?_
    by_cases c4 : 0 ≤ x.At ∧ x.At ≤ 15
    · refine negM c4 ?_
      rw [w64 (i := x.At + x.Len) (by omega) (by omega), w64 (i := x.At + x.Len - 1) (by omega) (by omega)]
      refine bnd (now _) ?_
      by_cases c5 : 0 ≤ x.At + x.Len - 1 ∧ x.At + x.Len - 1 ≤ 15
      · refine negM c5 ?_
        have hx : 3 ≤ x.Len ∧ e < x.At ∧ 0 ≤ x.At ∧ x.At ≤ 15 ∧ x.At + x.Len ≤ 16 := by omega
        refine Ev.e2 (whole_l2 (go := fun K k => runs_Whole.l1 K r q k) (by omega) (by omega) (by omega) (by omega) (by omega) ?_)
        rw [w1 (by omega)]
        have hi2 := ih (x.At + x.Len) (s ++ nums x) (by omega) (by omega) (by rw [List.length_append, nums_len]; omega)
        refine ofEq hi2 ?_
        by_cases ho : OkR (x.At + x.Len) (r.drop (i + 1))
        · rw [if_pos ho, if_pos (show OkR e (x :: r.drop (i + 1)) from ⟨hx, ho⟩), alls_cons, List.append_assoc]
        · rw [if_neg ho, if_neg (fun h => ho h.2)]
      · rw [if_neg (fun h => c5 (by have := h.1; omega))]
        exact posM c5 (now _)
    · rw [if_neg (fun h => c4 (by have := h.1; omega))]
      exact posM c4 (now _)
theorem Whole_ev {r : List api_Run} {q : List Int} (hq : q.length ≤ 1000000) (hr : r.length ≤ 1000000) : E0 (fun K => runs_Whole K r q) (if OkR (-1) r then (sortF (q ++ alls r), if MayP q then decide (MayP (sortF (q ++ alls r))) else false) else ([], false)) := by
  refine bnd (congr (fun K _ _ _ _ => clone_eq K q hq) (now _)) ?_
  exact (whole_l1 hq hr 0 (by omega) (-1) q (by omega) (by omega) (by omega)).e1
theorem Join_ev {r : List api_Run} {q : List Int} (hq : q.length ≤ 1000000) (hr : r.length ≤ 1000000) : E0 (fun K => runs_Join K r q) (match join r q with | some l => (l, 0) | none => ([], 1)) := by
  refine bnd (Whole_ev hq hr) ?_
  unfold join
  by_cases h1 : OkR (-1) r
  · rw [if_pos h1]
    by_cases h2 : MayP q
    · rw [if_pos h2]
      by_cases h3 : MayP (sortF (q ++ alls r))
      · rw [if_pos (show OkR (-1) r ∧ MayP q ∧ MayP (sortF (q ++ alls r)) from ⟨h1, h2, h3⟩)]
        exact neg (by simp [h3]) (now _)
      · rw [if_neg (show ¬ (OkR (-1) r ∧ MayP q ∧ MayP (sortF (q ++ alls r))) from fun h => h3 h.2.2)]
        exact pos (by simp [h3]) (now _)
    · rw [if_neg h2, if_neg (show ¬ (OkR (-1) r ∧ MayP q ∧ MayP (sortF (q ++ alls r))) from fun h => h2 h.2.1)]
      exact pos rfl (now _)
  · rw [if_neg h1, if_neg (show ¬ (OkR (-1) r ∧ MayP q ∧ MayP (sortF (q ++ alls r))) from fun h => h1 h.1)]
    exact pos rfl (now _)
end Go.XL
end
section
namespace Go.XL
open Go.XM
theorem may_lt {xs : List Int} (h : MayP xs) : ∀ (d i : Nat), i + d + 1 < xs.length → xs.getD i 0 < xs.getD (i + d + 1) 0
  | 0, i, hi => by
    have := (h (i + 1) (by omega)).2.2 (by omega)
    simpa using this
  | d + 1, i, hi => by
    have h1 := may_lt h d i (by omega)
    have h2 := (h (i + (d + 1) + 1) (by omega)).2.2 (by omega)
    rw [show i + (d + 1) + 1 - 1 = i + d + 1 by omega] at h2
    omega
theorem mayP_iff (xs : List Int) : MayP xs ↔ xs.Pairwise (· < ·) ∧ ∀ x ∈ xs, 0 ≤ x ∧ x ≤ 15 := by
  constructor
  · intro h
    refine ⟨List.pairwise_iff_getElem.2 fun i j hi hj hij => ?_, fun x hx => ?_⟩
    · have := may_lt h (j - i - 1) i (by omega)
      rw [show i + (j - i - 1) + 1 = j by omega, getD_lt hi, getD_lt hj] at this
      exact this
    · obtain ⟨i, hi, rfl⟩ := List.mem_iff_getElem.1 hx
      have := h i hi
      rw [← getD_lt (d := 0) hi]; exact ⟨this.1, this.2.1⟩
  · rintro ⟨h1, h2⟩ i hi
    have hm := h2 _ (getD_mem (d := 0) hi)
    refine ⟨hm.1, hm.2, fun h0 => ?_⟩
    have := List.pairwise_iff_getElem.1 h1 (i - 1) i (by omega) hi (by omega)
    rw [getD_lt (show i - 1 < xs.length by omega), getD_lt hi]; exact this
def U16 : List Int := (List.range 16).map fun (k : Nat) => (k : Int)
theorem U16_len : U16.length = 16 := by simp [U16]
theorem U16_get {t : Nat} (h : t < 16) : U16.getD t 0 = (t : Int) := by rw [getD_lt (by rw [U16_len]; exact h)]; simp [U16]
theorem U16_mem {a : Int} : a ∈ U16 ↔ 0 ≤ a ∧ a ≤ 15 := by
  simp only [U16, List.mem_map, List.mem_range]
  constructor
  · rintro ⟨k, hk, rfl⟩; omega
  · rintro ⟨h1, h2⟩; exact ⟨a.toNat, by omega, by omega⟩
theorem U16_lt : U16.Pairwise (· < ·) := by
  rw [U16, List.pairwise_map]
  exact List.pairwise_lt_range.imp fun h => by omega
def flt (S : List Int) : List Int := U16.filter fun a => decide (a ∈ S)
theorem flt_may (S : List Int) : MayP (flt S) := (mayP_iff _).2 ⟨U16_lt.filter _, fun x hx => U16_mem.1 (List.mem_filter.1 hx).1⟩
theorem nodup_of_lt {xs : List Int} (h : xs.Pairwise (· < ·)) : xs.Nodup := by
  rw [List.nodup_iff_pairwise_ne]
  exact h.imp fun h => by omega
theorem sort_le (l : List Int) : (sortF l).Pairwise (· ≤ ·) := by
  have := List.pairwise_mergeSort (le := fun (x y : Int) => decide (x ≤ y)) (fun a b c h1 h2 => by simp at *; omega) (fun a b => by simp; omega) l
  exact this.imp fun h => by simpa using h
theorem sort_flt {l S : List Int} (hn : l.Nodup) (hb : ∀ x ∈ l, 0 ≤ x ∧ x ≤ 15) (hS : ∀ x, x ∈ S ↔ x ∈ l) : sortF l = flt S := by
  refine List.Perm.eq_of_pairwise (le := (· ≤ ·)) (fun a b _ _ h1 h2 => by omega) (sort_le l) (((mayP_iff _).1 (flt_may S)).1.imp fun h => by omega) ?_
  refine (List.mergeSort_perm l _).trans ?_
  refine (List.perm_ext_iff_of_nodup hn (nodup_of_lt ((mayP_iff _).1 (flt_may S)).1)).2 fun a => ?_
  simp only [flt, List.mem_filter, decide_eq_true_eq]
  rw [hS, U16_mem]
  exact ⟨fun h => ⟨hb a h, h⟩, fun h => h.2⟩
theorem sort_may {q b : List Int} (hq : MayP q) (hb : b.Nodup) (hb2 : ∀ x ∈ b, 0 ≤ x ∧ x ≤ 15) : MayP (sortF (q ++ b)) ↔ ∀ x ∈ q, x ∉ b := by
  have hp : sortF (q ++ b) |>.Perm (q ++ b) := List.mergeSort_perm _ _
  obtain ⟨q1, q2⟩ := (mayP_iff _).1 hq
  constructor
  · intro h x hx hx2
    have hn := hp.nodup (nodup_of_lt ((mayP_iff _).1 h).1)
    rw [List.nodup_append] at hn
    exact hn.2.2 x hx x hx2 rfl
  · intro h
    have hn : (q ++ b).Nodup := List.nodup_append.2 ⟨nodup_of_lt q1, hb, fun x hx y hy e => h x hx (e ▸ hy)⟩
    rw [sort_flt (S := q ++ b) hn (fun x hx => (List.mem_append.1 hx).elim (q2 x) (hb2 x)) (fun x => Iff.rfl)]
    exact flt_may _
def mk (S : List Int) : List Bool := (List.range 16).map fun (k : Nat) => decide ((k : Int) ∈ S)
theorem mk_len (S : List Int) : (mk S).length = 16 := by simp [mk]
theorem rdB (xs : List Bool) (i : Nat) : nth xs (i : Int) = xs.getD i false := nthN xs i
theorem mk_get {S : List Int} {k : Nat} (h : k < 16) : (mk S).getD k false = decide ((k : Int) ∈ S) := by rw [getD_lt (by rw [mk_len]; exact h)]; simp [mk]
theorem mk_set {S : List Int} {k : Nat} (h : k < 16) : (mk S).set k true = mk (S ++ [(k : Int)]) := by
  refine List.ext_getElem (by simp [mk_len]) fun i h1 h2 => ?_
  rw [mk_len] at h2
  rw [List.getElem_set]
  simp only [mk, List.getElem_map, List.getElem_range, List.mem_append, List.mem_singleton]
  by_cases e : k = i
  · subst e; simp
  · rw [if_neg e]
    have : ¬ (i : Int) = (k : Int) := by omega
    simp [this]
theorem mk_nil : List.replicate 16 false = mk [] := by decide
theorem join_l4 {S : List Int} : ∀ t, t ≤ 16 → ∀ acc : List Int, acc.length ≤ t → E1 (fun K k => herbariumref3_Join.l4 K k (t : Int) (mk S) acc) (acc ++ (U16.drop t).filter (fun a => decide (a ∈ S)), true) := by
  refine upto ?_ ?_
  · intro acc ha
    refine step1 (fun _ _ _ _ _ => herbariumref3_Join.l4.eq_2 ..) ?_
    refine negD (by omega) (nowE ?_)
    rw [List.drop_eq_nil_of_le (by rw [U16_len]; omega)]; simp
  · intro t ht ih acc ha
    refine step1 (fun _ _ _ _ _ => herbariumref3_Join.l4.eq_2 ..) ?_
    refine posD (by omega) (pos ⟨⟨by omega, by rw [mk_len]; omega⟩, mk_len S⟩ ?_)
    rw [rdB, mk_get ht, drop_getD (d := 0) (by rw [U16_len]; exact ht : t < U16.length), U16_get ht, w1 (by omega)]
    by_cases h : (t : Int) ∈ S
    · refine pos (decide_eq_true h) (pos (by simp; omega) ?_)
      refine ofEq (ih (acc ++ [(t : Int)]) (by simp; omega)) ?_
      rw [List.filter_cons_of_pos (by simpa using h)]; simp
    · refine neg (by simpa using h) ?_
      refine ofEq (ih acc (by omega)) ?_
      rw [List.filter_cons_of_neg (by simpa using h)]
theorem join_l3 {q S : List Int} (hq : MayP q) : ∀ j, j ≤ q.length → E1 (fun K k => herbariumref3_Join.l3 K q k (j : Int) (mk (S ++ q.take j))) (if ∀ x ∈ q.drop j, x ∉ S then (flt (S ++ q), true) else ([], false)) := by
  have hlen := hq.len
  obtain ⟨q1, q2⟩ := (mayP_iff _).1 hq
  refine upto ?_ ?_
  · refine step1 (fun _ _ _ _ _ => herbariumref3_Join.l3.eq_2 ..) ?_
    refine negD (by omega) ?_
    rw [List.drop_length, if_pos (by simp), List.take_length]
    refine ofEq (join_l4 0 (by omega) [] (by simp)).e1 ?_
    simp [flt]
  · intro j hj ih
    refine step1 (fun _ _ _ _ _ => herbariumref3_Join.l3.eq_2 ..) ?_
    obtain ⟨x0, x1⟩ := q2 _ (getD_mem (d := 0) hj)
    have hnot : q.getD j 0 ∉ q.take j := by
      intro hm
      obtain ⟨i, hi, e⟩ := List.mem_iff_getElem.1 hm
      have hij : i < j := by simpa using (show i < (q.take j).length from hi) |> fun h => by rw [List.length_take] at h; omega
      rw [List.getElem_take] at e
      have := List.pairwise_iff_getElem.1 q1 i j (by omega) hj hij
      rw [getD_lt hj] at e
      omega
    rw [rdN]
    obtain ⟨n, hn⟩ := Int.eq_ofNat_of_zero_le x0
    have hn16 : n < 16 := by omega
    rw [hn] at hnot ⊢
    refine posD (by omega) (pos (by omega) (pos ⟨⟨by omega, by rw [mk_len]; omega⟩, mk_len _⟩ ?_))
    rw [rdB, mk_get hn16, Int.toNat_natCast, mk_set hn16, drop_getD (d := 0) hj, hn, w1 (by omega)]
    have hmem : (n : Int) ∈ S ++ q.take j ↔ (n : Int) ∈ S := by simp [List.mem_append, hnot]
    by_cases h : (n : Int) ∈ S
    · rw [if_neg (fun k => k (n : Int) List.mem_cons_self h)]
      exact pos (decide_eq_true (hmem.2 h)) (now _)
    · refine neg (by simpa using fun k => h (hmem.1 k)) (pos (by omega) (pos ⟨⟨by omega, by rw [mk_len]; omega⟩, mk_len _⟩ ?_))
      have e : S ++ q.take j ++ [(n : Int)] = S ++ q.take (j + 1) := by rw [take_getD (d := 0) hj, hn, List.append_assoc]
      rw [e]
      refine ofEq ih ?_
      have : (∀ x ∈ q.drop (j + 1), x ∉ S) ↔ ∀ x ∈ (n : Int) :: q.drop (j + 1), x ∉ S := by simp [h]
      by_cases hh : ∀ x ∈ q.drop (j + 1), x ∉ S
      · rw [if_pos hh, if_pos (this.1 hh)]
      · rw [if_neg hh, if_neg (fun k => hh (this.2 k))]
theorem join_l2 {go : Nat → Nat → Int → List Bool → Option (List Int × Bool)} {t11 : Int} {r : List api_Run} {q : List Int} {x : api_Run} (h0 : 0 ≤ x.Len) (h2 : 0 ≤ x.At) (h3 : x.At + x.Len ≤ 16) {S : List Int} {z : List Int × Bool}
    (hgo : Ev (fun K k _ _ _ => go K k (wr .i64 (t11 + 1)) (mk (S ++ nums x))) z) : E2 (fun K k k' => herbariumref3_Join.l2 K (go K k) t11 r q k' 0 (mk S) x.At x.Len) z := by
  have hl := nums_len x
  have key : ∀ t, t ≤ x.Len.toNat → E2 (fun K k k' => herbariumref3_Join.l2 K (go K k) t11 r q k' (t : Int) (mk (S ++ (nums x).take t)) x.At x.Len) z := by
    refine upto ?_ ?_
    · refine step2 (fun _ _ _ _ _ => herbariumref3_Join.l2.eq_2 ..) ?_
      refine negD (by omega) ?_
      rw [List.take_of_length_le (by omega)]
      exact hgo
    · intro t ht ih
      refine step2 (fun _ _ _ _ _ => herbariumref3_Join.l2.eq_2 ..) ?_
      have e1 : wr .i64 (x.At + (t : Int)) = ((x.At.toNat + t : Nat) : Int) := by rw [w64 (by omega) (by omega)]; omega
      rw [e1, Int.toNat_natCast, mk_set (by omega), w1 (by omega)]
      refine posD (by omega) (pos ⟨⟨by omega, by rw [mk_len]; omega⟩, mk_len _⟩ ?_)
      have e : S ++ (nums x).take t ++ [((x.At.toNat + t : Nat) : Int)] = S ++ (nums x).take (t + 1) := by
        rw [take_getD (d := 0) (by omega : t < (nums x).length), List.append_assoc]
        congr 3
        rw [getD_lt (by omega)]
        simp [nums]
        omega
      rw [e]
      exact ih
  have := key 0 (by omega)
  simpa using this
def before (r : List api_Run) (i : Nat) : Int := if i = 0 then -1 else (r.getD (i - 1) default).At + (r.getD (i - 1) default).Len
theorem join_l1 {r : List api_Run} {q : List Int} (hq : MayP q) (hr : r.length ≤ 1000000) : ∀ i, i ≤ r.length → ∀ (S : List Int), (0 < i → 0 ≤ before r i ∧ before r i ≤ 16) →
    E1 (fun K k => herbariumref3_Join.l1 K r q k (i : Int) (mk S)) (if OkR (before r i) (r.drop i) then (if ∀ x ∈ q, x ∉ S ++ alls (r.drop i) then (flt (S ++ alls (r.drop i) ++ q), true) else ([], false)) else ([], false)) := by
  refine upto ?_ ?_
  · intro S hb
    refine step1 (fun _ _ _ _ _ => herbariumref3_Join.l1.eq_2 ..) ?_
    refine negD (by omega) ?_
    rw [List.drop_length, if_pos (show OkR (before r r.length) [] from trivial), show alls [] = [] from rfl, List.append_nil]
    have := join_l3 (S := S) hq 0 (by omega)
    simp only [List.take_zero, List.append_nil, List.drop_zero] at this
    exact this.e1
  · intro i hi ih S hb
    refine step1 (fun _ _ _ _ _ => herbariumref3_Join.l1.eq_2 ..) ?_
    refine posD (by omega) (pos (by omega) ?_)
    simp only [origin_eq]
    rw [rdR, drop_getD (d := default) hi]
    have hnext : before r (i + 1) = (r.getD i default).At + (r.getD i default).Len := by simp [before]
    generalize r.getD i default = x at *
    refine bnd (now _) ?_
    by_cases c4 : ¬ (0 ≤ x.At ∧ x.At ≤ 15)
    · rw [if_neg (fun h => c4 (by have := h.1; omega))]
      exact posM c4 (now _)
    have c4 := Classical.not_not.1 c4
    refine negM c4 ?_
    by_cases c1 : x.Len < 3
    · rw [if_neg (fun h => by have := h.1.1; omega)]
      exact posD c1 (now _)
    refine negD c1 ?_
    rw [w64 (i := 16 - x.At) (by omega) (by omega)]
    by_cases c2 : x.Len > 16 - x.At
    · rw [if_neg (fun h => by have := h.1; omega)]
      exact posD c2 (now _)
    refine negD c2 ?_
    have go : before r i < x.At → E1 (fun K k => herbariumref3_Join.l2 K (herbariumref3_Join.l1 K r q k) (i : Int) r q K 0 (mk S) x.At x.Len)
        (if OkR (before r i) (x :: r.drop (i + 1)) then (if ∀ y ∈ q, y ∉ S ++ alls (x :: r.drop (i + 1)) then (flt (S ++ alls (x :: r.drop (i + 1)) ++ q), true) else ([], false)) else ([], false)) := by
      intro hlt
      have hx : 3 ≤ x.Len ∧ before r i < x.At ∧ 0 ≤ x.At ∧ x.At ≤ 15 ∧ x.At + x.Len ≤ 16 := by omega
      refine Ev.e2 (join_l2 (go := fun K k => herbariumref3_Join.l1 K r q k) (by omega) (by omega) (by omega) ?_)
      rw [w1 (by omega)]
      refine ofEq (ih (S ++ nums x) (fun _ => by rw [hnext]; omega)) ?_
      rw [hnext, alls_cons]
      by_cases ho : OkR (x.At + x.Len) (r.drop (i + 1))
      · rw [if_pos ho, if_pos (show OkR (before r i) (x :: r.drop (i + 1)) from ⟨hx, ho⟩)]
        simp only [List.append_assoc]
      · rw [if_neg ho, if_neg (show ¬ OkR (before r i) (x :: r.drop (i + 1)) from fun h => ho h.2)]
    by_cases h0 : i = 0
    · refine negD (by omega) (go ?_)
      simp [before, h0]; omega
    · have e1 : wr .i64 ((i : Int) - 1) = ((i - 1 : Nat) : Int) := by rw [w64 (by omega) (by omega)]; omega
      rw [e1, rdR]
      have hb' := hb (by omega)
      have hbe : (r.getD (i - 1) default).At + (r.getD (i - 1) default).Len = before r i := by simp [before, h0]
      rw [hbe, w64 (i := before r i) (by omega) (by omega)]
      refine posD (by omega) (pos (by omega) (pos (by omega) ?_))
      by_cases c3 : x.At ≤ before r i
      · rw [if_neg (fun h => by have := h.1; omega)]
        exact posD c3 (now _)
      · exact negD c3 (go (by omega))
theorem RJoin_ev {r : List api_Run} {q : List Int} (hq : q.length ≤ 1000000) (hr : r.length ≤ 1000000) : E0 (fun K => herbariumref3_Join K r q) (match join r q with | some l => (l, true) | none => ([], false)) := by
  refine bnd (may3_ev q (by omega)) ?_
  unfold join
  by_cases h2 : ¬ MayP q
  · rw [if_neg (show ¬ (OkR (-1) r ∧ MayP q ∧ MayP (sortF (q ++ alls r))) from fun h => h2 h.2.1)]
    exact posM h2 (now _)
  have h2 := Classical.not_not.1 h2
  refine negM h2 ?_
  rw [mk_nil]
  refine ofEq (join_l1 h2 hr 0 (by omega) [] (fun h => by omega)).e1 ?_
  rw [show before r 0 = -1 from rfl, List.drop_zero, List.nil_append]
  by_cases h1 : ¬ OkR (-1) r
  · rw [if_neg h1, if_neg (show ¬ (OkR (-1) r ∧ MayP q ∧ MayP (sortF (q ++ alls r))) from fun h => h1 h.1)]
  have h1 := Classical.not_not.1 h1
  rw [if_pos h1]
  have hs := sort_may h2 h1.nodup (fun x hx => by have := h1.mem x hx; omega)
  by_cases h3 : ∀ x ∈ q, x ∉ alls r
  · rw [if_pos h3, if_pos (show OkR (-1) r ∧ MayP q ∧ MayP (sortF (q ++ alls r)) from ⟨h1, h2, hs.2 h3⟩)]
    obtain ⟨q1, q2⟩ := (mayP_iff _).1 h2
    have hn : (q ++ alls r).Nodup := List.nodup_append.2 ⟨nodup_of_lt q1, h1.nodup, fun x hx y hy e => h3 x hx (e ▸ hy)⟩
    rw [sort_flt (S := alls r ++ q) hn (fun x hx => (List.mem_append.1 hx).elim (q2 x) (fun hx => by have := h1.mem x hx; omega)) (fun x => by simp [List.mem_append, or_comm])]
  · rw [if_neg h3, if_neg (show ¬ (OkR (-1) r ∧ MayP q ∧ MayP (sortF (q ++ alls r))) from fun h => h3 (hs.1 h.2.2))]
end Go.XL
end
section
namespace Go.XL
open Go.XM
theorem le8 {n c : Nat} (h : n * c ≤ 140737488351232) (hc : 8 ≤ c) : n ≤ 17592186044416 := by
  have := Nat.mul_le_mul_left n hc
  omega
theorem copy_ev (xs : List Int) (h : xs.length ≤ 1000000) : E0 (fun K => herbariumref0_CopyNumbers K xs) xs := by
  have key : ∀ i, i ≤ xs.length → E1 (fun K k => herbariumref0_CopyNumbers.l1 K xs k (i : Int) (xs.take i)) xs := by
    refine upto ?_ ?_
    · refine step1 (fun _ _ _ _ _ => herbariumref0_CopyNumbers.l1.eq_2 ..) ?_
      exact negD (by omega) (nowE (List.take_length))
    · intro i hi ih
      refine step1 (fun _ _ _ _ _ => herbariumref0_CopyNumbers.l1.eq_2 ..) ?_
      refine posD (by omega) (pos (by omega) (pos (by simp; omega) ?_))
      rw [rdN, w1 (by omega), ← take_getD hi]
      exact ih
  exact (key 0 (by omega)).e1
theorem nums_ev (xs : List Int) (hl : xs.length ≤ 1000000) : E0 (fun K => herbariumlaw0_Numbers K xs) () := by
  have key : ∀ i, i ≤ xs.length → ∀ ys : List Int, ys.length = xs.length → E1 (fun K k => herbariumlaw0_Numbers.l1 K k (i : Int) ys) () := by
    refine upto ?_ ?_
    · intro ys hy
      refine step1 (fun _ _ _ _ _ => herbariumlaw0_Numbers.l1.eq_2 ..) ?_
      exact negD (by omega) (now _)
    · intro i hi ih ys hy
      refine step1 (fun _ _ _ _ _ => herbariumlaw0_Numbers.l1.eq_2 ..) ?_
      refine posD (by omega) (pos (by omega) ?_)
      rw [w1 (by omega)]
      exact ih _ (by rw [List.length_set]; exact hy)
  exact (key 0 (by omega) xs rfl).e1
theorem ext_getR {xs ys : List api_Run} (hl : xs.length = ys.length) (h : ∀ j, j < xs.length → xs.getD j default = ys.getD j default) : xs = ys := by
  refine List.ext_getElem hl fun j h1 h2 => ?_
  have := h j h1
  rwa [getD_lt h1, getD_lt h2] at this
theorem eqRun (a b : api_Run) : (!((a.At == b.At) && ((a.Len == b.Len) && true))) = !decide (a = b) := by
  obtain ⟨a1, a2⟩ := a
  obtain ⟨b1, b2⟩ := b
  show (!((a1 == b1) && ((a2 == b2) && true))) = _
  rw [Bool.eq_iff_iff]; simp [Prod.ext_iff]
theorem eqr_ev (xs ys : List api_Run) (h : xs.length ≤ 1000000) : E0 (fun K => herbariumref0_EqRuns K xs ys) (decide (xs = ys)) := by
  unfold herbariumref0_EqRuns
  by_cases hl : xs.length = ys.length
  · have key : ∀ i, i ≤ xs.length → (∀ j, j < i → xs.getD j default = ys.getD j default) → E1 (fun K k => herbariumref0_EqRuns.l1 K xs ys k (i : Int)) (decide (xs = ys)) := by
      refine upto ?_ ?_
      · intro hd
        refine step1 (fun _ _ _ _ _ => herbariumref0_EqRuns.l1.eq_2 ..) ?_
        exact negD (by omega) (nowE (by rw [ext_getR hl hd]; simp))
      · intro i hi ih hd
        refine step1 (fun _ _ _ _ _ => herbariumref0_EqRuns.l1.eq_2 ..) ?_
        refine posD (by omega) (pos (by omega) (pos (by omega) ?_))
        rw [rdR, rdR, w1 (by omega), eqRun]
        by_cases e : xs.getD i default = ys.getD i default
        · refine negM e (ih fun j hj => ?_)
          by_cases q : j = i
          · rw [q]; exact e
          · exact hd j (by omega)
        · refine posM e (nowE ?_)
          have : ¬ xs = ys := fun h => e (by rw [h])
          simp [this]
    exact negN (by omega) (key 0 (by omega) (fun j hj => by omega)).e1
  · refine posN (by omega) (nowE ?_)
    have : ¬ xs = ys := fun h => hl (by rw [h])
    simp [this]
abbrev zB : api_Bits := default
theorem rdBits (xs : List api_Bits) (i : Nat) : nth xs (i : Int) = xs.getD i zB := nthN xs i
theorem bweight_ev (bs : List api_Bits) (hl : bs.length ≤ 17592186044416) (hx : ∀ b ∈ bs, b.1.size ≤ 140737488351232) :
    ∃ r : Int, E0 (fun K => herbariumlaw0_BitsWeight K bs) r ∧ 0 ≤ r ∧ r ≤ 52776558133248 ∧ (r < 1048576 → (bs.length : Int) ≤ r ∧ ∀ b ∈ bs, (b.1.size : Int) ≤ 4 * r + 3) := by
  have key : ∀ i, i ≤ bs.length → ∀ s : Int, 0 ≤ s → s ≤ 40000000000000 → ∃ r : Int, E1 (fun K k => herbariumlaw0_BitsWeight.l1 K bs k s (i : Int)) r ∧ 0 ≤ r ∧ r ≤ 52776558133248 ∧ s ≤ r ∧ (r < 1048576 → ∀ b ∈ bs.drop i, (b.1.size : Int) ≤ 4 * r + 3) := by
    refine upto ?_ ?_
    · intro s h0 h1
      refine ⟨s, ?_, h0, by omega, by omega, fun _ => by simp⟩
      refine step1 (fun _ _ _ _ _ => herbariumlaw0_BitsWeight.l1.eq_2 ..) ?_
      exact negD (by omega) (now s)
    · intro i hi ih s h0 h1
      by_cases hs : s < 1048576
      · have hb := hx _ (getD_mem (d := zB) hi)
        have e4 : (((bs.getD i zB).1.size : Nat) : Int).tdiv 4 = (((bs.getD i zB).1.size / 4 : Nat) : Int) := Int.ofNat_tdiv _ 4 |>.symm
        obtain ⟨r, h, a, b, l, c⟩ := ih (s + (((bs.getD i zB).1.size / 4 : Nat) : Int)) (by omega) (by omega)
        refine ⟨r, ?_, a, b, by omega, fun hr => ?_⟩
        · refine step1 (fun _ _ _ _ _ => herbariumlaw0_BitsWeight.l1.eq_2 ..) ?_
          refine posD (by omega) (posD hs (pos (by omega) (pos (by decide) ?_)))
          rw [rdBits, e4, w64 (i := (((bs.getD i zB).1.size / 4 : Nat) : Int)) (by omega) (by omega), w64 (by omega) (by omega), w1 (by omega)]
          exact h
        · rw [drop_getD (d := zB) hi]
          intro g hg'
          rcases List.mem_cons.1 hg' with rfl | hg'
          · omega
          · exact c hr g hg'
      · refine ⟨s, ?_, h0, by omega, by omega, fun h => by omega⟩
        refine step1 (fun _ _ _ _ _ => herbariumlaw0_BitsWeight.l1.eq_2 ..) ?_
        exact posD (by omega) (negD hs (now s))
  obtain ⟨r, h, a, b, l, c⟩ := key 0 (by omega) bs.length (by omega) (by omega)
  exact ⟨r, h.e1, a, b, fun hr => ⟨l, by simpa using c hr⟩⟩
theorem heavy3_ev (x : herbariumlaw3_Ask) (hl : x.L.length ≤ 17592186044416) (hx : ∀ y ∈ x.L, y.length ≤ 17592186044416) (hb : x.B.length ≤ 17592186044416) (hb2 : ∀ b ∈ x.B, b.1.size ≤ 140737488351232) (hn : x.N.length ≤ 17592186044416) :
    ∃ b : Bool, E0 (fun K => herbariumlaw3_Heavy K x) b ∧ (b = false → x.L.length ≤ 900 ∧ (∀ y ∈ x.L, y.length ≤ 900) ∧ x.B.length ≤ 900 ∧ (∀ b ∈ x.B, b.1.size ≤ 3603) ∧ x.N.length ≤ 900) := by
  obtain ⟨r, e, r0, r1, r2⟩ := lists_ev x.L hl hx
  obtain ⟨q, f, q0, q1, q2⟩ := bweight_ev x.B hb hb2
  refine ⟨_, bnd e (bnd f (now _)), fun h => ?_⟩
  rw [w64 (i := r + q) (by omega) (by omega), w64 (by omega) (by omega)] at h
  have h : r + q + (x.N.length : Int) ≤ 900 := by simpa using h
  have a1 := r2 (by omega)
  obtain ⟨a2, a3⟩ := q2 (by omega)
  refine ⟨by omega, fun y hy => ?_, by omega, fun b hb => ?_, by omega⟩
  · have := lsum_mem hy; omega
  · have := a3 b hb; omega
def ls3 (x : herbariumlaw3_Ask) : List (List Int) := ([[], [0], [2, 3, 4, 9], [15]] ++ x.L).take 9
theorem lists3_ev (x : herbariumlaw3_Ask) (hl : x.L.length ≤ 900) : E0 (fun K => herbariumlaw3_Lists K x) (ls3 x) := by
  refine congr (f := fun K _ _ _ _ => some (ls3 x)) (fun K _ _ _ _ => ?_) (now _)
  unfold herbariumlaw3_Lists ls3
  rw [if_pos (by simp; omega)]
  by_cases h : ((([([] : List Int), ([0] : List Int), ([2, 3, 4, 9] : List Int), ([15] : List Int)] ++ x.L).length : Nat) : Int) > 9
  · rw [if_pos (decide_eq_true h), if_pos ⟨by decide, by omega⟩]; rfl
  · rw [if_neg (by simpa using h), List.take_of_length_le (by simp at h ⊢; omega)]
theorem ls3_mem {x : herbariumlaw3_Ask} (h : ∀ y ∈ x.L, y.length ≤ 900) : ∀ y ∈ ls3 x, y.length ≤ 900 := by
  intro y hy
  rcases List.mem_append.1 (List.mem_of_mem_take hy) with hy | hy
  · simp only [List.mem_cons, List.not_mem_nil, or_false] at hy
    rcases hy with rfl | rfl | rfl | rfl <;> decide
  · exact h y hy
theorem ls3_len (x : herbariumlaw3_Ask) : (ls3 x).length ≤ 9 := by simp [ls3]; omega
end Go.XL
end
section
namespace Go.XL
open Go.XM
theorem tmodN' (a : Nat) : ((a : Int)).tmod 2 = ((a % 2 : Nat) : Int) := (Int.ofNat_tmod a 2).symm
theorem eqB {a b : Bool} (h : a = b) : ¬ (!(a == b)) = true := by simp [h]
theorem neB {a b : Bool} (h : ¬ a = b) : (!(a == b)) = true := by simpa using h
def blk (l : List Int) : Bool → Int → List Int → List Int
  | _, _, [] => []
  | inn, m, x :: r => if decide (x ∈ l) = inn then blk l inn (m + 1) r else m :: blk l (!inn) 1 r
def cparts (ref l : List Int) : List Int × List Int := (blk l true 0 ref, l.filter fun a => !decide (a ∈ ref))
theorem blk_len (l : List Int) : ∀ (inn : Bool) (m : Int) (r : List Int), (blk l inn m r).length ≤ r.length
  | _, _, [] => Nat.le_refl _
  | inn, m, x :: r => by
    simp only [blk]
    split
    · have := blk_len l inn (m + 1) r; simp; omega
    · have := blk_len l (!inn) 1 r; simp; omega
theorem cp_l2 {ref l bl : List Int} (h1 : ref.length ≤ 1000000) (h2 : l.length ≤ 1000000) : ∀ j, j ≤ l.length → ∀ s : List Int, s.length ≤ j → E1 (fun K k => copies_Parts.l2 K ref l k (l.length : Int) (j : Int) bl s) (bl, s ++ (l.drop j).filter fun a => !decide (a ∈ ref)) := by
  refine upto ?_ ?_
  · intro s hs
    refine step1 (fun _ _ _ _ _ => copies_Parts.l2.eq_2 ..) ?_
    exact negD (by omega) (nowE (by simp))
  · intro j hj ih s hs
    refine step1 (fun _ _ _ _ _ => copies_Parts.l2.eq_2 ..) ?_
    refine posD (by omega) (pos (by omega) ?_)
    rw [rdN, drop_getD (d := 0) hj, w1 (by omega)]
    refine bnd (contains_ev ref (l.getD j 0) h1) ?_
    by_cases h : l.getD j 0 ∈ ref
    · refine negM h ?_
      refine ofEq (ih s (by omega)) ?_
      rw [List.filter_cons_of_neg (by simpa using h)]
    · refine posM h (pos (by simp; omega) ?_)
      refine ofEq (ih (s ++ [l.getD j 0]) (by simp; omega)) ?_
      rw [List.filter_cons_of_pos (by simpa using h)]; simp
theorem cp_l1 {ref l : List Int} (h1 : ref.length ≤ 1000000) (h2 : l.length ≤ 1000000) : ∀ i, i ≤ ref.length → ∀ (inn : Bool) (m : Int) (b : List Int), 0 ≤ m → m ≤ i → b.length ≤ i →
    E1 (fun K k => copies_Parts.l1 K ref l k inn m (ref.length : Int) (i : Int) b) (b ++ blk l inn m (ref.drop i), l.filter fun a => !decide (a ∈ ref)) := by
  refine upto ?_ ?_
  · intro inn m b hm hm2 hb
    refine step1 (fun _ _ _ _ _ => copies_Parts.l1.eq_2 ..) ?_
    refine negD (by omega) ?_
    refine ofEq (cp_l2 h1 h2 0 (by omega) [] (by simp)).e1 ?_
    rw [List.drop_length]; simp [blk]
  · intro i hi ih inn m b hm hm2 hb
    refine step1 (fun _ _ _ _ _ => copies_Parts.l1.eq_2 ..) ?_
    refine posD (by omega) (pos (by omega) ?_)
    rw [rdN, drop_getD (d := 0) hi, w1 (by omega)]
    refine bnd (contains_ev l (ref.getD i 0) h2) ?_
    by_cases h : decide (ref.getD i 0 ∈ l) = inn
    · refine neg (eqB h) ?_
      rw [w64 (i := m + 1) (by omega) (by omega)]
      refine ofEq (ih inn (m + 1) b (by omega) (by omega) (by omega)) ?_
      simp only [blk, if_pos h]
    · refine pos (neB h) (pos (by simp; omega) ?_)
      rw [w64 (i := 0 + 1) (by omega) (by omega)]
      refine ofEq (ih (!inn) (0 + 1) (b ++ [m]) (by omega) (by omega) (by simp; omega)) ?_
      simp only [blk, if_neg h]; simp
theorem CParts_ev {ref l : List Int} (h1 : ref.length ≤ 1000000) (h2 : l.length ≤ 1000000) : E0 (fun K => copies_Parts K ref l) (cparts ref l) :=
  ofEq (cp_l1 h1 h2 0 (by omega) true 0 [] (by omega) (by omega) (by simp)).e1 (by simp [cparts])
theorem rc_l2 {ref l bl : List Int} (h1 : ref.length ≤ 1000000) (h2 : l.length ≤ 1000000) : ∀ j, j ≤ l.length → ∀ s : List Int, s.length ≤ j → E1 (fun K k => herbariumref3_Copies.l2 K ref l k (j : Int) bl s) (bl, s ++ (l.drop j).filter fun a => !decide (a ∈ ref)) := by
  refine upto ?_ ?_
  · intro s hs
    refine step1 (fun _ _ _ _ _ => herbariumref3_Copies.l2.eq_2 ..) ?_
    exact negD (by omega) (nowE (by simp))
  · intro j hj ih s hs
    refine step1 (fun _ _ _ _ _ => herbariumref3_Copies.l2.eq_2 ..) ?_
    refine posD (by omega) (pos (by omega) ?_)
    rw [rdN, drop_getD (d := 0) hj, w1 (by omega)]
    obtain ⟨v, e, hv⟩ := in_ev ref (l.getD j 0) h1
    refine bnd e ?_
    by_cases h : l.getD j 0 ∈ ref
    · have := hv.2 h
      refine negD (by omega) ?_
      refine ofEq (ih s (by omega)) ?_
      rw [List.filter_cons_of_neg (by simpa using h)]
    · have : ¬ 0 ≤ v := fun k => h (hv.1 k)
      refine posD (by omega) (pos (by omega) (pos (by simp; omega) ?_))
      refine ofEq (ih (s ++ [l.getD j 0]) (by simp; omega)) ?_
      rw [List.filter_cons_of_pos (by simpa using h)]; simp
theorem rc_l1 {ref l : List Int} (h1 : ref.length ≤ 1000000) (h2 : l.length ≤ 1000000) : ∀ i, i ≤ ref.length → ∀ (inn : Bool) (m : Int) (b : List Int), 0 ≤ m → m ≤ i → b.length ≤ i →
    E1 (fun K k => herbariumref3_Copies.l1 K ref l k inn m (i : Int) b) (b ++ blk l inn m (ref.drop i), l.filter fun a => !decide (a ∈ ref)) := by
  refine upto ?_ ?_
  · intro inn m b hm hm2 hb
    refine step1 (fun _ _ _ _ _ => herbariumref3_Copies.l1.eq_2 ..) ?_
    refine negD (by omega) ?_
    refine ofEq (rc_l2 h1 h2 0 (by omega) [] (by simp)).e1 ?_
    rw [List.drop_length]; simp [blk]
  · intro i hi ih inn m b hm hm2 hb
    refine step1 (fun _ _ _ _ _ => herbariumref3_Copies.l1.eq_2 ..) ?_
    refine posD (by omega) (pos (by omega) ?_)
    rw [rdN, drop_getD (d := 0) hi, w1 (by omega)]
    obtain ⟨v, e, hv⟩ := in_ev l (ref.getD i 0) h2
    refine bnd e ?_
    have hd : decide (v ≥ 0) = decide (ref.getD i 0 ∈ l) := by rw [Bool.eq_iff_iff]; simpa using hv
    simp only [hd]
    by_cases h : decide (ref.getD i 0 ∈ l) = inn
    · refine neg (eqB h) ?_
      rw [w64 (i := m + 1) (by omega) (by omega)]
      refine ofEq (ih inn (m + 1) b (by omega) (by omega) (by omega)) ?_
      simp only [blk, if_pos h]
    · have h' : decide (ref.getD i 0 ∈ l) = !inn := by cases inn <;> cases hq : decide (ref.getD i 0 ∈ l) <;> simp_all
      refine pos (neB h) (pos (by simp; omega) ?_)
      rw [w64 (i := 0 + 1) (by omega) (by omega), h']
      refine ofEq (ih (!inn) (0 + 1) (b ++ [m]) (by omega) (by omega) (by simp; omega)) ?_
      simp only [blk, if_neg h]; simp
theorem RCopies_ev {ref l : List Int} (h1 : ref.length ≤ 1000000) (h2 : l.length ≤ 1000000) : E0 (fun K => herbariumref3_Copies K ref l) (cparts ref l) :=
  ofEq (rc_l1 h1 h2 0 (by omega) true 0 [] (by omega) (by omega) (by simp)).e1 (by simp [cparts])
theorem of_ev {ref l : List Int} (h1 : ref.length ≤ 1000000) (h2 : l.length ≤ 1000000) : E0 (fun K => copies_Of K ref l) (if MayP ref ∧ MayP l then ((cparts ref l).1, (cparts ref l).2, 0) else ([], [], 1)) := by
  refine bnd (gmay_ev ref (by omega)) ?_
  by_cases a : MayP ref
  · refine negM a (bnd (gmay_ev l (by omega)) ?_)
    by_cases b : MayP l
    · rw [if_pos ⟨a, b⟩]
      exact negM b (bnd (CParts_ev h1 h2) (now _))
    · rw [if_neg (fun h => b h.2)]
      exact posM b (now _)
  · rw [if_neg (fun h => a h.1)]
    exact posM a (now _)
def pk : Bool → List Int → List Int → Option (List Int)
  | inn, left, [] => some (if inn then left else [])
  | inn, left, n :: bs => if n < 0 ∨ n > left.length then none else (pk (!inn) (left.drop n.toNat) bs).map fun r => (if inn then left.take n.toNat else []) ++ r
def cjoin (ref bl q : List Int) : Option (List Int) := match pk true ref bl with
  | none => none
  | some P => if MayP ref ∧ MayP q ∧ MayP (sortF (q ++ P)) ∧ cparts ref (sortF (q ++ P)) = (bl, q) then some (sortF (q ++ P)) else none
theorem cw_j3 {ref bl q t : List Int} (h1 : ref.length ≤ 1000000) (h2 : bl.length ≤ 1000000) (h3 : q.length ≤ 1000000) (h4 : t.length ≤ 1000000) :
    ∃ l : List Int, E0 (fun K => copies_Whole.j3 K ref bl q t) (l, decide (MayP (sortF t) ∧ cparts ref (sortF t) = (bl, q))) ∧ (MayP (sortF t) ∧ cparts ref (sortF t) = (bl, q) → l = sortF t) := by
  have hs : (sortF t).length ≤ 1000000 := by rw [sort_len]; exact h4
  by_cases hm : MayP (sortF t)
  · refine ⟨sortF t, pos (by omega) (bnd (gmay_ev _ (by omega)) (negM hm (bnd (CParts_ev h1 hs) ?_))), fun _ => rfl⟩
    have hb : (cparts ref (sortF t)).1.length ≤ 1000000 := Nat.le_trans (blk_len _ _ _ _) h1
    have hq : (cparts ref (sortF t)).2.length ≤ 1000000 := Nat.le_trans (List.length_filter_le _ _) hs
    refine bnd (equal_ev _ _ hb) ?_
    by_cases e1 : (cparts ref (sortF t)).1 = bl
    · refine pos (decide_eq_true e1) (bnd (equal_ev _ _ hq) (nowE ?_))
      congr 1
      rw [Bool.eq_iff_iff]; simp [hm, Prod.ext_iff, e1]
    · refine neg (by simpa using e1) (nowE ?_)
      congr 1
      rw [Bool.eq_iff_iff]; simp [hm, Prod.ext_iff, e1]
  · refine ⟨[], pos (by omega) (bnd (gmay_ev _ (by omega)) (posM hm (nowE ?_))), fun h => absurd h.1 hm⟩
    simp [hm]
theorem cw_l1 {ref bl q : List Int} (h1 : ref.length ≤ 1000) (h2 : bl.length ≤ 1000) (h3 : q.length ≤ 10000) : ∀ i, i ≤ bl.length → ∀ (left : List Int) (inn : Bool) (s : List Int), left.length ≤ 1000 → s.length + left.length ≤ 100000 →
    ∃ l : List Int, E1 (fun K k => copies_Whole.l1 K ref bl q k left inn (bl.length : Int) (i : Int) s)
      (match pk inn left (bl.drop i) with
      | none => ([], false)
      | some P => (l, decide (MayP (sortF (s ++ P)) ∧ cparts ref (sortF (s ++ P)) = (bl, q)))) ∧
      ∀ P, pk inn left (bl.drop i) = some P → MayP (sortF (s ++ P)) ∧ cparts ref (sortF (s ++ P)) = (bl, q) → l = sortF (s ++ P) := by
  refine upto ?_ ?_
  · intro left inn s hl hs
    have hj := cw_j3 (ref := ref) (bl := bl) (q := q) (t := s ++ if inn then left else []) (by omega) (by omega) (by omega) (by cases inn <;> simp <;> omega)
    obtain ⟨l, e, hl2⟩ := hj
    refine ⟨l, ?_, fun P hP h => ?_⟩
    · refine step1 (fun _ _ _ _ _ => copies_Whole.l1.eq_2 ..) ?_
      refine negD (by omega) ?_
      rw [List.drop_length]
      simp only [pk]
      cases inn with
      | true => exact pos rfl (pos (by omega) e)
      | false =>
        refine negB rfl ?_
        simpa using e
    · rw [List.drop_length] at hP
      simp only [pk, Option.some.injEq] at hP
      subst hP
      exact hl2 h
  · intro i hi ih left inn s hl hs
    rw [drop_getD (d := 0) hi]
    generalize hn : bl.getD i 0 = n
    simp only [pk]
    by_cases c : n < 0 ∨ n > left.length
    · rw [if_pos c]
      refine ⟨[], ?_, fun P h => by cases h⟩
      refine step1 (fun _ _ _ _ _ => copies_Whole.l1.eq_2 ..) ?_
      refine posD (by omega) (pos (by omega) ?_)
      rw [rdN, hn]
      by_cases c1 : n < 0
      · exact posD c1 (now _)
      · exact negD c1 (posD (by omega) (now _))
    · rw [if_neg c]
      obtain ⟨l, e, hl2⟩ := ih (left.drop n.toNat) (!inn) (s ++ (if inn then left.take n.toNat else [])) (by simp; omega) (by cases inn <;> simp <;> omega)
      refine ⟨l, ?_, fun P hP h => ?_⟩
      · refine step1 (fun _ _ _ _ _ => copies_Whole.l1.eq_2 ..) ?_
        refine posD (by omega) (pos (by omega) ?_)
        rw [rdN, hn]
        refine negD (by omega) (negD (by omega) ?_)
        have hj2 : E1 (fun K k => copies_Whole.j2 K (copies_Whole.l1 K ref bl q k) (bl.length : Int) (i : Int) left inn ref bl q n (s ++ (if inn then left.take n.toNat else [])))
            (match (pk (!inn) (left.drop n.toNat) (bl.drop (i + 1))).map fun r => (if inn then left.take n.toNat else []) ++ r with
            | none => ([], false)
            | some P => (l, decide (MayP (sortF (s ++ P)) ∧ cparts ref (sortF (s ++ P)) = (bl, q)))) := by
          refine pos (by omega) ?_
          have e1 : (left.drop n.toNat).take (((left.length : Nat) : Int).toNat - n.toNat) = left.drop n.toNat := List.take_of_length_le (by simp)
          rw [e1, w1 (by omega)]
          refine ofEq e ?_
          cases pk (!inn) (left.drop n.toNat) (bl.drop (i + 1)) with
          | none => rfl
          | some P => simp only [Option.map_some, List.append_assoc]
        cases inn with
        | true =>
          refine pos rfl (pos (by omega) (pos (by simp; omega) ?_))
          simpa using hj2
        | false =>
          refine negB rfl ?_
          simpa using hj2
      · rw [Option.map_eq_some_iff] at hP
        obtain ⟨P', hP', rfl⟩ := hP
        rw [← List.append_assoc] at h ⊢
        exact hl2 P' hP' h
theorem CJoin_ev {ref bl q : List Int} (h1 : ref.length ≤ 1000) (h2 : bl.length ≤ 1000) (h3 : q.length ≤ 10000) : E0 (fun K => copies_Join K ref bl q) (match (if MayP ref ∧ MayP q then cjoin ref bl q else none) with | some l => (l, 0) | none => ([], 1)) := by
  refine bnd (gmay_ev ref (by omega)) ?_
  by_cases a : MayP ref
  · refine negM a (bnd (gmay_ev q (by omega)) ?_)
    by_cases b : MayP q
    · rw [if_pos ⟨a, b⟩]
      refine negM b ?_
      obtain ⟨l, e, hl⟩ := cw_l1 h1 h2 h3 0 (by omega) ref true q (by omega) (by omega)
      rw [List.drop_zero] at e hl
      have hw : E0 (fun K => copies_Whole K ref bl q) _ := bnd (congr (fun K _ _ _ _ => clone_eq K q (by omega)) (now _)) e.e1
      unfold cjoin
      cases hp : pk true ref bl with
      | none =>
        rw [hp] at hw
        exact bnd hw (pos rfl (now _))
      | some P =>
        rw [hp] at hw
        by_cases hh : MayP (sortF (q ++ P)) ∧ cparts ref (sortF (q ++ P)) = (bl, q)
        · simp only [if_pos (show MayP ref ∧ MayP q ∧ MayP (sortF (q ++ P)) ∧ cparts ref (sortF (q ++ P)) = (bl, q) from ⟨a, b, hh⟩)]
          rw [← hl P hp hh]
          refine bnd hw (neg (by simp [hh]) (now _))
        · simp only [if_neg (show ¬ (MayP ref ∧ MayP q ∧ MayP (sortF (q ++ P)) ∧ cparts ref (sortF (q ++ P)) = (bl, q)) from fun h => hh h.2.2)]
          refine bnd hw (pos (by simp only [decide_eq_false hh]; rfl) (now _))
    · rw [if_neg (fun h => b h.2)]
      exact posM b (now _)
  · rw [if_neg (fun h => a h.1)]
    exact posM a (now _)
end Go.XL
end
section
namespace Go.XL
open Go.XM
def fin (ref bl q S : List Int) : List Int × Bool := (flt (S ++ q), decide (cparts ref (flt (S ++ q)) = (bl, q)))
theorem jc_l5 {ref bl q : List Int} (h1 : ref.length ≤ 1000) (h2 : bl.length ≤ 1000) (h3 : q.length ≤ 1000) {S : List Int} : ∀ t, t ≤ 16 → ∀ acc : List Int, acc.length ≤ t →
    E1 (fun K k => herbariumref3_JoinCopies.l5 K ref bl q k (t : Int) (mk S) acc) (acc ++ (U16.drop t).filter (fun a => decide (a ∈ S)), decide (cparts ref (acc ++ (U16.drop t).filter (fun a => decide (a ∈ S))) = (bl, q))) := by
  refine upto ?_ ?_
  · intro acc ha
    refine step1 (fun _ _ _ _ _ => herbariumref3_JoinCopies.l5.eq_2 ..) ?_
    refine negD (by omega) ?_
    rw [List.drop_eq_nil_of_le (by rw [U16_len]; omega), List.filter_nil, List.append_nil]
    have hb : (cparts ref acc).1.length ≤ 1000000 := Nat.le_trans (blk_len _ _ _ _) (by omega)
    have hq : (cparts ref acc).2.length ≤ 1000000 := Nat.le_trans (List.length_filter_le _ _) (by omega)
    refine bnd (RCopies_ev (by omega) (by omega)) (bnd (eqn_ev _ _ hb) ?_)
    by_cases e1 : (cparts ref acc).1 = bl
    · refine pos (decide_eq_true e1) (bnd (eqn_ev _ _ hq) (nowE ?_))
      congr 1
      rw [Bool.eq_iff_iff]; simp [Prod.ext_iff, e1]
    · refine neg (by simpa using e1) (nowE ?_)
      congr 1
      rw [Bool.eq_iff_iff]; simp [Prod.ext_iff, e1]
  · intro t ht ih acc ha
    refine step1 (fun _ _ _ _ _ => herbariumref3_JoinCopies.l5.eq_2 ..) ?_
    refine posD (by omega) (pos ⟨⟨by omega, by rw [mk_len]; omega⟩, mk_len S⟩ ?_)
    rw [rdB, mk_get ht, drop_getD (d := 0) (by rw [U16_len]; exact ht : t < U16.length), U16_get ht, w1 (by omega)]
    by_cases h : (t : Int) ∈ S
    · refine pos (decide_eq_true h) (pos (by simp; omega) ?_)
      refine ofEq (ih (acc ++ [(t : Int)]) (by simp; omega)) ?_
      rw [List.filter_cons_of_pos (by simpa using h), List.append_assoc]; rfl
    · refine neg (by simpa using h) ?_
      refine ofEq (ih acc (by omega)) ?_
      rw [List.filter_cons_of_neg (by simpa using h)]
theorem jc_l4 {ref bl q : List Int} (h1 : ref.length ≤ 1000) (h2 : bl.length ≤ 1000) (hq : MayP q) {S : List Int} : ∀ j, j ≤ q.length → E1 (fun K k => herbariumref3_JoinCopies.l4 K ref bl q k (j : Int) (mk (S ++ q.take j))) (fin ref bl q S) := by
  have hlen := hq.len
  obtain ⟨q1, q2⟩ := (mayP_iff _).1 hq
  refine upto ?_ ?_
  · refine step1 (fun _ _ _ _ _ => herbariumref3_JoinCopies.l4.eq_2 ..) ?_
    refine negD (by omega) ?_
    rw [List.take_length]
    refine ofEq (jc_l5 h1 h2 (by omega) 0 (by omega) [] (by simp)).e1 ?_
    simp [fin, flt]
  · intro j hj ih
    refine step1 (fun _ _ _ _ _ => herbariumref3_JoinCopies.l4.eq_2 ..) ?_
    obtain ⟨x0, x1⟩ := q2 _ (getD_mem (d := 0) hj)
    rw [rdN]
    obtain ⟨n, hn⟩ := Int.eq_ofNat_of_zero_le x0
    have hn16 : n < 16 := by omega
    rw [hn]
    refine posD (by omega) (pos (by omega) (pos ⟨⟨by omega, by rw [mk_len]; omega⟩, mk_len _⟩ ?_))
    rw [Int.toNat_natCast, mk_set hn16, w1 (by omega)]
    have e : S ++ q.take j ++ [(n : Int)] = S ++ q.take (j + 1) := by rw [take_getD (d := 0) hj, hn, List.append_assoc]
    rw [e]
    exact ih
theorem jc_l3 {go : Nat → Nat → Int → Int → List Bool → Option (List Int × Bool)} {ref bl q : List Int} (hr : MayP ref) {at_ n i : Nat} (hn : at_ + n ≤ ref.length) {S : List Int} {z : List Int × Bool}
    (hgo : Ev (fun K k _ _ _ => go K k ((at_ + n : Nat) : Int) (wr .i64 ((i : Int) + 1)) (mk (S ++ if i % 2 = 0 then (ref.drop at_).take n else []))) z) :
    E2 (fun K k k' => herbariumref3_JoinCopies.l3 K (go K k) (at_ : Int) (i : Int) (n : Int) ref bl q k' 0 (mk S)) z := by
  have hlen := hr.len
  obtain ⟨q1, q2⟩ := (mayP_iff _).1 hr
  have e0 : wr .i64 ((at_ : Int) + (n : Int)) = ((at_ + n : Nat) : Int) := by rw [w64 (by omega) (by omega)]; omega
  have em : ((i : Int).tmod 2) = ((i % 2 : Nat) : Int) := tmodN' i
  by_cases hp : i % 2 = 0
  · rw [if_pos hp] at hgo
    have key : ∀ t, t ≤ n → E2 (fun K k k' => herbariumref3_JoinCopies.l3 K (go K k) (at_ : Int) (i : Int) (n : Int) ref bl q k' (t : Int) (mk (S ++ (ref.drop at_).take t))) z := by
      refine upto ?_ ?_
      · refine step2 (fun _ _ _ _ _ => herbariumref3_JoinCopies.l3.eq_2 ..) ?_
        refine negD (by omega) ?_
        rw [e0]; exact hgo
      · intro t ht ih
        refine step2 (fun _ _ _ _ _ => herbariumref3_JoinCopies.l3.eq_2 ..) ?_
        have e1 : wr .i64 ((at_ : Int) + (t : Int)) = ((at_ + t : Nat) : Int) := by rw [w64 (by omega) (by omega)]; omega
        obtain ⟨x0, x1⟩ := q2 _ (getD_mem (d := 0) (show at_ + t < ref.length by omega))
        obtain ⟨m, hm⟩ := Int.eq_ofNat_of_zero_le x0
        rw [em, e1, rdN, hm]
        refine posD (by omega) (pos (by decide) (posE (by omega) (pos (by omega) (pos ⟨⟨by omega, by rw [mk_len]; omega⟩, mk_len _⟩ ?_))))
        rw [Int.toNat_natCast, mk_set (by omega), w1 (by omega)]
        have e : S ++ (ref.drop at_).take t ++ [(m : Int)] = S ++ (ref.drop at_).take (t + 1) := by
          rw [take_getD (d := 0) (by simp; omega : t < (ref.drop at_).length), List.append_assoc, ← hm]
          congr 3
          simp [List.getD_eq_getElem?_getD]
        rw [e]
        exact ih
    have := key 0 (by omega)
    simpa using this
  · rw [if_neg hp, List.append_nil] at hgo
    refine step2 (fun _ _ _ _ _ => herbariumref3_JoinCopies.l3.eq_2 ..) ?_
    rw [em, e0]
    by_cases h0 : 0 < n
    · exact posD (by omega) (pos (by decide) (negE (by omega) hgo))
    · exact negD (by omega) hgo
theorem jc_j2 {go : Nat → Nat → Int → Int → List Bool → Option (List Int × Bool)} {ref bl q : List Int} (hr : MayP ref) {at_ i : Nat} {n : Int} (hat : at_ ≤ ref.length) {S : List Int} {z : List Int × Bool} (hbad : n < 0 ∨ n > ((ref.drop at_).length : Int) → z = ([], false))
    (hgo : ¬ (n < 0 ∨ n > ((ref.drop at_).length : Int)) → Ev (fun K k _ _ _ => go K k ((at_ + n.toNat : Nat) : Int) (wr .i64 ((i : Int) + 1)) (mk (S ++ if i % 2 = 0 then (ref.drop at_).take n.toNat else []))) z) :
    E1 (fun K k => herbariumref3_JoinCopies.j2 K (go K k) (mk S) (at_ : Int) (i : Int) ref bl q n) z := by
  have hlen := hr.len
  rw [List.length_drop] at hbad hgo
  by_cases c1 : n < 0
  · rw [hbad (.inl c1)]
    exact posD c1 (now _)
  · refine negD c1 ?_
    rw [w64 (i := (ref.length : Int) - (at_ : Int)) (by omega) (by omega)]
    by_cases c2 : n > (ref.length : Int) - (at_ : Int)
    · rw [hbad (.inr (by omega))]
      exact posD c2 (now _)
    · refine negD c2 ?_
      obtain ⟨m, rfl⟩ := Int.eq_ofNat_of_zero_le (show 0 ≤ n by omega)
      exact (jc_l3 (go := go) hr (by omega) (hgo (by omega))).e2
theorem jc_l1 {ref bl q : List Int} (hr : MayP ref) (hq : MayP q) (hb : bl.length ≤ 16) : ∀ i, i ≤ bl.length → ∀ (at_ : Nat) (S : List Int), at_ ≤ ref.length →
    E1 (fun K k => herbariumref3_JoinCopies.l1 K ref bl q k (at_ : Int) (i : Int) (mk S)) (match pk (decide (i % 2 = 0)) (ref.drop at_) (bl.drop i) with | none => ([], false) | some P => fin ref bl q (S ++ P)) := by
  have hlen := hr.len
  refine upto ?_ ?_
  · intro at_ S hat
    refine step1 (fun _ _ _ _ _ => herbariumref3_JoinCopies.l1.eq_2 ..) ?_
    refine posD (by omega) (negD (by omega) ?_)
    have e1 : wr .i64 ((ref.length : Int) - (at_ : Int)) = ((ref.length - at_ : Nat) : Int) := by rw [w64 (by omega) (by omega)]; omega
    rw [e1, List.drop_length]
    simp only [pk]
    refine jc_j2 (go := fun K k => herbariumref3_JoinCopies.l1 K ref bl q k) hr hat (fun h => absurd h (by rw [List.length_drop]; omega)) fun _ => ?_
    refine step1 (fun _ _ _ _ _ => herbariumref3_JoinCopies.l1.eq_2 ..) ?_
    rw [w1 (by omega)]
    refine negD (by omega) ?_
    rw [Int.toNat_natCast, show (ref.drop at_).take (ref.length - at_) = ref.drop at_ from List.take_of_length_le (by simp)]
    have := jc_l4 (S := S ++ if bl.length % 2 = 0 then ref.drop at_ else []) (ref := ref) (bl := bl) (by omega) (by omega) hq 0 (by omega)
    rw [List.take_zero, List.append_nil] at this
    simpa using this.e1
  · intro i hi ih at_ S hat
    refine step1 (fun _ _ _ _ _ => herbariumref3_JoinCopies.l1.eq_2 ..) ?_
    refine posD (by omega) (posD (by omega) (pos (by omega) ?_))
    rw [rdN, drop_getD (d := 0) hi]
    generalize bl.getD i 0 = n
    simp only [pk]
    refine jc_j2 (go := fun K k => herbariumref3_JoinCopies.l1 K ref bl q k) hr hat (fun h => by rw [if_pos h]) fun h => ?_
    rw [if_neg h, w1 (by omega)]
    rw [List.length_drop] at h
    refine ofEq (ih (at_ + n.toNat) (S ++ if i % 2 = 0 then (ref.drop at_).take n.toNat else []) (by omega)) ?_
    have ep : decide ((i + 1) % 2 = 0) = !decide (i % 2 = 0) := by
      rw [Bool.eq_iff_iff]; simp; omega
    rw [ep, ← List.drop_drop]
    cases pk (!decide (i % 2 = 0)) ((ref.drop at_).drop n.toNat) (bl.drop (i + 1)) with
    | none => rfl
    | some P => simp [List.append_assoc]
theorem pk_sub : ∀ {bl : List Int} {inn : Bool} {left P : List Int}, pk inn left bl = some P → P.Sublist left
  | [], inn, left, P, h => by
    simp only [pk, Option.some.injEq] at h
    subst h
    cases inn <;> simp
  | n :: bl, inn, left, P, h => by
    simp only [pk] at h
    split at h
    · cases h
    · rw [Option.map_eq_some_iff] at h
      obtain ⟨P', h1, rfl⟩ := h
      have h2 := pk_sub h1
      have e : left.Sublist (left.take n.toNat ++ left.drop n.toNat) := by rw [List.take_append_drop]; exact List.Sublist.refl _
      rw [← List.take_append_drop n.toNat left]
      cases inn with
      | true => exact List.Sublist.append (by simp) (by simpa using h2)
      | false => exact List.Sublist.append (by simp) (by simpa using h2)
theorem RJoinC_ev {ref bl q : List Int} (h1 : ref.length ≤ 1000) (h2 : bl.length ≤ 1000) (h3 : q.length ≤ 1000) : ∃ l : List Int, E0 (fun K => herbariumref3_JoinCopies K ref bl q) (match (if MayP ref ∧ MayP q then cjoin ref bl q else none) with | some l => (l, true) | none => (l, false)) := by
  by_cases a : ¬ MayP ref
  · refine ⟨[], bnd (may3_ev ref (by omega)) ?_⟩
    rw [if_neg (fun h => a h.1)]
    exact posM a (now _)
  have a := Classical.not_not.1 a
  by_cases b : ¬ MayP q
  · refine ⟨[], bnd (may3_ev ref (by omega)) (negM a (bnd (may3_ev q (by omega)) ?_))⟩
    rw [if_neg (fun h => b h.2)]
    exact posM b (now _)
  have b := Classical.not_not.1 b
  have hra := a.len
  rw [if_pos ⟨a, b⟩]
  unfold cjoin
  by_cases c : bl.length > 16
  · refine ⟨[], bnd (may3_ev ref (by omega)) (negM a (bnd (may3_ev q (by omega)) (negM b (posD (by omega) (nowE ?_)))))⟩
    cases hp : pk true ref bl with
    | none => rfl
    | some P =>
      have : ¬ (MayP ref ∧ MayP q ∧ MayP (sortF (q ++ P)) ∧ cparts ref (sortF (q ++ P)) = (bl, q)) := by
        rintro ⟨_, _, _, h⟩
        have h1 := congrArg Prod.fst h
        have h2 := blk_len (sortF (q ++ P)) true 0 ref
        have h3 : (cparts ref (sortF (q ++ P))).1.length ≤ ref.length := h2
        rw [h1] at h3
        simp only at h3
        omega
      simp only [if_neg this]
  · have hm := jc_l1 (q := q) a b (show bl.length ≤ 16 by omega) 0 (by omega) 0 [] (by omega)
    rw [List.drop_zero, List.drop_zero] at hm
    have run : ∀ z, (match pk (decide (0 % 2 = 0)) ref bl with | none => ([], false) | some P => fin ref bl q ([] ++ P)) = z → E0 (fun K => herbariumref3_JoinCopies K ref bl q) z := by
      rintro z rfl
      refine bnd (may3_ev ref (by omega)) (negM a (bnd (may3_ev q (by omega)) (negM b (negD (by omega) ?_))))
      rw [mk_nil]
      exact hm.e1
    cases hp : pk true ref bl with
    | none => exact ⟨[], run _ (by rw [show decide (0 % 2 = 0) = true from rfl, hp])⟩
    | some P =>
      obtain ⟨q1, q2⟩ := (mayP_iff _).1 b
      obtain ⟨r1, r2⟩ := (mayP_iff _).1 a
      have hsub := pk_sub hp
      have hPn : P.Nodup := (nodup_of_lt r1).sublist hsub
      have hPb : ∀ x ∈ P, 0 ≤ x ∧ x ≤ 15 := fun x hx => r2 x (hsub.subset hx)
      have hs := sort_may b hPn hPb
      have heq : (∀ x ∈ q, x ∉ P) → sortF (q ++ P) = flt (P ++ q) := fun hd => sort_flt (List.nodup_append.2 ⟨nodup_of_lt q1, hPn, fun x hx y hy e => hd x hx (e ▸ hy)⟩) (fun x hx => (List.mem_append.1 hx).elim (q2 x) (hPb x)) (fun x => by simp [List.mem_append, or_comm])
      refine ⟨flt (P ++ q), run _ ?_⟩
      rw [show decide (0 % 2 = 0) = true from rfl, hp]
      simp only [List.nil_append, fin]
      by_cases hc : cparts ref (flt (P ++ q)) = (bl, q)
      · have hd : ∀ x ∈ q, x ∉ P := by
          intro x hx hx2
          have h2 : (cparts ref (flt (P ++ q))).2 = q := by rw [hc]
          rw [← h2] at hx
          have := (List.mem_filter.1 hx).2
          simp only [Bool.not_eq_true', decide_eq_false_iff_not] at this
          exact this (hsub.subset hx2)
        have hmay := hs.2 hd
        rw [heq hd] at hmay
        simp only [heq hd]
        rw [if_pos ⟨a, b, hmay, hc⟩]
        simp [hc]
      · have : ¬ (MayP ref ∧ MayP q ∧ MayP (sortF (q ++ P)) ∧ cparts ref (sortF (q ++ P)) = (bl, q)) := by
          rintro ⟨_, _, h3, h4⟩
          rw [heq (hs.1 h3)] at h4
          exact hc h4
        simp only [if_neg this]
        simp [hc]
end Go.XL
end
section
namespace Go.XL
open Go.XM
def cj (ref bl q : List Int) : Option (List Int) := if MayP ref ∧ MayP q then cjoin ref bl q else none
theorem cj_len {ref bl q l : List Int} (h : cj ref bl q = some l) : l.length ≤ 16 := by
  unfold cj cjoin at h
  split at h
  · split at h
    · cases h
    · split at h
      · rename_i hh
        cases h
        exact hh.2.2.1.len
      · cases h
  · cases h
theorem wakes5_ev : E0 (fun K => herbariumlaw5_wakes K) true := by
  have m1 : MayP [1, 2, 3] := by decide
  have m2 : MayP [1, 3] := by decide
  have hp : cparts [1, 2, 3] [1, 3] = ([1, 1], []) := by decide
  have ho := of_ev (ref := [1, 2, 3]) (l := [1, 3]) (by decide) (by decide)
  rw [if_pos ⟨m1, m2⟩, hp] at ho
  have hj := CJoin_ev (ref := [1, 2, 3]) (bl := [1, 1]) (q := []) (by decide) (by decide) (by decide)
  have hs : sortF ([] ++ [1, 3]) = [1, 3] := by
    show sortF [1, 3] = [1, 3]
    rw [sort_flt (l := [1, 3]) (S := [1, 3]) (by decide) (by decide) (fun x => Iff.rfl)]; decide
  have hc : (if MayP [1, 2, 3] ∧ MayP ([] : List Int) then cjoin [1, 2, 3] [1, 1] [] else none) = some [1, 3] := by
    rw [if_pos ⟨m1, by decide⟩]
    unfold cjoin
    have : pk true [1, 2, 3] [1, 1] = some [1, 3] := by decide
    rw [this]
    simp only [hs]
    exact if_pos ⟨m1, by decide, m2, hp⟩
  rw [hc] at hj
  refine bnd ho (bnd hj (bnd (now 0) (posE rfl (bnd (now 0) (posE rfl (bnd (eqn_ev _ _ (by decide)) (pos (by decide) (posE (by decide) (bnd (eqn_ev _ _ (by decide)) (nowE ?_))))))))))
  decide
variable {x : herbariumlaw3_Ask} {r25 : List (List Int)}
theorem cof_j7 {go1 : Nat → Nat → Int → Option Bool} {go2 : Nat → Nat → Nat → Int → Option Bool} {go5 : Nat → Nat → Nat → Nat → List Int → Int → List (List Int) → Option Bool} {t10 t11 : Int} {t18 : Nat} {tr : List (List Int)} {q20 l : List Int} {n : Int} (ht : t18 < tr.length) (htl : tr.length ≤ 100) (htr : ∀ r ∈ tr, r.length ≤ 1000) (h : l.length ≤ 1000)
    (hgo : E3 (fun K a b c => go5 K a b c q20 ((t18 + 1 : Nat) : Int) tr) true) : E3 (fun K a b c => herbariumlaw5_CopiesOf.j7 K (go1 K a) (go2 K a b) (go5 K a b c) (tr.getD t18 []) (l, n) r25 t10 t11 tr (t18 : Int) q20 x n l) true := by
  have hr := htr _ (getD_mem (d := []) ht)
  refine bnd (now n) (negN rfl (bnd (eqn_ev l l (by omega)) (negM rfl (pos (by omega) ?_))))
  rw [rd1N]
  refine bnd (eqn_ev _ _ (by omega)) (negM rfl ?_)
  rw [w1 (by omega)]
  exact hgo
theorem cof_j6 {go1 : Nat → Nat → Int → Option Bool} {go2 : Nat → Nat → Nat → Int → Option Bool} {go5 : Nat → Nat → Nat → Nat → List Int → Int → List (List Int) → Option Bool} {t10 : Nat} {t11 : Int} {t18 : Nat} {tr : List (List Int)} {q20 q : List Int} (h10 : t10 < r25.length) (hr25 : ∀ y ∈ r25, y.length ≤ 900) (ht : t18 < tr.length) (htl : tr.length ≤ 100) (htr : ∀ r ∈ tr, r.length ≤ 1000) (hq : q.length ≤ 1000)
    (hgo : E3 (fun K a b c => go5 K a b c q20 ((t18 + 1 : Nat) : Int) tr) true) : E3 (fun K a b c => herbariumlaw5_CopiesOf.j6 K (go1 K a) (go2 K a b) (go5 K a b c) r25 (t10 : Int) t11 tr (t18 : Int) x q20 q) true := by
  have hr := htr _ (getD_mem (d := []) ht)
  have hy := hr25 _ (getD_mem (d := []) h10)
  refine pos (by omega) ?_
  rw [rd1N, rd1N]
  refine bnd (copy_ev _ (by omega)) (pos (by omega) (bnd (CJoin_ev (by omega) (by omega) (by omega)) (pos (by omega) (pos (by omega) ?_))))
  obtain ⟨l, e⟩ := RJoinC_ev (ref := r25.getD t10 []) (bl := tr.getD t18 []) (q := q) (by omega) (by omega) (by omega)
  refine bnd e ?_
  have hl := fun l => cj_len (ref := r25.getD t10 []) (bl := tr.getD t18 []) (q := q) (l := l)
  unfold cj at hl
  cases hc : (if MayP (r25.getD t10 []) ∧ MayP q then cjoin (r25.getD t10 []) (tr.getD t18 []) q else none) with
  | none =>
    refine negB rfl ?_
    exact cof_j7 ht htl htr (by decide) hgo
  | some l' =>
    refine pos rfl ?_
    have := hl l' hc
    exact cof_j7 ht htl htr (by omega) hgo
theorem cof_l5 {go1 : Nat → Nat → Int → Option Bool} {go2 : Nat → Nat → Nat → Int → Option Bool} {t10 t11 : Nat} {tr : List (List Int)} {q20 : List Int} (h10 : t10 < r25.length) (hl25 : r25.length ≤ 9) (h11 : t11 < 100) (hr25 : ∀ y ∈ r25, y.length ≤ 900) (htl : tr.length ≤ 100) (htr : ∀ r ∈ tr, r.length ≤ 1000) (hq : q20.length ≤ 1000)
    (hgo : E2 (fun K a b => go2 K a b ((t11 + 1 : Nat) : Int)) true) : ∀ j, j ≤ tr.length → E3 (fun K a b c => herbariumlaw5_CopiesOf.l5 K (go1 K a) (go2 K a b) r25 (t10 : Int) (t11 : Int) x c q20 (j : Int) tr) true := by
  refine upto ?_ ?_
  · refine step3 (fun _ _ _ _ _ => herbariumlaw5_CopiesOf.l5.eq_2 ..) ?_
    refine negD (by omega) ?_
    rw [w1 (by omega)]
    exact hgo
  · intro j hj ih
    refine step3 (fun _ _ _ _ _ => herbariumlaw5_CopiesOf.l5.eq_2 ..) ?_
    have e1 : (wr .i64 ((j : Int) + (t11 : Int))).tmod ((r25.length : Nat) : Int) = (((j + t11) % r25.length : Nat) : Int) := by
      rw [w64 (by omega) (by omega)]
      exact (Int.ofNat_tmod (j + t11) r25.length).symm
    have e2 : (j + t11) % r25.length < r25.length := Nat.mod_lt _ (by omega)
    rw [e1, rd1N]
    have hy := hr25 _ (getD_mem (d := []) e2)
    refine posD (by omega) (pos (by omega) (pos (by omega) ?_))
    by_cases h0 : (j : Int) = 0
    · exact posE h0 (cof_j6 (go5 := fun K a b c => herbariumlaw5_CopiesOf.l5 K (go1 K a) (go2 K a b) r25 (t10 : Int) (t11 : Int) x c) h10 hr25 hj htl htr hq ih)
    · exact negE h0 (cof_j6 (go5 := fun K a b c => herbariumlaw5_CopiesOf.l5 K (go1 K a) (go2 K a b) r25 (t10 : Int) (t11 : Int) x c) h10 hr25 hj htl htr (by omega) ih)
theorem cof_j3 {go1 : Nat → Nat → Int → Option Bool} {go2 : Nat → Nat → Nat → Int → Option Bool} {t10 t11 : Nat} {a1 a2 : List Int} {e : Int} (h10 : t10 < r25.length) (hl25 : r25.length ≤ 9) (h11 : t11 < 100) (hr25 : ∀ y ∈ r25, y.length ≤ 900) (hN : x.N.length ≤ 900) (h1 : a1.length ≤ 900) (h2 : a2.length ≤ 900)
    (hgo : E2 (fun K a b => go2 K a b ((t11 + 1 : Nat) : Int)) true) : E2 (fun K a b => herbariumlaw5_CopiesOf.j3 K (go1 K a) (go2 K a b) r25 (a1, a2, e) (t10 : Int) (t11 : Int) x e a1 a2) true := by
  refine bnd (now e) (negN rfl (bnd (eqn_ev a1 a1 (by omega)) (negM rfl (bnd (eqn_ev a2 a2 (by omega)) (negM rfl ?_)))))
  refine (cof_l5 (go1 := go1) (x := x) h10 hl25 h11 hr25 (by simp) ?_ (by omega) hgo 0 (by omega)).e3
  intro r hr
  simp only [List.mem_cons, List.not_mem_nil, or_false] at hr
  rcases hr with rfl | rfl | rfl | rfl | rfl | rfl | rfl | rfl | rfl | rfl
  · omega
  any_goals simp
  omega
theorem cof_l2 (hl25 : r25.length ≤ 9) (hr25 : ∀ y ∈ r25, y.length ≤ 900) (hN : x.N.length ≤ 900) {go1 : Nat → Nat → Int → Option Bool} {t10 : Nat} (h10 : t10 < r25.length)
    (hgo : E1 (fun K a => go1 K a ((t10 + 1 : Nat) : Int)) true) : ∀ k, k ≤ r25.length → E2 (fun K a b => herbariumlaw5_CopiesOf.l2 K (go1 K a) r25 (t10 : Int) x b (k : Int)) true := by
  refine upto ?_ ?_
  · refine step2 (fun _ _ _ _ _ => herbariumlaw5_CopiesOf.l2.eq_2 ..) ?_
    refine negD (by omega) ?_
    rw [w1 (by omega)]
    exact hgo
  · intro k hk ih
    refine step2 (fun _ _ _ _ _ => herbariumlaw5_CopiesOf.l2.eq_2 ..) ?_
    have hy := hr25 _ (getD_mem (d := []) h10)
    have hz := hr25 _ (getD_mem (d := []) hk)
    rw [rd1N, rd1N]
    refine posD (by omega) (pos (by omega) (pos (by omega) (bnd (of_ev (by omega) (by omega)) (pos (by omega) (bnd (may3_ev _ (by omega)) ?_)))))
    have bad : ¬ (MayP (r25.getD t10 []) ∧ MayP (r25.getD k [])) → E2 (fun K a b => herbariumlaw5_CopiesOf.j4 K (go1 K a) (herbariumlaw5_CopiesOf.l2 K (go1 K a) r25 (t10 : Int) x b) r25 (if MayP (r25.getD t10 []) ∧ MayP (r25.getD k []) then ((cparts (r25.getD t10 []) (r25.getD k [])).1, (cparts (r25.getD t10 []) (r25.getD k [])).2, 0) else ([], [], 1)) (t10 : Int) (k : Int) x 1 false) true := by
      intro h
      rw [if_neg h]
      exact negB rfl (cof_j3 (go2 := fun K a b => herbariumlaw5_CopiesOf.l2 K (go1 K a) r25 (t10 : Int) x b) h10 hl25 (by omega) hr25 hN (by simp) (by simp) ih)
    by_cases a : MayP (r25.getD t10 [])
    · refine pos (decide_eq_true a) (pos (by omega) (bnd (may3_ev _ (by omega)) ?_))
      by_cases b : MayP (r25.getD k [])
      · rw [decide_eq_true b, if_pos (show MayP (r25.getD t10 []) ∧ MayP (r25.getD k []) from ⟨a, b⟩)]
        refine pos rfl (pos (by omega) (pos (by omega) ?_))
        rw [rd1N, rd1N]
        refine bnd (RCopies_ev (by omega) (by omega)) ?_
        exact cof_j3 (go2 := fun K a b => herbariumlaw5_CopiesOf.l2 K (go1 K a) r25 (t10 : Int) x b) h10 hl25 (by omega) hr25 hN (Nat.le_trans (blk_len _ _ _ _) hy) (Nat.le_trans (List.length_filter_le _ _) hz) ih
      · rw [decide_eq_false b]
        exact bad (fun h => b h.2)
    · refine neg (by simpa using a) ?_
      exact bad (fun h => a h.1)
theorem cof_l1 (hl25 : r25.length ≤ 9) (hr25 : ∀ y ∈ r25, y.length ≤ 900) (hN : x.N.length ≤ 900) : ∀ i, i ≤ r25.length → E1 (fun K a => herbariumlaw5_CopiesOf.l1 K r25 x a (i : Int)) true := by
  refine upto ?_ ?_
  · refine step1 (fun _ _ _ _ _ => herbariumlaw5_CopiesOf.l1.eq_2 ..) ?_
    exact negD (by omega) (bnd wakes5_ev (now true))
  · intro i hi ih
    refine step1 (fun _ _ _ _ _ => herbariumlaw5_CopiesOf.l1.eq_2 ..) ?_
    refine posD (by omega) ?_
    exact (cof_l2 (go1 := fun K a => herbariumlaw5_CopiesOf.l1 K r25 x a) hl25 hr25 hN hi ih 0 (by omega)).e2
theorem copiesOf_pure (x : herbariumlaw3_Ask) (hl : x.L.length ≤ 17592186044416) (hx : ∀ y ∈ x.L, y.length ≤ 17592186044416) (hb : x.B.length ≤ 17592186044416) (hb2 : ∀ b ∈ x.B, b.1.size ≤ 140737488351232) (hn : x.N.length ≤ 17592186044416) : ∃ K, herbariumlaw5_CopiesOf K x = some true := by
  obtain ⟨b, e, h⟩ := heavy3_ev x hl hx hb hb2 hn
  refine Ev.get (g := fun K => herbariumlaw5_CopiesOf K x) (r := true) (bnd e ?_)
  cases b with
  | true => exact pos rfl (now true)
  | false =>
    obtain ⟨h1, h2, _, _, h5⟩ := h rfl
    refine negB rfl (bnd (lists3_ev x h1) ?_)
    exact (cof_l1 (ls3_len x) (ls3_mem h2) h5 0 (by omega)).e1
end Go.XL
end
