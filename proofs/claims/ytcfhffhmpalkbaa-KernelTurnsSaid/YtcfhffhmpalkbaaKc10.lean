import Derived.Test.YtcfhffhmpalkbaaKc1
import Derived.SizedLaws
import Derived.ChangeSlices
import Derived.Test.YtcfhffhmpalkbaaKc0
section
namespace Go.Proofs.Ytcfhffhmpalkbaa.P
open Go.RowKit Go.Proofs.YtcfhffhmpalkbaaM Go.Proofs.YtcfhffhmpalkbaaW.PrintWords Go.Proofs.YtcfhffhmpalkbaaW.PrintLast Go.Proofs.YtcfhffhmpalkbaaW.PrintMore
attribute [local go_sem] Go.Instr.field Go.asAgg max2_int min2_int max_two min_two max_three min_three max_four min_four
set_option linter.unusedVariables false
set_option linter.unusedSimpArgs false
def Sz42 (x : S42) : Prop := (Lit.int .i64 x.f0).wf = true ∧ (x.f1.length * 24 ≤ 140737488351232 ∧ ∀ y0 ∈ x.f1, (y0.length * 8 ≤ 140737488351232 ∧ ∀ y1 ∈ y0, (Lit.int .i64 y1).wf = true))
def Sz119 (x : S119) : Prop := (Lit.int .i64 x.f0).wf = true ∧ (Lit.int .i64 x.f1).wf = true ∧ (Lit.int .i64 x.f2).wf = true
def Sz37 (x : S37) : Prop := (x.f0.length * 32 ≤ 140737488351232 ∧ ∀ y0 ∈ x.f0, Sz42 y0) ∧ (x.f1.length * 24 ≤ 140737488351232 ∧ ∀ y0 ∈ x.f1, Sz119 y0)
def q3.Pure : Prop := ∀ x : S37, Sz37 x → ∃ k, q3.f k x.f0 x.f1 = some true
end Go.Proofs.Ytcfhffhmpalkbaa.P
end
section
namespace Go.Proofs.YtcfhffhmpalkbaaO
open Go.ChangeShapes Go.WideShapes Go.RowKit Go.Proofs.YtcfhffhmpalkbaaW.PrintWords
set_option linter.unusedVariables false
set_option linter.unusedSimpArgs false
def Opens {α : Type} (P : Program) (t : TypeId) (d : Kd α) (S : α → Prop) : Prop :=
  ∀ (H : Type) (enc : TypeId × Value → H) (W : World) (base : Nat) (spare : Nat → Bool) (held : Bool) (fuel : Nat) (cs : List Value) (x : DataW H × List MemPlace),
    DataW.trod enc P W base spare held fuel t cs = some x → (∀ n ∈ x.1.weights P t, n ≤ 140737488351232) → ∃ a : α, d.K W a cs ∧ S a
section
variable {P : Program}
theorem Opens.int {t : TypeId} {k : IntKind} (hu : P.underlying t = some (.int k)) : Opens P t (Kd.int k) (fun a => (Lit.int k a).wf = true) := by
  intro H enc W base spare held fuel cs x h _
  obtain ⟨m, rfl, rfl, hw⟩ := DataW.trod_int hu h
  exact ⟨m, rfl, hw⟩
theorem Opens.bool {t : TypeId} (hu : P.underlying t = some .bool) : Opens P t Kd.bool (fun _ => True) := by
  intro H enc W base spare held fuel cs x h _
  obtain ⟨m, rfl, rfl⟩ := DataW.trod_bool hu h
  exact ⟨m, rfl, trivial⟩
theorem add_add (a : Addr) (m j : Nat) : (a.add m).add j = a.add (m + j) := by
  unfold Addr.add
  by_cases hm : m = 0
  · subst hm; simp
  · by_cases hj : j = 0
    · subst hj; simp [hm]
    · have : ¬ (m + j = 0) := by omega
      simp [hm, hj, Nat.add_assoc]
theorem choose_list {α : Type} : ∀ (n : Nat) (Q : Nat → α → Prop), (∀ i, i < n → ∃ a, Q i a) → ∃ xs : List α, xs.length = n ∧ ∀ i a, xs[i]? = some a → Q i a
  | 0, _, _ => ⟨[], rfl, fun i a h => by simp at h⟩
  | n + 1, Q, h => by
    obtain ⟨xs, hl, hx⟩ := choose_list n Q (fun i hi => h i (by omega))
    obtain ⟨a, ha⟩ := h n (by omega)
    refine ⟨xs ++ [a], by simp [hl], fun i b hb => ?_⟩
    by_cases hi : i < n
    · rw [List.getElem?_append_left (by omega)] at hb
      exact hx i b hb
    · have hi2 : i < (xs ++ [a]).length := (List.getElem?_eq_some_iff.1 hb).1
      have hi3 : i = n := by simp [hl] at hi2; omega
      subst hi3
      rw [List.getElem?_append_right (by omega), hl] at hb
      simp at hb
      subst hb
      exact ha
theorem weightsAll_mem {H : Type} {e : TypeId} : ∀ {ds : List (DataW H)} {i : Nat} {d : DataW H}, ds[i]? = some d → ∀ n ∈ d.weights P e, n ∈ DataW.weightsAll P e ds
  | d0 :: ds, 0, d, h, n, hn => by
    simp only [List.getElem?_cons_zero, Option.some.injEq] at h
    subst h
    simp only [DataW.weightsAll, List.mem_append]
    exact Or.inl hn
  | d0 :: ds, i + 1, d, h, n, hn => by
    simp only [List.getElem?_cons_succ] at h
    simp only [DataW.weightsAll, List.mem_append]
    exact Or.inr (weightsAll_mem h n hn)
  | [], _, _, h, _, _ => by simp at h
theorem Opens.slice {α : Type} {t e : TypeId} {d : Kd α} {S : α → Prop} {B : Nat} (hu : P.underlying t = some (.slice e)) (hs : P.cellsOf e = d.sz) (hB : P.bytesOf e = B) (ho : Opens P e d S) :
    Opens P t (Kd.slice e d) (fun xs => xs.length * B ≤ 140737488351232 ∧ ∀ x ∈ xs, S x) := by
  intro H enc W base spare held fuel cs x h hw
  rcases DataW.trod_slice hu h with ⟨rfl, rfl⟩ | ⟨a, len, cap, elems, rest, n, _, rfl, rfl, _, hl, hm, hlen, hel, _, _⟩
  · exact ⟨[], ⟨none, 0, rfl, Nat.le_refl _, rfl, by simp, fun h0 => absurd h0 (by simp)⟩, by simp, fun x hx => by simp at hx⟩
  · have hwa : ∀ (i : Nat) y, elems[i]? = some y → ∀ n ∈ y.1.weights P e, n ≤ 140737488351232 := by
      intro i y hy m hmm
      refine hw m ?_
      simp only [DataW.weights, hu, List.mem_cons, List.mem_append]
      refine Or.inr (Or.inl (weightsAll_mem (i := i) (d := y.1) (by rw [List.getElem?_map, hy]; rfl) m hmm))
    obtain ⟨xs, hxl, hx⟩ := choose_list len (fun i p => (∃ c : List Value, c.length = d.sz ∧ d.K W p c ∧ ∀ j u, c[j]? = some u → W.cell? (a.add (i * d.sz + j)) = some u) ∧ S p) (by
      intro i hi
      have h1 := hel i hi
      obtain ⟨y, hy⟩ : ∃ y, elems[i]? = some y := ⟨_, List.getElem?_eq_getElem (by omega)⟩
      rw [hy, Option.bind_eq_some_iff] at h1
      obtain ⟨c, hc, ht⟩ := h1
      obtain ⟨p, hp, hS⟩ := ho H enc W base spare held n c y ht (hwa i y hy)
      obtain ⟨_, hcl, hcell⟩ := World.cells?_some hc
      refine ⟨p, ⟨c, by rw [hcl, hs], hp, fun j u hj => ?_⟩, hS⟩
      have hj2 : j < P.cellsOf e := by rw [← hcl]; exact (List.getElem?_eq_some_iff.1 hj).1
      have h2 := hcell j hj2
      rw [hj] at h2
      rw [← h2, ← hs, add_add])
    refine ⟨xs, ⟨some a, cap, by rw [hxl], by omega, rfl, by unfold maxLen at hm; omega, fun _ => ⟨a, rfl, fun j p hj => (hx j p hj).1⟩⟩, ?_, ?_⟩
    · have h1 := hw ((elems.length + rest.length) * P.bytesOf e) (by simp [DataW.weights, hu])
      rw [hB] at h1
      refine Nat.le_trans (Nat.mul_le_mul_right _ ?_) h1
      omega
    · intro p hp
      obtain ⟨i, hi⟩ := List.getElem?_of_mem hp
      exact (hx i p hi).2
def OpensFs {α : Type} (P : Program) (o : Nat) (fs : List Field) (d : Kd α) (S : α → Prop) : Prop :=
  ∀ (H : Type) (enc : TypeId × Value → H) (W : World) (base : Nat) (spare : Nat → Bool) (held : Bool) (fuel : Nat) (cs : List Value) (xs : List (DataW H × List MemPlace)),
    xs.length = fs.length → (∀ (i : Nat) (f : Field), fs[i]? = some f → DataW.trod enc P W base spare held fuel f.type ((cs.drop f.offset).take (P.cellsOf f.type)) = xs[i]?) →
    cs.length = o + d.sz → (∀ n ∈ DataW.weightsEach P (fs.map (·.type)) (xs.map (·.1)), n ≤ 140737488351232) → ∃ a : α, d.K W a (cs.drop o) ∧ S a
theorem OpensFs.one {α : Type} {o : Nat} {f : Field} {d : Kd α} {S : α → Prop} (hf : f.offset = o) (hs : P.cellsOf f.type = d.sz) (ho : Opens P f.type d S) : OpensFs P o [f] d S := by
  intro H enc W base spare held fuel cs xs hl hx hc hw
  obtain ⟨y, rfl⟩ : ∃ y, xs = [y] := by
    match xs, hl with
    | [y], _ => exact ⟨y, rfl⟩
  have h1 := hx 0 f rfl
  rw [hf, hs, List.take_of_length_le (by simp; omega)] at h1
  exact ho H enc W base spare held fuel (cs.drop o) y h1 (fun n hn => hw n (by simpa [DataW.weightsEach] using hn))
theorem OpensFs.cons {α β : Type} {o : Nat} {f : Field} {fs : List Field} {d : Kd α} {d' : Kd β} {S : α → Prop} {S' : β → Prop} (hf : f.offset = o) (hs : P.cellsOf f.type = d.sz) (ho : Opens P f.type d S) (hr : OpensFs P (o + d.sz) fs d' S') :
    OpensFs P o (f :: fs) (Kd.pair d d') (fun a => S a.1 ∧ S' a.2) := by
  intro H enc W base spare held fuel cs xs hl hx hc hw
  obtain ⟨y, ys, rfl⟩ : ∃ y ys, xs = y :: ys := by
    match xs, hl with
    | y :: ys, _ => exact ⟨y, ys, rfl⟩
  have hc' : cs.length = o + (d.sz + d'.sz) := hc
  have h1 := hx 0 f rfl
  rw [hf, hs] at h1
  obtain ⟨p, hp, hS⟩ := ho H enc W base spare held fuel _ y h1 (fun n hn => hw n (by
    simp only [List.map_cons, DataW.weightsEach, List.mem_append]
    exact Or.inl hn))
  obtain ⟨q, hq, hS'⟩ := hr H enc W base spare held fuel cs ys (by simpa using hl) (fun i g hg => by simpa using hx (i + 1) g (by simpa using hg)) (by omega) (fun n hn => hw n (by
    simp only [List.map_cons, DataW.weightsEach, List.mem_append]
    exact Or.inr hn))
  refine ⟨(p, q), ⟨(cs.drop o).take d.sz, cs.drop (o + d.sz), ?_, hp, hq⟩, hS, hS'⟩
  rw [← List.drop_drop, List.take_append_drop]
theorem Opens.struct {α β : Type} {t : TypeId} {fs : Array Field} {d : Kd α} {S : α → Prop} {f : β → α} {g : α → β} (hu : P.underlying t = some (.struct fs)) (hs : P.cellsOf t = d.sz) (hfg : ∀ x, f (g x) = x) (ho : OpensFs P 0 fs.toList d S) :
    Opens P t (Kd.iso d f) (fun b => S (f b)) := by
  intro H enc W base spare held fuel cs x h hw
  obtain ⟨xs, n, _, rfl, hc, hl, hx⟩ := DataW.trod_struct hu h
  obtain ⟨a, ha, hS⟩ := ho H enc W base spare held n cs xs (by simpa using hl) (fun i f hf => hx i f (by simpa using hf)) (by rw [hc, hs]; omega) (fun n hn => hw n (by simpa [DataW.weights, hu] using hn))
  refine ⟨g a, ?_, ?_⟩
  · show d.K W (f (g a)) cs
    rw [hfg]
    simpa using ha
  · show S (f (g a))
    rw [hfg]
    exact hS
end
end Go.Proofs.YtcfhffhmpalkbaaO
end
section
namespace Go.Proofs.Ytcfhffhmpalkbaa.P
open Go.RowKit Go.Proofs.YtcfhffhmpalkbaaM Go.Proofs.YtcfhffhmpalkbaaW.PrintWords Go.Proofs.YtcfhffhmpalkbaaW.PrintLast Go.Proofs.YtcfhffhmpalkbaaW.PrintMore
attribute [local go_sem] Go.Instr.field Go.asAgg max2_int min2_int max_two min_two max_three min_three max_four min_four
set_option linter.unusedVariables false
set_option linter.unusedSimpArgs false
open Go.Proofs.YtcfhffhmpalkbaaO
set_option maxRecDepth 100000 in
theorem opens42 : Opens Try.prog 42 k42 Sz42 := by
 have h := Opens.struct (P := Try.prog) (f := fun x : S42 => (x.f0, x.f1)) (g := fun y => (⟨y.1, y.2⟩ : S42)) Try.underlying42 (by kernel_rfl) (fun _ => rfl) (OpensFs.cons rfl (by kernel_rfl) (Opens.int Try.underlying3) (OpensFs.one rfl (by kernel_rfl) (Opens.slice (B := 24) Try.underlying40 (by kernel_rfl) (by kernel_rfl) (Opens.slice (B := 8) Try.underlying45 (by kernel_rfl) (by kernel_rfl) (Opens.int Try.underlying3)))))
 exact h
set_option maxRecDepth 100000 in
theorem opens119 : Opens Try.prog 119 k119 Sz119 := by
 have h := Opens.struct (P := Try.prog) (f := fun x : S119 => (x.f0, x.f1, x.f2)) (g := fun y => (⟨y.1, y.2.1, y.2.2⟩ : S119)) Try.underlying119 (by kernel_rfl) (fun _ => rfl) (OpensFs.cons rfl (by kernel_rfl) (Opens.int Try.underlying3) (OpensFs.cons rfl (by kernel_rfl) (Opens.int Try.underlying3) (OpensFs.one rfl (by kernel_rfl) (Opens.int Try.underlying3))))
 exact h
set_option maxRecDepth 100000 in
theorem opens37 : Opens Try.prog 37 k37 Sz37 := by
 have h := Opens.struct (P := Try.prog) (f := fun x : S37 => (x.f0, x.f1)) (g := fun y => (⟨y.1, y.2⟩ : S37)) Try.underlying37 (by kernel_rfl) (fun _ => rfl) (OpensFs.cons rfl (by kernel_rfl) (Opens.slice (B := 32) Try.underlying34 (by kernel_rfl) (by kernel_rfl) opens42) (OpensFs.one rfl (by kernel_rfl) (Opens.slice (B := 24) Try.underlying35 (by kernel_rfl) (by kernel_rfl) opens119)))
 exact h
end Go.Proofs.Ytcfhffhmpalkbaa.P
end
section
namespace Go.Proofs.Ytcfhffhmpalkbaa.U
open Go.RowKit Go.Proofs.Ytcfhffhmpalkbaa.P Go.Proofs.YtcfhffhmpalkbaaW.PrintWords Go.Proofs.YtcfhffhmpalkbaaW.PrintLast Go.Proofs.YtcfhffhmpalkbaaW.PrintMore
set_option linter.unusedVariables false
set_option linter.unusedSimpArgs false
theorem pos {α : Type} {c : Prop} [Decidable c] {f g : Nat → Option α} {r : α} (h : c) (k : Ev f r) : Ev (fun n => if c then f n else g n) r := Ev.congr (fun _ => if_pos h) k
theorem neg {α : Type} {c : Prop} [Decidable c] {f g : Nat → Option α} {r : α} (h : ¬ c) (k : Ev g r) : Ev (fun n => if c then f n else g n) r := Ev.congr (fun _ => if_neg h) k
theorem bnd {α β : Type} {g : Nat → Option α} {f : Nat → α → Option β} {a : α} {r : β} (h : Ev g a) (k : Ev (fun n => f n a) r) : Ev (fun n => (g n).bind (f n)) r := Ev.bind h k
theorem tail {α : Type} {g : Nat → Option α} {r : α} (h : Ev g r) : Ev (fun n => (g n).bind fun t => some t) r := Ev.bind h (Ev.now r)
theorem ofEq {α : Type} {g : Nat → Option α} {r s : α} (h : Ev g r) (e : r = s) : Ev g s := e ▸ h
theorem uniq {α : Type} {g : Nat → Option α} {r s : α} (h : Ev g r) (k : Ev g s) : r = s := by
  obtain ⟨K, h⟩ := h
  obtain ⟨K', k⟩ := k
  have := (h (max K K') (by omega)).symm.trans (k (max K K') (by omega))
  injection this
theorem w64 {i : Int} (h : -9223372036854775808 ≤ i) (h' : i ≤ 9223372036854775807) : wrap64 i = i := by unfold wrap64; omega
theorem w1 {i : Nat} (h : i < 4611686018427387904) : wrap64 ((i : Int) + 1) = ((i + 1 : Nat) : Int) := by unfold wrap64; omega
theorem upto {n : Nat} {Q : Nat → Prop} (base : Q n) (step : ∀ i, i < n → Q (i + 1) → Q i) : ∀ i, i ≤ n → Q i := by
  have key : ∀ d i, i + d = n → Q i := by
    intro d
    induction d with
    | zero => intro i hi; rw [show i = n by omega]; exact base
    | succ d ih => intro i hi; exact step i (by omega) (ih (i + 1) (by omega))
  intro i hi
  exact key (n - i) i (by omega)
theorem getD_lt {α : Type} {d : α} {xs : List α} {i : Nat} (h : i < xs.length) : xs.getD i d = xs[i] := by simp [List.getD_eq_getElem?_getD, List.getElem?_eq_getElem h]
theorem getD_mem {α : Type} {d : α} {xs : List α} {i : Nat} (h : i < xs.length) : xs.getD i d ∈ xs := by rw [getD_lt h]; exact List.getElem_mem h
theorem drop_getD {α : Type} {d : α} {xs : List α} {i : Nat} (h : i < xs.length) : xs.drop i = xs.getD i d :: xs.drop (i + 1) := by rw [getD_lt h]; exact List.drop_eq_getElem_cons h
theorem take_getD {α : Type} {d : α} {xs : List α} {i : Nat} (h : i < xs.length) : xs.take (i + 1) = xs.take i ++ [xs.getD i d] := by rw [getD_lt h, List.take_succ_eq_append_getElem h]
theorem getD_set {α : Type} {d : α} (xs : List α) (i j : Nat) (v : α) (h : i < xs.length) : (xs.set i v).getD j d = if j = i then v else xs.getD j d := by
  simp only [List.getD_eq_getElem?_getD, List.getElem?_set]
  by_cases e : i = j
  · subst e; simp [h]
  · simp [e, Ne.symm e]
theorem rdN (xs : List Int) (i : Nat) : rd xs (i : Int) = xs.getD i 0 := by simp [rd]
end Go.Proofs.Ytcfhffhmpalkbaa.U
end
section
namespace Go.Proofs.Ytcfhffhmpalkbaa.U
open Go.RowKit Go.Proofs.Ytcfhffhmpalkbaa.P Go.Proofs.YtcfhffhmpalkbaaW.PrintWords Go.Proofs.YtcfhffhmpalkbaaW.PrintLast Go.Proofs.YtcfhffhmpalkbaaW.PrintMore
set_option linter.unusedVariables false
set_option linter.unusedSimpArgs false
theorem rd1N (xs : List (List Int)) (i : Nat) : rd_L1 xs (i : Int) = xs.getD i [] := by simp [rd_L1]
def lsum (xs : List (List Int)) : Nat := (xs.map List.length).sum
theorem lsum_cons (x : List Int) (xs : List (List Int)) : lsum (x :: xs) = x.length + lsum xs := by simp [lsum]
theorem lsum_append (xs ys : List (List Int)) : lsum (xs ++ ys) = lsum xs + lsum ys := by simp [lsum]
theorem lsum_mem {x : List Int} {xs : List (List Int)} (h : x ∈ xs) : x.length ≤ lsum xs := by
  induction xs with
  | nil => simp at h
  | cons y ys ih =>
    rw [lsum_cons]
    rcases List.mem_cons.1 h with rfl | h
    · omega
    · have := ih h; omega
theorem lsum_drop {xs : List (List Int)} {i : Nat} (h : i < xs.length) : lsum (xs.drop i) = (xs.getD i []).length + lsum (xs.drop (i + 1)) := by rw [drop_getD (d := []) h, lsum_cons]
theorem lsum_take {xs : List (List Int)} {i : Nat} (h : i < xs.length) : lsum (xs.take (i + 1)) = lsum (xs.take i) + (xs.getD i []).length := by rw [take_getD (d := []) h, lsum_append]; simp [lsum]
theorem lsum_take_le (xs : List (List Int)) (i : Nat) : lsum (xs.take i) ≤ lsum xs := by
  have := lsum_append (xs.take i) (xs.drop i)
  rw [List.take_append_drop] at this
  omega
end Go.Proofs.Ytcfhffhmpalkbaa.U
end
section
namespace Go.Proofs.Ytcfhffhmpalkbaa.U
open Go.RowKit Go.Proofs.Ytcfhffhmpalkbaa.P Go.Proofs.YtcfhffhmpalkbaaW.PrintWords Go.Proofs.YtcfhffhmpalkbaaW.PrintLast Go.Proofs.YtcfhffhmpalkbaaW.PrintMore
set_option linter.unusedVariables false
set_option linter.unusedSimpArgs false
theorem lists_ev (xs : List (List Int)) (hl : xs.length ≤ 17592186044416) (hx : ∀ y ∈ xs, y.length ≤ 17592186044416) :
    ∃ r : Int, Ev (fun k => q28.f k xs) r ∧ 0 ≤ r ∧ r ≤ 35184372088832 ∧ (r < 1048576 → r = xs.length + lsum xs) := by
  have key : ∀ i, i ≤ xs.length → ∀ s : Int, 0 ≤ s → s ≤ 35184372088832 → ∃ r : Int, Ev (fun k => q28.l0 k xs s (i : Int)) r ∧ 0 ≤ r ∧ r ≤ 35184372088832 ∧ (r < 1048576 → r = s + lsum (xs.drop i)) := by
    refine upto ?_ ?_
    · intro s h0 h1
      refine ⟨s, ?_, h0, h1, fun _ => by simp [lsum]⟩
      refine Ev.step (fun k => by rw [q28.l0]) ?_
      exact neg (by omega) (Ev.now s)
    · intro i hi ih s h0 h1
      by_cases hs : s < 1048576
      · have hy := hx _ (getD_mem (d := []) hi)
        obtain ⟨r, h, a, b, c⟩ := ih (s + ((xs.getD i []).length : Int)) (by omega) (by omega)
        refine ⟨r, ?_, a, b, fun hr => by rw [c hr, lsum_drop hi]; omega⟩
        refine Ev.step (fun k => by rw [q28.l0]) ?_
        refine pos (by omega) (pos hs (pos (by omega) ?_))
        rw [rd1N, w64 (by omega) (by omega), w1 (by omega)]
        exact h
      · refine ⟨s, ?_, h0, h1, fun h => by omega⟩
        refine Ev.step (fun k => by rw [q28.l0]) ?_
        exact pos (by omega) (neg hs (Ev.now s))
  obtain ⟨r, h, a, b, c⟩ := key 0 (by omega) xs.length (by omega) (by omega)
  exact ⟨r, h, a, b, fun hr => by rw [c hr]; simp⟩
def wt (g : S42) : Nat := g.f1.length + lsum g.f1
theorem rdG (xs : List S42) (i : Nat) : rd_T42 xs (i : Int) = xs.getD i z42 := by simp [rd_T42]
def Gfit (g : S42) : Prop := g.f1.length ≤ 17592186044416 ∧ ∀ y ∈ g.f1, y.length ≤ 17592186044416
theorem weight_ev (gs : List S42) (hl : gs.length ≤ 17592186044416) (hx : ∀ g ∈ gs, Gfit g) :
    ∃ r : Int, Ev (fun k => q27.f k gs) r ∧ 0 ≤ r ∧ r ≤ 52776558133248 ∧ (r < 1048576 → (gs.length : Int) ≤ r ∧ ∀ g ∈ gs, (wt g : Int) ≤ r) := by
  have key : ∀ i, i ≤ gs.length → ∀ s : Int, 0 ≤ s → s ≤ 52776558133248 → ∃ r : Int, Ev (fun k => q27.l0 k gs s (i : Int)) r ∧ 0 ≤ r ∧ r ≤ 52776558133248 ∧ s ≤ r ∧ (r < 1048576 → ∀ g ∈ gs.drop i, (wt g : Int) ≤ r) := by
    refine upto ?_ ?_
    · intro s h0 h1
      refine ⟨s, ?_, h0, h1, by omega, fun _ => by simp⟩
      refine Ev.step (fun k => by rw [q27.l0]) ?_
      exact neg (by omega) (Ev.now s)
    · intro i hi ih s h0 h1
      by_cases hs : s < 1048576
      · have hg := hx _ (getD_mem (d := z42) hi)
        obtain ⟨q, e, q0, q1, q2⟩ := lists_ev (gs.getD i z42).f1 hg.1 hg.2
        obtain ⟨r, h, a, b, l, c⟩ := ih (s + q) (by omega) (by omega)
        refine ⟨r, ?_, a, b, by omega, fun hr => ?_⟩
        · refine Ev.step (fun k => by rw [q27.l0]) ?_
          refine pos (by omega) (pos hs (pos (by omega) ?_))
          rw [rdG, w1 (by omega)]
          refine bnd e ?_
          rw [w64 (by omega) (by omega)]
          exact h
        · rw [drop_getD (d := z42) hi]
          intro g hg'
          rcases List.mem_cons.1 hg' with rfl | hg'
          · have := q2 (by omega)
            simp only [wt]; omega
          · exact c hr g hg'
      · refine ⟨s, ?_, h0, h1, by omega, fun h => by omega⟩
        refine Ev.step (fun k => by rw [q27.l0]) ?_
        exact pos (by omega) (neg hs (Ev.now s))
  obtain ⟨r, h, a, b, l, c⟩ := key 0 (by omega) gs.length (by omega) (by omega)
  exact ⟨r, h, a, b, fun hr => ⟨l, by simpa using c hr⟩⟩
theorem heavy_ev (x : S37) (hS : Sz37 x) : ∃ b : Bool, Ev (fun k => q30.f k x.f0 x.f1) b ∧ (b = false → x.f0.length ≤ 1200 ∧ x.f1.length ≤ 1200 ∧ ∀ g ∈ x.f0, wt g ≤ 1200) := by
  obtain ⟨⟨h0, h1⟩, h2, h3⟩ := hS
  obtain ⟨r, e, r0, r1, r2⟩ := weight_ev x.f0 (by omega) (fun g hg => ⟨by have := (h1 g hg).2.1; omega, fun y hy => by have := ((h1 g hg).2.2 y hy).1; omega⟩)
  refine ⟨_, bnd e (Ev.now _), fun hb => ?_⟩
  rw [w64 (by omega) (by omega)] at hb
  have hb : r + (x.f1.length : Int) ≤ 1200 := by simpa using hb
  obtain ⟨ha, hw⟩ := r2 (by omega)
  exact ⟨by omega, by omega, fun g hg => by have := hw g hg; omega⟩
def OkAt (xs : List Int) (i : Nat) : Prop := 0 ≤ xs.getD i 0 ∧ xs.getD i 0 ≤ 15 ∧ (0 < i → xs.getD (i - 1) 0 < xs.getD i 0)
instance (xs : List Int) (i : Nat) : Decidable (OkAt xs i) := by unfold OkAt; infer_instance
def MayP (xs : List Int) : Prop := ∀ i, i < xs.length → OkAt xs i
instance (xs : List Int) : Decidable (MayP xs) := by unfold MayP; infer_instance
theorem ok_ge {xs : List Int} : ∀ i : Nat, (∀ j, j ≤ i → OkAt xs j) → (i : Int) ≤ xs.getD i 0 := by
  intro i
  induction i with
  | zero => intro h; exact_mod_cast (h 0 (by omega)).1
  | succ i ih =>
    intro h
    have h1 := ih (fun j hj => h j (by omega))
    have h2 := (h (i + 1) (by omega)).2.2 (by omega)
    simp only [Nat.add_sub_cancel] at h2
    omega
theorem MayP.len {xs : List Int} (h : MayP xs) : xs.length ≤ 16 := by
  rcases Nat.eq_zero_or_pos xs.length with h0 | h0
  · omega
  · have h1 := ok_ge (xs := xs) (xs.length - 1) (fun j hj => h j (by omega))
    have h2 := (h (xs.length - 1) (by omega)).2.1
    omega
theorem is_eq (a : Int) : q37.f a = some (decide (0 ≤ a ∧ a ≤ 15)) := by
  unfold q37.f
  by_cases h : a ≥ 0
  · rw [if_pos h]; simp [h]; omega
  · rw [if_neg h]; simp; omega
theorem gmay_ev (xs : List Int) (hl : xs.length ≤ 17592186044416) : Ev (fun k => q17.f k xs) (decide (MayP xs)) := by
  have key : ∀ i, i ≤ xs.length → (∀ j, j < i → OkAt xs j) → Ev (fun k => q17.l0 k xs xs xs.length (i : Int)) (decide (MayP xs)) := by
    refine upto ?_ ?_
    · intro hok
      have hm : MayP xs := hok
      refine Ev.step (fun k => by rw [q17.l0]) ?_
      exact neg (by omega) (ofEq (Ev.now _) (by simp [hm]))
    · intro i hi ih hok
      refine Ev.step (fun k => by rw [q17.l0]) ?_
      refine pos (by omega) (pos (by omega) (pos (by omega) ?_))
      rw [is_eq, rdN]
      refine bnd (Ev.now _) ?_
      by_cases ho : 0 ≤ xs.getD i 0 ∧ xs.getD i 0 ≤ 15
      · refine pos (by simpa using ho) ?_
        rcases Nat.eq_zero_or_pos i with h0 | h0
        · refine neg (by omega) ?_
          rw [w1 (by omega)]
          refine ih fun j hj => ?_
          by_cases e : j = i
          · subst e; exact ⟨ho.1, ho.2, fun h => by omega⟩
          · exact hok j (by omega)
        · refine pos (by omega) ?_
          have e1 : wrap64 ((i : Int) - 1) = ((i - 1 : Nat) : Int) := by rw [w64 (by omega) (by omega)]; omega
          rw [e1, rdN]
          refine pos (by omega) (pos (by omega) ?_)
          by_cases hlt : xs.getD i 0 ≤ xs.getD (i - 1) 0
          · refine pos hlt (ofEq (Ev.now _) ?_)
            have : ¬ MayP xs := fun hm => by have := (hm i hi).2.2 h0; omega
            simp [this]
          · refine neg hlt ?_
            rw [w1 (by omega)]
            refine ih fun j hj => ?_
            by_cases e : j = i
            · subst e; exact ⟨ho.1, ho.2, fun h => by omega⟩
            · exact hok j (by omega)
      · refine neg (by simpa using ho) (ofEq (Ev.now _) ?_)
        have : ¬ MayP xs := fun hm => ho ⟨(hm i hi).1, (hm i hi).2.1⟩
        simp [this]
  exact key 0 (by omega) (fun j hj => by omega)
theorem many_ev (n : Int) (xs : List (List Int)) (hl : xs.length + lsum xs ≤ 1000000) : Ev (fun k => q22.f k n xs) (lsum xs : Int) := by
  have key : ∀ i, i ≤ xs.length → Ev (fun k => q22.l0 k (lsum (xs.take i) : Int) xs xs.length (i : Int)) (lsum xs : Int) := by
    refine upto ?_ ?_
    · refine Ev.step (fun k => by rw [q22.l0]) ?_
      exact neg (by omega) (ofEq (Ev.now _) (by rw [List.take_length]))
    · intro i hi ih
      have h1 := lsum_take hi
      have h2 := lsum_take_le xs (i + 1)
      refine Ev.step (fun k => by rw [q22.l0]) ?_
      refine pos (by omega) (pos (by omega) (pos (by omega) ?_))
      rw [rd1N, w64 (by omega) (by omega), w1 (by omega), show ((lsum (xs.take i) : Int) + ((xs.getD i []).length : Int)) = (lsum (xs.take (i + 1)) : Int) by omega]
      exact ih
  exact key 0 (by omega)
def RowP (n : Int) (xs : List Int) : Prop := MayP xs ∧ (0 < xs.length → xs.getD (xs.length - 1) 0 < n)
instance (n : Int) (xs : List Int) : Decidable (RowP n xs) := by unfold RowP; infer_instance
def GraphP (n : Int) (out : List (List Int)) : Prop := 0 ≤ n ∧ n ≤ 16 ∧ (out.length : Int) = n ∧ (∀ i, i < out.length → RowP n (out.getD i [])) ∧ lsum out ≤ 120
instance (n : Int) (out : List (List Int)) : Decidable (GraphP n out) := by unfold GraphP; infer_instance
def Sm (out : List (List Int)) : Prop := out.length + lsum out ≤ 1000000
theorem Sm.row {out : List (List Int)} (h : Sm out) {i : Nat} (hi : i < out.length) : (out.getD i []).length ≤ 1000000 := by
  have := lsum_mem (getD_mem (d := []) hi)
  unfold Sm at h
  omega
theorem gmayG_ev (n : Int) (out : List (List Int)) (hs : Sm out) : Ev (fun k => q8.f k n out) (decide (GraphP n out)) := by
  have key : (out.length : Int) = n → 0 ≤ n → n ≤ 16 → ∀ i, i ≤ out.length → (∀ j, j < i → RowP n (out.getD j [])) → Ev (fun k => q8.l0 k out out.length (i : Int) n out) (decide (GraphP n out)) := by
    intro hn n0 n16
    refine upto ?_ ?_
    · intro hok
      refine Ev.step (fun k => by rw [q8.l0]) ?_
      refine neg (by omega) (bnd (many_ev n out hs) (ofEq (Ev.now _) ?_))
      have : GraphP n out ↔ lsum out ≤ 120 := ⟨fun h => h.2.2.2.2, fun h => ⟨n0, n16, hn, hok, h⟩⟩
      simp [this]; omega
    · intro i hi ih hok
      have hr := hs.row hi
      refine Ev.step (fun k => by rw [q8.l0]) ?_
      refine pos (by omega) (pos (by omega) (pos (by omega) ?_))
      rw [rd1N]
      refine bnd (gmay_ev _ (by omega)) ?_
      have hno : ¬ RowP n (out.getD i []) → decide (GraphP n out) = false := fun h => by
        have : ¬ GraphP n out := fun hg => h (hg.2.2.2.1 i hi)
        simp [this]
      have hgo : RowP n (out.getD i []) → ∀ j, j < i + 1 → RowP n (out.getD j []) := fun h j hj => by
        by_cases e : j = i
        · subst e; exact h
        · exact hok j (by omega)
      by_cases hm : MayP (out.getD i [])
      · refine pos (by simpa using hm) ?_
        rw [w1 (by omega)]
        by_cases h0 : 0 < (out.getD i []).length
        · refine pos (by omega) ?_
          have e1 : wrap64 (((out.getD i []).length : Int) - 1) = (((out.getD i []).length - 1 : Nat) : Int) := by rw [w64 (by omega) (by omega)]; omega
          rw [e1, rdN]
          refine pos (by omega) (pos (by omega) ?_)
          by_cases hlt : (out.getD i []).getD ((out.getD i []).length - 1) 0 ≥ n
          · exact pos hlt (ofEq (Ev.now _) (hno fun h => by have := h.2 h0; omega).symm)
          · exact neg hlt (ih (hgo ⟨hm, fun _ => by omega⟩))
        · exact neg (by omega) (ih (hgo ⟨hm, fun h => absurd h h0⟩))
      · exact neg (by simpa using hm) (ofEq (Ev.now _) (hno fun h => hm h.1).symm)
  have hbad : ¬ (0 ≤ n ∧ n ≤ 16) → Ev (fun k => q8.j0 k true n out) (decide (GraphP n out)) := fun h => by
    refine Ev.step (fun k => by rw [q8.j0]) ?_
    exact pos rfl (ofEq (Ev.now _) (by have : ¬ GraphP n out := fun hg => h ⟨hg.1, hg.2.1⟩
                                       simp [this]))
  unfold q8.f
  by_cases h0 : n < 0
  · exact pos h0 (hbad (by omega))
  · refine neg h0 ?_
    by_cases h1 : n > 16
    · exact pos h1 (hbad (by omega))
    · refine neg h1 ?_
      refine Ev.step (fun k => by rw [q8.j0]) ?_
      by_cases hn : (out.length : Int) = n
      · exact neg (by simp [hn]) (key hn (by omega) (by omega) 0 (by omega) (fun j hj => by omega))
      · exact pos (by simp [hn]) (ofEq (Ev.now _) (by have : ¬ GraphP n out := fun hg => hn hg.2.2.1
                                                      simp [this]))
end Go.Proofs.Ytcfhffhmpalkbaa.U
end
section
namespace Go.Proofs.Ytcfhffhmpalkbaa.U
open Go.RowKit Go.Proofs.Ytcfhffhmpalkbaa.P Go.Proofs.YtcfhffhmpalkbaaW.PrintWords Go.Proofs.YtcfhffhmpalkbaaW.PrintLast Go.Proofs.YtcfhffhmpalkbaaW.PrintMore
set_option linter.unusedVariables false
set_option linter.unusedSimpArgs false
theorem MayP.mono {xs : List Int} (h : MayP xs) : ∀ d j : Nat, j + d < xs.length → xs.getD j 0 + d ≤ xs.getD (j + d) 0 := by
  intro d
  induction d with
  | zero => intro j hj; simp
  | succ d ih =>
    intro j hj
    have h1 := ih j (by omega)
    have h2 := (h (j + (d + 1)) hj).2.2 (by omega)
    rw [show j + (d + 1) - 1 = j + d by omega] at h2
    omega
theorem RowP.mem {n : Int} {xs : List Int} (h : RowP n xs) {v : Int} (hv : v ∈ xs) : 0 ≤ v ∧ v < n := by
  obtain ⟨j, hj, rfl⟩ := List.mem_iff_getElem.1 hv
  rw [← getD_lt (d := 0) hj]
  have h0 := h.1.mono (xs.length - 1 - j) j (by omega)
  have h1 := h.2 (by omega)
  rw [show j + (xs.length - 1 - j) = xs.length - 1 by omega] at h0
  exact ⟨(h.1 j hj).1, by omega⟩
structure Good (N : Nat) (out : List (List Int)) : Prop where
  le : N ≤ 16
  len : out.length = N
  row : ∀ i, i < N → ∀ v ∈ out.getD i [], 0 ≤ v ∧ v < N
  may : ∀ i, i < N → MayP (out.getD i [])
  sum : lsum out ≤ 120
theorem GraphP.good {n : Int} {out : List (List Int)} (h : GraphP n out) : n = (n.toNat : Int) ∧ Good n.toNat out := by
  obtain ⟨h0, h1, h2, h3, h4⟩ := h
  have e : n = (n.toNat : Int) := by omega
  refine ⟨e, ⟨by omega, by omega, fun i hi v hv => ?_, fun i hi => (h3 i (by omega)).1, h4⟩⟩
  have := (h3 i (by omega)).mem hv
  omega
theorem Good.rlen {N : Nat} {out : List (List Int)} (h : Good N out) (i : Nat) : (out.getD i []).length ≤ 16 := by
  by_cases hi : i < N
  · exact (h.may i hi).len
  · have := h.len; simp [List.getD_eq_getElem?_getD, List.getElem?_eq_none (show out.length ≤ i by omega)]
theorem Good.at {N : Nat} {out : List (List Int)} (h : Good N out) {i j : Nat} (hi : i < N) (hj : j < (out.getD i []).length) : 0 ≤ (out.getD i []).getD j 0 ∧ (out.getD i []).getD j 0 < N := h.row i hi _ (getD_mem hj)
theorem clone_ev (xs : List Int) (h : xs.length ≤ 1000000) : Ev (fun k => q36.f xs) xs := by
  unfold q36.f
  refine bnd (Ev.now _) (pos (by simp; omega) (Ev.now _))
def prs : Nat → List (List Int) → List S78
  | _, [] => []
  | i, r :: rs => r.map (fun v => (⟨i, v⟩ : S78)) ++ prs (i + 1) rs
theorem prs_length : ∀ (i : Nat) (xs : List (List Int)), (prs i xs).length = lsum xs
  | _, [] => rfl
  | i, r :: rs => by rw [prs, List.length_append, List.length_map, prs_length (i + 1) rs, lsum_cons]
theorem prs_mem : ∀ (i : Nat) (xs : List (List Int)) (p : S78), p ∈ prs i xs → ∃ j, j < xs.length ∧ p.f0 = ((i + j : Nat) : Int) ∧ p.f1 ∈ xs.getD j []
  | _, [], p, h => by simp [prs] at h
  | i, r :: rs, p, h => by
    rw [prs] at h
    rcases List.mem_append.1 h with h | h
    · obtain ⟨v, hv, rfl⟩ := List.mem_map.1 h
      exact ⟨0, by simp, by simp, by simpa using hv⟩
    · obtain ⟨j, hj, e, hm⟩ := prs_mem (i + 1) rs p h
      exact ⟨j + 1, by simp; omega, by rw [e]; omega, by simpa using hm⟩
theorem mem_prs : ∀ (i : Nat) (xs : List (List Int)) (j : Nat) (v : Int), j < xs.length → v ∈ xs.getD j [] → (⟨((i + j : Nat) : Int), v⟩ : S78) ∈ prs i xs
  | _, [], j, v, h, _ => by simp at h
  | i, r :: rs, j, v, h, hv => by
    rw [prs]
    rcases Nat.eq_zero_or_pos j with rfl | hj
    · exact List.mem_append.2 (.inl (List.mem_map.2 ⟨v, by simpa using hv, by simp⟩))
    · obtain ⟨j, rfl⟩ : ∃ m, j = m + 1 := ⟨j - 1, by omega⟩
      refine List.mem_append.2 (.inr ?_)
      have := mem_prs (i + 1) rs j v (by simpa using h) (by simpa using hv)
      rwa [show i + 1 + j = i + (j + 1) by omega] at this
theorem prs_drop {xs : List (List Int)} {i : Nat} (h : i < xs.length) : prs i (xs.drop i) = (xs.getD i []).map (fun v => (⟨i, v⟩ : S78)) ++ prs (i + 1) (xs.drop (i + 1)) := by rw [drop_getD (d := []) h, prs]
theorem list_ev (n : Int) (xs : List (List Int)) (hs : Sm xs) : Ev (fun k => q9.f k n xs) (prs 0 xs) := by
  have inner : ∀ (i : Nat) (r : List Int) (res : List S78), r.length ≤ 1000000 → (∀ acc : List S78, acc.length ≤ 1000000 → acc ++ prs (i + 1) (xs.drop (i + 1)) = res → Ev (fun k => q9.l0 k acc xs xs.length (wrap64 ((i : Int) + 1))) res) →
      ∀ j, j ≤ r.length → ∀ acc : List S78, acc.length + (r.length - j) ≤ 1000000 → acc ++ (r.drop j).map (fun v => (⟨i, v⟩ : S78)) ++ prs (i + 1) (xs.drop (i + 1)) = res → Ev (fun k => q9.l1 k acc (i : Int) xs xs.length (i : Int) r r.length (j : Int)) res := by
    intro i r res hr hk
    refine upto ?_ ?_
    · intro acc hl he
      refine Ev.step (fun k => by rw [q9.l1]) ?_
      exact neg (by omega) (hk acc (by omega) (by simpa using he))
    · intro j hj ih acc hl he
      refine Ev.step (fun k => by rw [q9.l1]) ?_
      refine pos (by omega) (pos (by omega) (pos (by omega) (pos (by omega) ?_)))
      rw [rdN, w1 (by omega)]
      refine ih _ (by simp only [List.length_append, List.length_cons, List.length_nil]; omega) ?_
      rw [← he, drop_getD (d := 0) hj]
      simp
  have key : ∀ i, i ≤ xs.length → ∀ acc : List S78, acc.length + lsum (xs.drop i) ≤ 1000000 → acc ++ prs i (xs.drop i) = prs 0 xs → Ev (fun k => q9.l0 k acc xs xs.length (i : Int)) (prs 0 xs) := by
    refine upto ?_ ?_
    · intro acc hl he
      refine Ev.step (fun k => by rw [q9.l0]) ?_
      exact neg (by omega) (ofEq (Ev.now _) (by simpa [prs] using he))
    · intro i hi ih acc hl he
      have hr := hs.row hi
      have hs' : xs.length + lsum xs ≤ 1000000 := hs
      have h1 := lsum_drop hi
      have h2 : (prs (i + 1) (xs.drop (i + 1))).length = lsum (xs.drop (i + 1)) := prs_length _ _
      have h3 : (prs 0 xs).length = lsum xs := prs_length _ _
      refine Ev.step (fun k => by rw [q9.l0]) ?_
      refine pos (by omega) (pos (by omega) (pos (by omega) ?_))
      rw [rd1N]
      refine inner i (xs.getD i []) (prs 0 xs) hr (fun acc' hl' he' => ?_) 0 (by omega) acc (by omega) (by rw [← he, prs_drop hi]; simp)
      rw [w1 (by omega)]
      refine ih acc' ?_ he'
      have := congrArg List.length he'
      rw [List.length_append, h2, h3] at this
      omega
  exact key 0 (by omega) [] (by simpa [Sm] using (show lsum xs ≤ 1000000 by unfold Sm at hs; omega)) (by simp)
def tstep (st : List (List Int)) (p : S78) : List (List Int) := st.set p.f1.toNat (st.getD p.f1.toNat [] ++ [p.f0])
def turn (N : Nat) (out : List (List Int)) : List (List Int) := (prs 0 out).foldl tstep (List.replicate N [])
theorem rdP (xs : List S78) (i : Nat) : rd_T78 xs (i : Int) = xs.getD i z78 := by simp [rd_T78]
theorem rd1I (xs : List (List Int)) (i : Int) : rd_L1 xs i = xs.getD i.toNat [] := rfl
theorem rdI (xs : List Int) (i : Int) : rd xs i = xs.getD i.toNat 0 := rfl
theorem tstep_length (st : List (List Int)) (p : S78) : (tstep st p).length = st.length := by simp [tstep]
theorem tstep_rows {st : List (List Int)} {p : S78} {b : Nat} (h : ∀ j, (st.getD j []).length ≤ b) (hp : p.f1.toNat < st.length) (j : Nat) : ((tstep st p).getD j []).length ≤ b + 1 := by
  unfold tstep
  rw [getD_set _ _ _ _ hp]
  have := h j
  have := h p.f1.toNat
  split
  · simp only [List.length_append, List.length_cons, List.length_nil]; omega
  · omega
theorem fold_length (ps : List S78) : ∀ st, (ps.foldl tstep st).length = st.length := by
  induction ps with
  | nil => intro st; rfl
  | cons p ps ih => intro st; rw [List.foldl_cons, ih, tstep_length]
theorem turn_length (N : Nat) (out : List (List Int)) : (turn N out).length = N := by unfold turn; rw [fold_length]; simp
theorem turned_ev (N : Nat) (out : List (List Int)) (h : Good N out) : Ev (fun k => q20.f k (N : Int) out) ((N : Int), turn N out) := by
  have hle := h.le
  have hlen := h.len
  have hsum := h.sum
  have hps : ∀ p ∈ prs 0 out, 0 ≤ p.f1 ∧ p.f1 < N := fun p hp => by
    obtain ⟨j, hj, _, hm⟩ := prs_mem 0 out p hp
    exact h.row j (by omega) _ hm
  have hpl : (prs 0 out).length = lsum out := prs_length _ _
  have key : ∀ i, i ≤ (prs 0 out).length → ∀ st : List (List Int), st.length = N → (∀ j, (st.getD j []).length ≤ i) → Ev (fun k => q20.l0 k (prs 0 out) (prs 0 out).length (i : Int) (N : Int) st) ((N : Int), ((prs 0 out).drop i).foldl tstep st) := by
    refine upto ?_ ?_
    · intro st hst hr
      refine Ev.step (fun k => by rw [q20.l0]) ?_
      exact neg (by omega) (ofEq (Ev.now _) (by simp))
    · intro i hi ih st hst hr
      have hp := hps _ (getD_mem (d := z78) hi)
      have hr1 := hr ((prs 0 out).getD i z78).f1.toNat
      refine Ev.step (fun k => by rw [q20.l0]) ?_
      refine pos (by omega) (pos (by omega) (pos (by omega) ?_))
      rw [rdP]
      refine pos (by omega) (pos (by omega) ?_)
      rw [rd1I, w1 (by omega)]
      refine pos (by omega) ?_
      have := ih (tstep st ((prs 0 out).getD i z78)) (by rw [tstep_length]; exact hst) (tstep_rows hr (by omega))
      rw [drop_getD (d := z78) hi, List.foldl_cons]
      exact this
  have he : q44.f (N : Int) = some ((N : Int), List.replicate N []) := by
    unfold q44.f
    rw [if_pos (by omega), if_pos (by omega)]; simp
  unfold q20.f
  rw [he]
  refine bnd (Ev.now _) (bnd (list_ev _ out (by unfold Sm; omega)) ?_)
  exact key 0 (by omega) _ (by simp) (fun j => by simp [List.getD_eq_getElem?_getD, List.getElem?_replicate]; split <;> simp)
def pad (c : List Int) (l : Nat) : List Int := c ++ List.replicate (l + 1 - c.length) 0
def cstep (c : List Int) (r : List Int) : List Int := (pad c r.length).set r.length (wrap64 ((pad c r.length).getD r.length 0 + 1))
def cnt (out : List (List Int)) : List Int := out.foldl cstep []
theorem pad_length (c : List Int) (l : Nat) : (pad c l).length = max c.length (l + 1) := by unfold pad; simp; omega
theorem cstep_length (c r : List Int) : (cstep c r).length = max c.length (r.length + 1) := by unfold cstep; rw [List.length_set, pad_length]
theorem count_ev (n : Int) (xs : List (List Int)) (hs : Sm xs) : Ev (fun k => q19.f k n xs) (cnt xs) := by
  have inner : ∀ (i : Nat) (r : List Int) (res : List Int), r.length ≤ 1000000 → (∀ c : List Int, c.length ≤ 1000001 → r.length < c.length → Ev (fun k => q19.l0 k (c.set r.length (wrap64 (c.getD r.length 0 + 1))) xs xs.length (wrap64 ((i : Int) + 1))) (c.set r.length (wrap64 (c.getD r.length 0 + 1)) |> fun c' => (xs.drop (i + 1)).foldl cstep c')) →
      ∀ (d : Nat) (c : List Int), r.length + 1 - c.length = d → c.length ≤ 1000001 → Ev (fun k => q19.l1 k c r xs xs.length (i : Int)) ((xs.drop (i + 1)).foldl cstep (cstep c r)) := by
    intro i r res hr hk d
    induction d with
    | zero =>
      intro c hd hc
      have hp : pad c r.length = c := by unfold pad; rw [hd]; simp
      refine Ev.step (fun k => by rw [q19.l1]) ?_
      refine neg (by omega) (pos (by omega) (pos (by omega) ?_))
      rw [rdN, Int.toNat_natCast]
      have := hk c hc (by omega)
      unfold cstep
      rw [hp]
      exact this
    | succ d ih =>
      intro c hd hc
      refine Ev.step (fun k => by rw [q19.l1]) ?_
      refine pos (by omega) (pos (by omega) ?_)
      have h0 : (c ++ [0]).length = c.length + 1 := by simp
      have := ih (c ++ [0]) (by omega) (by omega)
      have hp : pad (c ++ [0]) r.length = pad c r.length := by
        unfold pad
        rw [show r.length + 1 - (c ++ [(0 : Int)]).length = d by omega, hd, List.replicate_succ]
        simp
      unfold cstep at this ⊢
      rw [hp] at this
      exact this
  have key : ∀ i, i ≤ xs.length → ∀ c : List Int, c.length ≤ 1000001 → Ev (fun k => q19.l0 k c xs xs.length (i : Int)) ((xs.drop i).foldl cstep c) := by
    refine upto ?_ ?_
    · intro c hc
      refine Ev.step (fun k => by rw [q19.l0]) ?_
      exact neg (by omega) (ofEq (Ev.now _) (by simp))
    · intro i hi ih c hc
      have hr := hs.row hi
      have hs' : xs.length + lsum xs ≤ 1000000 := hs
      refine Ev.step (fun k => by rw [q19.l0]) ?_
      refine pos (by omega) (pos (by omega) (pos (by omega) ?_))
      rw [rd1N, drop_getD (d := []) hi, List.foldl_cons]
      refine inner i (xs.getD i []) [] hr (fun c' hc' hlt => ?_) _ c rfl hc
      rw [w1 (by omega)]
      exact ih _ (by simpa using hc')
  exact key 0 (by omega) [] (by simp)
end Go.Proofs.Ytcfhffhmpalkbaa.U
end
