import Derived.SizedLaws
import Derived.ChangeSlices
import Derived.Test.YtcfhffhmpalkbaaSe0
import Derived.Test.YtcfhffhmpalkbaaSe2
import Derived.Laws.BitsLemmas
section
namespace Go.Proofs.YtcfhffhmpalkbaaO
open Go.ChangeShapes Go.WideShapes Go.RowKit Go.Proofs.YtcfhffhmpalkbaaW.PrintWords
set_option linter.unusedVariables false
set_option linter.unusedSimpArgs false
def Opens {α : Type} (P : Program) (t : TypeId) (d : Kd α) (S : α → Prop) : Prop :=
  ∀ (H : Type) (enc : TypeId × Value → H) (W : World) (base : Nat) (spare : Nat → Bool) (held : Bool) (fuel : Nat) (cs : List Value) (x : DataW H × List MemPlace),
    DataW.trod enc P W base spare held fuel t cs = some x → (∀ n ∈ x.1.weights P t, n ≤ 140737488351232) → ∃ a : α, d.K W a cs ∧ S a
section
variable {P : Program}
theorem Opens.int {t : TypeId} {k : IntKind} (hu : P.underlying t = some (.int k)) : Opens P t (Kd.int k) (fun a => (Lit.int k a).wf = true) := by
  intro H enc W base spare held fuel cs x h _
  obtain ⟨m, rfl, rfl, hw⟩ := DataW.trod_int hu h
  exact ⟨m, rfl, hw⟩
theorem Opens.bool {t : TypeId} (hu : P.underlying t = some .bool) : Opens P t Kd.bool (fun _ => True) := by
  intro H enc W base spare held fuel cs x h _
  obtain ⟨m, rfl, rfl⟩ := DataW.trod_bool hu h
  exact ⟨m, rfl, trivial⟩
theorem Opens.string {t : TypeId} (hu : P.underlying t = some .string) : Opens P t Kd.string (fun s => s.size ≤ 140737488351232) := by
  intro H enc W base spare held fuel cs x h hw
  obtain ⟨s, rfl, rfl, _⟩ := DataW.trod_string hu h
  refine ⟨s, rfl, ?_⟩
  have := hw s.data.toList.length (by simp [DataW.weights])
  simpa using this
theorem add_add (a : Addr) (m j : Nat) : (a.add m).add j = a.add (m + j) := by
  unfold Addr.add
  by_cases hm : m = 0
  · subst hm; simp
  · by_cases hj : j = 0
    · subst hj; simp [hm]
    · have : ¬ (m + j = 0) := by omega
      simp [hm, hj, Nat.add_assoc]
theorem choose_list {α : Type} : ∀ (n : Nat) (Q : Nat → α → Prop), (∀ i, i < n → ∃ a, Q i a) → ∃ xs : List α, xs.length = n ∧ ∀ i a, xs[i]? = some a → Q i a
  | 0, _, _ => ⟨[], rfl, fun i a h => by simp at h⟩
  | n + 1, Q, h => by
    obtain ⟨xs, hl, hx⟩ := choose_list n Q (fun i hi => h i (by omega))
    obtain ⟨a, ha⟩ := h n (by omega)
    refine ⟨xs ++ [a], by simp [hl], fun i b hb => ?_⟩
    by_cases hi : i < n
    · rw [List.getElem?_append_left (by omega)] at hb
      exact hx i b hb
    · have hi2 : i < (xs ++ [a]).length := (List.getElem?_eq_some_iff.1 hb).1
      have hi3 : i = n := by simp [hl] at hi2; omega
      subst hi3
      rw [List.getElem?_append_right (by omega), hl] at hb
      simp at hb
      subst hb
      exact ha
theorem weightsAll_mem {H : Type} {e : TypeId} : ∀ {ds : List (DataW H)} {i : Nat} {d : DataW H}, ds[i]? = some d → ∀ n ∈ d.weights P e, n ∈ DataW.weightsAll P e ds
  | d0 :: ds, 0, d, h, n, hn => by
    simp only [List.getElem?_cons_zero, Option.some.injEq] at h
    subst h
    simp only [DataW.weightsAll, List.mem_append]
    exact Or.inl hn
  | d0 :: ds, i + 1, d, h, n, hn => by
    simp only [List.getElem?_cons_succ] at h
    simp only [DataW.weightsAll, List.mem_append]
    exact Or.inr (weightsAll_mem h n hn)
  | [], _, _, h, _, _ => by simp at h
theorem Opens.slice {α : Type} {t e : TypeId} {d : Kd α} {S : α → Prop} {B : Nat} (hu : P.underlying t = some (.slice e)) (hs : P.cellsOf e = d.sz) (hB : P.bytesOf e = B) (ho : Opens P e d S) :
    Opens P t (Kd.slice e d) (fun xs => xs.length * B ≤ 140737488351232 ∧ ∀ x ∈ xs, S x) := by
  intro H enc W base spare held fuel cs x h hw
  rcases DataW.trod_slice hu h with ⟨rfl, rfl⟩ | ⟨a, len, cap, elems, rest, n, _, rfl, rfl, _, hl, hm, hlen, hel, _, _⟩
  · exact ⟨[], ⟨none, 0, rfl, Nat.le_refl _, rfl, by simp, fun h0 => absurd h0 (by simp)⟩, by simp, fun x hx => by simp at hx⟩
  · have hwa : ∀ (i : Nat) y, elems[i]? = some y → ∀ n ∈ y.1.weights P e, n ≤ 140737488351232 := by
      intro i y hy m hmm
      refine hw m ?_
      simp only [DataW.weights, hu, List.mem_cons, List.mem_append]
      refine Or.inr (Or.inl (weightsAll_mem (i := i) (d := y.1) (by rw [List.getElem?_map, hy]; rfl) m hmm))
    obtain ⟨xs, hxl, hx⟩ := choose_list len (fun i p => (∃ c : List Value, c.length = d.sz ∧ d.K W p c ∧ ∀ j u, c[j]? = some u → W.cell? (a.add (i * d.sz + j)) = some u) ∧ S p) (by
      intro i hi
      have h1 := hel i hi
      obtain ⟨y, hy⟩ : ∃ y, elems[i]? = some y := ⟨_, List.getElem?_eq_getElem (by omega)⟩
      rw [hy, Option.bind_eq_some_iff] at h1
      obtain ⟨c, hc, ht⟩ := h1
      obtain ⟨p, hp, hS⟩ := ho H enc W base spare held n c y ht (hwa i y hy)
      obtain ⟨_, hcl, hcell⟩ := World.cells?_some hc
      refine ⟨p, ⟨c, by rw [hcl, hs], hp, fun j u hj => ?_⟩, hS⟩
      have hj2 : j < P.cellsOf e := by rw [← hcl]; exact (List.getElem?_eq_some_iff.1 hj).1
      have h2 := hcell j hj2
      rw [hj] at h2
      rw [← h2, ← hs, add_add])
    refine ⟨xs, ⟨some a, cap, by rw [hxl], by omega, rfl, by unfold maxLen at hm; omega, fun _ => ⟨a, rfl, fun j p hj => (hx j p hj).1⟩⟩, ?_, ?_⟩
    · have h1 := hw ((elems.length + rest.length) * P.bytesOf e) (by simp [DataW.weights, hu])
      rw [hB] at h1
      refine Nat.le_trans (Nat.mul_le_mul_right _ ?_) h1
      omega
    · intro p hp
      obtain ⟨i, hi⟩ := List.getElem?_of_mem hp
      exact (hx i p hi).2
def OpensFs {α : Type} (P : Program) (o : Nat) (fs : List Field) (d : Kd α) (S : α → Prop) : Prop :=
  ∀ (H : Type) (enc : TypeId × Value → H) (W : World) (base : Nat) (spare : Nat → Bool) (held : Bool) (fuel : Nat) (cs : List Value) (xs : List (DataW H × List MemPlace)),
    xs.length = fs.length → (∀ (i : Nat) (f : Field), fs[i]? = some f → DataW.trod enc P W base spare held fuel f.type ((cs.drop f.offset).take (P.cellsOf f.type)) = xs[i]?) →
    cs.length = o + d.sz → (∀ n ∈ DataW.weightsEach P (fs.map (·.type)) (xs.map (·.1)), n ≤ 140737488351232) → ∃ a : α, d.K W a (cs.drop o) ∧ S a
theorem OpensFs.one {α : Type} {o : Nat} {f : Field} {d : Kd α} {S : α → Prop} (hf : f.offset = o) (hs : P.cellsOf f.type = d.sz) (ho : Opens P f.type d S) : OpensFs P o [f] d S := by
  intro H enc W base spare held fuel cs xs hl hx hc hw
  obtain ⟨y, rfl⟩ : ∃ y, xs = [y] := by
    match xs, hl with
    | [y], _ => exact ⟨y, rfl⟩
  have h1 := hx 0 f rfl
  rw [hf, hs, List.take_of_length_le (by simp; omega)] at h1
  exact ho H enc W base spare held fuel (cs.drop o) y h1 (fun n hn => hw n (by simpa [DataW.weightsEach] using hn))
theorem OpensFs.cons {α β : Type} {o : Nat} {f : Field} {fs : List Field} {d : Kd α} {d' : Kd β} {S : α → Prop} {S' : β → Prop} (hf : f.offset = o) (hs : P.cellsOf f.type = d.sz) (ho : Opens P f.type d S) (hr : OpensFs P (o + d.sz) fs d' S') :
    OpensFs P o (f :: fs) (Kd.pair d d') (fun a => S a.1 ∧ S' a.2) := by
  intro H enc W base spare held fuel cs xs hl hx hc hw
  obtain ⟨y, ys, rfl⟩ : ∃ y ys, xs = y :: ys := by
    match xs, hl with
    | y :: ys, _ => exact ⟨y, ys, rfl⟩
  have hc' : cs.length = o + (d.sz + d'.sz) := hc
  have h1 := hx 0 f rfl
  rw [hf, hs] at h1
  obtain ⟨p, hp, hS⟩ := ho H enc W base spare held fuel _ y h1 (fun n hn => hw n (by
    simp only [List.map_cons, DataW.weightsEach, List.mem_append]
    exact Or.inl hn))
  obtain ⟨q, hq, hS'⟩ := hr H enc W base spare held fuel cs ys (by simpa using hl) (fun i g hg => by simpa using hx (i + 1) g (by simpa using hg)) (by omega) (fun n hn => hw n (by
    simp only [List.map_cons, DataW.weightsEach, List.mem_append]
    exact Or.inr hn))
  refine ⟨(p, q), ⟨(cs.drop o).take d.sz, cs.drop (o + d.sz), ?_, hp, hq⟩, hS, hS'⟩
  rw [← List.drop_drop, List.take_append_drop]
theorem Opens.struct {α β : Type} {t : TypeId} {fs : Array Field} {d : Kd α} {S : α → Prop} {f : β → α} {g : α → β} (hu : P.underlying t = some (.struct fs)) (hs : P.cellsOf t = d.sz) (hfg : ∀ x, f (g x) = x) (ho : OpensFs P 0 fs.toList d S) :
    Opens P t (Kd.iso d f) (fun b => S (f b)) := by
  intro H enc W base spare held fuel cs x h hw
  obtain ⟨xs, n, _, rfl, hc, hl, hx⟩ := DataW.trod_struct hu h
  obtain ⟨a, ha, hS⟩ := ho H enc W base spare held n cs xs (by simpa using hl) (fun i f hf => hx i f (by simpa using hf)) (by rw [hc, hs]; omega) (fun n hn => hw n (by simpa [DataW.weights, hu] using hn))
  refine ⟨g a, ?_, ?_⟩
  · show d.K W (f (g a)) cs
    rw [hfg]
    simpa using ha
  · show S (f (g a))
    rw [hfg]
    exact hS
end
end Go.Proofs.YtcfhffhmpalkbaaO
end
section
namespace Go.Proofs.Ytcfhffhmpalkbaa.P
open Go.RowKit Go.Proofs.YtcfhffhmpalkbaaM Go.Proofs.YtcfhffhmpalkbaaW.PrintWords Go.Proofs.YtcfhffhmpalkbaaW.PrintLast Go.Proofs.YtcfhffhmpalkbaaW.PrintMore
attribute [local go_sem] Go.Instr.field Go.asAgg max2_int min2_int max_two min_two max_three min_three max_four min_four
set_option linter.unusedVariables false
set_option linter.unusedSimpArgs false
open Go.Proofs.YtcfhffhmpalkbaaO
set_option maxRecDepth 100000 in
theorem opens24 : Opens Try.prog 24 k24 Sz24 := by
 have h := Opens.struct (P := Try.prog) (f := fun x : S24 => x.f0) (g := fun y => (⟨y⟩ : S24)) Try.underlying24 (by kernel_rfl) (fun _ => rfl) (OpensFs.one rfl (by kernel_rfl) (Opens.slice (B := 16) Try.underlying22 (by kernel_rfl) (by kernel_rfl) (Opens.string Try.underlying9)))
 exact h
end Go.Proofs.Ytcfhffhmpalkbaa.P
end
section
namespace Go.Proofs.Ytcfhffhmpalkbaa.U
open Go.RowKit Go.Proofs.Ytcfhffhmpalkbaa.P Go.Proofs.YtcfhffhmpalkbaaW.PrintWords Go.Proofs.YtcfhffhmpalkbaaW.PrintLast Go.Proofs.YtcfhffhmpalkbaaW.PrintMore
set_option linter.unusedVariables false
set_option linter.unusedSimpArgs false
theorem pos {α : Type} {c : Prop} [Decidable c] {f g : Nat → Option α} {r : α} (h : c) (k : Ev f r) : Ev (fun n => if c then f n else g n) r := Ev.congr (fun _ => if_pos h) k
theorem neg {α : Type} {c : Prop} [Decidable c] {f g : Nat → Option α} {r : α} (h : ¬ c) (k : Ev g r) : Ev (fun n => if c then f n else g n) r := Ev.congr (fun _ => if_neg h) k
theorem bnd {α β : Type} {g : Nat → Option α} {f : Nat → α → Option β} {a : α} {r : β} (h : Ev g a) (k : Ev (fun n => f n a) r) : Ev (fun n => (g n).bind (f n)) r := Ev.bind h k
theorem tail {α : Type} {g : Nat → Option α} {r : α} (h : Ev g r) : Ev (fun n => (g n).bind fun t => some t) r := Ev.bind h (Ev.now r)
theorem ofEq {α : Type} {g : Nat → Option α} {r s : α} (h : Ev g r) (e : r = s) : Ev g s := e ▸ h
theorem w64 {i : Int} (h : -9223372036854775808 ≤ i) (h' : i ≤ 9223372036854775807) : wrap64 i = i := by unfold wrap64; omega
theorem w1 {i : Nat} (h : i < 4611686018427387904) : wrap64 ((i : Int) + 1) = ((i + 1 : Nat) : Int) := by unfold wrap64; omega
theorem upto {n : Nat} {Q : Nat → Prop} (base : Q n) (step : ∀ i, i < n → Q (i + 1) → Q i) : ∀ i, i ≤ n → Q i := by
  have key : ∀ d i, i + d = n → Q i := by
    intro d
    induction d with
    | zero => intro i hi; rw [show i = n by omega]; exact base
    | succ d ih => intro i hi; exact step i (by omega) (ih (i + 1) (by omega))
  intro i hi
  exact key (n - i) i (by omega)
end Go.Proofs.Ytcfhffhmpalkbaa.U
end
section
namespace Go.Proofs.Ytcfhffhmpalkbaa.U
open Go.RowKit Go.Proofs.Ytcfhffhmpalkbaa.P Go.Proofs.YtcfhffhmpalkbaaW.PrintWords Go.Proofs.YtcfhffhmpalkbaaW.PrintLast Go.Proofs.YtcfhffhmpalkbaaW.PrintMore
set_option linter.unusedVariables false
set_option linter.unusedSimpArgs false
theorem or16 {x y : Int} (h0 : 0 ≤ x) (h1 : x < 4294967296) (h2 : x % 65536 = 0) (h3 : 0 ≤ y) (h4 : y < 65536) : Go.bits .or .u32 x y = x + y :=
  bits_join .u32 32 (by decide) (fun n a b => by simp only [IntKind.wrap]; exact Int.emod_eq_of_lt a b) 16 x y h0 h2 h1 h3 h4 (Int.lt_trans h4 (by decide))
theorem adler1 {a c : Int} (h0 : 0 ≤ a) (h1 : a < 65521) (h2 : 0 ≤ c) (h3 : c ≤ 255) : ((a + c % 4294967296) % 4294967296) % 65521 = (a + c) % 65521 := by
  rw [Int.emod_eq_of_lt h2 (by omega), Int.emod_eq_of_lt (show 0 ≤ a + c by omega) (by omega)]
theorem adler2 {b c : Int} (h0 : 0 ≤ b) (h1 : b < 65521) : ((b + c % 65521) % 4294967296) % 65521 = (b + c % 65521) % 65521 := by
  have h2 := Int.emod_nonneg c (show (65521 : Int) ≠ 0 by decide)
  have h3 := Int.emod_lt_of_pos c (show (0 : Int) < 65521 by decide)
  rw [Int.emod_eq_of_lt (show 0 ≤ b + c % 65521 by omega) (by omega)]
theorem adler3 {a c : Int} (h0 : 0 ≤ a) (h1 : a < 65521) (h2 : 0 ≤ c) (h3 : c ≤ 255) : Int.tmod (wrap64 (a + wrap64 c)) 65521 = (a + c) % 65521 := by
  rw [w64 (i := c) (by omega) (by omega), w64 (by omega) (by omega), Int.tmod_eq_emod_of_nonneg (by omega)]
theorem adler4 {b c : Int} (h0 : 0 ≤ b) (h1 : b < 65521) : Int.tmod (wrap64 (b + c % 65521)) 65521 = (b + c % 65521) % 65521 := by
  have h2 := Int.emod_nonneg c (show (65521 : Int) ≠ 0 by decide)
  have h3 := Int.emod_lt_of_pos c (show (0 : Int) < 65521 by decide)
  rw [w64 (by omega) (by omega), Int.tmod_eq_emod_of_nonneg (by omega)]
theorem of_ev (s : ByteArray) (hs : s.size ≤ 4611686018427387903) : ∃ v : Int, 0 ≤ v ∧ v < 4294967296 ∧ Ev (fun k => q1.f k s) v ∧ Ev (fun k => q3.f k s) v := by
  have key : ∀ i, i ≤ s.size → ∀ a b : Int, 0 ≤ a → a < 65521 → 0 ≤ b → b < 65521 → ∃ v : Int, 0 ≤ v ∧ v < 4294967296 ∧ Ev (fun k => q1.l0 k s a b (s.size : Int) (i : Int)) v ∧ Ev (fun k => q3.l0 k s a b (i : Int)) v := by
    refine upto ?_ ?_
    · intro a b ha ha' hb hb'
      have e1 : wrap64 (b * 65536) = b * 65536 := w64 (by omega) (by omega)
      have e2 : wrap64 (b * 65536 + a) = b * 65536 + a := w64 (by omega) (by omega)
      refine ⟨b * 65536 + a, by omega, by omega, ?_, ?_⟩
      · refine Ev.step (fun k => by rw [q1.l0]) ?_
        refine neg (by omega) (ofEq (Ev.now _) ?_)
        rw [Int.emod_eq_of_lt (by omega) (by omega), or16 (by omega) (by omega) (by omega) ha (by omega)]
      · refine Ev.step (fun k => by rw [q3.l0]) ?_
        refine neg (by omega) (ofEq (Ev.now _) ?_)
        rw [e1, e2]; omega
    · intro i hi ih a b ha ha' hb hb'
      obtain ⟨hc, hc'⟩ := bt_range s (i : Int)
      obtain ⟨v, h0, h1, h2, h3⟩ := ih ((a + bt s i) % 65521) ((b + (a + bt s i) % 65521) % 65521) (Int.emod_nonneg _ (by decide)) (Int.emod_lt_of_pos _ (by decide)) (Int.emod_nonneg _ (by decide)) (Int.emod_lt_of_pos _ (by decide))
      refine ⟨v, h0, h1, ?_, ?_⟩
      · refine Ev.step (fun k => by rw [q1.l0]) ?_
        refine pos (by omega) (pos (by omega) (pos (by omega) ?_))
        rw [adler1 ha ha' hc hc', adler2 hb hb', w1 (by omega)]
        exact h2
      · refine Ev.step (fun k => by rw [q3.l0]) ?_
        refine pos (by omega) (pos (by omega) ?_)
        rw [adler3 ha ha' hc hc', adler4 hb hb', w1 (by omega)]
        exact h3
  exact key 0 (by omega) 1 0 (by omega) (by omega) (by omega) (by omega)
def nulls (n : Nat) : ByteArray := ⟨(List.replicate n 0).toArray⟩
theorem nulls_size (n : Nat) : (nulls n).size = n := by unfold nulls; show (List.replicate n 0).toArray.size = n; simp
theorem repeat_nulls (n : Nat) (h : n ≤ 1000) : q12.f (⟨#[0]⟩ : ByteArray) (n : Int) = some (nulls n) := by
  have hz : ((⟨#[0]⟩ : ByteArray).size : Int) = 1 := rfl
  have hr : ∀ m, Lib.repeatL [0] m = List.replicate m 0 := fun m => by
    induction m with
    | zero => rfl
    | succ m ih => rw [Lib.repeatL, ih]; rfl
  unfold q12.f
  rw [if_pos (by omega), if_pos (by rw [hz]; omega), if_pos (by omega), Int.toNat_natCast]
  show some (⟨(Lib.repeatL [0] n).toArray⟩ : ByteArray) = _
  rw [hr]; rfl
theorem zeros_nulls (n : Nat) (h : n ≤ 1000) : q11.f (n : Int) = some (nulls n) := by
  unfold q11.f
  rw [if_pos (by omega), if_pos (by omega), Int.toNat_natCast]
  unfold nulls
  congr 1
  show strOfNums (List.replicate n 0) = _
  unfold strOfNums
  simp
def room (s : ByteArray) : ByteArray := s.extract 0 (min s.size 60) ++ nulls (60 - min s.size 60)
theorem room_size (s : ByteArray) : (room s).size = 60 := by
  unfold room
  rw [ByteArray.size_append, ByteArray.size_extract, nulls_size]
  omega
def four (v : Int) : ByteArray := strOfNums ([(v / 16777216) % 256, (v / 65536) % 256, (v / 256) % 256, v % 256] : List Int)
theorem four_size (v : Int) : (four v).size = 4 := rfl
theorem check_ev (s : ByteArray) (hs : s.size ≤ 4611686018427387903) : ∃ v : Int, 0 ≤ v ∧ v < 4294967296 ∧ Ev (fun k => q3.f k s) v ∧ Ev (fun k => q8.f k s) (four v) := by
  obtain ⟨v, h0, h1, h2, h3⟩ := of_ev s hs
  exact ⟨v, h0, h1, h3, bnd h2 (Ev.now _)⟩
theorem add_ev (s : ByteArray) (hs : s.size ≤ 4611686018427387903) : ∃ v : Int, Ev (fun k => q8.f k (room s)) (four v) ∧ Ev (fun k => q6.f k s) (room s ++ four v) ∧ Ev (fun k => q13.f k s) (room s ++ four v) := by
  obtain ⟨v, h0, h1, hr, hc⟩ := check_ev (room s) (by rw [room_size]; omega)
  have hn : q9.f (wrap64 v) = some (four v) := by rw [w64 (by omega) (by omega)]; rfl
  have hrs := room_size s
  have hfs := four_size v
  have hex : (s.extract 0 (min s.size 60)).size = min s.size 60 := by rw [ByteArray.size_extract]; omega
  have hmn : mn (s.size : Int) 60 = ((min s.size 60 : Nat) : Int) := by unfold mn; split <;> omega
  refine ⟨v, hc, ?_, ?_⟩
  · unfold q6.f
    rw [hmn, Int.toNat_natCast, hex, w64 (by omega) (by omega), show (60 : Int) - ((min s.size 60 : Nat) : Int) = ((60 - min s.size 60 : Nat) : Int) by omega, repeat_nulls _ (by omega)]
    refine pos (by omega) (pos (by omega) (bnd (Ev.now _) (pos (by rw [nulls_size]; omega) ?_)))
    refine bnd (show Ev (fun k => q8.f k (room s)) (four v) from hc) (pos ?_ (Ev.now _))
    show (room s).size + (four v).size ≤ _
    omega
  · unfold q13.f
    by_cases h60 : (s.size : Int) > 60
    · have e : min s.size 60 = 60 := by omega
      rw [e] at hex
      have er : s.extract 0 60 ++ nulls 0 = room s := by unfold room; rw [e]
      refine pos h60 (pos (by omega) (pos (by omega) ?_))
      rw [hex, show wrap64 (60 - ((60 : Nat) : Int)) = ((0 : Nat) : Int) by rw [w64 (by omega) (by omega)]; omega, zeros_nulls 0 (by omega)]
      refine bnd (Ev.now _) (pos (by rw [nulls_size]; omega) ?_)
      rw [er]
      refine bnd hr ?_
      rw [hn]
      exact bnd (Ev.now _) (pos (by omega) (Ev.now _))
    · have e : min s.size 60 = s.size := by omega
      have er : s ++ nulls (60 - s.size) = room s := by unfold room; rw [e, ByteArray.extract_zero_size]
      refine neg h60 ?_
      rw [w64 (by omega) (by omega), show (60 : Int) - (s.size : Int) = ((60 - s.size : Nat) : Int) by omega, zeros_nulls _ (by omega)]
      refine bnd (Ev.now _) (pos (by rw [nulls_size]; omega) ?_)
      rw [er]
      refine bnd hr ?_
      rw [hn]
      exact bnd (Ev.now _) (pos (by omega) (Ev.now _))
theorem take_ev {q : ByteArray} {v : Int} (hq : q.size = 60) (hc : Ev (fun k => q8.f k q) (four v)) : Ev (fun k => q7.f k (q ++ four v)) (q, true) := by
  have hs : (q ++ four v).size = 64 := by rw [ByteArray.size_append, hq, four_size]
  have e1 : (q ++ four v).extract 0 60 = q := ByteArray.extract_append_eq_left hq.symm
  have e2 : (q ++ four v).extract 60 (q ++ four v).size = four v := ByteArray.extract_append_eq_right hq.symm (ByteArray.size_append)
  unfold q7.f
  rw [e1, e2]
  exact pos (by omega) (pos (by omega) (pos (by omega) (bnd hc (pos rfl (Ev.now _)))))
theorem sealWakes_ev : Ev (fun k => q10.f k) true := Ev.of (q10.mono) (k := 100) (by decide +kernel)
end Go.Proofs.Ytcfhffhmpalkbaa.U
end
section
namespace Go.Proofs.Ytcfhffhmpalkbaa.Pure
open Go.RowKit Go.Proofs.Ytcfhffhmpalkbaa.P Go.Proofs.Ytcfhffhmpalkbaa.U Go.Proofs.YtcfhffhmpalkbaaW.PrintWords Go.Proofs.YtcfhffhmpalkbaaW.PrintLast Go.Proofs.YtcfhffhmpalkbaaW.PrintMore
set_option linter.unusedVariables false
set_option linter.unusedSimpArgs false
theorem SealEdges : q2.Pure := by
  intro x hS
  apply Ev.rounds
  have hx := hS.1
  unfold q2.f
  generalize x.f0 = l at *
  have l1 : ∀ i : Nat, i ≤ 8 → ∀ s : ByteArray, s.size ≤ 200 * 2 ^ i → Ev (fun k => q2.l1 k s (i : Int)) true := by
    refine upto ?_ ?_
    · intro s hs
      obtain ⟨v, _, _, h2, h3⟩ := of_ev s (by omega)
      refine Ev.step (fun k => by rw [q2.l1]) ?_
      exact neg (by omega) (bnd h2 (bnd h3 (pos rfl (tail sealWakes_ev))))
    · intro i hi ih s hs
      have h2 : 2 ^ i ≤ 2 ^ 8 := Nat.pow_le_pow_right (by omega) (by omega)
      refine Ev.step (fun k => by rw [q2.l1]) ?_
      refine pos (by omega) (pos (by omega) ?_)
      rw [w1 (by omega)]
      exact ih _ (by rw [ByteArray.size_append, Nat.pow_succ]; omega)
  have l0 : ∀ i, i ≤ 200 → ∀ s : ByteArray, s.size = i → Ev (fun k => q2.l0 k s (i : Int) l) true := by
    refine upto ?_ ?_
    · intro s hs
      refine Ev.step (fun k => by rw [q2.l0]) ?_
      exact neg (by omega) (l1 0 (by omega) s (by omega))
    · intro i hi ih s hs
      obtain ⟨v, _, _, h2, h3⟩ := of_ev s (by omega)
      obtain ⟨u, hc, ha, hr⟩ := add_ev s (by omega)
      have hq := room_size s
      have hj : Ev (fun k => q2.j1 k s (i : Int) false l) true := by
        refine Ev.step (fun k => by rw [q2.j1]) ?_
        refine neg (by simp) (bnd ha (bnd (take_ev hq hc) (pos rfl (pos (by dsimp only; omega) (bnd (Ev.now _) (pos ?_ ?_))))))
        · show s.size + 1 ≤ _; omega
        · rw [w1 (by omega)]
          exact ih _ (by rw [ByteArray.size_append]; show s.size + 1 = _; omega)
      refine Ev.step (fun k => by rw [q2.l0]) ?_
      refine pos (by omega) (bnd h2 (bnd h3 (pos rfl (bnd ha (bnd hr ?_)))))
      rw [show (((room s ++ four u).toList != (room s ++ four u).toList)) = false by simp]
      exact hj
  exact l0 0 (by omega) (⟨#[]⟩ : ByteArray) rfl
end Go.Proofs.Ytcfhffhmpalkbaa.Pure
end
