import Derived.Test.YtcfhffhmpalkbaaKo19
section
namespace Go.Proofs.Ytcfhffhmpalkbaa.U
open Go.RowKit Go.Proofs.Ytcfhffhmpalkbaa.P Go.Proofs.YtcfhffhmpalkbaaW.PrintWords Go.Proofs.YtcfhffhmpalkbaaW.PrintLast Go.Proofs.YtcfhffhmpalkbaaW.PrintMore
set_option linter.unusedVariables false
set_option linter.unusedSimpArgs false
theorem MayP.mono {xs : List Int} (h : MayP xs) : ∀ d j : Nat, j + d < xs.length → xs.getD j 0 + d ≤ xs.getD (j + d) 0 := by
  intro d
  induction d with
  | zero => intro j hj; simp
  | succ d ih =>
    intro j hj
    have h1 := ih j (by omega)
    have h2 := (h (j + (d + 1)) hj).2.2 (by omega)
    rw [show j + (d + 1) - 1 = j + d by omega] at h2
    omega
theorem RowP.mem {n : Int} {xs : List Int} (h : RowP n xs) {v : Int} (hv : v ∈ xs) : 0 ≤ v ∧ v < n := by
  obtain ⟨j, hj, rfl⟩ := List.mem_iff_getElem.1 hv
  rw [← getD_lt (d := 0) hj]
  have h0 := h.1.mono (xs.length - 1 - j) j (by omega)
  have h1 := h.2 (by omega)
  rw [show j + (xs.length - 1 - j) = xs.length - 1 by omega] at h0
  exact ⟨(h.1 j hj).1, by omega⟩
structure Good (N : Nat) (out : List (List Int)) : Prop where
  le : N ≤ 16
  len : out.length = N
  row : ∀ i, i < N → ∀ v ∈ out.getD i [], 0 ≤ v ∧ v < N
  may : ∀ i, i < N → MayP (out.getD i [])
  sum : lsum out ≤ 120
theorem GraphP.good {n : Int} {out : List (List Int)} (h : GraphP n out) : n = (n.toNat : Int) ∧ Good n.toNat out := by
  obtain ⟨h0, h1, h2, h3, h4⟩ := h
  have e : n = (n.toNat : Int) := by omega
  refine ⟨e, ⟨by omega, by omega, fun i hi v hv => ?_, fun i hi => (h3 i (by omega)).1, h4⟩⟩
  have := (h3 i (by omega)).mem hv
  omega
theorem Good.rlen {N : Nat} {out : List (List Int)} (h : Good N out) (i : Nat) : (out.getD i []).length ≤ 16 := by
  by_cases hi : i < N
  · exact (h.may i hi).len
  · have := h.len; simp [List.getD_eq_getElem?_getD, List.getElem?_eq_none (show out.length ≤ i by omega)]
theorem Good.at {N : Nat} {out : List (List Int)} (h : Good N out) {i j : Nat} (hi : i < N) (hj : j < (out.getD i []).length) : 0 ≤ (out.getD i []).getD j 0 ∧ (out.getD i []).getD j 0 < N := h.row i hi _ (getD_mem hj)
theorem clone_ev (xs : List Int) (h : xs.length ≤ 1000000) : Ev (fun k => q55.f xs) xs := by
  unfold q55.f
  refine bnd (Ev.now _) (pos (by simp; omega) (Ev.now _))
theorem copy_ev (xs : List Int) (h : xs.length ≤ 1000000) : Ev (fun k => q44.f k xs) xs := by
  have key : ∀ i, i ≤ xs.length → Ev (fun k => q44.l0 k xs (xs.take i) (i : Int)) xs := by
    refine upto ?_ ?_
    · refine Ev.step (fun k => by rw [q44.l0]) ?_
      exact neg (by omega) (ofEq (Ev.now _) (List.take_length))
    · intro i hi ih
      refine Ev.step (fun k => by rw [q44.l0]) ?_
      refine pos (by omega) (pos (by omega) (pos (by simp; omega) ?_))
      rw [rdN, w1 (by omega), ← take_getD hi]
      exact ih
  exact key 0 (by omega)
def prs : Nat → List (List Int) → List S78
  | _, [] => []
  | i, r :: rs => r.map (fun v => (⟨i, v⟩ : S78)) ++ prs (i + 1) rs
theorem prs_length : ∀ (i : Nat) (xs : List (List Int)), (prs i xs).length = lsum xs
  | _, [] => rfl
  | i, r :: rs => by rw [prs, List.length_append, List.length_map, prs_length (i + 1) rs, lsum_cons]
theorem prs_mem : ∀ (i : Nat) (xs : List (List Int)) (p : S78), p ∈ prs i xs → ∃ j, j < xs.length ∧ p.f0 = ((i + j : Nat) : Int) ∧ p.f1 ∈ xs.getD j []
  | _, [], p, h => by simp [prs] at h
  | i, r :: rs, p, h => by
    rw [prs] at h
    rcases List.mem_append.1 h with h | h
    · obtain ⟨v, hv, rfl⟩ := List.mem_map.1 h
      exact ⟨0, by simp, by simp, by simpa using hv⟩
    · obtain ⟨j, hj, e, hm⟩ := prs_mem (i + 1) rs p h
      exact ⟨j + 1, by simp; omega, by rw [e]; omega, by simpa using hm⟩
theorem mem_prs : ∀ (i : Nat) (xs : List (List Int)) (j : Nat) (v : Int), j < xs.length → v ∈ xs.getD j [] → (⟨((i + j : Nat) : Int), v⟩ : S78) ∈ prs i xs
  | _, [], j, v, h, _ => by simp at h
  | i, r :: rs, j, v, h, hv => by
    rw [prs]
    rcases Nat.eq_zero_or_pos j with rfl | hj
    · exact List.mem_append.2 (.inl (List.mem_map.2 ⟨v, by simpa using hv, by simp⟩))
    · obtain ⟨j, rfl⟩ : ∃ m, j = m + 1 := ⟨j - 1, by omega⟩
      refine List.mem_append.2 (.inr ?_)
      have := mem_prs (i + 1) rs j v (by simpa using h) (by simpa using hv)
      rwa [show i + 1 + j = i + (j + 1) by omega] at this
theorem prs_drop {xs : List (List Int)} {i : Nat} (h : i < xs.length) : prs i (xs.drop i) = (xs.getD i []).map (fun v => (⟨i, v⟩ : S78)) ++ prs (i + 1) (xs.drop (i + 1)) := by rw [drop_getD (d := []) h, prs]
theorem list_ev (n : Int) (xs : List (List Int)) (hs : Sm xs) : Ev (fun k => q8.f k n xs) (prs 0 xs) := by
  have inner : ∀ (i : Nat) (r : List Int) (res : List S78), r.length ≤ 1000000 → (∀ acc : List S78, acc.length ≤ 1000000 → acc ++ prs (i + 1) (xs.drop (i + 1)) = res → Ev (fun k => q8.l0 k acc xs xs.length (wrap64 ((i : Int) + 1))) res) →
      ∀ j, j ≤ r.length → ∀ acc : List S78, acc.length + (r.length - j) ≤ 1000000 → acc ++ (r.drop j).map (fun v => (⟨i, v⟩ : S78)) ++ prs (i + 1) (xs.drop (i + 1)) = res → Ev (fun k => q8.l1 k acc (i : Int) xs xs.length (i : Int) r r.length (j : Int)) res := by
    intro i r res hr hk
    refine upto ?_ ?_
    · intro acc hl he
      refine Ev.step (fun k => by rw [q8.l1]) ?_
      exact neg (by omega) (hk acc (by omega) (by simpa using he))
    · intro j hj ih acc hl he
      refine Ev.step (fun k => by rw [q8.l1]) ?_
      refine pos (by omega) (pos (by omega) (pos (by omega) (pos (by omega) ?_)))
      rw [rdN, w1 (by omega)]
      refine ih _ (by simp only [List.length_append, List.length_cons, List.length_nil]; omega) ?_
      rw [← he, drop_getD (d := 0) hj]
      simp
  have key : ∀ i, i ≤ xs.length → ∀ acc : List S78, acc.length + lsum (xs.drop i) ≤ 1000000 → acc ++ prs i (xs.drop i) = prs 0 xs → Ev (fun k => q8.l0 k acc xs xs.length (i : Int)) (prs 0 xs) := by
    refine upto ?_ ?_
    · intro acc hl he
      refine Ev.step (fun k => by rw [q8.l0]) ?_
      exact neg (by omega) (ofEq (Ev.now _) (by simpa [prs] using he))
    · intro i hi ih acc hl he
      have hr := hs.row hi
      have hs' : xs.length + lsum xs ≤ 1000000 := hs
      have h1 := lsum_drop hi
      have h2 : (prs (i + 1) (xs.drop (i + 1))).length = lsum (xs.drop (i + 1)) := prs_length _ _
      have h3 : (prs 0 xs).length = lsum xs := prs_length _ _
      refine Ev.step (fun k => by rw [q8.l0]) ?_
      refine pos (by omega) (pos (by omega) (pos (by omega) ?_))
      rw [rd1N]
      refine inner i (xs.getD i []) (prs 0 xs) hr (fun acc' hl' he' => ?_) 0 (by omega) acc (by omega) (by rw [← he, prs_drop hi]; simp)
      rw [w1 (by omega)]
      refine ih acc' ?_ he'
      have := congrArg List.length he'
      rw [List.length_append, h2, h3] at this
      omega
  exact key 0 (by omega) [] (by simpa [Sm] using (show lsum xs ≤ 1000000 by unfold Sm at hs; omega)) (by simp)
theorem pairs_ev (n : Int) (xs : List (List Int)) (hs : Sm xs) (hn : n = xs.length) : Ev (fun k => q34.f k n xs) (prs 0 xs) := by
  have inner : ∀ (i : Nat) (res : List S78), i < xs.length → (∀ acc : List S78, acc.length ≤ 1000000 → acc ++ prs (i + 1) (xs.drop (i + 1)) = res → Ev (fun k => q34.l0 k acc (wrap64 ((i : Int) + 1)) n xs) res) →
      ∀ j, j ≤ (xs.getD i []).length → ∀ acc : List S78, acc.length + ((xs.getD i []).length - j) ≤ 1000000 → acc ++ ((xs.getD i []).drop j).map (fun v => (⟨i, v⟩ : S78)) ++ prs (i + 1) (xs.drop (i + 1)) = res → Ev (fun k => q34.l1 k acc (i : Int) (j : Int) n xs) res := by
    intro i res hi hk
    have hr := hs.row hi
    refine upto ?_ ?_
    · intro acc hl he
      refine Ev.step (fun k => by rw [q34.l1]) ?_
      refine pos (by omega) (pos (by omega) ?_)
      rw [rd1N]
      exact neg (by omega) (hk acc (by omega) (by simpa using he))
    · intro j hj ih acc hl he
      refine Ev.step (fun k => by rw [q34.l1]) ?_
      refine pos (by omega) (pos (by omega) ?_)
      rw [rd1N]
      refine pos (by omega) (pos (by omega) (pos (by omega) ?_))
      rw [rdN, w1 (by omega)]
      refine ih _ (by simp only [List.length_append, List.length_cons, List.length_nil]; omega) ?_
      rw [← he, drop_getD (d := 0) hj]
      simp
  have key : ∀ i, i ≤ xs.length → ∀ acc : List S78, acc.length + lsum (xs.drop i) ≤ 1000000 → acc ++ prs i (xs.drop i) = prs 0 xs → Ev (fun k => q34.l0 k acc (i : Int) n xs) (prs 0 xs) := by
    refine upto ?_ ?_
    · intro acc hl he
      refine Ev.step (fun k => by rw [q34.l0]) ?_
      exact neg (by omega) (ofEq (Ev.now _) (by simpa [prs] using he))
    · intro i hi ih acc hl he
      have hr := hs.row hi
      have hs' : xs.length + lsum xs ≤ 1000000 := hs
      have h1 := lsum_drop hi
      have h2 : (prs (i + 1) (xs.drop (i + 1))).length = lsum (xs.drop (i + 1)) := prs_length _ _
      have h3 : (prs 0 xs).length = lsum xs := prs_length _ _
      refine Ev.step (fun k => by rw [q34.l0]) ?_
      refine pos (by omega) ?_
      refine inner i (prs 0 xs) hi (fun acc' hl' he' => ?_) 0 (by omega) acc (by omega) (by rw [← he, prs_drop hi]; simp)
      rw [w1 (by omega)]
      refine ih acc' ?_ he'
      have := congrArg List.length he'
      rw [List.length_append, h2, h3] at this
      omega
  exact key 0 (by omega) [] (by simpa [Sm] using (show lsum xs ≤ 1000000 by unfold Sm at hs; omega)) (by simp)
def tstep (st : List (List Int)) (p : S78) : List (List Int) := st.set p.f1.toNat (st.getD p.f1.toNat [] ++ [p.f0])
def turn (N : Nat) (out : List (List Int)) : List (List Int) := (prs 0 out).foldl tstep (List.replicate N [])
theorem rdP (xs : List S78) (i : Nat) : rd_T78 xs (i : Int) = xs.getD i z78 := by simp [rd_T78]
theorem rd1I (xs : List (List Int)) (i : Int) : rd_L1 xs i = xs.getD i.toNat [] := rfl
theorem rdI (xs : List Int) (i : Int) : rd xs i = xs.getD i.toNat 0 := rfl
theorem tstep_length (st : List (List Int)) (p : S78) : (tstep st p).length = st.length := by simp [tstep]
theorem tstep_rows {st : List (List Int)} {p : S78} {b : Nat} (h : ∀ j, (st.getD j []).length ≤ b) (hp : p.f1.toNat < st.length) (j : Nat) : ((tstep st p).getD j []).length ≤ b + 1 := by
  unfold tstep
  rw [getD_set _ _ _ _ hp]
  have := h j
  have := h p.f1.toNat
  split
  · simp only [List.length_append, List.length_cons, List.length_nil]; omega
  · omega
theorem fold_length (ps : List S78) : ∀ st, (ps.foldl tstep st).length = st.length := by
  induction ps with
  | nil => intro st; rfl
  | cons p ps ih => intro st; rw [List.foldl_cons, ih, tstep_length]
theorem turn_length (N : Nat) (out : List (List Int)) : (turn N out).length = N := by unfold turn; rw [fold_length]; simp
theorem turned_ev (N : Nat) (out : List (List Int)) (h : Good N out) : Ev (fun k => q31.f k (N : Int) out) ((N : Int), turn N out) := by
  have hle := h.le
  have hlen := h.len
  have hsum := h.sum
  have hps : ∀ p ∈ prs 0 out, 0 ≤ p.f1 ∧ p.f1 < N := fun p hp => by
    obtain ⟨j, hj, _, hm⟩ := prs_mem 0 out p hp
    exact h.row j (by omega) _ hm
  have hpl : (prs 0 out).length = lsum out := prs_length _ _
  have key : ∀ i, i ≤ (prs 0 out).length → ∀ st : List (List Int), st.length = N → (∀ j, (st.getD j []).length ≤ i) → Ev (fun k => q31.l0 k (prs 0 out) (prs 0 out).length (i : Int) (N : Int) st) ((N : Int), ((prs 0 out).drop i).foldl tstep st) := by
    refine upto ?_ ?_
    · intro st hst hr
      refine Ev.step (fun k => by rw [q31.l0]) ?_
      exact neg (by omega) (ofEq (Ev.now _) (by simp))
    · intro i hi ih st hst hr
      have hp := hps _ (getD_mem (d := z78) hi)
      have hr1 := hr ((prs 0 out).getD i z78).f1.toNat
      refine Ev.step (fun k => by rw [q31.l0]) ?_
      refine pos (by omega) (pos (by omega) (pos (by omega) ?_))
      rw [rdP]
      refine pos (by omega) (pos (by omega) ?_)
      rw [rd1I, w1 (by omega)]
      refine pos (by omega) ?_
      have := ih (tstep st ((prs 0 out).getD i z78)) (by rw [tstep_length]; exact hst) (tstep_rows hr (by omega))
      rw [drop_getD (d := z78) hi, List.foldl_cons]
      exact this
  have he : q66.f (N : Int) = some ((N : Int), List.replicate N []) := by
    unfold q66.f
    rw [if_pos (by omega), if_pos (by omega)]; simp
  unfold q31.f
  rw [he]
  refine bnd (Ev.now _) (bnd (list_ev _ out (by unfold Sm; omega)) ?_)
  exact key 0 (by omega) _ (by simp) (fun j => by simp [List.getD_eq_getElem?_getD, List.getElem?_replicate]; split <;> simp)
theorem turn6_ev (N : Nat) (out : List (List Int)) (h : Good N out) : Ev (fun k => q46.f k (N : Int) out) ((N : Int), turn N out) := by
  have hle := h.le
  have hlen := h.len
  have hsum := h.sum
  have hps : ∀ p ∈ prs 0 out, 0 ≤ p.f1 ∧ p.f1 < N := fun p hp => by
    obtain ⟨j, hj, _, hm⟩ := prs_mem 0 out p hp
    exact h.row j (by omega) _ hm
  have hpl : (prs 0 out).length = lsum out := prs_length _ _
  have key : ∀ i, i ≤ (prs 0 out).length → ∀ st : List (List Int), st.length = N → (∀ j, (st.getD j []).length ≤ i) → Ev (fun k => q46.l0 k (prs 0 out) (i : Int) (N : Int) st) ((N : Int), ((prs 0 out).drop i).foldl tstep st) := by
    refine upto ?_ ?_
    · intro st hst hr
      refine Ev.step (fun k => by rw [q46.l0]) ?_
      exact neg (by omega) (ofEq (Ev.now _) (by simp))
    · intro i hi ih st hst hr
      have hp := hps _ (getD_mem (d := z78) hi)
      have hr1 := hr ((prs 0 out).getD i z78).f1.toNat
      refine Ev.step (fun k => by rw [q46.l0]) ?_
      refine pos (by omega) (pos (by omega) ?_)
      rw [rdP]
      refine pos (by omega) (pos (by omega) ?_)
      rw [rd1I, w1 (by omega)]
      refine pos (by omega) ?_
      have := ih (tstep st ((prs 0 out).getD i z78)) (by rw [tstep_length]; exact hst) (tstep_rows hr (by omega))
      rw [drop_getD (d := z78) hi, List.foldl_cons]
      exact this
  have he : q67.f (N : Int) = some ((N : Int), List.replicate N []) := by
    unfold q67.f
    rw [if_pos (by omega), if_pos (by omega)]; simp
  unfold q46.f
  rw [he]
  refine bnd (Ev.now _) (bnd (pairs_ev _ out (by unfold Sm; omega) (by omega)) ?_)
  exact key 0 (by omega) _ (by simp) (fun j => by simp [List.getD_eq_getElem?_getD, List.getElem?_replicate]; split <;> simp)
def pad (c : List Int) (l : Nat) : List Int := c ++ List.replicate (l + 1 - c.length) 0
def cstep (c : List Int) (r : List Int) : List Int := (pad c r.length).set r.length (wrap64 ((pad c r.length).getD r.length 0 + 1))
def cnt (out : List (List Int)) : List Int := out.foldl cstep []
theorem pad_length (c : List Int) (l : Nat) : (pad c l).length = max c.length (l + 1) := by unfold pad; simp; omega
theorem cstep_length (c r : List Int) : (cstep c r).length = max c.length (r.length + 1) := by unfold cstep; rw [List.length_set, pad_length]
theorem count_ev (n : Int) (xs : List (List Int)) (hs : Sm xs) : Ev (fun k => q25.f k n xs) (cnt xs) := by
  have inner : ∀ (i : Nat) (r : List Int) (res : List Int), r.length ≤ 1000000 → (∀ c : List Int, c.length ≤ 1000001 → r.length < c.length → Ev (fun k => q25.l0 k (c.set r.length (wrap64 (c.getD r.length 0 + 1))) xs xs.length (wrap64 ((i : Int) + 1))) (c.set r.length (wrap64 (c.getD r.length 0 + 1)) |> fun c' => (xs.drop (i + 1)).foldl cstep c')) →
      ∀ (d : Nat) (c : List Int), r.length + 1 - c.length = d → c.length ≤ 1000001 → Ev (fun k => q25.l1 k c r xs xs.length (i : Int)) ((xs.drop (i + 1)).foldl cstep (cstep c r)) := by
    intro i r res hr hk d
    induction d with
    | zero =>
      intro c hd hc
      have hp : pad c r.length = c := by unfold pad; rw [hd]; simp
      refine Ev.step (fun k => by rw [q25.l1]) ?_
      refine neg (by omega) (pos (by omega) (pos (by omega) ?_))
      rw [rdN, Int.toNat_natCast]
      have := hk c hc (by omega)
      unfold cstep
      rw [hp]
      exact this
    | succ d ih =>
      intro c hd hc
      refine Ev.step (fun k => by rw [q25.l1]) ?_
      refine pos (by omega) (pos (by omega) ?_)
      have h0 : (c ++ [0]).length = c.length + 1 := by simp
      have := ih (c ++ [0]) (by omega) (by omega)
      have hp : pad (c ++ [0]) r.length = pad c r.length := by
        unfold pad
        rw [show r.length + 1 - (c ++ [(0 : Int)]).length = d by omega, hd, List.replicate_succ]
        simp
      unfold cstep at this ⊢
      rw [hp] at this
      exact this
  have key : ∀ i, i ≤ xs.length → ∀ c : List Int, c.length ≤ 1000001 → Ev (fun k => q25.l0 k c xs xs.length (i : Int)) ((xs.drop i).foldl cstep c) := by
    refine upto ?_ ?_
    · intro c hc
      refine Ev.step (fun k => by rw [q25.l0]) ?_
      exact neg (by omega) (ofEq (Ev.now _) (by simp))
    · intro i hi ih c hc
      have hr := hs.row hi
      have hs' : xs.length + lsum xs ≤ 1000000 := hs
      refine Ev.step (fun k => by rw [q25.l0]) ?_
      refine pos (by omega) (pos (by omega) (pos (by omega) ?_))
      rw [rd1N, drop_getD (d := []) hi, List.foldl_cons]
      refine inner i (xs.getD i []) [] hr (fun c' hc' hlt => ?_) _ c rfl hc
      rw [w1 (by omega)]
      exact ih _ (by simpa using hc')
  exact key 0 (by omega) [] (by simp)
theorem count10_ev (n : Int) (xs : List (List Int)) (hs : Sm xs) (hn : n = xs.length) : Ev (fun k => q40.f k n xs) (cnt xs) := by
  have inner : ∀ (i : Nat), i < xs.length → (∀ c : List Int, c.length ≤ 1000001 → Ev (fun k => q40.l0 k c (wrap64 ((i : Int) + 1)) n xs) ((xs.drop (i + 1)).foldl cstep c)) →
      ∀ (d : Nat) (c : List Int), (xs.getD i []).length + 1 - c.length = d → c.length ≤ 1000001 → Ev (fun k => q40.l1 k c (i : Int) n xs) ((xs.drop (i + 1)).foldl cstep (cstep c (xs.getD i []))) := by
    intro i hi hk d
    have hr := hs.row hi
    induction d with
    | zero =>
      intro c hd hc
      have hp : pad c (xs.getD i []).length = c := by unfold pad; rw [hd]; simp
      refine Ev.step (fun k => by rw [q40.l1]) ?_
      refine pos (by omega) (pos (by omega) ?_)
      rw [rd1N]
      refine neg (by omega) (pos (by omega) (pos (by omega) ?_))
      rw [rdN, Int.toNat_natCast]
      have := hk (c.set (xs.getD i []).length (wrap64 (c.getD (xs.getD i []).length 0 + 1))) (by simpa using hc)
      unfold cstep at this ⊢
      rw [hp]
      exact this
    | succ d ih =>
      intro c hd hc
      refine Ev.step (fun k => by rw [q40.l1]) ?_
      refine pos (by omega) (pos (by omega) ?_)
      rw [rd1N]
      refine pos (by omega) (pos (by omega) ?_)
      have h0 : (c ++ [0]).length = c.length + 1 := by simp
      have := ih (c ++ [0]) (by omega) (by omega)
      have hp : cstep (c ++ [0]) (xs.getD i []) = cstep c (xs.getD i []) := by
        unfold cstep pad
        rw [show (xs.getD i []).length + 1 - (c ++ [(0 : Int)]).length = d by omega, hd, List.replicate_succ]
        simp
      rw [hp] at this
      exact this
  have key : ∀ i, i ≤ xs.length → ∀ c : List Int, c.length ≤ 1000001 → Ev (fun k => q40.l0 k c (i : Int) n xs) ((xs.drop i).foldl cstep c) := by
    refine upto ?_ ?_
    · intro c hc
      refine Ev.step (fun k => by rw [q40.l0]) ?_
      exact neg (by omega) (ofEq (Ev.now _) (by simp))
    · intro i hi ih c hc
      have hs' : xs.length + lsum xs ≤ 1000000 := hs
      refine Ev.step (fun k => by rw [q40.l0]) ?_
      refine pos (by omega) ?_
      rw [drop_getD (d := []) hi, List.foldl_cons]
      refine inner i hi (fun c' hc' => ?_) _ c rfl hc
      rw [w1 (by omega)]
      exact ih _ hc'
  exact key 0 (by omega) [] (by simp)
def flat (ps : List S78) : List Int := ps.flatMap fun p => [p.f0, p.f1]
theorem flat_length (ps : List S78) : (flat ps).length = 2 * ps.length := by
  unfold flat
  induction ps with
  | nil => rfl
  | cons p ps ih => rw [List.flatMap_cons, List.length_append, ih]; simp; omega
theorem all_ev (n : Int) (xs : List (List Int)) (hs : Sm xs) : Ev (fun k => q32.f k n xs) (flat (prs 0 xs)) := by
  have hpl : (prs 0 xs).length = lsum xs := prs_length _ _
  have hs' : xs.length + lsum xs ≤ 1000000 := hs
  have key : ∀ i, i ≤ (prs 0 xs).length → ∀ acc : List Int, acc.length ≤ 2 * i → Ev (fun k => q32.l0 k acc (prs 0 xs) (prs 0 xs).length (i : Int)) (acc ++ flat ((prs 0 xs).drop i)) := by
    refine upto ?_ ?_
    · intro acc ha
      refine Ev.step (fun k => by rw [q32.l0]) ?_
      exact neg (by omega) (ofEq (Ev.now _) (by simp [flat]))
    · intro i hi ih acc ha
      refine Ev.step (fun k => by rw [q32.l0]) ?_
      refine pos (by omega) (pos (by omega) (pos (by omega) ?_))
      rw [rdP, w1 (by omega)]
      refine bnd (Ev.now _) (pos (by simp; omega) ?_)
      have := ih (acc ++ [((prs 0 xs).getD i z78).f0, ((prs 0 xs).getD i z78).f1]) (by simp; omega)
      rw [drop_getD (d := z78) hi]
      simpa [flat] using this
  unfold q32.f
  exact bnd (list_ev n xs hs) (by simpa using key 0 (by omega) [] (by simp))
theorem askAll_ev (xs : List (List Int)) (hs : Sm xs) : Ev (fun k => q42.l0 k ([] : List Int) (prs 0 xs) 0) (flat (prs 0 xs)) := by
  have hpl : (prs 0 xs).length = lsum xs := prs_length _ _
  have hs' : xs.length + lsum xs ≤ 1000000 := hs
  have key : ∀ i, i ≤ (prs 0 xs).length → ∀ acc : List Int, acc.length ≤ 2 * i → Ev (fun k => q42.l0 k acc (prs 0 xs) (i : Int)) (acc ++ flat ((prs 0 xs).drop i)) := by
    refine upto ?_ ?_
    · intro acc ha
      refine Ev.step (fun k => by rw [q42.l0]) ?_
      exact neg (by omega) (ofEq (Ev.now _) (by simp [flat]))
    · intro i hi ih acc ha
      refine Ev.step (fun k => by rw [q42.l0]) ?_
      refine pos (by omega) (pos (by omega) ?_)
      rw [rdP, w1 (by omega)]
      refine bnd (Ev.now _) (pos (by simp; omega) ?_)
      have := ih (acc ++ [((prs 0 xs).getD i z78).f0, ((prs 0 xs).getD i z78).f1]) (by simp; omega)
      rw [drop_getD (d := z78) hi]
      simpa [flat] using this
  simpa using key 0 (by omega) [] (by simp)
end Go.Proofs.Ytcfhffhmpalkbaa.U
end
section
namespace Go.Proofs.Ytcfhffhmpalkbaa.U
open Go.RowKit Go.Proofs.Ytcfhffhmpalkbaa.P Go.Proofs.YtcfhffhmpalkbaaW.PrintWords Go.Proofs.YtcfhffhmpalkbaaW.PrintLast Go.Proofs.YtcfhffhmpalkbaaW.PrintMore
set_option linter.unusedVariables false
set_option linter.unusedSimpArgs false
theorem ext_getD {xs ys : List Int} (hl : xs.length = ys.length) (h : ∀ j, j < xs.length → xs.getD j 0 = ys.getD j 0) : xs = ys := by
  refine List.ext_getElem hl fun j h1 h2 => ?_
  have := h j h1
  rwa [getD_lt h1, getD_lt h2] at this
theorem nodup_le : ∀ (xs ys : List Int), xs.Nodup → (∀ x ∈ xs, x ∈ ys) → xs.length ≤ ys.length
  | [], _, _, _ => Nat.zero_le _
  | x :: xs, ys, hn, hs => by
    have hx := hs x (by simp)
    obtain ⟨h1, h2⟩ := List.nodup_cons.1 hn
    have := nodup_le xs (ys.erase x) h2 (fun y hy => (List.mem_erase_of_ne (fun e => h1 (by rw [← e]; exact hy))).2 (hs y (by simp [hy])))
    rw [List.length_erase_of_mem hx] at this
    have := List.length_pos_of_mem hx
    simp only [List.length_cons]
    omega
def Edge (out : List (List Int)) (u w : Nat) : Prop := (w : Int) ∈ out.getD u []
theorem edge_of {N : Nat} {out : List (List Int)} (h : Good N out) {u j : Nat} (hu : u < N) (hj : j < (out.getD u []).length) : Edge out u ((out.getD u []).getD j 0).toNat ∧ ((out.getD u []).getD j 0).toNat < N ∧ (((out.getD u []).getD j 0).toNat : Int) = (out.getD u []).getD j 0 := by
  have := h.at hu hj
  have e : (((out.getD u []).getD j 0).toNat : Int) = (out.getD u []).getD j 0 := by omega
  exact ⟨by unfold Edge; rw [e]; exact getD_mem hj, by omega, e⟩
theorem edge_at {out : List (List Int)} {u w : Nat} (h : Edge out u w) : ∃ j, j < (out.getD u []).length ∧ (out.getD u []).getD j 0 = (w : Int) := by
  obtain ⟨j, hj, e⟩ := List.mem_iff_getElem.1 h
  exact ⟨j, hj, by rw [getD_lt hj, e]⟩
structure Half (N : Nat) (out : List (List Int)) (a : Nat) (d : List Int) : Prop where
  len : d.length = N
  src : d.getD a 0 = 0
  zero : ∀ v, v < N → d.getD v 0 = 0 → v = a
  low : ∀ v, v < N → -1 ≤ d.getD v 0
  pred : ∀ v, v < N → 0 < d.getD v 0 → ∃ u, u < N ∧ Edge out u v ∧ d.getD u 0 = d.getD v 0 - 1
theorem Half.init {N : Nat} {out : List (List Int)} {a : Nat} (ha : a < N) : Half N out a ((List.replicate N (-1)).set a 0) := by
  have hg : ∀ v, v < N → ((List.replicate N (-1 : Int)).set a 0).getD v 0 = if v = a then 0 else -1 := fun v hv => by
    rw [getD_set _ _ _ _ (by simpa using ha)]
    split
    · rfl
    · simp [List.getD_eq_getElem?_getD, List.getElem?_replicate, hv]
  refine ⟨by simp, by rw [hg a ha]; simp, fun v hv h => ?_, fun v hv => ?_, fun v hv h => ?_⟩
  · rw [hg v hv] at h
    split at h
    · assumption
    · omega
  · rw [hg v hv]; split <;> omega
  · rw [hg v hv] at h
    split at h <;> omega
theorem Half.put {N : Nat} {out : List (List Int)} {a : Nat} {d : List Int} (h : Half N out a d) {u w : Nat} (hu : u < N) (hw : w < N) (he : Edge out u w) (h0 : 0 ≤ d.getD u 0) (h1 : d.getD w 0 < 0) : Half N out a (d.set w (d.getD u 0 + 1)) := by
  have hl := h.len
  have hs := h.src
  have hg : ∀ v, (d.set w (d.getD u 0 + 1)).getD v 0 = if v = w then d.getD u 0 + 1 else d.getD v 0 := fun v => getD_set _ _ _ _ (by omega)
  refine ⟨by simpa using hl, ?_, fun v hv hz => ?_, fun v hv => ?_, fun v hv hp => ?_⟩
  · rw [hg]
    split
    · rename_i e; rw [e] at hs; omega
    · exact hs
  · rw [hg] at hz
    split at hz
    · omega
    · exact h.zero v hv hz
  · rw [hg]
    have := h.low v hv
    split <;> omega
  · rw [hg] at hp
    split at hp
    · rename_i e
      refine ⟨u, hu, by rw [e]; exact he, ?_⟩
      rw [hg, hg, if_pos e, if_neg (by intro e2; rw [e2] at h0; omega)]
      omega
    · rename_i e
      obtain ⟨p, hp1, hp2, hp3⟩ := h.pred v hv hp
      refine ⟨p, hp1, hp2, ?_⟩
      rw [hg, hg, if_neg e, if_neg (by intro e2; rw [e2] at hp3; omega)]
      exact hp3
theorem Half.lt {N : Nat} {out : List (List Int)} {a : Nat} {d : List Int} (h : Half N out a d) {v : Nat} (hv : v < N) : d.getD v 0 < N := by
  have key : ∀ s : Nat, ∀ v, v < N → d.getD v 0 = s → ∀ t : Nat, t ≤ s → ∃ u, u < N ∧ d.getD u 0 = t := by
    intro s
    induction s with
    | zero => intro v hv hs t ht; exact ⟨v, hv, by rw [hs]; omega⟩
    | succ s ih =>
      intro v hv hs t ht
      by_cases e : t = s + 1
      · exact ⟨v, hv, by rw [hs, e]⟩
      · obtain ⟨u, hu, _, h3⟩ := h.pred v hv (by omega)
        exact ih u hu (by omega) t (by omega)
  by_cases h0 : d.getD v 0 < 0
  · omega
  · have hk := key (d.getD v 0).toNat v hv (by omega)
    have := nodup_le ((List.range ((d.getD v 0).toNat + 1)).map fun (t : Nat) => (t : Int)) d ?_ ?_
    · simp only [List.length_map, List.length_range] at this
      have := h.len
      omega
    · refine List.Pairwise.map _ (fun x y (hxy : x ≠ y) => ?_) List.nodup_range
      omega
    · intro x hx
      obtain ⟨t, ht, rfl⟩ := List.mem_map.1 hx
      obtain ⟨u, hu, e⟩ := hk t (by have := List.mem_range.1 ht; omega)
      rw [← e]
      exact getD_mem (by have := h.len; omega)
structure Dist (N : Nat) (out : List (List Int)) (a : Nat) (d : List Int) : Prop where
  half : Half N out a d
  edge : ∀ u w, u < N → w < N → Edge out u w → 0 ≤ d.getD u 0 → 0 ≤ d.getD w 0 ∧ d.getD w 0 ≤ d.getD u 0 + 1
theorem Dist.below {N : Nat} {out : List (List Int)} {a : Nat} {d d' : List Int} (h : Dist N out a d) (h' : Dist N out a d') : ∀ s : Nat, ∀ v, v < N → d.getD v 0 = s → 0 ≤ d'.getD v 0 ∧ d'.getD v 0 ≤ d.getD v 0 := by
  intro s
  induction s with
  | zero =>
    intro v hv hs
    obtain rfl := h.half.zero v hv (by simpa using hs)
    rw [h'.half.src, h.half.src]; omega
  | succ s ih =>
    intro v hv hs
    obtain ⟨u, hu, he, h3⟩ := h.half.pred v hv (by omega)
    have h4 := ih u hu (by omega)
    have h5 := h'.edge u v hu hv he h4.1
    omega
theorem Dist.uniq {N : Nat} {out : List (List Int)} {a : Nat} {d d' : List Int} (h : Dist N out a d) (h' : Dist N out a d') : d = d' := by
  have l := h.half.len
  have l' := h'.half.len
  refine ext_getD (by omega) fun v hv => ?_
  have hv : v < N := by omega
  have a1 := h.half.low v hv
  have a2 := h'.half.low v hv
  by_cases h0 : 0 ≤ d.getD v 0
  · have := h.below h' (d.getD v 0).toNat v hv (by omega)
    have := h'.below h (d'.getD v 0).toNat v hv (by omega)
    omega
  · by_cases h1 : 0 ≤ d'.getD v 0
    · have := h'.below h (d'.getD v 0).toNat v hv (by omega)
      omega
    · omega
structure Lev (N : Nat) (out : List (List Int)) (a t : Nat) (d : List Int) : Prop where
  half : Half N out a d
  cap : ∀ v, v < N → d.getD v 0 ≤ t
  clos : ∀ u w, u < N → w < N → Edge out u w → 0 ≤ d.getD u 0 → d.getD u 0 < t → 0 ≤ d.getD w 0 ∧ d.getD w 0 ≤ d.getD u 0 + 1
structure Lin (N : Nat) (out : List (List Int)) (a t u0 j0 : Nat) (d : List Int) : Prop where
  half : Half N out a d
  cap : ∀ v, v < N → d.getD v 0 ≤ t + 1
  clos : ∀ u w, u < N → w < N → Edge out u w → 0 ≤ d.getD u 0 → d.getD u 0 < t → 0 ≤ d.getD w 0 ∧ d.getD w 0 ≤ d.getD u 0 + 1
  fin : ∀ u w, u < u0 → u < N → w < N → Edge out u w → d.getD u 0 = t → 0 ≤ d.getD w 0
  part : ∀ j, j < j0 → j < (out.getD u0 []).length → d.getD u0 0 = t → 0 ≤ d.getD ((out.getD u0 []).getD j 0).toNat 0
theorem Lin.put {N : Nat} {out : List (List Int)} {a t u0 j0 : Nat} {d : List Int} (hg : Good N out) (h : Lin N out a t u0 j0 d) (hu : u0 < N) (hj : j0 < (out.getD u0 []).length) (ht : d.getD u0 0 = t) (hw : d.getD ((out.getD u0 []).getD j0 0).toNat 0 < 0) :
    Lin N out a t u0 (j0 + 1) (d.set ((out.getD u0 []).getD j0 0).toNat ((t : Int) + 1)) := by
  obtain ⟨he, hwN, hwe⟩ := edge_of hg hu hj
  have hl := h.half.len
  generalize ((out.getD u0 []).getD j0 0).toNat = w at *
  have hG : ∀ v, (d.set w ((t : Int) + 1)).getD v 0 = if v = w then (t : Int) + 1 else d.getD v 0 := fun v => getD_set _ _ _ _ (by omega)
  refine ⟨by have := h.half.put hu hwN he (by omega) hw; rwa [ht] at this, fun v hv => ?_, fun u x hu' hx hE h0 h1 => ?_, fun u x h1 h2 h3 hE h4 => ?_, fun j hj1 hj2 h4 => ?_⟩
  · rw [hG]; have := h.cap v hv; split <;> omega
  · rw [hG] at h0 h1 ⊢
    rw [hG u]
    by_cases e : u = w
    · rw [if_pos e] at h1; omega
    · rw [if_neg e] at h0 h1 ⊢
      have := h.clos u x hu' hx hE h0 h1
      by_cases e2 : x = w
      · rw [e2] at this; omega
      · rw [if_neg e2]; exact this
  · rw [hG] at h4 ⊢
    by_cases e : u = w
    · rw [if_pos e] at h4; omega
    · rw [if_neg e] at h4
      have := h.fin u x h1 h2 h3 hE h4
      split <;> omega
  · rw [hG]
    split
    · omega
    · rename_i e
      by_cases e2 : j = j0
      · subst e2; omega
      · exact h.part j (by omega) hj2 ht
theorem Lin.keep {N : Nat} {out : List (List Int)} {a t u0 j0 : Nat} {d : List Int} (h : Lin N out a t u0 j0 d) (hw : 0 ≤ d.getD ((out.getD u0 []).getD j0 0).toNat 0) : Lin N out a t u0 (j0 + 1) d :=
  ⟨h.half, h.cap, h.clos, h.fin, fun j h1 h2 h3 => by
    by_cases e : j = j0
    · subst e; exact hw
    · exact h.part j (by omega) h2 h3⟩
theorem Lin.next {N : Nat} {out : List (List Int)} {a t u0 j0 : Nat} {d : List Int} (hg : Good N out) (h : Lin N out a t u0 j0 d) (hu : u0 < N) (hd : d.getD u0 0 = t → (out.getD u0 []).length ≤ j0) : Lin N out a t (u0 + 1) 0 d :=
  ⟨h.half, h.cap, h.clos, fun u w h1 h2 h3 hE h4 => by
    by_cases e : u = u0
    · subst e
      obtain ⟨j, hj, ej⟩ := edge_at hE
      have := h.part j (by have := hd h4; omega) hj h4
      rwa [ej, Int.toNat_natCast] at this
    · exact h.fin u w (by omega) h2 h3 hE h4, fun j h1 => by omega⟩
theorem far10_ev (N : Nat) (out : List (List Int)) (hg : Good N out) (a : Nat) (ha : a < N) : ∃ d, Dist N out a d ∧ Ev (fun k => q5.f k (N : Int) out (a : Int)) d := by
  have hN := hg.le
  have hlen := hg.len
  have l1 : ∀ t, t ≤ N → ∀ d, Lev N out a t d → ∃ r, Dist N out a r ∧ Ev (fun k => q5.l1 k d (t : Int) (N : Int) out) r := by
    refine upto ?_ ?_
    · intro d hd
      refine ⟨d, ⟨hd.half, fun u w hu hw hE h0 => hd.clos u w hu hw hE h0 (hd.half.lt hu)⟩, ?_⟩
      refine Ev.step (fun k => by rw [q5.l1]) ?_
      exact neg (by omega) (Ev.now _)
    · intro t ht ih d hd
      have l2 : ∀ u0, u0 ≤ N → ∀ d, Lin N out a t u0 0 d → ∃ r, Dist N out a r ∧ Ev (fun k => q5.l2 k d (t : Int) (u0 : Int) (N : Int) out) r := by
        refine upto ?_ ?_
        · intro d hd
          obtain ⟨r, h1, h2⟩ := ih d ⟨hd.half, fun v hv => by have := hd.cap v hv; omega, fun u w hu hw hE h0 h1 => by
            by_cases e : d.getD u 0 = t
            · have := hd.fin u w hu hu hw hE e
              have := hd.cap w hw
              omega
            · exact hd.clos u w hu hw hE h0 (by omega)⟩
          refine ⟨r, h1, ?_⟩
          refine Ev.step (fun k => by rw [q5.l2]) ?_
          refine neg (by omega) ?_
          rw [w1 (by omega)]
          exact h2
        · intro u0 hu ihu d hd
          have hnext : ∀ d j0, Lin N out a t u0 j0 d → (d.getD u0 0 = t → (out.getD u0 []).length ≤ j0) → ∃ r, Dist N out a r ∧ Ev (fun k => q5.j4 k d (t : Int) (u0 : Int) (j0 : Int) false (N : Int) out) r := by
            intro d j0 hd hj
            obtain ⟨r, h1, h2⟩ := ihu d (hd.next hg hu hj)
            refine ⟨r, h1, ?_⟩
            refine Ev.step (fun k => by rw [q5.j4]) ?_
            refine neg (by simp) ?_
            rw [w1 (by omega)]
            exact h2
          have hrl := hg.rlen u0
          have l3 : ∀ j0, j0 ≤ (out.getD u0 []).length → ∀ d, Lin N out a t u0 j0 d → ∃ r, Dist N out a r ∧ Ev (fun k => q5.l3 k d (t : Int) (u0 : Int) (j0 : Int) (N : Int) out) r := by
            refine upto ?_ ?_
            · intro d hd
              obtain ⟨r, h1, h2⟩ := hnext d _ hd (fun _ => Nat.le_refl _)
              refine ⟨r, h1, ?_⟩
              refine Ev.step (fun k => by rw [q5.l3]) ?_
              refine pos (by omega) (pos (by omega) ?_)
              rw [rd1N]
              exact neg (by omega) h2
            · intro j0 hj ihj d hd
              have hdl := hd.half.len
              obtain ⟨he, hwN, hwe⟩ := edge_of hg hu hj
              have hstep : ∀ r x, Ev (fun k => q5.j4 k d (t : Int) (u0 : Int) (j0 : Int) x (N : Int) out) r → x = (d.getD u0 0 == (t : Int)) → Ev (fun k => q5.l3 k d (t : Int) (u0 : Int) (j0 : Int) (N : Int) out) r := by
                intro r x hx ex
                subst ex
                refine Ev.step (fun k => by rw [q5.l3]) ?_
                refine pos (by omega) (pos (by omega) ?_)
                rw [rd1N, rdN]
                exact pos (by omega) (pos (by omega) hx)
              by_cases e : d.getD u0 0 = t
              · by_cases hw : d.getD ((out.getD u0 []).getD j0 0).toNat 0 < 0
                · obtain ⟨r, h1, h2⟩ := ihj _ (hd.put hg hu hj e hw)
                  refine ⟨r, h1, hstep r true ?_ (by simp only [e]; simp)⟩
                  refine Ev.step (fun k => by rw [q5.j4]) ?_
                  refine pos rfl (pos (by omega) (pos (by omega) (pos (by omega) ?_)))
                  rw [rd1N, rdN, rdI, w1 (by omega), w64 (by omega) (by omega)]
                  exact pos (by omega) (pos (by omega) (pos (by omega) (pos hw h2)))
                · obtain ⟨r, h1, h2⟩ := ihj d (hd.keep (by omega))
                  refine ⟨r, h1, hstep r true ?_ (by simp only [e]; simp)⟩
                  refine Ev.step (fun k => by rw [q5.j4]) ?_
                  refine pos rfl (pos (by omega) (pos (by omega) (pos (by omega) ?_)))
                  rw [rd1N, rdN, rdI, w1 (by omega), w64 (by omega) (by omega)]
                  exact pos (by omega) (pos (by omega) (pos (by omega) (neg hw h2)))
              · obtain ⟨r, h1, h2⟩ := hnext d j0 hd (fun h => absurd h e)
                exact ⟨r, h1, hstep r false h2 (beq_eq_false_iff_ne.2 e).symm⟩
          obtain ⟨r, h1, h2⟩ := l3 0 (by omega) d hd
          refine ⟨r, h1, ?_⟩
          refine Ev.step (fun k => by rw [q5.l2]) ?_
          exact pos (by omega) h2
      obtain ⟨r, h1, h2⟩ := l2 0 (by omega) d ⟨hd.half, fun v hv => by have := hd.cap v hv; omega, hd.clos, fun u w h1 => by omega, fun j h1 => by omega⟩
      refine ⟨r, h1, ?_⟩
      refine Ev.step (fun k => by rw [q5.l1]) ?_
      exact pos (by omega) h2
  have l0 : ∀ i, i ≤ N → ∀ d : List Int, d.length = N → (∀ j, j < i → d.getD j 0 = -1) → ∃ r, Dist N out a r ∧ Ev (fun k => q5.l0 k (a : Int) d (i : Int) (N : Int) out) r := by
    refine upto ?_ ?_
    · intro d hl hd
      have e : d = List.replicate N (-1) := ext_getD (by simpa using hl) fun j hj => by
        rw [hd j (by omega)]
        simp [List.getD_eq_getElem?_getD, List.getElem?_replicate, show j < N by omega]
      have hi := Half.init (out := out) ha
      obtain ⟨r, h1, h2⟩ := l1 0 (by omega) ((List.replicate N (-1)).set a 0) ⟨hi, fun v hv => by
          by_cases e : 0 < ((List.replicate N (-1 : Int)).set a 0).getD v 0
          · rw [getD_set _ _ _ _ (by simpa using ha)] at e
            split at e
            · omega
            · simp [List.getD_eq_getElem?_getD, List.getElem?_replicate, hv] at e
          · omega, fun u w _ _ _ h0 h1 => by omega⟩
      refine ⟨r, h1, ?_⟩
      refine Ev.step (fun k => by rw [q5.l0]) ?_
      refine neg (by omega) (pos (by omega) (pos (by omega) ?_))
      rw [Int.toNat_natCast, e]
      exact h2
    · intro i hi ih d hl hd
      obtain ⟨r, h1, h2⟩ := ih (d.set i (-1)) (by simpa using hl) (fun j hj => by
        rw [getD_set _ _ _ _ (by omega)]
        split
        · rfl
        · exact hd j (by omega))
      refine ⟨r, h1, ?_⟩
      refine Ev.step (fun k => by rw [q5.l0]) ?_
      refine pos (by omega) (pos (by omega) (pos (by omega) ?_))
      rw [Int.toNat_natCast, w1 (by omega)]
      exact h2
  obtain ⟨r, h1, h2⟩ := l0 0 (by omega) (List.replicate N 0) (by simp) (fun j hj => by omega)
  refine ⟨r, h1, ?_⟩
  unfold q5.f
  refine pos (by omega) (pos (by omega) ?_)
  rw [Int.toNat_natCast]
  exact h2
def unv : List Int → Nat
  | [] => 0
  | x :: xs => (if x < 0 then 1 else 0) + unv xs
theorem unv_set : ∀ (d : List Int) (w : Nat) (v : Int), w < d.length → d.getD w 0 < 0 → 0 ≤ v → unv (d.set w v) + 1 = unv d
  | [], w, v, h, _, _ => by simp at h
  | x :: d, 0, v, _, h1, h2 => by
    have h1 : x < 0 := by simpa using h1
    simp only [List.set_cons_zero, unv]
    rw [if_neg (by omega), if_pos h1]; omega
  | x :: d, w + 1, v, h, h1, h2 => by
    have := unv_set d w v (by simpa using h) (by simpa using h1) h2
    simp only [List.set_cons_succ, unv]
    omega
theorem unv_le : ∀ d : List Int, unv d ≤ d.length
  | [] => Nat.le_refl _
  | x :: d => by
    have := unv_le d
    simp only [unv, List.length_cons]
    split <;> omega
structure Bfs (N : Nat) (out : List (List Int)) (a : Nat) (d q : List Int) : Prop where
  half : Half N out a d
  qin : ∀ x ∈ q, 0 ≤ x ∧ x < N ∧ 0 ≤ d.getD x.toNat 0
  clos : ∀ u, u < N → 0 ≤ d.getD u 0 → (u : Int) ∉ q → ∀ w, w < N → Edge out u w → 0 ≤ d.getD w 0 ∧ d.getD w 0 ≤ d.getD u 0 + 1
  cap : ∀ x ∈ q, ∀ v, v < N → d.getD v 0 ≤ d.getD x.toNat 0 + 1
  srt : q.Pairwise fun x y => d.getD x.toNat 0 ≤ d.getD y.toNat 0
structure Bin (N : Nat) (out : List (List Int)) (a x j0 : Nat) (d q : List Int) : Prop where
  half : Half N out a d
  qin : ∀ x ∈ q, 0 ≤ x ∧ x < N ∧ 0 ≤ d.getD x.toNat 0
  vis : 0 ≤ d.getD x 0
  clos : ∀ u, u < N → 0 ≤ d.getD u 0 → (u : Int) ∉ q → u ≠ x → ∀ w, w < N → Edge out u w → 0 ≤ d.getD w 0 ∧ d.getD w 0 ≤ d.getD u 0 + 1
  part : ∀ j, j < j0 → j < (out.getD x []).length → 0 ≤ d.getD ((out.getD x []).getD j 0).toNat 0
  cap : ∀ v, v < N → d.getD v 0 ≤ d.getD x 0 + 1
  low : ∀ y ∈ q, d.getD x 0 ≤ d.getD y.toNat 0
  srt : q.Pairwise fun x y => d.getD x.toNat 0 ≤ d.getD y.toNat 0
theorem Bin.put {N : Nat} {out : List (List Int)} {a x j0 : Nat} {d q : List Int} (hg : Good N out) (h : Bin N out a x j0 d q) (hx : x < N) (hj : j0 < (out.getD x []).length) (hw : d.getD ((out.getD x []).getD j0 0).toNat 0 < 0) :
    Bin N out a x (j0 + 1) (d.set ((out.getD x []).getD j0 0).toNat (d.getD x 0 + 1)) (q ++ [(out.getD x []).getD j0 0]) := by
  obtain ⟨he, hwN, hwe⟩ := edge_of hg hx hj
  have hl := h.half.len
  have hpt := h.part
  generalize hwd : ((out.getD x []).getD j0 0).toNat = w at *
  rw [← hwe]
  have hG : ∀ v, (d.set w (d.getD x 0 + 1)).getD v 0 = if v = w then d.getD x 0 + 1 else d.getD v 0 := fun v => getD_set _ _ _ _ (by omega)
  have hv := h.vis
  have hxw : x ≠ w := fun e => by rw [← e] at hw; omega
  have hGx : (d.set w (d.getD x 0 + 1)).getD x 0 = d.getD x 0 := by rw [hG, if_neg hxw]
  have hq : ∀ y ∈ q, (d.set w (d.getD x 0 + 1)).getD y.toNat 0 = d.getD y.toNat 0 := fun y hy => by
    rw [hG, if_neg]
    intro e
    have := (h.qin y hy).2.2
    rw [e] at this
    omega
  have hGw : (d.set w (d.getD x 0 + 1)).getD w 0 = d.getD x 0 + 1 := by rw [hG, if_pos rfl]
  refine ⟨h.half.put hx hwN he hv hw, fun y hy => ?_, by rw [hGx]; exact hv, fun u hu h0 hn hne v hvN hE => ?_, fun j hj1 hj2 => ?_, fun v hvN => ?_, fun y hy => ?_, ?_⟩
  · rcases List.mem_append.1 hy with hy | hy
    · rw [hq y hy]; exact h.qin y hy
    · obtain rfl := List.mem_singleton.1 hy
      rw [Int.toNat_natCast, hGw]; omega
  · have hn1 : (u : Int) ∉ q := fun m => hn (List.mem_append.2 (.inl m))
    have hn2 : u ≠ w := fun e => hn (List.mem_append.2 (.inr (by simp [e])))
    rw [hG, if_neg hn2] at h0
    have := h.clos u hu h0 hn1 hne v hvN hE
    rw [hG, hG u, if_neg hn2]
    by_cases e : v = w
    · rw [e] at this; omega
    · rw [if_neg e]; exact this
  · rw [hG]
    split
    · omega
    · rename_i e
      by_cases e2 : j = j0
      · subst e2; omega
      · exact hpt j (by omega) hj2
  · rw [hG, hGx]; have := h.cap v hvN; split <;> omega
  · rw [hGx]
    rcases List.mem_append.1 hy with hy | hy
    · rw [hq y hy]; exact h.low y hy
    · obtain rfl := List.mem_singleton.1 hy
      rw [Int.toNat_natCast, hGw]; omega
  · refine List.pairwise_append.2 ⟨?_, List.pairwise_singleton _ _, fun y hy z hz => ?_⟩
    · refine h.srt.imp_of_mem fun {y z} hy hz hyz => ?_
      rw [hq y hy, hq z hz]; exact hyz
    · obtain rfl := List.mem_singleton.1 hz
      rw [hq y hy, Int.toNat_natCast, hGw]
      exact h.cap _ (by have := h.qin y hy; omega)
theorem Bin.keep {N : Nat} {out : List (List Int)} {a x j0 : Nat} {d q : List Int} (h : Bin N out a x j0 d q) (hw : 0 ≤ d.getD ((out.getD x []).getD j0 0).toNat 0) : Bin N out a x (j0 + 1) d q :=
  ⟨h.half, h.qin, h.vis, h.clos, fun j h1 h2 => by
    by_cases e : j = j0
    · subst e; exact hw
    · exact h.part j (by omega) h2, h.cap, h.low, h.srt⟩
theorem Bin.out {N : Nat} {out : List (List Int)} {a x j0 : Nat} {d q : List Int} (h : Bin N out a x j0 d q) (hj : (out.getD x []).length ≤ j0) : Bfs N out a d q :=
  ⟨h.half, h.qin, fun u hu h0 hn w hw hE => by
    by_cases e : u = x
    · subst e
      obtain ⟨j, hj1, ej⟩ := edge_at hE
      have := h.part j (by omega) hj1
      rw [ej, Int.toNat_natCast] at this
      exact ⟨this, h.cap w hw⟩
    · exact h.clos u hu h0 hn e w hw hE, fun y hy v hv => by have := h.cap v hv; have := h.low y hy; omega, h.srt⟩
theorem kfar_ev (N : Nat) (out : List (List Int)) (hg : Good N out) (a : Nat) (ha : a < N) : ∃ d, Dist N out a d ∧ Ev (fun k => q9.f k (N : Int) out (a : Int)) d := by
  have hN := hg.le
  have hlen := hg.len
  have l0 : ∀ m, m ≤ 1000 → ∀ d q, Bfs N out a d q → unv d + q.length ≤ m → ∃ r, Dist N out a r ∧ Ev (fun k => q9.l0 k d q (N : Int) out) r := by
    intro m
    induction m with
    | zero =>
      intro _ d q h hm
      have hq : q = [] := List.eq_nil_of_length_eq_zero (by omega)
      subst hq
      refine ⟨d, ⟨h.half, fun u w hu hw hE h0 => h.clos u hu h0 (by simp) w hw hE⟩, ?_⟩
      refine Ev.step (fun k => by rw [q9.l0]) ?_
      exact neg (by simp) (Ev.now _)
    | succ m ih =>
      intro hm1 d q h hm
      cases q with
      | nil =>
        refine ⟨d, ⟨h.half, fun u w hu hw hE h0 => h.clos u hu h0 (by simp) w hw hE⟩, ?_⟩
        refine Ev.step (fun k => by rw [q9.l0]) ?_
        exact neg (by simp) (Ev.now _)
      | cons x q =>
        obtain ⟨hx0, hx1, hx2⟩ := h.qin x (by simp)
        obtain ⟨x, rfl⟩ : ∃ n : Nat, x = n := ⟨x.toNat, by omega⟩
        rw [Int.toNat_natCast] at hx2
        have hx : x < N := by omega
        have hrl := hg.rlen x
        have hsr := List.pairwise_cons.1 h.srt
        have hB : Bin N out a x 0 d q := ⟨h.half, fun y hy => h.qin y (by simp [hy]), hx2, fun u hu h0 hn hne w hw hE => h.clos u hu h0 (by simp only [List.mem_cons, not_or]; exact ⟨by omega, hn⟩) w hw hE, fun j hj => by omega, fun v hv => by simpa using h.cap x (by simp) v hv, fun y hy => by simpa using hsr.1 y hy, hsr.2⟩
        have l1 : ∀ j, j ≤ (out.getD x []).length → ∀ d q, Bin N out a x j d q → unv d + q.length ≤ m → ∃ r, Dist N out a r ∧ Ev (fun k => q9.l1 k d q (x : Int) (out.getD x []) (out.getD x []).length (j : Int) (N : Int) out) r := by
          refine upto ?_ ?_
          · intro d q hb hm2
            obtain ⟨r, h1, h2⟩ := ih (by omega) d q (hb.out (Nat.le_refl _)) hm2
            refine ⟨r, h1, ?_⟩
            refine Ev.step (fun k => by rw [q9.l1]) ?_
            exact neg (by omega) h2
          · intro j hj ihj d q hb hm2
            have hdl := hb.half.len
            have hdx := hb.half.lt hx
            have hdv := hb.vis
            obtain ⟨he, hwN, hwe⟩ := edge_of hg hx hj
            by_cases hw : d.getD ((out.getD x []).getD j 0).toNat 0 < 0
            · have hu := unv_set d _ (d.getD x 0 + 1) (by omega) hw (by omega)
              obtain ⟨r, h1, h2⟩ := ihj _ _ (hb.put hg hx hj hw) (by rw [List.length_append, List.length_singleton]; omega)
              refine ⟨r, h1, ?_⟩
              refine Ev.step (fun k => by rw [q9.l1]) ?_
              refine pos (by omega) (pos (by omega) (pos (by omega) ?_))
              rw [rdN, rdN, rdI, w1 (by omega), w64 (by omega) (by omega)]
              exact pos (by omega) (pos (by omega) (pos hw (pos (by omega) (pos (by omega) (pos (by omega) h2)))))
            · obtain ⟨r, h1, h2⟩ := ihj d q (hb.keep (by omega)) hm2
              refine ⟨r, h1, ?_⟩
              refine Ev.step (fun k => by rw [q9.l1]) ?_
              refine pos (by omega) (pos (by omega) (pos (by omega) ?_))
              rw [rdN, rdI, w1 (by omega)]
              exact pos (by omega) (pos (by omega) (neg hw h2))
        obtain ⟨r, h1, h2⟩ := l1 0 (by omega) d q hB (by simp only [List.length_cons] at hm; omega)
        refine ⟨r, h1, ?_⟩
        have e0 : rd ((x : Int) :: q) 0 = (x : Int) := rfl
        refine Ev.step (fun k => by rw [q9.l0]) ?_
        refine pos (by simp only [List.length_cons]; omega) (pos (by simp only [List.length_cons]; omega) (pos (by simp only [List.length_cons]; omega) ?_))
        rw [e0, rd1N]
        exact pos (by omega) (pos (by omega) h2)
  have hi := Half.init (out := out) ha
  have hGi : ∀ v, v < N → ((List.replicate N (-1 : Int)).set a 0).getD v 0 = if v = a then 0 else -1 := fun v hv => by
    rw [getD_set _ _ _ _ (by simpa using ha)]
    split
    · rfl
    · simp [List.getD_eq_getElem?_getD, List.getElem?_replicate, hv]
  have hb : Bfs N out a ((List.replicate N (-1)).set a 0) [(a : Int)] := by
    refine ⟨hi, fun x hx => ?_, fun u hu h0 hn => ?_, fun x hx v hv => ?_, List.pairwise_singleton _ _⟩
    · obtain rfl := List.mem_singleton.1 hx
      rw [Int.toNat_natCast, hi.src]; omega
    · rw [hGi u hu] at h0
      split at h0
      · rename_i e; exact absurd (by simp [e]) hn
      · omega
    · obtain rfl := List.mem_singleton.1 hx
      rw [Int.toNat_natCast, hi.src, hGi v hv]
      split <;> omega
  obtain ⟨r, h1, h2⟩ := l0 1000 (by omega) _ _ hb (by have := unv_le ((List.replicate N (-1 : Int)).set a 0); rw [hi.len] at this; simp only [List.length_singleton]; omega)
  refine ⟨r, h1, ?_⟩
  have hr : q61.f ([(-1)] : List Int) (N : Int) = some (List.replicate N (-1)) := by
    unfold q61.f
    rw [if_pos (by rfl), if_pos (by omega), if_pos (by omega), Int.toNat_natCast]; rfl
  unfold q9.f
  rw [hr]
  refine bnd (Ev.now _) (pos (by omega) (pos (by simp; omega) ?_))
  rw [Int.toNat_natCast]
  exact h2
theorem far_ev (N : Nat) (out : List (List Int)) (hg : Good N out) (a : Nat) (ha : a < N) : ∃ d, Dist N out a d ∧ Ev (fun k => q9.f k (N : Int) out (a : Int)) d ∧ Ev (fun k => q5.f k (N : Int) out (a : Int)) d := by
  obtain ⟨d, h1, h2⟩ := kfar_ev N out hg a ha
  obtain ⟨d', h3, h4⟩ := far10_ev N out hg a ha
  obtain rfl := h1.uniq h3
  exact ⟨d, h1, h2, h4⟩
end Go.Proofs.Ytcfhffhmpalkbaa.U
end
