import Derived.Test.YtcfhffhmpalkbaaKb20
section
namespace Go.Proofs.Ytcfhffhmpalkbaa.U
open Go.RowKit Go.Proofs.Ytcfhffhmpalkbaa.P Go.Proofs.YtcfhffhmpalkbaaW.PrintWords Go.Proofs.YtcfhffhmpalkbaaW.PrintLast Go.Proofs.YtcfhffhmpalkbaaW.PrintMore
set_option linter.unusedVariables false
set_option linter.unusedSimpArgs false
theorem eqn_ev (xs ys : List Int) (h : xs.length ≤ 1000000) : Ev (fun k => q17.f k xs ys) (decide (xs = ys)) := by
  by_cases hl : xs.length = ys.length
  · have key : ∀ i, i ≤ xs.length → (∀ j, j < i → xs.getD j 0 = ys.getD j 0) → Ev (fun k => q17.l0 k xs ys (i : Int)) (decide (xs = ys)) := by
      refine upto ?_ ?_
      · intro hd
        refine Ev.step (fun k => by rw [q17.l0]) ?_
        exact neg (by omega) (ofEq (Ev.now _) (by rw [ext_getD hl hd]; simp))
      · intro i hi ih hd
        refine Ev.step (fun k => by rw [q17.l0]) ?_
        refine pos (by omega) (pos (by omega) (pos (by omega) ?_))
        rw [rdN, rdN, w1 (by omega)]
        by_cases e : xs.getD i 0 = ys.getD i 0
        · refine pos e (ih fun j hj => ?_)
          by_cases q : j = i
          · rw [q]; exact e
          · exact hd j (by omega)
        · refine neg e (ofEq (Ev.now _) ?_)
          have : ¬ xs = ys := fun h => e (by rw [h])
          simp [this]
    unfold q17.f
    exact pos (by omega) (key 0 (by omega) (fun j hj => by omega))
  · unfold q17.f
    refine neg (by omega) (ofEq (Ev.now _) ?_)
    have : ¬ xs = ys := fun h => hl (by rw [h])
    simp [this]
theorem fold_rows (ps : List S78) : ∀ (st : List (List Int)) (b : Nat), (∀ p ∈ ps, p.f1.toNat < st.length) → (∀ j, (st.getD j []).length ≤ b) → ∀ j, ((ps.foldl tstep st).getD j []).length ≤ b + ps.length := by
  induction ps with
  | nil => intro st b _ h j; exact h j
  | cons p ps ih =>
    intro st b hp h j
    rw [List.foldl_cons]
    have := ih (tstep st p) (b + 1) (fun q hq => by rw [tstep_length]; exact hp q (by simp [hq])) (tstep_rows h (hp p (by simp))) j
    simp only [List.length_cons]
    omega
theorem turn_rows {N : Nat} {out : List (List Int)} (hg : Good N out) (j : Nat) : ((turn N out).getD j []).length ≤ 120 := by
  have hpl : (prs 0 out).length = lsum out := prs_length _ _
  have := hg.sum
  have := fold_rows (prs 0 out) (List.replicate N []) 0 (fun p hp => by
    obtain ⟨i, hi, _, hm⟩ := prs_mem 0 out p hp
    have := hg.row i (by have := hg.len; omega) _ hm
    simp only [List.length_replicate]
    omega) (fun j => by simp [List.getD_eq_getElem?_getD, List.getElem?_replicate]; split <;> simp) j
  unfold turn
  omega
theorem cnt_length {N : Nat} {out : List (List Int)} (hg : Good N out) : (cnt out).length ≤ 17 := by
  have key : ∀ (xs : List (List Int)) (c : List Int), (∀ r ∈ xs, r.length ≤ 16) → c.length ≤ 17 → (xs.foldl cstep c).length ≤ 17 := by
    intro xs
    induction xs with
    | nil => intro c _ h; exact h
    | cons r rs ih =>
      intro c hr hc
      rw [List.foldl_cons]
      refine ih _ (fun q hq => hr q (by simp [hq])) ?_
      rw [cstep_length]
      have := hr r (by simp)
      omega
  refine key out [] (fun r hr => ?_) (by simp)
  obtain ⟨i, hi, rfl⟩ := List.mem_iff_getElem.1 hr
  rw [← getD_lt (d := []) hi]
  exact hg.rlen i
def code (n kind a : Int) : Int := if 1 ≤ kind ∧ kind ≤ 6 then (if kind = 1 ∨ kind = 2 ∨ kind = 4 then (if 0 ≤ a ∧ a < n then 0 else 3) else 0) else 1
theorem named_eq (a : Int) : q58.f a = some (decide (a = 1 ∨ a = 2 ∨ a = 4)) := by
  unfold q58.f
  by_cases h1 : a = 1
  · simp [h1]
  · by_cases h2 : a = 2
    · simp [h2]
    · rw [if_neg h1, if_neg h2]
      by_cases h4 : a = 4
      · simp [h4]
      · simp [h1, h2, h4]
theorem named10_eq (a : Int) : q52.f a = some (decide (a = 1 ∨ a = 2 ∨ a = 4)) := by
  unfold q52.f
  by_cases h1 : a = 1
  · simp [h1]
  · by_cases h2 : a = 2
    · simp [h2]
    · rw [if_neg h1, if_neg h2]
      by_cases h4 : a = 4
      · simp [h4]
      · simp [h1, h2, h4]
theorem num_eq (a b : Int) : q38.f a b = some (decide (0 ≤ a ∧ a ≤ b)) := by
  unfold q38.f
  by_cases h : a ≥ 0
  · simp [h]
  · rw [if_neg h]; simp; omega
theorem isG_eq (n : Int) (out : List (List Int)) (a : Int) : q53.f n out a = some (decide (0 ≤ a ∧ a < n)) := by
  unfold q53.f
  by_cases h : a ≥ 0
  · simp [h]
  · rw [if_neg h]; simp; omega
theorem may10_eq (n : Int) (out : List (List Int)) (kind a : Int) (h0 : 0 ≤ n) (h1 : n ≤ 16) : q60.f n out kind a = some (code n kind a) := by
  have hb : q55.f kind 1 6 = some (decide (1 ≤ kind ∧ kind ≤ 6)) := by
    unfold q55.f
    by_cases h : kind ≥ 1
    · rw [if_pos h]; simp; omega
    · rw [if_neg h]; simp; omega
  unfold q60.f
  rw [hb, named10_eq, num_eq, w64 (by omega) (by omega)]
  simp only [Option.bind_some, decide_eq_true_eq]
  unfold code
  split
  · split
    · by_cases q : 0 ≤ a ∧ a < n
      · rw [if_pos q, if_pos (by omega)]
      · rw [if_neg q, if_neg (by omega)]
    · rfl
  · rfl
theorem asked_ev (n : Int) (out : List (List Int)) (kind a : Int) (hs : Sm out) : Ev (fun k => q22.f k n out kind a) (if GraphP n out then code n kind a else 1) := by
  have hj : ∀ r, Ev (fun k => q22.j0 k kind a true n out) r ↔ r = 1 := fun r => by
    have : Ev (fun k => q22.j0 k kind a true n out) 1 := by
      refine Ev.step (fun k => by rw [q22.j0]) ?_
      exact pos rfl (Ev.now _)
    exact ⟨fun h => uniq h this, fun h => h ▸ this⟩
  unfold q22.f
  refine bnd (gmayG_ev n out hs) ?_
  by_cases hg : GraphP n out
  · rw [if_pos hg]
    refine pos (by simpa using hg) ?_
    by_cases h1 : kind < 1
    · exact pos h1 ((hj _).2 (by unfold code; rw [if_neg (by omega)]))
    · refine neg h1 ?_
      by_cases h6 : kind > 6
      · rw [show decide (kind > 6) = true by simpa using h6]
        exact (hj _).2 (by unfold code; rw [if_neg (by omega)])
      · rw [show decide (kind > 6) = false by simpa using h6]
        refine Ev.step (fun k => by rw [q22.j0]) ?_
        refine neg (by simp) ?_
        rw [named_eq, isG_eq]
        unfold code
        rw [if_pos (by omega)]
        refine bnd (Ev.now _) ?_
        by_cases hk : kind = 1 ∨ kind = 2 ∨ kind = 4
        · rw [if_pos hk]
          refine pos (by simpa using hk) (bnd (Ev.now _) ?_)
          by_cases ha : 0 ≤ a ∧ a < n
          · rw [if_pos ha]; exact pos (by simpa using ha) (Ev.now _)
          · rw [if_neg ha]; exact neg (by simpa using ha) (Ev.now _)
        · rw [if_neg hk]
          exact neg (by simpa using hk) (Ev.now _)
  · rw [if_neg hg]
    exact neg (by simpa using hg) ((hj _).2 rfl)
theorem answers_ev (n : Int) (out : List (List Int)) (kind a : Int) (hg : GraphP n out) (hc : code n kind a = 0) :
    ∃ v, v.length ≤ 1000 ∧ Ev (fun k => q39.f k n out kind a) v ∧
      Ev (fun k => if kind = 1 then (if 0 ≤ a then (if a < (out.length : Int) then ((q54.f (rd_L1 out a)).bind fun t104 => (some (t104, (0 : Int)))) else (none)) else (none)) else (if kind = 2 then ((q30.f k n out).bind fun bt107 => (if 0 ≤ a then (if a < (bt107.2.length : Int) then (some (rd_L1 bt107.2 a, 0)) else (none)) else (none))) else (if kind = 3 then ((q24.f k n out).bind fun t112 => (some (t112, 0))) else (if kind = 4 then ((q16.f k n out a).bind fun t115 => (some (t115, 0))) else (if kind = 5 then ((q5.f k n out).bind fun t118 => (some (t118, 0))) else ((q31.f k n out).bind fun t121 => (some (t121, 0)))))))) (v, 0) := by
  obtain ⟨en, hG⟩ := hg.good
  generalize n.toNat = N at *
  subst en
  have hN := hG.le
  have hlen := hG.len
  have hsum := hG.sum
  have hs : Sm out := by unfold Sm; omega
  have hk : 1 ≤ kind ∧ kind ≤ 6 := by
    apply Classical.byContradiction
    intro h
    unfold code at hc
    rw [if_neg h] at hc
    omega
  have ha : (kind = 1 ∨ kind = 2 ∨ kind = 4) → 0 ≤ a ∧ a < N := fun h => by
    apply Classical.byContradiction
    intro hn
    unfold code at hc
    rw [if_pos hk, if_pos h, if_neg hn] at hc
    omega
  unfold q39.f
  by_cases k1 : kind = 1
  · obtain ⟨a0, a1⟩ := ha (.inl k1)
    obtain ⟨a, rfl⟩ : ∃ m : Nat, a = m := ⟨a.toNat, by omega⟩
    have hr := hG.rlen a
    refine ⟨out.getD a [], by omega, pos k1 (pos a0 (pos (by omega) ?_)), pos k1 (pos a0 (pos (by omega) ?_))⟩
    · rw [rd1N]; exact bnd (copy_ev _ (by omega)) (Ev.now _)
    · rw [rd1N]; exact bnd (clone_ev _ (by omega)) (Ev.now _)
  · by_cases k2 : kind = 2
    · obtain ⟨a0, a1⟩ := ha (.inr (.inl k2))
      obtain ⟨a, rfl⟩ : ∃ m : Nat, a = m := ⟨a.toNat, by omega⟩
      have hr := turn_rows hG a
      have htl := turn_length N out
      refine ⟨(turn N out).getD a [], by omega, neg k1 (pos k2 (bnd (turn6_ev N out hG) (pos a0 (pos (by dsimp only; omega) ?_)))), neg k1 (pos k2 (bnd (turned_ev N out hG) (pos a0 (pos (by dsimp only; omega) ?_))))⟩
      · rw [rd1N]; exact bnd (copy_ev _ (by dsimp only; omega)) (Ev.now _)
      · rw [rd1N]; exact Ev.now _
    · by_cases k3 : kind = 3
      · exact ⟨cnt out, by have := cnt_length hG; omega, neg k1 (neg k2 (pos k3 (tail (count10_ev _ out hs (by omega))))), neg k1 (neg k2 (pos k3 (bnd (count_ev _ out hs) (Ev.now _))))⟩
      · by_cases k4 : kind = 4
        · obtain ⟨a0, a1⟩ := ha (.inr (.inr k4))
          obtain ⟨a, rfl⟩ : ∃ m : Nat, a = m := ⟨a.toNat, by omega⟩
          obtain ⟨d, hd, h1, h2⟩ := far_ev N out hG a (by omega)
          exact ⟨d, by have := hd.half.len; omega, neg k1 (neg k2 (neg k3 (pos k4 (tail h2)))), neg k1 (neg k2 (neg k3 (pos k4 (bnd h1 (Ev.now _)))))⟩
        · by_cases k5 : kind = 5
          · obtain ⟨d, hd, h1, h2⟩ := part_ev N out hG
            exact ⟨d, by have := hd.half.len; omega, neg k1 (neg k2 (neg k3 (neg k4 (pos k5 (tail h2))))), neg k1 (neg k2 (neg k3 (neg k4 (pos k5 (bnd h1 (Ev.now _))))))⟩
          · refine ⟨flat (prs 0 out), by rw [flat_length, prs_length]; omega, neg k1 (neg k2 (neg k3 (neg k4 (neg k5 (bnd (pairs_ev _ out hs (by omega)) (askAll_ev out hs)))))), neg k1 (neg k2 (neg k3 (neg k4 (neg k5 (bnd (all_ev _ out hs) (Ev.now _))))))⟩
structure Says (n : Int) (out : List (List Int)) (kind a : Int) (v : List Int) (c : Int) : Prop where
  ask : Ev (fun k => q27.f k n out kind a) (v, c)
  len : v.length ≤ 1000
  may : GraphP n out → q60.f n out kind a = some c
  ref : GraphP n out → c = 0 → Ev (fun k => q39.f k n out kind a) v
  nil : c ≠ 0 → v = []
  bad : ¬ GraphP n out → c = 1
theorem says (n : Int) (out : List (List Int)) (kind a : Int) (hs : Sm out) : ∃ v c, Says n out kind a v c := by
  by_cases hg : GraphP n out
  · have hm := may10_eq n out kind a hg.1 hg.2.1
    by_cases hc : code n kind a = 0
    · obtain ⟨v, hl, h1, h2⟩ := answers_ev n out kind a hg hc
      refine ⟨v, 0, ?_, hl, fun _ => by rw [hm, hc], fun _ _ => h1, fun h => absurd rfl h, fun h => absurd hg h⟩
      unfold q27.f
      have := asked_ev n out kind a hs
      rw [if_pos hg, hc] at this
      exact bnd this (pos rfl h2)
    · refine ⟨[], code n kind a, ?_, by simp, fun _ => hm, fun _ h => absurd h hc, fun _ => rfl, fun h => absurd hg h⟩
      unfold q27.f
      have := asked_ev n out kind a hs
      rw [if_pos hg] at this
      exact bnd this (neg hc (Ev.now _))
  · refine ⟨[], 1, ?_, by simp, fun h => absurd h hg, fun h => absurd h hg, fun _ => rfl, fun _ => rfl⟩
    unfold q27.f
    have := asked_ev n out kind a hs
    rw [if_neg hg] at this
    exact bnd this (neg (by omega) (Ev.now _))
end Go.Proofs.Ytcfhffhmpalkbaa.U
end
section
namespace Go.Proofs.Ytcfhffhmpalkbaa.U
open Go.RowKit Go.Proofs.Ytcfhffhmpalkbaa.P Go.Proofs.YtcfhffhmpalkbaaW.PrintWords Go.Proofs.YtcfhffhmpalkbaaW.PrintLast Go.Proofs.YtcfhffhmpalkbaaW.PrintMore
set_option linter.unusedVariables false
set_option linter.unusedSimpArgs false
instance (out : List (List Int)) : Decidable (Sm out) := by unfold Sm; infer_instance
theorem wakes_ev : Ev (fun k => q56.f k) true := Ev.of (q56.mono) (k := 60) (by decide +kernel)
theorem wt_Sm {g : S42} (h : wt g ≤ 1200) : Sm g.f1 := by unfold wt at h; unfold Sm; omega
end Go.Proofs.Ytcfhffhmpalkbaa.U
end
section
namespace Go.Proofs.Ytcfhffhmpalkbaa.U
open Go.RowKit Go.Proofs.Ytcfhffhmpalkbaa.P Go.Proofs.YtcfhffhmpalkbaaW.PrintWords Go.Proofs.YtcfhffhmpalkbaaW.PrintLast Go.Proofs.YtcfhffhmpalkbaaW.PrintMore
set_option linter.unusedVariables false
set_option linter.unusedSimpArgs false
theorem copyLists_ev (xs : List (List Int)) (hs : Sm xs) : Ev (fun k => q45.f k xs) xs := by
  have hs' : xs.length + lsum xs ≤ 1000000 := hs
  have key : ∀ i, i ≤ xs.length → Ev (fun k => q45.l0 k xs (xs.take i) (i : Int)) xs := by
    refine upto ?_ ?_
    · refine Ev.step (fun k => by rw [q45.l0]) ?_
      exact neg (by omega) (ofEq (Ev.now _) (List.take_length))
    · intro i hi ih
      refine Ev.step (fun k => by rw [q45.l0]) ?_
      refine pos (by omega) (pos (by omega) ?_)
      rw [rd1N]
      refine bnd (copy_ev _ (hs.row hi)) (pos (by rw [List.length_take]; omega) ?_)
      rw [w1 (by omega), ← take_getD hi]
      exact ih
  exact key 0 (by omega)
theorem copyG_ev (n : Int) (out : List (List Int)) (hs : Sm out) : Ev (fun k => q66.f k n out) (n, out) := bnd (copyLists_ev out hs) (Ev.now _)
theorem eqLists_ev (xs : List (List Int)) (hs : Sm xs) : Ev (fun k => q46.f k xs xs) true := by
  have hs' : xs.length + lsum xs ≤ 1000000 := hs
  have key : ∀ i, i ≤ xs.length → Ev (fun k => q46.l0 k xs xs (i : Int)) true := by
    refine upto ?_ ?_
    · refine Ev.step (fun k => by rw [q46.l0]) ?_
      exact neg (by omega) (Ev.now _)
    · intro i hi ih
      refine Ev.step (fun k => by rw [q46.l0]) ?_
      refine pos (by omega) (pos (by omega) (pos (by omega) ?_))
      rw [rd1N, w1 (by omega)]
      exact bnd (eqn_ev _ _ (hs.row hi)) (pos (by simp) ih)
  unfold q46.f
  exact pos rfl (key 0 (by omega))
theorem eqG_ev (n : Int) (out : List (List Int)) (hs : Sm out) : Ev (fun k => q49.f k n out n out) true := by
  unfold q49.f
  exact pos rfl (bnd (eqLists_ev out hs) (Ev.now _))
theorem numbers_ev (xs : List Int) (h : xs.length ≤ 1000000) : ∃ r, Ev (fun k => q47.f k xs) r := by
  have key : ∀ i, i ≤ xs.length → ∀ s : List Int, s.length = xs.length → ∃ r, Ev (fun k => q47.l0 k s (i : Int)) r := by
    refine upto ?_ ?_
    · intro s hs
      refine ⟨s, ?_⟩
      refine Ev.step (fun k => by rw [q47.l0]) ?_
      exact neg (by omega) (Ev.now _)
    · intro i hi ih s hs
      obtain ⟨r, hr⟩ := ih (s.set i (-99)) (by rw [List.length_set]; exact hs)
      refine ⟨r, ?_⟩
      refine Ev.step (fun k => by rw [q47.l0]) ?_
      refine pos (by omega) (pos (by omega) ?_)
      rw [Int.toNat_natCast, w1 (by omega)]
      exact hr
  exact key 0 (by omega) xs rfl
theorem Says.zero {n : Int} {out : List (List Int)} {kind a : Int} {v : List Int} {c : Int} (hs : Sm out) (hk : kind = 3 ∨ kind = 5 ∨ kind = 6) (h : Says n out kind a v c) : Says n out kind 0 v c := by
  obtain ⟨v', c', h'⟩ := says n out kind 0 hs
  have hc : c' = c := by
    by_cases hg : GraphP n out
    · have e1 := h.may hg
      have e2 := h'.may hg
      rw [may10_eq _ _ _ _ hg.1 hg.2.1] at e1 e2
      have : code n kind a = code n kind 0 := by unfold code; rcases hk with rfl | rfl | rfl <;> simp
      injection e1 with e1
      injection e2 with e2
      omega
    · rw [h.bad hg, h'.bad hg]
  subst hc
  have hv : v' = v := by
    by_cases h0 : c' = 0
    · by_cases hg : GraphP n out
      · have e1 := h.ref hg h0
        have e2 := h'.ref hg h0
        have : ∀ k, q39.f k n out kind a = q39.f k n out kind 0 := fun k => by
          unfold q39.f
          rcases hk with rfl | rfl | rfl <;> simp
        simp only [this] at e1
        exact uniq e2 e1
      · have := h.bad hg; omega
    · rw [h.nil h0, h'.nil h0]
  subst hv
  exact h'
theorem Says.out {n : Int} {out : List (List Int)} {kind a : Int} {v : List Int} {c : Int} (h : Says n out kind a v c) : Ev (fun k => (q27.f k n out kind a).bind fun bt => (some (bt.1, bt.2))) (v, c) := bnd h.ask (Ev.now _)
end Go.Proofs.Ytcfhffhmpalkbaa.U
end
section
namespace Go.Proofs.Ytcfhffhmpalkbaa.Pure
open Go.RowKit Go.Proofs.Ytcfhffhmpalkbaa.P Go.Proofs.Ytcfhffhmpalkbaa.U Go.Proofs.YtcfhffhmpalkbaaW.PrintWords Go.Proofs.YtcfhffhmpalkbaaW.PrintLast Go.Proofs.YtcfhffhmpalkbaaW.PrintMore
set_option linter.unusedVariables false
set_option linter.unusedSimpArgs false
theorem KernelAsks : q3.Pure := by
  intro x hS
  apply Ev.rounds
  obtain ⟨b, hb, hw⟩ := heavy_ev x hS
  unfold q3.f
  refine bnd hb ?_
  cases b with
  | true => exact pos rfl (Ev.now _)
  | false =>
    obtain ⟨hl, _, hg⟩ := hw rfl
    refine neg (by simp) ?_
    generalize x.f0 = gs at *
    generalize x.f1 = acts at *
    have hend : ∀ i : Nat, Ev (fun k => q3.j1 k (i : Int) false gs acts) true := by
      intro i
      refine Ev.step (fun k => by rw [q3.j1]) ?_
      exact neg (by simp) (tail wakes_ev)
    have l0 : ∀ i, i ≤ gs.length → Ev (fun k => q3.l0 k (i : Int) gs acts) true := by
      refine upto ?_ ?_
      · refine Ev.step (fun k => by rw [q3.l0]) ?_
        exact neg (by omega) (hend _)
      · intro i hi ih
        refine Ev.step (fun k => by rw [q3.l0]) ?_
        refine pos (by omega) ?_
        by_cases h4 : (i : Int) < 4
        · rw [show decide ((i : Int) < 4) = true by simpa using h4]
          have hsm : Sm (gs.getD i z42).f1 := wt_Sm (hg _ (getD_mem hi))
          have hG : rd_T42 gs (i : Int) = gs.getD i z42 := rdG gs i
          have hin : (i : Int) < (gs.length : Int) := by omega
          generalize he : gs.getD i z42 = g at *
          obtain ⟨n, out⟩ := g
          have l1 : ∀ j : Nat, j ≤ 18 → Ev (fun k => q3.l1 k (i : Int) (decide (GraphP n out)) ((j : Int) - 1) gs acts n out) true := by
            refine upto ?_ ?_
            · refine Ev.step (fun k => by rw [q3.l1]) ?_
              refine neg (by omega) ?_
              rw [w1 (by omega)]
              exact ih
            · intro j hj ihj
              have l2 : ∀ m : Nat, m ≤ 9 → Ev (fun k => q3.l2 k (i : Int) (decide (GraphP n out)) ((j : Int) - 1) ((m : Int) - 1) gs acts n out) true := by
                refine upto ?_ ?_
                · refine Ev.step (fun k => by rw [q3.l2]) ?_
                  refine neg (by omega) ?_
                  rw [w64 (by omega) (by omega), show ((j : Int) - 1 + 1) = ((j + 1 : Nat) : Int) - 1 by omega]
                  exact ihj
                · intro m hm ihm
                  obtain ⟨v, c, hs⟩ := says n out ((m : Int) - 1) ((j : Int) - 1) hsm
                  have hv := hs.len
                  have hnext : Ev (fun k => q3.l2 k (i : Int) (decide (GraphP n out)) ((j : Int) - 1) (wrap64 (((m : Int) - 1) + 1)) gs acts n out) true := by
                    rw [w64 (by omega) (by omega), show ((m : Int) - 1 + 1) = ((m + 1 : Nat) : Int) - 1 by omega]
                    exact ihm
                  have j7 : Ev (fun k => q3.j7 k (i : Int) (decide (GraphP n out)) ((j : Int) - 1) ((m : Int) - 1) v false gs acts n out) true := by
                    obtain ⟨r, hr⟩ := numbers_ev v (by omega)
                    refine Ev.step (fun k => by rw [q3.j7]) ?_
                    refine neg (by simp) (bnd hr (pos (by omega) (pos hin ?_)))
                    rw [hG]
                    exact bnd (eqG_ev n out hsm) (pos rfl hnext)
                  have j6 : Ev (fun k => q3.j6 k (i : Int) (decide (GraphP n out)) ((j : Int) - 1) ((m : Int) - 1) c v v c gs acts n out) true := by
                    refine Ev.step (fun k => by rw [q3.j6]) ?_
                    refine bnd (Ev.now _) (pos rfl (bnd (eqn_ev v v (by omega)) (pos (by simp) (pos (by omega) (pos hin ?_)))))
                    rw [hG]
                    exact bnd (eqG_ev n out hsm) j7
                  have j5 : Ev (fun k => q3.j5 k (i : Int) (decide (GraphP n out)) ((j : Int) - 1) ((m : Int) - 1) c v false gs acts n out) true := by
                    refine Ev.step (fun k => by rw [q3.j5]) ?_
                    refine neg (by simp) ?_
                    by_cases k1 : (m : Int) - 1 = 1
                    · refine pos k1 (bnd (show Ev (fun k => q67.f k n out ((j : Int) - 1)) (v, c) from ?_) j6)
                      rw [k1] at hs; exact hs.out
                    · refine neg k1 ?_
                      by_cases k2 : (m : Int) - 1 = 2
                      · refine pos k2 (bnd (show Ev (fun k => q68.f k n out ((j : Int) - 1)) (v, c) from ?_) j6)
                        rw [k2] at hs; exact hs.out
                      · refine neg k2 ?_
                        by_cases k3 : (m : Int) - 1 = 3
                        · refine pos k3 (bnd (show Ev (fun k => q69.f k n out) (v, c) from ?_) j6)
                          rw [k3] at hs; exact (hs.zero hsm (.inl rfl)).out
                        · refine neg k3 ?_
                          by_cases k4 : (m : Int) - 1 = 4
                          · refine pos k4 (bnd (show Ev (fun k => q48.f k n out ((j : Int) - 1)) (v, c) from ?_) j6)
                            rw [k4] at hs; exact hs.out
                          · refine neg k4 ?_
                            by_cases k5 : (m : Int) - 1 = 5
                            · refine pos k5 (bnd (show Ev (fun k => q70.f k n out) (v, c) from ?_) j6)
                              rw [k5] at hs; exact (hs.zero hsm (.inr (.inl rfl))).out
                            · refine neg k5 ?_
                              by_cases k6 : (m : Int) - 1 = 6
                              · refine pos k6 (bnd (show Ev (fun k => q71.f k n out) (v, c) from ?_) j6)
                                rw [k6] at hs; exact (hs.zero hsm (.inr (.inr rfl))).out
                              · exact neg k6 hnext
                  have j4 : ∀ v' c', v' = v → c' = c → Ev (fun k => q3.j4 k (i : Int) (decide (GraphP n out)) ((j : Int) - 1) ((m : Int) - 1) v c c' v' gs acts n out) true := by
                    rintro v' c' rfl rfl
                    refine Ev.step (fun k => by rw [q3.j4]) ?_
                    refine bnd (Ev.now _) (pos rfl (bnd (eqn_ev _ _ (by omega)) ?_))
                    rw [show (!decide (v' = v')) = false by simp]
                    exact j5
                  refine Ev.step (fun k => by rw [q3.l2]) ?_
                  refine pos (by omega) (bnd hs.ask ?_)
                  by_cases h : GraphP n out
                  · refine pos (by simpa using h) (pos (by omega) (pos hin ?_))
                    rw [hG]
                    rw [hs.may h]
                    refine bnd (Ev.now _) ?_
                    by_cases hc : c = 0
                    · exact pos hc (bnd (hs.ref h hc) (j4 _ _ rfl rfl))
                    · exact neg hc (j4 _ _ (hs.nil hc).symm rfl)
                  · exact neg (by simpa using h) (j4 _ _ (hs.nil (by rw [hs.bad h]; omega)).symm (hs.bad h).symm)
              refine Ev.step (fun k => by rw [q3.l1]) ?_
              exact pos (by omega) (l2 0 (by omega))
          refine Ev.step (fun k => by rw [q3.j1]) ?_
          refine pos rfl (pos (by omega) (pos hin ?_))
          rw [hG]
          exact bnd (copyG_ev n out hsm) (bnd (graph6_ev n out hsm) (l1 0 (by omega)))
        · rw [show decide ((i : Int) < 4) = false by simpa using h4]
          exact hend i
    exact l0 0 (by omega)
end Go.Proofs.Ytcfhffhmpalkbaa.Pure
end
