import Derived.Test.YtcfhffhmpalkbaaKa20
section
namespace Go.Proofs.Ytcfhffhmpalkbaa.U
open Go.RowKit Go.Proofs.Ytcfhffhmpalkbaa.P Go.Proofs.YtcfhffhmpalkbaaW.PrintWords Go.Proofs.YtcfhffhmpalkbaaW.PrintLast Go.Proofs.YtcfhffhmpalkbaaW.PrintMore
set_option linter.unusedVariables false
set_option linter.unusedSimpArgs false
theorem eqn_ev (xs ys : List Int) (h : xs.length ≤ 1000000) : Ev (fun k => q30.f k xs ys) (decide (xs = ys)) := by
  by_cases hl : xs.length = ys.length
  · have key : ∀ i, i ≤ xs.length → (∀ j, j < i → xs.getD j 0 = ys.getD j 0) → Ev (fun k => q30.l0 k xs ys (i : Int)) (decide (xs = ys)) := by
      refine upto ?_ ?_
      · intro hd
        refine Ev.step (fun k => by rw [q30.l0]) ?_
        exact neg (by omega) (ofEq (Ev.now _) (by rw [ext_getD hl hd]; simp))
      · intro i hi ih hd
        refine Ev.step (fun k => by rw [q30.l0]) ?_
        refine pos (by omega) (pos (by omega) (pos (by omega) ?_))
        rw [rdN, rdN, w1 (by omega)]
        by_cases e : xs.getD i 0 = ys.getD i 0
        · refine pos e (ih fun j hj => ?_)
          by_cases q : j = i
          · rw [q]; exact e
          · exact hd j (by omega)
        · refine neg e (ofEq (Ev.now _) ?_)
          have : ¬ xs = ys := fun h => e (by rw [h])
          simp [this]
    unfold q30.f
    exact pos (by omega) (key 0 (by omega) (fun j hj => by omega))
  · unfold q30.f
    refine neg (by omega) (ofEq (Ev.now _) ?_)
    have : ¬ xs = ys := fun h => hl (by rw [h])
    simp [this]
theorem fold_rows (ps : List S78) : ∀ (st : List (List Int)) (b : Nat), (∀ p ∈ ps, p.f1.toNat < st.length) → (∀ j, (st.getD j []).length ≤ b) → ∀ j, ((ps.foldl tstep st).getD j []).length ≤ b + ps.length := by
  induction ps with
  | nil => intro st b _ h j; exact h j
  | cons p ps ih =>
    intro st b hp h j
    rw [List.foldl_cons]
    have := ih (tstep st p) (b + 1) (fun q hq => by rw [tstep_length]; exact hp q (by simp [hq])) (tstep_rows h (hp p (by simp))) j
    simp only [List.length_cons]
    omega
theorem turn_rows {N : Nat} {out : List (List Int)} (hg : Good N out) (j : Nat) : ((turn N out).getD j []).length ≤ 120 := by
  have hpl : (prs 0 out).length = lsum out := prs_length _ _
  have := hg.sum
  have := fold_rows (prs 0 out) (List.replicate N []) 0 (fun p hp => by
    obtain ⟨i, hi, _, hm⟩ := prs_mem 0 out p hp
    have := hg.row i (by have := hg.len; omega) _ hm
    simp only [List.length_replicate]
    omega) (fun j => by simp [List.getD_eq_getElem?_getD, List.getElem?_replicate]; split <;> simp) j
  unfold turn
  omega
theorem cnt_length {N : Nat} {out : List (List Int)} (hg : Good N out) : (cnt out).length ≤ 17 := by
  have key : ∀ (xs : List (List Int)) (c : List Int), (∀ r ∈ xs, r.length ≤ 16) → c.length ≤ 17 → (xs.foldl cstep c).length ≤ 17 := by
    intro xs
    induction xs with
    | nil => intro c _ h; exact h
    | cons r rs ih =>
      intro c hr hc
      rw [List.foldl_cons]
      refine ih _ (fun q hq => hr q (by simp [hq])) ?_
      rw [cstep_length]
      have := hr r (by simp)
      omega
  refine key out [] (fun r hr => ?_) (by simp)
  obtain ⟨i, hi, rfl⟩ := List.mem_iff_getElem.1 hr
  rw [← getD_lt (d := []) hi]
  exact hg.rlen i
def code (n kind a : Int) : Int := if 1 ≤ kind ∧ kind ≤ 6 then (if kind = 1 ∨ kind = 2 ∨ kind = 4 then (if 0 ≤ a ∧ a < n then 0 else 3) else 0) else 1
theorem named_eq (a : Int) : q60.f a = some (decide (a = 1 ∨ a = 2 ∨ a = 4)) := by
  unfold q60.f
  by_cases h1 : a = 1
  · simp [h1]
  · by_cases h2 : a = 2
    · simp [h2]
    · rw [if_neg h1, if_neg h2]
      by_cases h4 : a = 4
      · simp [h4]
      · simp [h1, h2, h4]
theorem named10_eq (a : Int) : q53.f a = some (decide (a = 1 ∨ a = 2 ∨ a = 4)) := by
  unfold q53.f
  by_cases h1 : a = 1
  · simp [h1]
  · by_cases h2 : a = 2
    · simp [h2]
    · rw [if_neg h1, if_neg h2]
      by_cases h4 : a = 4
      · simp [h4]
      · simp [h1, h2, h4]
theorem num_eq (a b : Int) : q43.f a b = some (decide (0 ≤ a ∧ a ≤ b)) := by
  unfold q43.f
  by_cases h : a ≥ 0
  · simp [h]
  · rw [if_neg h]; simp; omega
theorem isG_eq (n : Int) (out : List (List Int)) (a : Int) : q54.f n out a = some (decide (0 ≤ a ∧ a < n)) := by
  unfold q54.f
  by_cases h : a ≥ 0
  · simp [h]
  · rw [if_neg h]; simp; omega
theorem may10_eq (n : Int) (out : List (List Int)) (kind a : Int) (h0 : 0 ≤ n) (h1 : n ≤ 16) : q57.f n out kind a = some (code n kind a) := by
  have hb : q56.f kind 1 6 = some (decide (1 ≤ kind ∧ kind ≤ 6)) := by
    unfold q56.f
    by_cases h : kind ≥ 1
    · rw [if_pos h]; simp; omega
    · rw [if_neg h]; simp; omega
  unfold q57.f
  rw [hb, named10_eq, num_eq, w64 (by omega) (by omega)]
  simp only [Option.bind_some, decide_eq_true_eq]
  unfold code
  split
  · split
    · by_cases q : 0 ≤ a ∧ a < n
      · rw [if_pos q, if_pos (by omega)]
      · rw [if_neg q, if_neg (by omega)]
    · rfl
  · rfl
theorem asked_ev (n : Int) (out : List (List Int)) (kind a : Int) (hs : Sm out) : Ev (fun k => q24.f k n out kind a) (if GraphP n out then code n kind a else 1) := by
  have hj : ∀ r, Ev (fun k => q24.j0 k kind a true n out) r ↔ r = 1 := fun r => by
    have : Ev (fun k => q24.j0 k kind a true n out) 1 := by
      refine Ev.step (fun k => by rw [q24.j0]) ?_
      exact pos rfl (Ev.now _)
    exact ⟨fun h => uniq h this, fun h => h ▸ this⟩
  unfold q24.f
  refine bnd (gmayG_ev n out hs) ?_
  by_cases hg : GraphP n out
  · rw [if_pos hg]
    refine pos (by simpa using hg) ?_
    by_cases h1 : kind < 1
    · exact pos h1 ((hj _).2 (by unfold code; rw [if_neg (by omega)]))
    · refine neg h1 ?_
      by_cases h6 : kind > 6
      · rw [show decide (kind > 6) = true by simpa using h6]
        exact (hj _).2 (by unfold code; rw [if_neg (by omega)])
      · rw [show decide (kind > 6) = false by simpa using h6]
        refine Ev.step (fun k => by rw [q24.j0]) ?_
        refine neg (by simp) ?_
        rw [named_eq, isG_eq]
        unfold code
        rw [if_pos (by omega)]
        refine bnd (Ev.now _) ?_
        by_cases hk : kind = 1 ∨ kind = 2 ∨ kind = 4
        · rw [if_pos hk]
          refine pos (by simpa using hk) (bnd (Ev.now _) ?_)
          by_cases ha : 0 ≤ a ∧ a < n
          · rw [if_pos ha]; exact pos (by simpa using ha) (Ev.now _)
          · rw [if_neg ha]; exact neg (by simpa using ha) (Ev.now _)
        · rw [if_neg hk]
          exact neg (by simpa using hk) (Ev.now _)
  · rw [if_neg hg]
    exact neg (by simpa using hg) ((hj _).2 rfl)
theorem answers_ev (n : Int) (out : List (List Int)) (kind a : Int) (hg : GraphP n out) (hc : code n kind a = 0) :
    ∃ v, v.length ≤ 1000 ∧ Ev (fun k => q42.f k n out kind a) v ∧
      Ev (fun k => if kind = 1 then (if 0 ≤ a then (if a < (out.length : Int) then ((q55.f (rd_L1 out a)).bind fun t104 => (some (t104, (0 : Int)))) else (none)) else (none)) else (if kind = 2 then ((q31.f k n out).bind fun bt107 => (if 0 ≤ a then (if a < (bt107.2.length : Int) then (some (rd_L1 bt107.2 a, 0)) else (none)) else (none))) else (if kind = 3 then ((q25.f k n out).bind fun t112 => (some (t112, 0))) else (if kind = 4 then ((q9.f k n out a).bind fun t115 => (some (t115, 0))) else (if kind = 5 then ((q4.f k n out).bind fun t118 => (some (t118, 0))) else ((q32.f k n out).bind fun t121 => (some (t121, 0)))))))) (v, 0) := by
  obtain ⟨en, hG⟩ := hg.good
  generalize n.toNat = N at *
  subst en
  have hN := hG.le
  have hlen := hG.len
  have hsum := hG.sum
  have hs : Sm out := by unfold Sm; omega
  have hk : 1 ≤ kind ∧ kind ≤ 6 := by
    apply Classical.byContradiction
    intro h
    unfold code at hc
    rw [if_neg h] at hc
    omega
  have ha : (kind = 1 ∨ kind = 2 ∨ kind = 4) → 0 ≤ a ∧ a < N := fun h => by
    apply Classical.byContradiction
    intro hn
    unfold code at hc
    rw [if_pos hk, if_pos h, if_neg hn] at hc
    omega
  unfold q42.f
  by_cases k1 : kind = 1
  · obtain ⟨a0, a1⟩ := ha (.inl k1)
    obtain ⟨a, rfl⟩ : ∃ m : Nat, a = m := ⟨a.toNat, by omega⟩
    have hr := hG.rlen a
    refine ⟨out.getD a [], by omega, pos k1 (pos a0 (pos (by omega) ?_)), pos k1 (pos a0 (pos (by omega) ?_))⟩
    · rw [rd1N]; exact bnd (copy_ev _ (by omega)) (Ev.now _)
    · rw [rd1N]; exact bnd (clone_ev _ (by omega)) (Ev.now _)
  · by_cases k2 : kind = 2
    · obtain ⟨a0, a1⟩ := ha (.inr (.inl k2))
      obtain ⟨a, rfl⟩ : ∃ m : Nat, a = m := ⟨a.toNat, by omega⟩
      have hr := turn_rows hG a
      have htl := turn_length N out
      refine ⟨(turn N out).getD a [], by omega, neg k1 (pos k2 (bnd (turn6_ev N out hG) (pos a0 (pos (by dsimp only; omega) ?_)))), neg k1 (pos k2 (bnd (turned_ev N out hG) (pos a0 (pos (by dsimp only; omega) ?_))))⟩
      · rw [rd1N]; exact bnd (copy_ev _ (by dsimp only; omega)) (Ev.now _)
      · rw [rd1N]; exact Ev.now _
    · by_cases k3 : kind = 3
      · exact ⟨cnt out, by have := cnt_length hG; omega, neg k1 (neg k2 (pos k3 (tail (count10_ev _ out hs (by omega))))), neg k1 (neg k2 (pos k3 (bnd (count_ev _ out hs) (Ev.now _))))⟩
      · by_cases k4 : kind = 4
        · obtain ⟨a0, a1⟩ := ha (.inr (.inr k4))
          obtain ⟨a, rfl⟩ : ∃ m : Nat, a = m := ⟨a.toNat, by omega⟩
          obtain ⟨d, hd, h1, h2⟩ := far_ev N out hG a (by omega)
          exact ⟨d, by have := hd.half.len; omega, neg k1 (neg k2 (neg k3 (pos k4 (tail h2)))), neg k1 (neg k2 (neg k3 (pos k4 (bnd h1 (Ev.now _)))))⟩
        · by_cases k5 : kind = 5
          · obtain ⟨d, hd, h1, h2⟩ := part_ev N out hG
            exact ⟨d, by have := hd.half.len; omega, neg k1 (neg k2 (neg k3 (neg k4 (pos k5 (tail h2))))), neg k1 (neg k2 (neg k3 (neg k4 (pos k5 (bnd h1 (Ev.now _))))))⟩
          · refine ⟨flat (prs 0 out), by rw [flat_length, prs_length]; omega, neg k1 (neg k2 (neg k3 (neg k4 (neg k5 (bnd (pairs_ev _ out hs (by omega)) (askAll_ev out hs)))))), neg k1 (neg k2 (neg k3 (neg k4 (neg k5 (bnd (all_ev _ out hs) (Ev.now _))))))⟩
structure Says (n : Int) (out : List (List Int)) (kind a : Int) (v : List Int) (c : Int) : Prop where
  ask : Ev (fun k => q51.f k n out kind a) (v, c)
  len : v.length ≤ 1000
  may : GraphP n out → q57.f n out kind a = some c
  ref : GraphP n out → c = 0 → Ev (fun k => q42.f k n out kind a) v
  nil : c ≠ 0 → v = []
  bad : ¬ GraphP n out → c = 1
theorem says (n : Int) (out : List (List Int)) (kind a : Int) (hs : Sm out) : ∃ v c, Says n out kind a v c := by
  by_cases hg : GraphP n out
  · have hm := may10_eq n out kind a hg.1 hg.2.1
    by_cases hc : code n kind a = 0
    · obtain ⟨v, hl, h1, h2⟩ := answers_ev n out kind a hg hc
      refine ⟨v, 0, ?_, hl, fun _ => by rw [hm, hc], fun _ _ => h1, fun h => absurd rfl h, fun h => absurd hg h⟩
      unfold q51.f
      have := asked_ev n out kind a hs
      rw [if_pos hg, hc] at this
      exact bnd this (pos rfl h2)
    · refine ⟨[], code n kind a, ?_, by simp, fun _ => hm, fun _ h => absurd h hc, fun _ => rfl, fun h => absurd hg h⟩
      unfold q51.f
      have := asked_ev n out kind a hs
      rw [if_pos hg] at this
      exact bnd this (neg hc (Ev.now _))
  · refine ⟨[], 1, ?_, by simp, fun h => absurd h hg, fun h => absurd h hg, fun _ => rfl, fun _ => rfl⟩
    unfold q51.f
    have := asked_ev n out kind a hs
    rw [if_neg hg] at this
    exact bnd this (neg (by omega) (Ev.now _))
end Go.Proofs.Ytcfhffhmpalkbaa.U
end
section
namespace Go.Proofs.Ytcfhffhmpalkbaa.U
open Go.RowKit Go.Proofs.Ytcfhffhmpalkbaa.P Go.Proofs.YtcfhffhmpalkbaaW.PrintWords Go.Proofs.YtcfhffhmpalkbaaW.PrintLast Go.Proofs.YtcfhffhmpalkbaaW.PrintMore
set_option linter.unusedVariables false
set_option linter.unusedSimpArgs false
instance (out : List (List Int)) : Decidable (Sm out) := by unfold Sm; infer_instance
theorem wakes_ev : Ev (fun k => q62.f k) true := Ev.of (q62.mono) (k := 60) (by decide +kernel)
theorem made_some {o : Option (Int × List (List Int))} (h : (match o with | some p => decide (Sm p.2) | none => false) = true) : ∃ p, o = some p ∧ Sm p.2 := by
  cases o with
  | none => cases h
  | some p => exact ⟨p, rfl, of_decide_eq_true h⟩
theorem made_ev (i j : Nat) (hi : i < 4) (hj : j < 4) : ∃ p, Ev (fun k => q58.f k ((5 * i : Nat) : Int) (j : Int)) p ∧ Sm p.2 := by
  have h : ∀ i, i < 4 → ∀ j, j < 4 → (match q58.f 300 ((5 * i : Nat) : Int) ((j : Nat) : Int) with | some p => decide (Sm p.2) | none => false) = true := by decide +kernel
  obtain ⟨p, e, hp⟩ := made_some (h i hi j hj)
  exact ⟨p, Ev.of (q58.mono _ _) e, hp⟩
theorem wt_Sm {g : S42} (h : wt g ≤ 1200) : Sm g.f1 := by unfold wt at h; unfold Sm; omega
theorem one_ev (x : S37) (hS : Sz37 x) (kind : Int) : Ev (fun k => q3.f k x.f0 x.f1 kind) true := by
  obtain ⟨b, hb, hw⟩ := heavy_ev x hS
  unfold q3.f
  refine bnd hb ?_
  cases b with
  | true => exact pos rfl (Ev.now _)
  | false =>
    obtain ⟨hl, _, hg⟩ := hw rfl
    refine neg (by simp) (bnd (Ev.now _) (pos (by simp only [List.length_nil]; omega) (bnd (Ev.now _) ?_)))
    have l2 : ∀ gs : List S42, (∀ g ∈ gs, Sm g.f1) → gs.length ≤ 1000000 → ∀ i, i ≤ gs.length → Ev (fun k => q3.l2 k kind gs (i : Int)) true := by
      intro gs hgs hgl
      refine upto ?_ ?_
      · refine Ev.step (fun k => by rw [q3.l2]) ?_
        exact neg (by omega) (tail wakes_ev)
      · intro i hi ih
        have hsm := hgs _ (getD_mem (d := z42) hi)
        have l3 : ∀ j : Nat, j ≤ 18 → Ev (fun k => q3.l3 k kind gs (i : Int) ((j : Int) - 1)) true := by
          refine upto ?_ ?_
          · refine Ev.step (fun k => by rw [q3.l3]) ?_
            refine neg (by omega) ?_
            rw [w1 (by omega)]
            exact ih
          · intro j hj ihj
            obtain ⟨v, c, hs⟩ := says (gs.getD i z42).f0 (gs.getD i z42).f1 kind ((j : Int) - 1) hsm
            have fin : ∀ v' c', v' = v → c' = c → Ev (fun k => q3.j5 k kind gs (i : Int) ((j : Int) - 1) v c c' v') true := by
              rintro v' c' rfl rfl
              refine Ev.step (fun k => by rw [q3.j5]) ?_
              refine bnd (Ev.now _) (pos rfl (bnd (eqn_ev _ _ (by have := hs.len; omega)) (pos (by simp) ?_)))
              rw [w64 (by omega) (by omega), show ((j : Int) - 1 + 1) = ((j + 1 : Nat) : Int) - 1 by omega]
              exact ihj
            refine Ev.step (fun k => by rw [q3.l3]) ?_
            refine pos (by omega) (pos (by omega) (pos (by omega) ?_))
            rw [rdG]
            refine bnd hs.ask (bnd (graph6_ev _ _ hsm) ?_)
            by_cases h : GraphP (gs.getD i z42).f0 (gs.getD i z42).f1
            · refine pos (by simpa using h) ?_
              rw [hs.may h]
              refine bnd (Ev.now _) ?_
              by_cases hc : c = 0
              · exact pos hc (bnd (hs.ref h hc) (fin _ _ rfl rfl))
              · exact neg hc (fin _ _ (hs.nil hc).symm rfl)
            · refine neg (by simpa using h) (fin _ _ (hs.nil (by rw [hs.bad h]; omega)).symm (hs.bad h).symm)
        refine Ev.step (fun k => by rw [q3.l2]) ?_
        exact pos (by omega) (l3 0 (by omega))
    have l0 : ∀ i, i ≤ 4 → ∀ gs : List S42, (∀ g ∈ gs, Sm g.f1) → gs.length ≤ 4 + 4 * i → Ev (fun k => q3.l0 k kind gs ((5 * i : Nat) : Int)) true := by
      refine upto ?_ ?_
      · intro gs h1 h2
        refine Ev.step (fun k => by rw [q3.l0]) ?_
        exact neg (by omega) (l2 gs h1 (by omega) 0 (by omega))
      · intro i hi ih gs h1 h2
        have l1 : ∀ j, j ≤ 4 → ∀ gs : List S42, (∀ g ∈ gs, Sm g.f1) → gs.length ≤ 4 + 4 * i + j → Ev (fun k => q3.l1 k kind gs ((5 * i : Nat) : Int) (j : Int)) true := by
          refine upto ?_ ?_
          · intro gs h1 h2
            refine Ev.step (fun k => by rw [q3.l1]) ?_
            refine neg (by omega) ?_
            rw [w64 (by omega) (by omega), show (((5 * i : Nat) : Int) + 5) = ((5 * (i + 1) : Nat) : Int) by omega]
            exact ih gs h1 (by omega)
          · intro j hj ihj gs h1 h2
            obtain ⟨p, hp, hps⟩ := made_ev i j hi hj
            refine Ev.step (fun k => by rw [q3.l1]) ?_
            refine pos (by omega) (bnd hp (pos (by omega) ?_))
            rw [w1 (by omega)]
            refine ihj _ (fun g hg => ?_) (by simp only [List.length_append, List.length_singleton]; omega)
            rcases List.mem_append.1 hg with hg | hg
            · exact h1 g hg
            · obtain rfl := List.mem_singleton.1 hg
              exact hps
        refine Ev.step (fun k => by rw [q3.l0]) ?_
        exact pos (by omega) (l1 0 (by omega) gs h1 (by omega))
    have j0 : ∀ gs : List S42, (∀ g ∈ gs, Sm g.f1) → gs.length ≤ 4 → Ev (fun k => q3.j0 k kind gs) true := by
      intro gs h1 h2
      refine Ev.step (fun k => by rw [q3.j0]) ?_
      exact l0 0 (by omega) gs h1 (by omega)
    rw [List.nil_append]
    by_cases h4 : (x.f0.length : Int) > 4
    · refine pos h4 (pos (by omega) (j0 _ (fun g h => wt_Sm (hg g (List.mem_of_mem_take h))) ?_))
      rw [List.length_take]
      omega
    · exact neg h4 (j0 _ (fun g h => wt_Sm (hg g h)) (by omega))
end Go.Proofs.Ytcfhffhmpalkbaa.U
end
