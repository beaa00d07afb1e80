import Derived.Test.YtcfhffhmpalkbaaKo20
section
namespace Go.Proofs.Ytcfhffhmpalkbaa.U
open Go.RowKit Go.Proofs.Ytcfhffhmpalkbaa.P Go.Proofs.YtcfhffhmpalkbaaW.PrintWords Go.Proofs.YtcfhffhmpalkbaaW.PrintLast Go.Proofs.YtcfhffhmpalkbaaW.PrintMore
set_option linter.unusedVariables false
set_option linter.unusedSimpArgs false
def Conn (N : Nat) (out : List (List Int)) (u v : Nat) : Prop := ∀ f : Nat → Int, (∀ a b, a < N → b < N → Edge out a b → f a = f b) → f u = f v
theorem Conn.rfl' {N : Nat} {out : List (List Int)} (u : Nat) : Conn N out u u := fun _ _ => rfl
theorem Conn.symm {N : Nat} {out : List (List Int)} {u v : Nat} (h : Conn N out u v) : Conn N out v u := fun f hf => (h f hf).symm
theorem Conn.trans {N : Nat} {out : List (List Int)} {u v w : Nat} (h : Conn N out u v) (k : Conn N out v w) : Conn N out u w := fun f hf => (h f hf).trans (k f hf)
theorem Conn.of {N : Nat} {out : List (List Int)} {u v : Nat} (hu : u < N) (hv : v < N) (h : Edge out u v) : Conn N out u v := fun f hf => hf u v hu hv h
structure PHalf (N : Nat) (out : List (List Int)) (l : List Int) : Prop where
  len : l.length = N
  num : ∀ v, v < N → 0 ≤ l.getD v 0 ∧ l.getD v 0 ≤ v
  con : ∀ v, v < N → Conn N out v (l.getD v 0).toNat
structure PartOf (N : Nat) (out : List (List Int)) (l : List Int) : Prop where
  half : PHalf N out l
  edge : ∀ u w, u < N → w < N → Edge out u w → l.getD u 0 = l.getD w 0
theorem PartOf.le {N : Nat} {out : List (List Int)} {l l' : List Int} (h : PartOf N out l) (h' : PartOf N out l') {v : Nat} (hv : v < N) : l'.getD v 0 ≤ l.getD v 0 := by
  have h1 := h.half.num v hv
  have h2 : l'.getD v 0 = l'.getD (l.getD v 0).toNat 0 := h.half.con v hv (fun u => l'.getD u 0) h'.edge
  have h3 := h'.half.num (l.getD v 0).toNat (by omega)
  omega
theorem PartOf.uniq {N : Nat} {out : List (List Int)} {l l' : List Int} (h : PartOf N out l) (h' : PartOf N out l') : l = l' := by
  have a := h.half.len
  have b := h'.half.len
  refine ext_getD (by omega) fun v hv => ?_
  have := h.le h' (v := v) (by omega)
  have := h'.le h (v := v) (by omega)
  omega
theorem PHalf.init {N : Nat} {out : List (List Int)} {l : List Int} (hl : l.length = N) (h : ∀ j, j < N → l.getD j 0 = j) : PHalf N out l :=
  ⟨hl, fun v hv => by rw [h v hv]; omega, fun v hv => by rw [h v hv, Int.toNat_natCast]; exact Conn.rfl' v⟩
def Fin1 (N : Nat) (out : List (List Int)) (l : List Int) (v : Nat) : Prop := ∀ u, u < N → Conn N out v u → l.getD v 0 ≤ u
theorem Fin1.le {N : Nat} {out : List (List Int)} {l l' : List Int} {v : Nat} (h : Fin1 N out l v) (k : l'.getD v 0 ≤ l.getD v 0) : Fin1 N out l' v := fun u hu hc => by have := h u hu hc; omega
theorem fin_near {N : Nat} {out : List (List Int)} {l : List Int} (h : PHalf N out l) : ∀ n v, v < n → v < N → ∃ u, u < N ∧ Conn N out v u ∧ Fin1 N out l u := by
  intro n
  induction n with
  | zero => intro v hv; omega
  | succ n ih =>
    intro v hv hN
    by_cases hf : Fin1 N out l v
    · exact ⟨v, hN, Conn.rfl' v, hf⟩
    · obtain ⟨u, hu⟩ := Classical.not_forall.1 hf
      obtain ⟨hu1, hu2⟩ := Classical.not_forall.1 hu
      obtain ⟨hu2, hu3⟩ := Classical.not_forall.1 hu2
      have := h.num v hN
      obtain ⟨x, hx1, hx2, hx3⟩ := ih u (by omega) hu1
      exact ⟨x, hx1, hu2.trans hx2, hx3⟩
theorem fin_cross {N : Nat} {out : List (List Int)} {l : List Int} (h : PHalf N out l) {v : Nat} (hv : v < N) (hf : ¬ Fin1 N out l v) : ∃ a b, a < N ∧ b < N ∧ Edge out a b ∧ ((Fin1 N out l a ∧ ¬ Fin1 N out l b) ∨ (¬ Fin1 N out l a ∧ Fin1 N out l b)) := by
  apply Classical.byContradiction
  intro hn
  obtain ⟨u, hu, hc, hfu⟩ := fin_near h (v + 1) v (by omega) hv
  have := hc (fun x => @ite _ (Fin1 N out l x) (Classical.propDecidable _) 1 0) (fun a b ha hb he => by
    by_cases h1 : Fin1 N out l a <;> by_cases h2 : Fin1 N out l b
    · simp only [h1, h2]
    · exact absurd ⟨a, b, ha, hb, he, .inl ⟨h1, h2⟩⟩ hn
    · exact absurd ⟨a, b, ha, hb, he, .inr ⟨h1, h2⟩⟩ hn
    · simp only [h1, h2])
  simp only [if_neg hf, if_pos hfu] at this
  omega
def Settled (N : Nat) (out : List (List Int)) (l : List Int) (t : Nat) : Prop := (∀ v, v < N → Fin1 N out l v) ∨ ∃ xs : List Nat, xs.Nodup ∧ (∀ x ∈ xs, x < N ∧ Fin1 N out l x) ∧ t ≤ xs.length
theorem nodup_ltN {N : Nat} {xs : List Nat} (h : xs.Nodup) (hx : ∀ x ∈ xs, x < N) : xs.length ≤ N := by
  have := nodup_le (xs.map fun (x : Nat) => (x : Int)) ((List.range N).map fun (x : Nat) => (x : Int)) (List.Pairwise.map _ (fun x y (hxy : x ≠ y) => by omega) h) (fun y hy => by
    obtain ⟨x, hm, rfl⟩ := List.mem_map.1 hy
    exact List.mem_map.2 ⟨x, List.mem_range.2 (hx x hm), rfl⟩)
  simpa using this
theorem Settled.all {N : Nat} {out : List (List Int)} {l : List Int} (h : Settled N out l N) : ∀ v, v < N → Fin1 N out l v := by
  rcases h with h | ⟨xs, h1, h2, h3⟩
  · exact h
  · intro v hv
    by_cases hm : v ∈ xs
    · exact (h2 v hm).2
    · have := nodup_ltN (N := N) (List.nodup_cons.2 ⟨hm, h1⟩) (fun x hx => by
        rcases List.mem_cons.1 hx with rfl | hx
        · exact hv
        · exact (h2 x hx).1)
      simp only [List.length_cons] at this
      omega
theorem settled_part {N : Nat} {out : List (List Int)} {l : List Int} (h : PHalf N out l) (hs : ∀ v, v < N → Fin1 N out l v) : PartOf N out l := by
  refine ⟨h, fun u w hu hw he => ?_⟩
  have hc := Conn.of hu hw he
  have a := h.num u hu
  have b := h.num w hw
  have h1 := hs u hu (l.getD w 0).toNat (by omega) (hc.trans (h.con w hw))
  have h2 := hs w hw (l.getD u 0).toNat (by omega) (hc.symm.trans (h.con u hu))
  omega
structure Swp (N : Nat) (out : List (List Int)) (l0 : List Int) (u0 j0 : Nat) (l : List Int) : Prop where
  half : PHalf N out l
  le : ∀ v, v < N → l.getD v 0 ≤ l0.getD v 0
  fin : ∀ u w, u < u0 → u < N → w < N → Edge out u w → (Fin1 N out l0 u ∨ Fin1 N out l0 w) → Fin1 N out l u ∧ Fin1 N out l w
  part : ∀ j, j < j0 → j < (out.getD u0 []).length → (Fin1 N out l0 u0 ∨ Fin1 N out l0 ((out.getD u0 []).getD j 0).toNat) → Fin1 N out l u0 ∧ Fin1 N out l ((out.getD u0 []).getD j 0).toNat
theorem mn_le (a b : Int) : mn a b ≤ a ∧ mn a b ≤ b ∧ (mn a b = a ∨ mn a b = b) := by unfold mn; split <;> omega
theorem Swp.put {N : Nat} {out : List (List Int)} {l0 : List Int} {u0 j0 : Nat} {l : List Int} (hg : Good N out) (h : Swp N out l0 u0 j0 l) (hu : u0 < N) (hj : j0 < (out.getD u0 []).length) :
    Swp N out l0 u0 (j0 + 1) ((l.set u0 (mn (l.getD u0 0) (l.getD ((out.getD u0 []).getD j0 0).toNat 0))).set ((out.getD u0 []).getD j0 0).toNat (mn (l.getD u0 0) (l.getD ((out.getD u0 []).getD j0 0).toNat 0))) := by
  obtain ⟨he, hwN, hwe⟩ := edge_of hg hu hj
  have hl := h.half.len
  have hpt := h.part
  generalize hwd : ((out.getD u0 []).getD j0 0).toNat = w at *
  obtain ⟨hm1, hm2, hm3⟩ := mn_le (l.getD u0 0) (l.getD w 0)
  generalize mn (l.getD u0 0) (l.getD w 0) = m at *
  have hG : ∀ v, ((l.set u0 m).set w m).getD v 0 = if v = w ∨ v = u0 then m else l.getD v 0 := fun v => by
    rw [getD_set _ _ _ _ (by rw [List.length_set]; omega), getD_set _ _ _ _ (by omega)]
    by_cases e1 : v = w
    · simp [e1]
    · by_cases e2 : v = u0 <;> simp [e1, e2]
  have hle : ∀ v, ((l.set u0 m).set w m).getD v 0 ≤ l.getD v 0 := fun v => by
    rw [hG]
    split
    · rename_i e; rcases e with rfl | rfl <;> assumption
    · omega
  have hfu : ∀ v, Fin1 N out l v → Fin1 N out ((l.set u0 m).set w m) v := fun v hv => hv.le (hle v)
  have hc := Conn.of hu hwN he
  have hm : m = l.getD u0 0 ∨ m = l.getD w 0 := hm3
  have a := h.half.num u0 hu
  have b := h.half.num w hwN
  have hmc : Conn N out u0 m.toNat := by
    rcases hm with e | e
    · rw [e]; exact h.half.con u0 hu
    · rw [e]; exact hc.trans (h.half.con w hwN)
  refine ⟨⟨by simp [hl], fun v hv => ?_, fun v hv => ?_⟩, fun v hv => Int.le_trans (hle v) (h.le v hv), fun u x h1 h2 h3 hE h4 => ?_, fun j h1 h2 h4 => ?_⟩
  · have := h.half.num v hv
    have := hle v
    refine ⟨?_, by omega⟩
    rw [hG]
    split <;> omega
  · rw [hG]
    split
    · rename_i e
      rcases e with rfl | rfl
      · exact hc.symm.trans hmc
      · exact hmc
    · exact h.half.con v hv
  · obtain ⟨p, q⟩ := h.fin u x h1 h2 h3 hE h4
    exact ⟨hfu u p, hfu x q⟩
  · by_cases e : j = j0
    · subst e
      rw [hwd] at h4 ⊢
      have hG1 : ((l.set u0 m).set w m).getD u0 0 = m := by rw [hG]; simp
      have hG2 : ((l.set u0 m).set w m).getD w 0 = m := by rw [hG]; simp
      have hmin : ∀ y, y < N → Conn N out u0 y → m ≤ y := by
        intro y hy hcy
        rcases h4 with h4 | h4
        · have := h4 y hy hcy
          have := h.le u0 hu
          omega
        · have := h4 y hy (hc.symm.trans hcy)
          have := h.le w hwN
          omega
      exact ⟨fun y hy hcy => by rw [hG1]; exact hmin y hy hcy, fun y hy hcy => by rw [hG2]; exact hmin y hy (hc.trans hcy)⟩
    · obtain ⟨p, q⟩ := hpt j (by omega) h2 h4
      exact ⟨hfu u0 p, hfu _ q⟩
theorem Swp.next {N : Nat} {out : List (List Int)} {l0 : List Int} {u0 j0 : Nat} {l : List Int} (h : Swp N out l0 u0 j0 l) (hj : (out.getD u0 []).length ≤ j0) : Swp N out l0 (u0 + 1) 0 l :=
  ⟨h.half, h.le, fun u w h1 h2 h3 hE h4 => by
    by_cases e : u = u0
    · subst e
      obtain ⟨j, hj1, ej⟩ := edge_at hE
      have := h.part j (by omega) hj1
      rw [ej, Int.toNat_natCast] at this
      exact this h4
    · exact h.fin u w (by omega) h2 h3 hE h4, fun j h1 => by omega⟩
theorem Swp.done {N : Nat} {out : List (List Int)} {l0 l : List Int} {t : Nat} (h0 : PHalf N out l0) (hs : Settled N out l0 t) (h : Swp N out l0 N 0 l) : Settled N out l (t + 1) := by
  have hup : ∀ v, v < N → Fin1 N out l0 v → Fin1 N out l v := fun v hv hf => hf.le (h.le v hv)
  rcases hs with hs | ⟨xs, h1, h2, h3⟩
  · exact .inl fun v hv => hup v hv (hs v hv)
  · by_cases hall : ∀ v, v < N → Fin1 N out l0 v
    · exact .inl fun v hv => hup v hv (hall v hv)
    · obtain ⟨v, hv⟩ := Classical.not_forall.1 hall
      obtain ⟨hvN, hvf⟩ := Classical.not_forall.1 hv
      obtain ⟨a, b, ha, hb, hE, hab⟩ := fin_cross h0 hvN hvf
      obtain ⟨fa, fb⟩ := h.fin a b ha ha hb hE (hab.elim (fun x => .inl x.1) (fun x => .inr x.2))
      rcases hab with ⟨_, hnb⟩ | ⟨hna, _⟩
      · exact .inr ⟨b :: xs, List.nodup_cons.2 ⟨fun hm => hnb (h2 b hm).2, h1⟩, fun x hx => by
          rcases List.mem_cons.1 hx with rfl | hx
          · exact ⟨hb, fb⟩
          · exact ⟨(h2 x hx).1, hup x (h2 x hx).1 (h2 x hx).2⟩, by simp only [List.length_cons]; omega⟩
      · exact .inr ⟨a :: xs, List.nodup_cons.2 ⟨fun hm => hna (h2 a hm).2, h1⟩, fun x hx => by
          rcases List.mem_cons.1 hx with rfl | hx
          · exact ⟨ha, fa⟩
          · exact ⟨(h2 x hx).1, hup x (h2 x hx).1 (h2 x hx).2⟩, by simp only [List.length_cons]; omega⟩
theorem part10_ev (N : Nat) (out : List (List Int)) (hg : Good N out) : ∃ l, PartOf N out l ∧ Ev (fun k => q17.f k (N : Int) out) l := by
  have hN := hg.le
  have hlen := hg.len
  have l1 : ∀ t, t ≤ N → ∀ l, PHalf N out l → Settled N out l t → ∃ r, PartOf N out r ∧ Ev (fun k => q17.l1 k l (t : Int) (N : Int) out) r := by
    refine upto ?_ ?_
    · intro l hl hs
      refine ⟨l, settled_part hl hs.all, ?_⟩
      refine Ev.step (fun k => by rw [q17.l1]) ?_
      exact neg (by omega) (Ev.now _)
    · intro t ht ih l0 hl0 hs0
      have l2 : ∀ u0, u0 ≤ N → ∀ l, Swp N out l0 u0 0 l → ∃ r, PartOf N out r ∧ Ev (fun k => q17.l2 k l (t : Int) (u0 : Int) (N : Int) out) r := by
        refine upto ?_ ?_
        · intro l hl
          obtain ⟨r, h1, h2⟩ := ih l hl.half (hl.done hl0 hs0)
          refine ⟨r, h1, ?_⟩
          refine Ev.step (fun k => by rw [q17.l2]) ?_
          refine neg (by omega) ?_
          rw [w1 (by omega)]
          exact h2
        · intro u0 hu ihu l hl
          have hrl := hg.rlen u0
          have l3 : ∀ j0, j0 ≤ (out.getD u0 []).length → ∀ l, Swp N out l0 u0 j0 l → ∃ r, PartOf N out r ∧ Ev (fun k => q17.l3 k l (t : Int) (u0 : Int) (j0 : Int) (N : Int) out) r := by
            refine upto ?_ ?_
            · intro l hl
              obtain ⟨r, h1, h2⟩ := ihu l (hl.next (Nat.le_refl _))
              refine ⟨r, h1, ?_⟩
              refine Ev.step (fun k => by rw [q17.l3]) ?_
              refine pos (by omega) (pos (by omega) ?_)
              rw [rd1N]
              refine neg (by omega) ?_
              rw [w1 (by omega)]
              exact h2
            · intro j0 hj ihj l hl
              have hll := hl.half.len
              obtain ⟨he, hwN, hwe⟩ := edge_of hg hu hj
              obtain ⟨r, h1, h2⟩ := ihj _ (hl.put hg hu hj)
              refine ⟨r, h1, ?_⟩
              refine Ev.step (fun k => by rw [q17.l3]) ?_
              refine pos (by omega) (pos (by omega) ?_)
              rw [rd1N]
              refine pos (by omega) (pos (by omega) (pos (by omega) ?_))
              rw [rdN, rdN, rdI, w1 (by omega), Int.toNat_natCast]
              exact pos (by omega) (pos (by omega) h2)
          obtain ⟨r, h1, h2⟩ := l3 0 (by omega) l hl
          refine ⟨r, h1, ?_⟩
          refine Ev.step (fun k => by rw [q17.l2]) ?_
          exact pos (by omega) h2
      obtain ⟨r, h1, h2⟩ := l2 0 (by omega) l0 ⟨hl0, fun v hv => Int.le_refl _, fun u w h1 => by omega, fun j h1 => by omega⟩
      refine ⟨r, h1, ?_⟩
      refine Ev.step (fun k => by rw [q17.l1]) ?_
      exact pos (by omega) h2
  have l0 : ∀ i, i ≤ N → ∀ l : List Int, l.length = N → (∀ j, j < i → l.getD j 0 = j) → ∃ r, PartOf N out r ∧ Ev (fun k => q17.l0 k l (i : Int) (N : Int) out) r := by
    refine upto ?_ ?_
    · intro l hl hd
      obtain ⟨r, h1, h2⟩ := l1 0 (by omega) l (PHalf.init hl hd) (.inr ⟨[], List.nodup_nil, by simp, by simp⟩)
      refine ⟨r, h1, ?_⟩
      refine Ev.step (fun k => by rw [q17.l0]) ?_
      exact neg (by omega) h2
    · intro i hi ih l hl hd
      obtain ⟨r, h1, h2⟩ := ih (l.set i i) (by simpa using hl) (fun j hj => by
        rw [getD_set _ _ _ _ (by omega)]
        split
        · rename_i e; rw [e]
        · exact hd j (by omega))
      refine ⟨r, h1, ?_⟩
      refine Ev.step (fun k => by rw [q17.l0]) ?_
      refine pos (by omega) (pos (by omega) (pos (by omega) ?_))
      rw [Int.toNat_natCast, w1 (by omega)]
      exact h2
  obtain ⟨r, h1, h2⟩ := l0 0 (by omega) (List.replicate N 0) (by simp) (fun j hj => by omega)
  refine ⟨r, h1, ?_⟩
  unfold q17.f
  refine pos (by omega) (pos (by omega) ?_)
  rw [Int.toNat_natCast]
  exact h2
theorem kpart_ev (N : Nat) (out : List (List Int)) (hg : Good N out) : ∃ l, PartOf N out l ∧ Ev (fun k => q4.f k (N : Int) out) l := by
  have hN := hg.le
  have hlen := hg.len
  have hsum := hg.sum
  have hpl : (prs 0 out).length = lsum out := prs_length _ _
  have hps : ∀ p ∈ prs 0 out, ∃ u w : Nat, p.f0 = u ∧ p.f1 = w ∧ u < N ∧ w < N ∧ Edge out u w := fun p hp => by
    obtain ⟨j, hj, e, hm⟩ := prs_mem 0 out p hp
    have := hg.row j (by omega) _ hm
    have e2 : ((p.f1.toNat : Nat) : Int) = p.f1 := by omega
    exact ⟨j, p.f1.toNat, by rw [e]; simp, e2.symm, by omega, by omega, by unfold Edge; rw [e2]; exact hm⟩
  have hpe : ∀ u w, u < N → Edge out u w → ∃ i, i < (prs 0 out).length ∧ (prs 0 out).getD i z78 = ⟨u, w⟩ := fun u w hu he => by
    have := mem_prs 0 out u w (by omega) he
    rw [Nat.zero_add] at this
    obtain ⟨i, hi, e⟩ := List.mem_iff_getElem.1 this
    exact ⟨i, hi, by rw [getD_lt hi, e]⟩
  have l1 : ∀ i, i ≤ (prs 0 out).length → ∀ l, PHalf N out l → (∀ j, j < i → l.getD ((prs 0 out).getD j z78).f0.toNat 0 = l.getD ((prs 0 out).getD j z78).f1.toNat 0) →
      ∃ r, PartOf N out r ∧ Ev (fun k => q4.l1 k l (prs 0 out) (prs 0 out).length (i : Int)) r := by
    refine upto ?_ ?_
    · intro l hl hd
      refine ⟨l, ⟨hl, fun u w hu hw he => ?_⟩, ?_⟩
      · obtain ⟨i, hi, e⟩ := hpe u w hu he
        have := hd i hi
        rw [e] at this
        simpa only [Int.toNat_natCast] using this
      · refine Ev.step (fun k => by rw [q4.l1]) ?_
        exact neg (by omega) (Ev.now _)
    · intro i hi ih l hl hd
      obtain ⟨u, w, e0, e1, hu, hw, hE⟩ := hps _ (getD_mem (d := z78) hi)
      have hll := hl.len
      have hc := Conn.of hu hw hE
      have nu := hl.num u hu
      have nw := hl.num w hw
      have hlo : ∃ lo hi' : Int, mn (l.getD u 0) (l.getD w 0) = lo ∧ mx (l.getD u 0) (l.getD w 0) = hi' ∧ lo ≤ hi' ∧ ((lo = l.getD u 0 ∧ hi' = l.getD w 0) ∨ (lo = l.getD w 0 ∧ hi' = l.getD u 0)) := by
        refine ⟨_, _, rfl, rfl, ?_⟩
        unfold mn mx
        split <;> split <;> omega
      obtain ⟨lo, hh, elo, ehi, hlh, hcase⟩ := hlo
      have hch : Conn N out lo.toNat hh.toNat := by
        have a := hl.con u hu
        have b := hl.con w hw
        rcases hcase with ⟨a1, a2⟩ | ⟨a1, a2⟩
        · rw [a1, a2]; exact a.symm.trans (hc.trans b)
        · rw [a1, a2]; exact b.symm.trans (hc.symm.trans a)
      have l2 : ∀ x, x ≤ N → ∀ s : List Int, s.length = N → (∀ j, j < N → s.getD j 0 = if j < x ∧ l.getD j 0 = hh then lo else l.getD j 0) → ∃ r, PartOf N out r ∧ Ev (fun k => q4.l2 k s lo hh (prs 0 out) (prs 0 out).length (i : Int) (N : Int) (x : Int)) r := by
        refine upto ?_ ?_
        · intro s hs hv
          have hG : ∀ j, j < N → s.getD j 0 = if l.getD j 0 = hh then lo else l.getD j 0 := fun j hj => by rw [hv j hj]; simp [hj]
          obtain ⟨r, h1, h2⟩ := ih s ⟨hs, fun v hv => by rw [hG v hv]; have := hl.num v hv; split <;> omega, fun v hv => by
              rw [hG v hv]
              have := hl.con v hv
              split
              · rename_i e; rw [e] at this; exact this.trans hch.symm
              · exact this⟩ (fun j hj => by
            obtain ⟨u', w', e0', e1', hu', hw', hE'⟩ := hps _ (getD_mem (d := z78) (show j < (prs 0 out).length by omega))
            rw [e0', e1', Int.toNat_natCast, Int.toNat_natCast, hG _ hu', hG _ hw']
            by_cases e : j = i
            · subst e
              have q0 : u' = u := by omega
              have q1 : w' = w := by omega
              subst q0 q1
              rcases hcase with ⟨a1, a2⟩ | ⟨a1, a2⟩ <;> split <;> split <;> omega
            · have := hd j (by omega)
              rw [e0', e1', Int.toNat_natCast, Int.toNat_natCast] at this
              rw [this])
          refine ⟨r, h1, ?_⟩
          refine Ev.step (fun k => by rw [q4.l2]) ?_
          refine neg (by omega) ?_
          rw [w1 (by omega)]
          exact h2
        · intro x hx ihx s hs hv
          have hsx : s.getD x 0 = l.getD x 0 := by rw [hv x hx]; simp
          by_cases e : l.getD x 0 = hh
          · obtain ⟨r, h1, h2⟩ := ihx (s.set x lo) (by simpa using hs) (fun j hj => by
              rw [getD_set _ _ _ _ (by omega)]
              by_cases ej : j = x
              · rw [if_pos ej, if_pos ⟨by omega, by rw [ej]; exact e⟩]
              · rw [if_neg ej, hv j hj]
                by_cases q : l.getD j 0 = hh
                · by_cases q2 : j < x
                  · rw [if_pos ⟨q2, q⟩, if_pos ⟨by omega, q⟩]
                  · rw [if_neg (fun h => q2 h.1), if_neg (fun h => q2 (by omega))]
                · rw [if_neg (fun h => q h.2), if_neg (fun h => q h.2)])
            refine ⟨r, h1, ?_⟩
            refine Ev.step (fun k => by rw [q4.l2]) ?_
            refine pos (by omega) (pos (by omega) (pos (by omega) ?_))
            rw [rdN, w1 (by omega), Int.toNat_natCast]
            exact pos (by rw [hsx]; exact e) h2
          · obtain ⟨r, h1, h2⟩ := ihx s hs (fun j hj => by
              rw [hv j hj]
              by_cases ej : j = x
              · rw [if_neg (fun h => by rw [ej] at h; exact e h.2), if_neg (fun h => by rw [ej] at h; exact e h.2)]
              · by_cases q : l.getD j 0 = hh
                · by_cases q2 : j < x
                  · rw [if_pos ⟨q2, q⟩, if_pos ⟨by omega, q⟩]
                  · rw [if_neg (fun h => q2 h.1), if_neg (fun h => q2 (by omega))]
                · rw [if_neg (fun h => q h.2), if_neg (fun h => q h.2)])
            refine ⟨r, h1, ?_⟩
            refine Ev.step (fun k => by rw [q4.l2]) ?_
            refine pos (by omega) (pos (by omega) (pos (by omega) ?_))
            rw [rdN, w1 (by omega), Int.toNat_natCast]
            exact neg (by rw [hsx]; exact e) h2
      obtain ⟨r, h1, h2⟩ := l2 0 (by omega) l hll (fun j hj => by simp)
      refine ⟨r, h1, ?_⟩
      refine Ev.step (fun k => by rw [q4.l1]) ?_
      refine pos (by omega) (pos (by omega) (pos (by omega) ?_))
      rw [rdP, e0, e1, rdN, rdN, elo, ehi, hll]
      exact pos (by omega) (pos (by omega) (pos (by omega) (pos (by omega) h2)))
  have l0 : ∀ i, i ≤ N → ∀ l : List Int, l.length = N → (∀ j, j < i → l.getD j 0 = j) → ∃ r, PartOf N out r ∧ Ev (fun k => q4.l0 k l (N : Int) (i : Int) (N : Int) out) r := by
    refine upto ?_ ?_
    · intro l hl hd
      obtain ⟨r, h1, h2⟩ := l1 0 (by omega) l (PHalf.init hl hd) (fun j hj => by omega)
      refine ⟨r, h1, ?_⟩
      refine Ev.step (fun k => by rw [q4.l0]) ?_
      exact neg (by omega) (bnd (list_ev _ out (by unfold Sm; omega)) h2)
    · intro i hi ih l hl hd
      obtain ⟨r, h1, h2⟩ := ih (l.set i i) (by simpa using hl) (fun j hj => by
        rw [getD_set _ _ _ _ (by omega)]
        split
        · rename_i e; rw [e]
        · exact hd j (by omega))
      refine ⟨r, h1, ?_⟩
      refine Ev.step (fun k => by rw [q4.l0]) ?_
      refine pos (by omega) (pos (by omega) (pos (by omega) ?_))
      rw [Int.toNat_natCast, w1 (by omega)]
      exact h2
  obtain ⟨r, h1, h2⟩ := l0 0 (by omega) (List.replicate N 0) (by simp) (fun j hj => by omega)
  refine ⟨r, h1, ?_⟩
  unfold q4.f
  refine pos (by omega) (pos (by omega) ?_)
  rw [Int.toNat_natCast]
  refine bnd (Ev.now _) ?_
  simp only [List.length_replicate]
  exact h2
theorem part_ev (N : Nat) (out : List (List Int)) (hg : Good N out) : ∃ l, PartOf N out l ∧ Ev (fun k => q4.f k (N : Int) out) l ∧ Ev (fun k => q17.f k (N : Int) out) l := by
  obtain ⟨d, h1, h2⟩ := kpart_ev N out hg
  obtain ⟨d', h3, h4⟩ := part10_ev N out hg
  obtain rfl := h1.uniq h3
  exact ⟨d, h1, h2, h4⟩
end Go.Proofs.Ytcfhffhmpalkbaa.U
end
section
namespace Go.Proofs.Ytcfhffhmpalkbaa.U
open Go.RowKit Go.Proofs.Ytcfhffhmpalkbaa.P Go.Proofs.YtcfhffhmpalkbaaW.PrintWords Go.Proofs.YtcfhffhmpalkbaaW.PrintLast Go.Proofs.YtcfhffhmpalkbaaW.PrintMore
set_option linter.unusedVariables false
set_option linter.unusedSimpArgs false
theorem eqn_ev (xs ys : List Int) (h : xs.length ≤ 1000000) : Ev (fun k => q30.f k xs ys) (decide (xs = ys)) := by
  by_cases hl : xs.length = ys.length
  · have key : ∀ i, i ≤ xs.length → (∀ j, j < i → xs.getD j 0 = ys.getD j 0) → Ev (fun k => q30.l0 k xs ys (i : Int)) (decide (xs = ys)) := by
      refine upto ?_ ?_
      · intro hd
        refine Ev.step (fun k => by rw [q30.l0]) ?_
        exact neg (by omega) (ofEq (Ev.now _) (by rw [ext_getD hl hd]; simp))
      · intro i hi ih hd
        refine Ev.step (fun k => by rw [q30.l0]) ?_
        refine pos (by omega) (pos (by omega) (pos (by omega) ?_))
        rw [rdN, rdN, w1 (by omega)]
        by_cases e : xs.getD i 0 = ys.getD i 0
        · refine pos e (ih fun j hj => ?_)
          by_cases q : j = i
          · rw [q]; exact e
          · exact hd j (by omega)
        · refine neg e (ofEq (Ev.now _) ?_)
          have : ¬ xs = ys := fun h => e (by rw [h])
          simp [this]
    unfold q30.f
    exact pos (by omega) (key 0 (by omega) (fun j hj => by omega))
  · unfold q30.f
    refine neg (by omega) (ofEq (Ev.now _) ?_)
    have : ¬ xs = ys := fun h => hl (by rw [h])
    simp [this]
theorem fold_rows (ps : List S78) : ∀ (st : List (List Int)) (b : Nat), (∀ p ∈ ps, p.f1.toNat < st.length) → (∀ j, (st.getD j []).length ≤ b) → ∀ j, ((ps.foldl tstep st).getD j []).length ≤ b + ps.length := by
  induction ps with
  | nil => intro st b _ h j; exact h j
  | cons p ps ih =>
    intro st b hp h j
    rw [List.foldl_cons]
    have := ih (tstep st p) (b + 1) (fun q hq => by rw [tstep_length]; exact hp q (by simp [hq])) (tstep_rows h (hp p (by simp))) j
    simp only [List.length_cons]
    omega
theorem turn_rows {N : Nat} {out : List (List Int)} (hg : Good N out) (j : Nat) : ((turn N out).getD j []).length ≤ 120 := by
  have hpl : (prs 0 out).length = lsum out := prs_length _ _
  have := hg.sum
  have := fold_rows (prs 0 out) (List.replicate N []) 0 (fun p hp => by
    obtain ⟨i, hi, _, hm⟩ := prs_mem 0 out p hp
    have := hg.row i (by have := hg.len; omega) _ hm
    simp only [List.length_replicate]
    omega) (fun j => by simp [List.getD_eq_getElem?_getD, List.getElem?_replicate]; split <;> simp) j
  unfold turn
  omega
theorem cnt_length {N : Nat} {out : List (List Int)} (hg : Good N out) : (cnt out).length ≤ 17 := by
  have key : ∀ (xs : List (List Int)) (c : List Int), (∀ r ∈ xs, r.length ≤ 16) → c.length ≤ 17 → (xs.foldl cstep c).length ≤ 17 := by
    intro xs
    induction xs with
    | nil => intro c _ h; exact h
    | cons r rs ih =>
      intro c hr hc
      rw [List.foldl_cons]
      refine ih _ (fun q hq => hr q (by simp [hq])) ?_
      rw [cstep_length]
      have := hr r (by simp)
      omega
  refine key out [] (fun r hr => ?_) (by simp)
  obtain ⟨i, hi, rfl⟩ := List.mem_iff_getElem.1 hr
  rw [← getD_lt (d := []) hi]
  exact hg.rlen i
def code (n kind a : Int) : Int := if 1 ≤ kind ∧ kind ≤ 6 then (if kind = 1 ∨ kind = 2 ∨ kind = 4 then (if 0 ≤ a ∧ a < n then 0 else 3) else 0) else 1
theorem named_eq (a : Int) : q60.f a = some (decide (a = 1 ∨ a = 2 ∨ a = 4)) := by
  unfold q60.f
  by_cases h1 : a = 1
  · simp [h1]
  · by_cases h2 : a = 2
    · simp [h2]
    · rw [if_neg h1, if_neg h2]
      by_cases h4 : a = 4
      · simp [h4]
      · simp [h1, h2, h4]
theorem named10_eq (a : Int) : q53.f a = some (decide (a = 1 ∨ a = 2 ∨ a = 4)) := by
  unfold q53.f
  by_cases h1 : a = 1
  · simp [h1]
  · by_cases h2 : a = 2
    · simp [h2]
    · rw [if_neg h1, if_neg h2]
      by_cases h4 : a = 4
      · simp [h4]
      · simp [h1, h2, h4]
theorem num_eq (a b : Int) : q43.f a b = some (decide (0 ≤ a ∧ a ≤ b)) := by
  unfold q43.f
  by_cases h : a ≥ 0
  · simp [h]
  · rw [if_neg h]; simp; omega
theorem isG_eq (n : Int) (out : List (List Int)) (a : Int) : q54.f n out a = some (decide (0 ≤ a ∧ a < n)) := by
  unfold q54.f
  by_cases h : a ≥ 0
  · simp [h]
  · rw [if_neg h]; simp; omega
theorem may10_eq (n : Int) (out : List (List Int)) (kind a : Int) (h0 : 0 ≤ n) (h1 : n ≤ 16) : q57.f n out kind a = some (code n kind a) := by
  have hb : q56.f kind 1 6 = some (decide (1 ≤ kind ∧ kind ≤ 6)) := by
    unfold q56.f
    by_cases h : kind ≥ 1
    · rw [if_pos h]; simp; omega
    · rw [if_neg h]; simp; omega
  unfold q57.f
  rw [hb, named10_eq, num_eq, w64 (by omega) (by omega)]
  simp only [Option.bind_some, decide_eq_true_eq]
  unfold code
  split
  · split
    · by_cases q : 0 ≤ a ∧ a < n
      · rw [if_pos q, if_pos (by omega)]
      · rw [if_neg q, if_neg (by omega)]
    · rfl
  · rfl
theorem asked_ev (n : Int) (out : List (List Int)) (kind a : Int) (hs : Sm out) : Ev (fun k => q24.f k n out kind a) (if GraphP n out then code n kind a else 1) := by
  have hj : ∀ r, Ev (fun k => q24.j0 k kind a true n out) r ↔ r = 1 := fun r => by
    have : Ev (fun k => q24.j0 k kind a true n out) 1 := by
      refine Ev.step (fun k => by rw [q24.j0]) ?_
      exact pos rfl (Ev.now _)
    exact ⟨fun h => uniq h this, fun h => h ▸ this⟩
  unfold q24.f
  refine bnd (gmayG_ev n out hs) ?_
  by_cases hg : GraphP n out
  · rw [if_pos hg]
    refine pos (by simpa using hg) ?_
    by_cases h1 : kind < 1
    · exact pos h1 ((hj _).2 (by unfold code; rw [if_neg (by omega)]))
    · refine neg h1 ?_
      by_cases h6 : kind > 6
      · rw [show decide (kind > 6) = true by simpa using h6]
        exact (hj _).2 (by unfold code; rw [if_neg (by omega)])
      · rw [show decide (kind > 6) = false by simpa using h6]
        refine Ev.step (fun k => by rw [q24.j0]) ?_
        refine neg (by simp) ?_
        rw [named_eq, isG_eq]
        unfold code
        rw [if_pos (by omega)]
        refine bnd (Ev.now _) ?_
        by_cases hk : kind = 1 ∨ kind = 2 ∨ kind = 4
        · rw [if_pos hk]
          refine pos (by simpa using hk) (bnd (Ev.now _) ?_)
          by_cases ha : 0 ≤ a ∧ a < n
          · rw [if_pos ha]; exact pos (by simpa using ha) (Ev.now _)
          · rw [if_neg ha]; exact neg (by simpa using ha) (Ev.now _)
        · rw [if_neg hk]
          exact neg (by simpa using hk) (Ev.now _)
  · rw [if_neg hg]
    exact neg (by simpa using hg) ((hj _).2 rfl)
theorem answers_ev (n : Int) (out : List (List Int)) (kind a : Int) (hg : GraphP n out) (hc : code n kind a = 0) :
    ∃ v, v.length ≤ 1000 ∧ Ev (fun k => q42.f k n out kind a) v ∧
      Ev (fun k => if kind = 1 then (if 0 ≤ a then (if a < (out.length : Int) then ((q55.f (rd_L1 out a)).bind fun t104 => (some (t104, (0 : Int)))) else (none)) else (none)) else (if kind = 2 then ((q31.f k n out).bind fun bt107 => (if 0 ≤ a then (if a < (bt107.2.length : Int) then (some (rd_L1 bt107.2 a, 0)) else (none)) else (none))) else (if kind = 3 then ((q25.f k n out).bind fun t112 => (some (t112, 0))) else (if kind = 4 then ((q9.f k n out a).bind fun t115 => (some (t115, 0))) else (if kind = 5 then ((q4.f k n out).bind fun t118 => (some (t118, 0))) else ((q32.f k n out).bind fun t121 => (some (t121, 0)))))))) (v, 0) := by
  obtain ⟨en, hG⟩ := hg.good
  generalize n.toNat = N at *
  subst en
  have hN := hG.le
  have hlen := hG.len
  have hsum := hG.sum
  have hs : Sm out := by unfold Sm; omega
  have hk : 1 ≤ kind ∧ kind ≤ 6 := by
    apply Classical.byContradiction
    intro h
    unfold code at hc
    rw [if_neg h] at hc
    omega
  have ha : (kind = 1 ∨ kind = 2 ∨ kind = 4) → 0 ≤ a ∧ a < N := fun h => by
    apply Classical.byContradiction
    intro hn
    unfold code at hc
    rw [if_pos hk, if_pos h, if_neg hn] at hc
    omega
  unfold q42.f
  by_cases k1 : kind = 1
  · obtain ⟨a0, a1⟩ := ha (.inl k1)
    obtain ⟨a, rfl⟩ : ∃ m : Nat, a = m := ⟨a.toNat, by omega⟩
    have hr := hG.rlen a
    refine ⟨out.getD a [], by omega, pos k1 (pos a0 (pos (by omega) ?_)), pos k1 (pos a0 (pos (by omega) ?_))⟩
    · rw [rd1N]; exact bnd (copy_ev _ (by omega)) (Ev.now _)
    · rw [rd1N]; exact bnd (clone_ev _ (by omega)) (Ev.now _)
  · by_cases k2 : kind = 2
    · obtain ⟨a0, a1⟩ := ha (.inr (.inl k2))
      obtain ⟨a, rfl⟩ : ∃ m : Nat, a = m := ⟨a.toNat, by omega⟩
      have hr := turn_rows hG a
      have htl := turn_length N out
      refine ⟨(turn N out).getD a [], by omega, neg k1 (pos k2 (bnd (turn6_ev N out hG) (pos a0 (pos (by dsimp only; omega) ?_)))), neg k1 (pos k2 (bnd (turned_ev N out hG) (pos a0 (pos (by dsimp only; omega) ?_))))⟩
      · rw [rd1N]; exact bnd (copy_ev _ (by dsimp only; omega)) (Ev.now _)
      · rw [rd1N]; exact Ev.now _
    · by_cases k3 : kind = 3
      · exact ⟨cnt out, by have := cnt_length hG; omega, neg k1 (neg k2 (pos k3 (tail (count10_ev _ out hs (by omega))))), neg k1 (neg k2 (pos k3 (bnd (count_ev _ out hs) (Ev.now _))))⟩
      · by_cases k4 : kind = 4
        · obtain ⟨a0, a1⟩ := ha (.inr (.inr k4))
          obtain ⟨a, rfl⟩ : ∃ m : Nat, a = m := ⟨a.toNat, by omega⟩
          obtain ⟨d, hd, h1, h2⟩ := far_ev N out hG a (by omega)
          exact ⟨d, by have := hd.half.len; omega, neg k1 (neg k2 (neg k3 (pos k4 (tail h2)))), neg k1 (neg k2 (neg k3 (pos k4 (bnd h1 (Ev.now _)))))⟩
        · by_cases k5 : kind = 5
          · obtain ⟨d, hd, h1, h2⟩ := part_ev N out hG
            exact ⟨d, by have := hd.half.len; omega, neg k1 (neg k2 (neg k3 (neg k4 (pos k5 (tail h2))))), neg k1 (neg k2 (neg k3 (neg k4 (pos k5 (bnd h1 (Ev.now _))))))⟩
          · refine ⟨flat (prs 0 out), by rw [flat_length, prs_length]; omega, neg k1 (neg k2 (neg k3 (neg k4 (neg k5 (bnd (pairs_ev _ out hs (by omega)) (askAll_ev out hs)))))), neg k1 (neg k2 (neg k3 (neg k4 (neg k5 (bnd (all_ev _ out hs) (Ev.now _))))))⟩
structure Says (n : Int) (out : List (List Int)) (kind a : Int) (v : List Int) (c : Int) : Prop where
  ask : Ev (fun k => q51.f k n out kind a) (v, c)
  len : v.length ≤ 1000
  may : GraphP n out → q57.f n out kind a = some c
  ref : GraphP n out → c = 0 → Ev (fun k => q42.f k n out kind a) v
  nil : c ≠ 0 → v = []
  bad : ¬ GraphP n out → c = 1
theorem says (n : Int) (out : List (List Int)) (kind a : Int) (hs : Sm out) : ∃ v c, Says n out kind a v c := by
  by_cases hg : GraphP n out
  · have hm := may10_eq n out kind a hg.1 hg.2.1
    by_cases hc : code n kind a = 0
    · obtain ⟨v, hl, h1, h2⟩ := answers_ev n out kind a hg hc
      refine ⟨v, 0, ?_, hl, fun _ => by rw [hm, hc], fun _ _ => h1, fun h => absurd rfl h, fun h => absurd hg h⟩
      unfold q51.f
      have := asked_ev n out kind a hs
      rw [if_pos hg, hc] at this
      exact bnd this (pos rfl h2)
    · refine ⟨[], code n kind a, ?_, by simp, fun _ => hm, fun _ h => absurd h hc, fun _ => rfl, fun h => absurd hg h⟩
      unfold q51.f
      have := asked_ev n out kind a hs
      rw [if_pos hg] at this
      exact bnd this (neg hc (Ev.now _))
  · refine ⟨[], 1, ?_, by simp, fun h => absurd h hg, fun h => absurd h hg, fun _ => rfl, fun _ => rfl⟩
    unfold q51.f
    have := asked_ev n out kind a hs
    rw [if_neg hg] at this
    exact bnd this (neg (by omega) (Ev.now _))
end Go.Proofs.Ytcfhffhmpalkbaa.U
end
section
namespace Go.Proofs.Ytcfhffhmpalkbaa.U
open Go.RowKit Go.Proofs.Ytcfhffhmpalkbaa.P Go.Proofs.YtcfhffhmpalkbaaW.PrintWords Go.Proofs.YtcfhffhmpalkbaaW.PrintLast Go.Proofs.YtcfhffhmpalkbaaW.PrintMore
set_option linter.unusedVariables false
set_option linter.unusedSimpArgs false
instance (out : List (List Int)) : Decidable (Sm out) := by unfold Sm; infer_instance
theorem wakes_ev : Ev (fun k => q62.f k) true := Ev.of (q62.mono) (k := 60) (by decide +kernel)
theorem made_some {o : Option (Int × List (List Int))} (h : (match o with | some p => decide (Sm p.2) | none => false) = true) : ∃ p, o = some p ∧ Sm p.2 := by
  cases o with
  | none => cases h
  | some p => exact ⟨p, rfl, of_decide_eq_true h⟩
theorem made_ev (i j : Nat) (hi : i < 4) (hj : j < 4) : ∃ p, Ev (fun k => q58.f k ((5 * i : Nat) : Int) (j : Int)) p ∧ Sm p.2 := by
  have h : ∀ i, i < 4 → ∀ j, j < 4 → (match q58.f 300 ((5 * i : Nat) : Int) ((j : Nat) : Int) with | some p => decide (Sm p.2) | none => false) = true := by decide +kernel
  obtain ⟨p, e, hp⟩ := made_some (h i hi j hj)
  exact ⟨p, Ev.of (q58.mono _ _) e, hp⟩
theorem wt_Sm {g : S42} (h : wt g ≤ 1200) : Sm g.f1 := by unfold wt at h; unfold Sm; omega
theorem one_ev (x : S37) (hS : Sz37 x) (kind : Int) : Ev (fun k => q3.f k x.f0 x.f1 kind) true := by
  obtain ⟨b, hb, hw⟩ := heavy_ev x hS
  unfold q3.f
  refine bnd hb ?_
  cases b with
  | true => exact pos rfl (Ev.now _)
  | false =>
    obtain ⟨hl, _, hg⟩ := hw rfl
    refine neg (by simp) (bnd (Ev.now _) (pos (by simp only [List.length_nil]; omega) (bnd (Ev.now _) ?_)))
    have l2 : ∀ gs : List S42, (∀ g ∈ gs, Sm g.f1) → gs.length ≤ 1000000 → ∀ i, i ≤ gs.length → Ev (fun k => q3.l2 k kind gs (i : Int)) true := by
      intro gs hgs hgl
      refine upto ?_ ?_
      · refine Ev.step (fun k => by rw [q3.l2]) ?_
        exact neg (by omega) (tail wakes_ev)
      · intro i hi ih
        have hsm := hgs _ (getD_mem (d := z42) hi)
        have l3 : ∀ j : Nat, j ≤ 18 → Ev (fun k => q3.l3 k kind gs (i : Int) ((j : Int) - 1)) true := by
          refine upto ?_ ?_
          · refine Ev.step (fun k => by rw [q3.l3]) ?_
            refine neg (by omega) ?_
            rw [w1 (by omega)]
            exact ih
          · intro j hj ihj
            obtain ⟨v, c, hs⟩ := says (gs.getD i z42).f0 (gs.getD i z42).f1 kind ((j : Int) - 1) hsm
            have fin : ∀ v' c', v' = v → c' = c → Ev (fun k => q3.j5 k kind gs (i : Int) ((j : Int) - 1) v c c' v') true := by
              rintro v' c' rfl rfl
              refine Ev.step (fun k => by rw [q3.j5]) ?_
              refine bnd (Ev.now _) (pos rfl (bnd (eqn_ev _ _ (by have := hs.len; omega)) (pos (by simp) ?_)))
              rw [w64 (by omega) (by omega), show ((j : Int) - 1 + 1) = ((j + 1 : Nat) : Int) - 1 by omega]
              exact ihj
            refine Ev.step (fun k => by rw [q3.l3]) ?_
            refine pos (by omega) (pos (by omega) (pos (by omega) ?_))
            rw [rdG]
            refine bnd hs.ask (bnd (graph6_ev _ _ hsm) ?_)
            by_cases h : GraphP (gs.getD i z42).f0 (gs.getD i z42).f1
            · refine pos (by simpa using h) ?_
              rw [hs.may h]
              refine bnd (Ev.now _) ?_
              by_cases hc : c = 0
              · exact pos hc (bnd (hs.ref h hc) (fin _ _ rfl rfl))
              · exact neg hc (fin _ _ (hs.nil hc).symm rfl)
            · refine neg (by simpa using h) (fin _ _ (hs.nil (by rw [hs.bad h]; omega)).symm (hs.bad h).symm)
        refine Ev.step (fun k => by rw [q3.l2]) ?_
        exact pos (by omega) (l3 0 (by omega))
    have l0 : ∀ i, i ≤ 4 → ∀ gs : List S42, (∀ g ∈ gs, Sm g.f1) → gs.length ≤ 4 + 4 * i → Ev (fun k => q3.l0 k kind gs ((5 * i : Nat) : Int)) true := by
      refine upto ?_ ?_
      · intro gs h1 h2
        refine Ev.step (fun k => by rw [q3.l0]) ?_
        exact neg (by omega) (l2 gs h1 (by omega) 0 (by omega))
      · intro i hi ih gs h1 h2
        have l1 : ∀ j, j ≤ 4 → ∀ gs : List S42, (∀ g ∈ gs, Sm g.f1) → gs.length ≤ 4 + 4 * i + j → Ev (fun k => q3.l1 k kind gs ((5 * i : Nat) : Int) (j : Int)) true := by
          refine upto ?_ ?_
          · intro gs h1 h2
            refine Ev.step (fun k => by rw [q3.l1]) ?_
            refine neg (by omega) ?_
            rw [w64 (by omega) (by omega), show (((5 * i : Nat) : Int) + 5) = ((5 * (i + 1) : Nat) : Int) by omega]
            exact ih gs h1 (by omega)
          · intro j hj ihj gs h1 h2
            obtain ⟨p, hp, hps⟩ := made_ev i j hi hj
            refine Ev.step (fun k => by rw [q3.l1]) ?_
            refine pos (by omega) (bnd hp (pos (by omega) ?_))
            rw [w1 (by omega)]
            refine ihj _ (fun g hg => ?_) (by simp only [List.length_append, List.length_singleton]; omega)
            rcases List.mem_append.1 hg with hg | hg
            · exact h1 g hg
            · obtain rfl := List.mem_singleton.1 hg
              exact hps
        refine Ev.step (fun k => by rw [q3.l0]) ?_
        exact pos (by omega) (l1 0 (by omega) gs h1 (by omega))
    have j0 : ∀ gs : List S42, (∀ g ∈ gs, Sm g.f1) → gs.length ≤ 4 → Ev (fun k => q3.j0 k kind gs) true := by
      intro gs h1 h2
      refine Ev.step (fun k => by rw [q3.j0]) ?_
      exact l0 0 (by omega) gs h1 (by omega)
    rw [List.nil_append]
    by_cases h4 : (x.f0.length : Int) > 4
    · refine pos h4 (pos (by omega) (j0 _ (fun g h => wt_Sm (hg g (List.mem_of_mem_take h))) ?_))
      rw [List.length_take]
      omega
    · exact neg h4 (j0 _ (fun g h => wt_Sm (hg g h)) (by omega))
end Go.Proofs.Ytcfhffhmpalkbaa.U
end
section
namespace Go.Proofs.Ytcfhffhmpalkbaa.Pure
open Go.RowKit Go.Proofs.Ytcfhffhmpalkbaa.P Go.Proofs.Ytcfhffhmpalkbaa.U Go.Proofs.YtcfhffhmpalkbaaW.PrintWords Go.Proofs.YtcfhffhmpalkbaaW.PrintLast
theorem KernelOut : q68.Pure := fun x hS => (tail (one_ev x hS 1)).rounds
end Go.Proofs.Ytcfhffhmpalkbaa.Pure
end
