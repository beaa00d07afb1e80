import Derived.Test.YtcfhffhmpalkbaaKc11
namespace Go.Proofs.Ytcfhffhmpalkbaa.Pure
open Go.RowKit Go.Proofs.Ytcfhffhmpalkbaa.P Go.Proofs.Ytcfhffhmpalkbaa.U Go.Proofs.YtcfhffhmpalkbaaW.PrintWords Go.Proofs.YtcfhffhmpalkbaaW.PrintLast Go.Proofs.YtcfhffhmpalkbaaW.PrintMore
set_option linter.unusedVariables false
set_option linter.unusedSimpArgs false
theorem KernelTurns : q3.Pure := by
  intro x hS
  apply Ev.rounds
  obtain ⟨b, hb, hw⟩ := heavy_ev x hS
  unfold q3.f
  refine bnd hb ?_
  cases b with
  | true => exact pos rfl (Ev.now _)
  | false =>
    obtain ⟨hl, _, hgw⟩ := hw rfl
    refine neg (by simp) ?_
    generalize x.f0 = gs at *
    generalize x.f1 = acts at *
    have hend : ∀ i : Nat, Ev (fun k => q3.j1 k (i : Int) false gs acts) true := by
      intro i
      refine Ev.step (fun k => by rw [q3.j1]) ?_
      exact neg (by simp) (tail wakes_ev)
    have l0 : ∀ i, i ≤ gs.length → Ev (fun k => q3.l0 k (i : Int) gs acts) true := by
      refine upto ?_ ?_
      · refine Ev.step (fun k => by rw [q3.l0]) ?_
        exact neg (by omega) (hend _)
      · intro i hi ih
        refine Ev.step (fun k => by rw [q3.l0]) ?_
        refine pos (by omega) ?_
        by_cases h4 : (i : Int) < 4
        · rw [show decide ((i : Int) < 4) = true by simpa using h4]
          have hsm : Sm (gs.getD i z42).f1 := wt_Sm (hgw _ (getD_mem hi))
          have hG : rd_T42 gs (i : Int) = gs.getD i z42 := rdG gs i
          have hin : (i : Int) < (gs.length : Int) := by omega
          generalize he : gs.getD i z42 = g at *
          obtain ⟨n, out⟩ := g
          have hsm : Sm out := hsm
          refine Ev.step (fun k => by rw [q3.j1]) ?_
          refine pos rfl (pos (by omega) (pos hin ?_))
          rw [hG]
          by_cases hgr : GraphP n out
          · obtain ⟨en, hg⟩ := hgr.good
            have ht := (gturn_ev n out hsm).1 hgr
            generalize n.toNat = N at *
            subst en
            have hN := hg.le
            have hlen := hg.len
            have hgt := turn_good hg
            obtain ⟨p, hp, hpe⟩ := kpartQ_ev hg
            obtain ⟨p', hp', hpe'⟩ := kpartQ_ev hgt
            obtain rfl := hp.uniq (turn_part hg hp')
            have hpl := hp.half.len
            obtain ⟨hcs, hcb⟩ := cnt_sum hg
            have hcl := cnt_length hg
            have hconn : ∀ {u v : Nat}, Conn N out u v → p.getD u 0 = p.getD v 0 := fun h => h (fun u => p.getD u 0) hp.edge
            refine bnd ht (bnd (Ev.now _) (pos rfl ?_))
            refine bnd hpe (bnd hpe' (bnd (kcount_ev hg) ?_))
            refine bnd (Ev.now _) (pos rfl (bnd (Ev.now _) (pos rfl (bnd (Ev.now _) (pos rfl ?_)))))
            refine bnd (eqn_ev p p (by omega)) (pos (by simp) ?_)
            dsimp only
            rw [show ((p.length : Int) != (N : Int)) = false by rw [hpl]; simp]
            refine Ev.step (fun k => by rw [q3.j2]) ?_
            refine neg (by simp) ?_
            have l2 : ∀ a, a ≤ N → Ev (fun k => q3.l2 k (i : Int) p (a : Int) gs acts (N : Int) out (N : Int) (turn N out)) true := by
              refine upto ?_ ?_
              · refine Ev.step (fun k => by rw [q3.l2]) ?_
                refine neg (by omega) ?_
                rw [w1 (by omega)]
                exact ih
              · intro a ha iha
                obtain ⟨d, hd, hde⟩ := kfarQ_ev hg ha
                have hdl := hd.half.len
                have hds := hd.half.src
                have htr := turn_rows hg a
                have l3 : ∀ v, v ≤ N → Ev (fun k => q3.l3 k (i : Int) p (a : Int) d (v : Int) gs acts (N : Int) out (N : Int) (turn N out)) true := by
                  refine upto ?_ ?_
                  · refine Ev.step (fun k => by rw [q3.l3]) ?_
                    refine neg (by omega) ?_
                    rw [w1 (by omega)]
                    exact iha
                  · intro v hv ihv
                    have hpv := hp.half.num v hv
                    have hdv := hd.half.lt hv
                    have hdl' := hd.half.low v hv
                    have hrl := hg.rlen v
                    have l4 : ∀ j, j ≤ (out.getD v []).length → Ev (fun k => q3.l4 k (i : Int) p (a : Int) d (v : Int) (j : Int) gs acts (N : Int) out (N : Int) (turn N out)) true := by
                      refine upto ?_ ?_
                      · refine Ev.step (fun k => by rw [q3.l4]) ?_
                        refine pos (by omega) (pos (by omega) ?_)
                        rw [rd1N]
                        refine neg (by omega) ?_
                        rw [w1 (by omega)]
                        exact ihv
                      · intro j hj ihj
                        obtain ⟨hE, hwN, hwe⟩ := edge_of hg hv hj
                        have hpe := hp.edge v _ hv hwN hE
                        have hde' := hd.edge v _ hv hwN hE
                        refine Ev.step (fun k => by rw [q3.l4]) ?_
                        refine pos (by omega) (pos (by omega) ?_)
                        rw [rd1N]
                        refine pos (by omega) (pos (by omega) ?_)
                        rw [rdN (out.getD v []) j, rdI p ((out.getD v []).getD j 0), rdI d ((out.getD v []).getD j 0), rdN p v, rdN d v, w1 (by omega), w64 (by omega) (by omega)]
                        refine pos (by omega) (pos (by omega) (pos (by omega) (pos hpe.symm (pos (by omega) ?_))))
                        by_cases hd0 : d.getD v 0 ≥ 0
                        · have := hde' hd0
                          exact pos hd0 (pos (by omega) (neg (by omega) (neg (by omega) ihj)))
                        · exact neg hd0 ihj
                    have hj7 : Ev (fun k => q3.j7 k (i : Int) p (a : Int) d (v : Int) (decide (p.getD v 0 > (v : Int))) gs acts (N : Int) out (N : Int) (turn N out)) true := by
                      refine Ev.step (fun k => by rw [q3.j7]) ?_
                      exact neg (by simp only [decide_eq_true_eq]; omega) (l4 0 (by omega))
                    refine Ev.step (fun k => by rw [q3.l3]) ?_
                    refine pos (by omega) (pos (by omega) (pos (by omega) ?_))
                    rw [rdN, rdN, rdN]
                    by_cases hd0 : d.getD v 0 ≥ 0
                    · refine pos hd0 (pos (by omega) (pos (by omega) (pos (by omega) (pos ?_ hj7))))
                      exact (hconn (hd.half.conn (d.getD v 0).toNat v hv (by omega))).symm
                    · exact neg hd0 (pos (by omega) hj7)
                refine Ev.step (fun k => by rw [q3.l2]) ?_
                refine pos (by omega) (bnd (kin_ev hg ha) (bnd (kout_ev hgt ha) (bnd hde ?_)))
                refine bnd (Ev.now _) (pos rfl (bnd (Ev.now _) (pos rfl (bnd (Ev.now _) (pos rfl ?_)))))
                refine bnd (eqn_ev _ _ (by dsimp only; omega)) (pos (by simp) ?_)
                dsimp only
                refine pos (by omega) (pos (by omega) (pos (by omega) ?_))
                rw [show ((rd d (a : Int)) != 0) = false by rw [rdN, hds]; rfl]
                refine Ev.step (fun k => by rw [q3.j5]) ?_
                exact neg (by simp) (l3 0 (by omega))
            have l1 : ∀ j, j ≤ (cnt out).length → ∀ s : Int, 0 ≤ s → s ≤ 16 * j → s + isum ((cnt out).drop j) = N → Ev (fun k => q3.l1 k (i : Int) p (cnt out) s (j : Int) gs acts (N : Int) out (N : Int) (turn N out)) true := by
              refine upto ?_ ?_
              · intro s h0 h1 h2
                rw [List.drop_length] at h2
                refine Ev.step (fun k => by rw [q3.l1]) ?_
                exact neg (by omega) (pos (by simpa [isum] using h2) (l2 0 (by omega)))
              · intro j hj ihj s h0 h1 h2
                have hc := hcb j
                rw [drop_getD (d := 0) hj, isum_cons] at h2
                refine Ev.step (fun k => by rw [q3.l1]) ?_
                refine pos (by omega) (pos (by omega) ?_)
                rw [rdN, w1 (by omega), w64 (by omega) (by omega)]
                exact ihj _ (by omega) (by omega) (by omega)
            exact l1 0 (by omega) 0 (by omega) (by omega) (by simpa using hcs)
          · refine bnd ((gturn_ev n out hsm).2 hgr) (bnd (Ev.now _) (neg (by simp) ?_))
            rw [w1 (by omega)]
            exact ih
        · rw [show decide ((i : Int) < 4) = false by simpa using h4]
          exact hend i
    exact l0 0 (by omega)
end Go.Proofs.Ytcfhffhmpalkbaa.Pure
