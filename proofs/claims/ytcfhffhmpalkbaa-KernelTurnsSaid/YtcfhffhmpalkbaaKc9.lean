import Derived.Test.YtcfhffhmpalkbaaKc1
import Derived.Test.YtcfhffhmpalkbaaKc3
import Derived.Test.YtcfhffhmpalkbaaKc4
import Derived.Test.YtcfhffhmpalkbaaKc7
import Derived.Test.YtcfhffhmpalkbaaKc8
namespace Go.Proofs.Ytcfhffhmpalkbaa.P
open Go.RowKit Go.Proofs.YtcfhffhmpalkbaaM Go.Proofs.YtcfhffhmpalkbaaW.PrintWords Go.Proofs.YtcfhffhmpalkbaaW.PrintLast Go.Proofs.YtcfhffhmpalkbaaW.PrintMore
attribute [local go_sem] Go.Instr.field Go.asAgg max2_int min2_int max_two min_two max_three min_three max_four min_four
set_option linter.unusedVariables false
set_option linter.unusedSimpArgs false
set_option maxHeartbeats 8000000 in
set_option maxRecDepth 100000 in
theorem q3.calls (k : Nat) (A0_0 : Option Addr) (c0_0 : Nat) (l0_0 : List (S42)) (A0_1 : Option Addr) (c0_1 : Nat) (l0_1 : List (S119)) (r : Bool) (w : World) (hr0_0 : Kd.C k42 w A0_0 l0_0.length l0_0) (hc0_0 : l0_0.length ≤ c0_0) (hr0_1 : Kd.C k119 w A0_1 l0_1.length l0_1) (hc0_1 : l0_1.length ≤ c0_1) (h : q3.f k l0_0 l0_1 = some r) :
 Calls Try.prog 13 #[.agg #[.slice A0_0 l0_0.length c0_0, .slice A0_1 l0_1.length c0_1]] w fun e w' => e = .returned (.bool r) ∧ Below w.heap.size w w' := by
 have hu37 := Try.underlying37
 have hu42 := Try.underlying42
 have HR0_0 := Aside0.mk hr0_0
 have HC0_0 := Aside0.mk hc0_0
 clear hr0_0 hc0_0
 have HR0_1 := Aside0.mk hr0_1
 have HC0_1 := Aside0.mk hc0_1
 clear hr0_1 hc0_1
 have HB := Aside0.mk (Below.refl w.heap.size w)
 have H : ((q30.f k l0_0 l0_1).bind fun t102 => (if t102 = true then (some true) else (q3.l0 k 0 l0_0 l0_1))) = some r := h
 clear h
 replace H := Option.bind_eq_some_iff.mp H
 obtain ⟨t102, A20, H⟩ := H
 replace H : (if t102 = true then (some true) else (q3.l0 k 0 l0_0 l0_1)) = some r := H
 have A2 := Aside0.mk A20
 clear A20
 by_cases c3 : t102 = true
 ·subst c3
  have H1 : (some true) = some r := by rw [if_pos rfl] at H; exact H
  clear H
  have H := H1
  clear H1
  obtain rfl := Option.some.inj H
  go_enter Try.func13, Try.ntmps13
  go_wp2_with (first | ((with_reducible refine gate_dst (N := 1) rfl ?_); (try (refine gate_guard (by rfl) ?_; dsimp only)); refine box_event ?hg (N := 1) ?hd (cs := #[.slice A0_0 l0_0.length c0_0, .slice A0_1 l0_1.length c0_1]) (t := 37) ?hr ?_; (case hd => rfl); (case hg => rfl); (case hr => first | (go_simp; done) | (go_simp; rfl)); intro gb101 hg w4 hbox hb; have n0_ := Aside0.mk (below_step v1_ hb); have n1_ := Aside0.mk (hbox); have n2_ := Aside0.mk (v10_); have n3_ := Aside0.mk (v10_); clear HB; have HB := n0_; have BK101 := n1_; have GW101 := n2_; have GE101 := n3_; clear n0_ n1_ n2_ n3_; clear hb hbox hg; have hcz5_0 : w4.cell? ⟨gb101, 0, none⟩ = some (.slice A0_0 l0_0.length c0_0) := (blk_cell BK101.out 0).trans rfl; have hcz5_1 : w4.cell? ⟨gb101, 1, none⟩ = some (.slice A0_1 l0_1.length c0_1) := (blk_cell BK101.out 1).trans rfl; have hfz5_0 := blk_frozen BK101.out 0; have hfz5_1 := blk_frozen BK101.out 1) | (go_at_call 24; (with_reducible refine (q30.calls k _ _ l0_0 _ _ l0_1 true _ ?side1 ?side2 ?side3 ?side4 A2.out).mono ?_); (case side1 => repeat (first | exact (Kd.C_below HR0_0.out HB.out) | (with_reducible refine Kd.C_alloc ?_ _) | (with_reducible refine Kd.C_drewN ?_ _) | (with_reducible refine Kd.C_drew ?_))); (case side2 => exact HC0_0.out); (case side3 => repeat (first | exact (Kd.C_below HR0_1.out HB.out) | (with_reducible refine Kd.C_alloc ?_ _) | (with_reducible refine Kd.C_drewN ?_ _) | (with_reducible refine Kd.C_drew ?_))); (case side4 => exact HC0_1.out); rintro e w6 ⟨rfl, hb⟩; have n0_ := Aside0.mk (blk_below (g := gb101) (o := .cells #[.slice A0_0 l0_0.length c0_0, .slice A0_1 l0_1.length c0_1] 37 (0, 0)) v2_ hb); have n1_ := Aside0.mk (below_step v0_ hb); clear BK101; clear HB; have BK101 := n0_; have HB := n1_; clear n0_ n1_; (try clear hb); (try clear hb2); (try clear hk); (try clear hi)))
  repeat (go_quiet (first | ((with_reducible refine gate_dst (N := 1) rfl ?_); (try (refine gate_guard (by rfl) ?_; dsimp only)); refine box_event ?hg (N := 1) ?hd (cs := #[.slice A0_0 l0_0.length c0_0, .slice A0_1 l0_1.length c0_1]) (t := 37) ?hr ?_; (case hd => rfl); (case hg => rfl); (case hr => first | (go_simp; done) | (go_simp; rfl)); intro gb101 hg w4 hbox hb; have n0_ := Aside0.mk (below_step v1_ hb); have n1_ := Aside0.mk (hbox); have n2_ := Aside0.mk (v10_); have n3_ := Aside0.mk (v10_); clear HB; have HB := n0_; have BK101 := n1_; have GW101 := n2_; have GE101 := n3_; clear n0_ n1_ n2_ n3_; clear hb hbox hg; have hcz5_0 : w4.cell? ⟨gb101, 0, none⟩ = some (.slice A0_0 l0_0.length c0_0) := (blk_cell BK101.out 0).trans rfl; have hcz5_1 : w4.cell? ⟨gb101, 1, none⟩ = some (.slice A0_1 l0_1.length c0_1) := (blk_cell BK101.out 1).trans rfl; have hfz5_0 := blk_frozen BK101.out 0; have hfz5_1 := blk_frozen BK101.out 1) | (go_at_call 24; (with_reducible refine (q30.calls k _ _ l0_0 _ _ l0_1 true _ ?side1 ?side2 ?side3 ?side4 A2.out).mono ?_); (case side1 => repeat (first | exact (Kd.C_below HR0_0.out HB.out) | (with_reducible refine Kd.C_alloc ?_ _) | (with_reducible refine Kd.C_drewN ?_ _) | (with_reducible refine Kd.C_drew ?_))); (case side2 => exact HC0_0.out); (case side3 => repeat (first | exact (Kd.C_below HR0_1.out HB.out) | (with_reducible refine Kd.C_alloc ?_ _) | (with_reducible refine Kd.C_drewN ?_ _) | (with_reducible refine Kd.C_drew ?_))); (case side4 => exact HC0_1.out); rintro e w6 ⟨rfl, hb⟩; have n0_ := Aside0.mk (blk_below (g := gb101) (o := .cells #[.slice A0_0 l0_0.length c0_0, .slice A0_1 l0_1.length c0_1] 37 (0, 0)) v2_ hb); have n1_ := Aside0.mk (below_step v0_ hb); clear BK101; clear HB; have BK101 := n0_; have HB := n1_; clear n0_ n1_; (try clear hb); (try clear hb2); (try clear hk); (try clear hi))); try go_wp2_with (first | ((with_reducible refine gate_dst (N := 1) rfl ?_); (try (refine gate_guard (by rfl) ?_; dsimp only)); refine box_event ?hg (N := 1) ?hd (cs := #[.slice A0_0 l0_0.length c0_0, .slice A0_1 l0_1.length c0_1]) (t := 37) ?hr ?_; (case hd => rfl); (case hg => rfl); (case hr => first | (go_simp; done) | (go_simp; rfl)); intro gb101 hg w4 hbox hb; have n0_ := Aside0.mk (below_step v1_ hb); have n1_ := Aside0.mk (hbox); have n2_ := Aside0.mk (v10_); have n3_ := Aside0.mk (v10_); clear HB; have HB := n0_; have BK101 := n1_; have GW101 := n2_; have GE101 := n3_; clear n0_ n1_ n2_ n3_; clear hb hbox hg; have hcz5_0 : w4.cell? ⟨gb101, 0, none⟩ = some (.slice A0_0 l0_0.length c0_0) := (blk_cell BK101.out 0).trans rfl; have hcz5_1 : w4.cell? ⟨gb101, 1, none⟩ = some (.slice A0_1 l0_1.length c0_1) := (blk_cell BK101.out 1).trans rfl; have hfz5_0 := blk_frozen BK101.out 0; have hfz5_1 := blk_frozen BK101.out 1) | (go_at_call 24; (with_reducible refine (q30.calls k _ _ l0_0 _ _ l0_1 true _ ?side1 ?side2 ?side3 ?side4 A2.out).mono ?_); (case side1 => repeat (first | exact (Kd.C_below HR0_0.out HB.out) | (with_reducible refine Kd.C_alloc ?_ _) | (with_reducible refine Kd.C_drewN ?_ _) | (with_reducible refine Kd.C_drew ?_))); (case side2 => exact HC0_0.out); (case side3 => repeat (first | exact (Kd.C_below HR0_1.out HB.out) | (with_reducible refine Kd.C_alloc ?_ _) | (with_reducible refine Kd.C_drewN ?_ _) | (with_reducible refine Kd.C_drew ?_))); (case side4 => exact HC0_1.out); rintro e w6 ⟨rfl, hb⟩; have n0_ := Aside0.mk (blk_below (g := gb101) (o := .cells #[.slice A0_0 l0_0.length c0_0, .slice A0_1 l0_1.length c0_1] 37 (0, 0)) v2_ hb); have n1_ := Aside0.mk (below_step v0_ hb); clear BK101; clear HB; have BK101 := n0_; have HB := n1_; clear n0_ n1_; (try clear hb); (try clear hb2); (try clear hk); (try clear hi))))
  go_ret
  exact ⟨by first | rfl | (simp [errW_none, errW_some] <;> rfl) | (simp [*, errW_none, errW_some] <;> rfl), by repeat (first | (with_reducible first | exact HB.out | apply below_alloc | apply pw_below_drewN | apply below_drew1 | refine below_set ?_ GE101.out) | exact HB.out)⟩
 ·replace c3 := Bool.eq_false_iff.mpr c3
  subst c3
  have H1 : (q3.l0 k 0 l0_0 l0_1) = some r := by rw [if_neg (show ¬ (false = true) by decide)] at H; exact H
  clear H
  have H := H1
  clear H1
  have H' := Aside0.mk H
  clear H
  go_enter Try.func13, Try.ntmps13
  go_wp2_with (first | ((with_reducible refine gate_dst (N := 1) rfl ?_); (try (refine gate_guard (by rfl) ?_; dsimp only)); refine box_event ?hg (N := 1) ?hd (cs := #[.slice A0_0 l0_0.length c0_0, .slice A0_1 l0_1.length c0_1]) (t := 37) ?hr ?_; (case hd => rfl); (case hg => rfl); (case hr => first | (go_simp; done) | (go_simp; rfl)); intro gb101 hg w7 hbox hb; have n0_ := Aside0.mk (below_step v1_ hb); have n1_ := Aside0.mk (hbox); have n2_ := Aside0.mk (v10_); have n3_ := Aside0.mk (v10_); clear HB; have HB := n0_; have BK101 := n1_; have GW101 := n2_; have GE101 := n3_; clear n0_ n1_ n2_ n3_; clear hb hbox hg; have hcz8_0 : w7.cell? ⟨gb101, 0, none⟩ = some (.slice A0_0 l0_0.length c0_0) := (blk_cell BK101.out 0).trans rfl; have hcz8_1 : w7.cell? ⟨gb101, 1, none⟩ = some (.slice A0_1 l0_1.length c0_1) := (blk_cell BK101.out 1).trans rfl; have hfz8_0 := blk_frozen BK101.out 0; have hfz8_1 := blk_frozen BK101.out 1) | (go_at_call 24; (with_reducible refine (q30.calls k _ _ l0_0 _ _ l0_1 false _ ?side1 ?side2 ?side3 ?side4 A2.out).mono ?_); (case side1 => repeat (first | exact (Kd.C_below HR0_0.out HB.out) | (with_reducible refine Kd.C_alloc ?_ _) | (with_reducible refine Kd.C_drewN ?_ _) | (with_reducible refine Kd.C_drew ?_))); (case side2 => exact HC0_0.out); (case side3 => repeat (first | exact (Kd.C_below HR0_1.out HB.out) | (with_reducible refine Kd.C_alloc ?_ _) | (with_reducible refine Kd.C_drewN ?_ _) | (with_reducible refine Kd.C_drew ?_))); (case side4 => exact HC0_1.out); rintro e w9 ⟨rfl, hb⟩; have n0_ := Aside0.mk (blk_below (g := gb101) (o := .cells #[.slice A0_0 l0_0.length c0_0, .slice A0_1 l0_1.length c0_1] 37 (0, 0)) v2_ hb); have n1_ := Aside0.mk (below_step v0_ hb); clear BK101; clear HB; have BK101 := n0_; have HB := n1_; clear n0_ n1_; (try clear hb); (try clear hb2); (try clear hk); (try clear hi)))
  repeat (go_quiet (first | ((with_reducible refine gate_dst (N := 1) rfl ?_); (try (refine gate_guard (by rfl) ?_; dsimp only)); refine box_event ?hg (N := 1) ?hd (cs := #[.slice A0_0 l0_0.length c0_0, .slice A0_1 l0_1.length c0_1]) (t := 37) ?hr ?_; (case hd => rfl); (case hg => rfl); (case hr => first | (go_simp; done) | (go_simp; rfl)); intro gb101 hg w7 hbox hb; have n0_ := Aside0.mk (below_step v1_ hb); have n1_ := Aside0.mk (hbox); have n2_ := Aside0.mk (v10_); have n3_ := Aside0.mk (v10_); clear HB; have HB := n0_; have BK101 := n1_; have GW101 := n2_; have GE101 := n3_; clear n0_ n1_ n2_ n3_; clear hb hbox hg; have hcz8_0 : w7.cell? ⟨gb101, 0, none⟩ = some (.slice A0_0 l0_0.length c0_0) := (blk_cell BK101.out 0).trans rfl; have hcz8_1 : w7.cell? ⟨gb101, 1, none⟩ = some (.slice A0_1 l0_1.length c0_1) := (blk_cell BK101.out 1).trans rfl; have hfz8_0 := blk_frozen BK101.out 0; have hfz8_1 := blk_frozen BK101.out 1) | (go_at_call 24; (with_reducible refine (q30.calls k _ _ l0_0 _ _ l0_1 false _ ?side1 ?side2 ?side3 ?side4 A2.out).mono ?_); (case side1 => repeat (first | exact (Kd.C_below HR0_0.out HB.out) | (with_reducible refine Kd.C_alloc ?_ _) | (with_reducible refine Kd.C_drewN ?_ _) | (with_reducible refine Kd.C_drew ?_))); (case side2 => exact HC0_0.out); (case side3 => repeat (first | exact (Kd.C_below HR0_1.out HB.out) | (with_reducible refine Kd.C_alloc ?_ _) | (with_reducible refine Kd.C_drewN ?_ _) | (with_reducible refine Kd.C_drew ?_))); (case side4 => exact HC0_1.out); rintro e w9 ⟨rfl, hb⟩; have n0_ := Aside0.mk (blk_below (g := gb101) (o := .cells #[.slice A0_0 l0_0.length c0_0, .slice A0_1 l0_1.length c0_1] 37 (0, 0)) v2_ hb); have n1_ := Aside0.mk (below_step v0_ hb); clear BK101; clear HB; have BK101 := n0_; have HB := n1_; clear n0_ n1_; (try clear hb); (try clear hb2); (try clear hk); (try clear hi))); try go_wp2_with (first | ((with_reducible refine gate_dst (N := 1) rfl ?_); (try (refine gate_guard (by rfl) ?_; dsimp only)); refine box_event ?hg (N := 1) ?hd (cs := #[.slice A0_0 l0_0.length c0_0, .slice A0_1 l0_1.length c0_1]) (t := 37) ?hr ?_; (case hd => rfl); (case hg => rfl); (case hr => first | (go_simp; done) | (go_simp; rfl)); intro gb101 hg w7 hbox hb; have n0_ := Aside0.mk (below_step v1_ hb); have n1_ := Aside0.mk (hbox); have n2_ := Aside0.mk (v10_); have n3_ := Aside0.mk (v10_); clear HB; have HB := n0_; have BK101 := n1_; have GW101 := n2_; have GE101 := n3_; clear n0_ n1_ n2_ n3_; clear hb hbox hg; have hcz8_0 : w7.cell? ⟨gb101, 0, none⟩ = some (.slice A0_0 l0_0.length c0_0) := (blk_cell BK101.out 0).trans rfl; have hcz8_1 : w7.cell? ⟨gb101, 1, none⟩ = some (.slice A0_1 l0_1.length c0_1) := (blk_cell BK101.out 1).trans rfl; have hfz8_0 := blk_frozen BK101.out 0; have hfz8_1 := blk_frozen BK101.out 1) | (go_at_call 24; (with_reducible refine (q30.calls k _ _ l0_0 _ _ l0_1 false _ ?side1 ?side2 ?side3 ?side4 A2.out).mono ?_); (case side1 => repeat (first | exact (Kd.C_below HR0_0.out HB.out) | (with_reducible refine Kd.C_alloc ?_ _) | (with_reducible refine Kd.C_drewN ?_ _) | (with_reducible refine Kd.C_drew ?_))); (case side2 => exact HC0_0.out); (case side3 => repeat (first | exact (Kd.C_below HR0_1.out HB.out) | (with_reducible refine Kd.C_alloc ?_ _) | (with_reducible refine Kd.C_drewN ?_ _) | (with_reducible refine Kd.C_drew ?_))); (case side4 => exact HC0_1.out); rintro e w9 ⟨rfl, hb⟩; have n0_ := Aside0.mk (blk_below (g := gb101) (o := .cells #[.slice A0_0 l0_0.length c0_0, .slice A0_1 l0_1.length c0_1] 37 (0, 0)) v2_ hb); have n1_ := Aside0.mk (below_step v0_ hb); clear BK101; clear HB; have BK101 := n0_; have HB := n1_; clear n0_ n1_; (try clear hb); (try clear hb2); (try clear hk); (try clear hi))))
  go_loopg [3] k (fun kq v3 w' => ∃ (x3_1 : Int), v3 = .int .i64 x3_1 ∧ Aside0 (q3.l0 kq x3_1 l0_0 l0_1 = some r) ∧ Aside0 (kq ≤ k) ∧ Aside0 (w'.heap[gb101]? = some (.cells #[(.slice A0_0 l0_0.length c0_0), (.slice A0_1 l0_1.length c0_1)] 37 (0, 0))) ∧ Aside0 (Below w.heap.size w w'))
  case atStart => exact ⟨(0), v12_, H', ⟨Nat.le_refl _⟩, ⟨v6_⟩, ⟨v9_⟩⟩
  case round => as_aux_lemma =>
   clear H'
   try clear c1
   try clear p2
   try clear c3
   try clear hcz5_0
   try clear hcz5_1
   try clear hcz8_0
   try clear hcz8_1
   try clear hfz5_0
   try clear hfz5_1
   try clear hfz8_0
   try clear hfz8_1
   obtain ⟨x3_1, rfl, HA, HK1, BK101, HB⟩ := hrel
   cases gk with
   | zero => exact absurd HA.out (by simp [q3.l0])
   | succ k1 =>
    have H := HA.out
    clear HA
    simp only [q3.l0] at H
    have HC10 := Aside0.mk H
    clear H
    go_upto_region 4 with (fail)
    repeat (go_quiet (fail); go_upto_region 4 with (fail))
    go_cut [35] (fun v35 wc => ∃ (kq : Nat) (x35_9 : Bool), v35 = .bool x35_9 ∧ Aside0 (q3.j1 kq x3_1 x35_9 l0_0 l0_1 = some r) ∧ Aside0 (kq ≤ k1) ∧ Aside0 (wc.heap[gb101]? = some (.cells #[(.slice A0_0 l0_0.length c0_0), (.slice A0_1 l0_1.length c0_1)] 37 (0, 0))) ∧ Aside0 (Below w.heap.size w wc))
    case first => as_aux_lemma =>
     have H := HC10.out
     clear HC10
     by_cases c11 : x3_1 < (l0_0.length : Int)
     ·rw [if_pos c11] at H
      have c11b0 : decide (x3_1 < (l0_0.length : Int)) = true := decide_eq_true c11
      clear c11
      (first | rw [c11b0] | (simp only [i64_w, i32_w]; rw [c11b0]) | skip)
      have H' := Aside0.mk H
      clear H
      have hcz12_0 : wr.cell? ⟨gb101, 0, none⟩ = some (.slice A0_0 l0_0.length c0_0) := (blk_cell BK101.out 0).trans rfl
      have hcz12_1 : wr.cell? ⟨gb101, 1, none⟩ = some (.slice A0_1 l0_1.length c0_1) := (blk_cell BK101.out 1).trans rfl
      have hfz12_0 := blk_frozen BK101.out 0
      have hfz12_1 := blk_frozen BK101.out 1
      go_wp2
      repeat (go_quiet (fail); try go_wp2)
      go_meet
      case rel => exact ⟨_, (decide (x3_1 < 4)), v12_, H', ⟨by have := HK1.out; first | omega | exact Nat.le_refl _⟩, ⟨v6_⟩, ⟨v9_⟩⟩
     ·rw [if_neg c11] at H
      have c11b0 : decide (x3_1 < (l0_0.length : Int)) = false := decide_eq_false c11
      clear c11
      (first | rw [c11b0] | (simp only [i64_w, i32_w]; rw [c11b0]) | skip)
      have H' := Aside0.mk H
      clear H
      have hcz13_0 : wr.cell? ⟨gb101, 0, none⟩ = some (.slice A0_0 l0_0.length c0_0) := (blk_cell BK101.out 0).trans rfl
      have hcz13_1 : wr.cell? ⟨gb101, 1, none⟩ = some (.slice A0_1 l0_1.length c0_1) := (blk_cell BK101.out 1).trans rfl
      have hfz13_0 := blk_frozen BK101.out 0
      have hfz13_1 := blk_frozen BK101.out 1
      go_wp2
      repeat (go_quiet (fail); try go_wp2)
      go_meet
      case rel => exact ⟨_, (false), v12_, H', ⟨by have := HK1.out; first | omega | exact Nat.le_refl _⟩, ⟨v6_⟩, ⟨v9_⟩⟩
    case rest => as_aux_lemma =>
     clear HC10
     try clear c1
     try clear p2
     try clear c3
     try clear c11
     try clear c11b0
     try clear c13
     try clear hcz12_0
     try clear hcz12_1
     try clear hcz13_0
     try clear hcz13_1
     try clear hcz5_0
     try clear hcz5_1
     try clear hcz8_0
     try clear hcz8_1
     try clear hfz12_0
     try clear hfz12_1
     try clear hfz13_0
     try clear hfz13_1
     try clear hfz5_0
     try clear hfz5_1
     try clear hfz8_0
     try clear hfz8_1
     try clear p2
     obtain ⟨kq, x35_9, rfl, HA, HJ9, BK101, HB⟩ := hcut
     cases kq with
     | zero => exact absurd HA.out (by simp [q3.j1])
     | succ kj9 =>
      have H := HA.out
      clear HA
      simp only [q3.j1] at H
      by_cases c14 : x35_9 = true
      ·subst c14
       have H1 : (if 0 ≤ x3_1 then (if x3_1 < (l0_0.length : Int) then ((q32.f kj9 ((rd_T42 l0_0 x3_1).f0) ((rd_T42 l0_0 x3_1).f1)).bind fun bt106 => ((q4.f bt106.2.2).bind fun t112 => (if t112 = 0 then ((q25.f kj9 ((rd_T42 l0_0 x3_1).f0) ((rd_T42 l0_0 x3_1).f1)).bind fun bt113 => ((q25.f kj9 bt106.1 bt106.2.1).bind fun bt117 => ((q29.f kj9 ((rd_T42 l0_0 x3_1).f0) ((rd_T42 l0_0 x3_1).f1)).bind fun bt121 => ((q4.f bt113.2).bind fun t125 => (if t125 = 0 then ((q4.f bt117.2).bind fun t126 => (if t126 = 0 then ((q4.f bt121.2).bind fun t127 => (if t127 = 0 then ((q5.f kj9 bt113.1 bt117.1).bind fun t128 => (if t128 = true then (q3.j2 kj9 x3_1 bt113.1 bt121.1 ((bt113.1.length : Int) != ((rd_T42 l0_0 x3_1).f0)) l0_0 l0_1 ((rd_T42 l0_0 x3_1).f0) ((rd_T42 l0_0 x3_1).f1) bt106.1 bt106.2.1) else (q3.j2 kj9 x3_1 bt113.1 bt121.1 true l0_0 l0_1 ((rd_T42 l0_0 x3_1).f0) ((rd_T42 l0_0 x3_1).f1) bt106.1 bt106.2.1))) else (q3.j2 kj9 x3_1 bt113.1 bt121.1 true l0_0 l0_1 ((rd_T42 l0_0 x3_1).f0) ((rd_T42 l0_0 x3_1).f1) bt106.1 bt106.2.1))) else (q3.j2 kj9 x3_1 bt113.1 bt121.1 true l0_0 l0_1 ((rd_T42 l0_0 x3_1).f0) ((rd_T42 l0_0 x3_1).f1) bt106.1 bt106.2.1))) else (q3.j2 kj9 x3_1 bt113.1 bt121.1 true l0_0 l0_1 ((rd_T42 l0_0 x3_1).f0) ((rd_T42 l0_0 x3_1).f1) bt106.1 bt106.2.1)))))) else (q3.l0 kj9 (wrap64 (x3_1 + 1)) l0_0 l0_1)))) else (none)) else (none)) = some r := by rw [if_pos rfl] at H; exact H
       clear H
       have H := H1
       clear H1
       by_cases c15 : 0 ≤ x3_1
       ·rw [if_pos c15] at H
        have c15b0 : decide (0 ≤ x3_1) = true := decide_eq_true c15
        clear c15
        by_cases c16 : x3_1 < (l0_0.length : Int)
        ·rw [if_pos c16] at H
         have c16b0 : decide (x3_1 < (l0_0.length : Int)) = true := decide_eq_true c16
         clear c16
         replace H := Option.bind_eq_some_iff.mp H
         obtain ⟨⟨t106, t107, t110⟩, A170, H⟩ := H
         replace H : ((q4.f t110).bind fun t112 => (if t112 = 0 then ((q25.f kj9 ((rd_T42 l0_0 x3_1).f0) ((rd_T42 l0_0 x3_1).f1)).bind fun bt113 => ((q25.f kj9 t106 t107).bind fun bt117 => ((q29.f kj9 ((rd_T42 l0_0 x3_1).f0) ((rd_T42 l0_0 x3_1).f1)).bind fun bt121 => ((q4.f bt113.2).bind fun t125 => (if t125 = 0 then ((q4.f bt117.2).bind fun t126 => (if t126 = 0 then ((q4.f bt121.2).bind fun t127 => (if t127 = 0 then ((q5.f kj9 bt113.1 bt117.1).bind fun t128 => (if t128 = true then (q3.j2 kj9 x3_1 bt113.1 bt121.1 ((bt113.1.length : Int) != ((rd_T42 l0_0 x3_1).f0)) l0_0 l0_1 ((rd_T42 l0_0 x3_1).f0) ((rd_T42 l0_0 x3_1).f1) t106 t107) else (q3.j2 kj9 x3_1 bt113.1 bt121.1 true l0_0 l0_1 ((rd_T42 l0_0 x3_1).f0) ((rd_T42 l0_0 x3_1).f1) t106 t107))) else (q3.j2 kj9 x3_1 bt113.1 bt121.1 true l0_0 l0_1 ((rd_T42 l0_0 x3_1).f0) ((rd_T42 l0_0 x3_1).f1) t106 t107))) else (q3.j2 kj9 x3_1 bt113.1 bt121.1 true l0_0 l0_1 ((rd_T42 l0_0 x3_1).f0) ((rd_T42 l0_0 x3_1).f1) t106 t107))) else (q3.j2 kj9 x3_1 bt113.1 bt121.1 true l0_0 l0_1 ((rd_T42 l0_0 x3_1).f0) ((rd_T42 l0_0 x3_1).f1) t106 t107)))))) else (q3.l0 kj9 (wrap64 (x3_1 + 1)) l0_0 l0_1))) = some r := H
         have A17 := Aside0.mk A170
         clear A170
         replace H := Option.bind_eq_some_iff.mp H
         obtain ⟨t112, A180, H⟩ := H
         replace H : (if t112 = 0 then ((q25.f kj9 ((rd_T42 l0_0 x3_1).f0) ((rd_T42 l0_0 x3_1).f1)).bind fun bt113 => ((q25.f kj9 t106 t107).bind fun bt117 => ((q29.f kj9 ((rd_T42 l0_0 x3_1).f0) ((rd_T42 l0_0 x3_1).f1)).bind fun bt121 => ((q4.f bt113.2).bind fun t125 => (if t125 = 0 then ((q4.f bt117.2).bind fun t126 => (if t126 = 0 then ((q4.f bt121.2).bind fun t127 => (if t127 = 0 then ((q5.f kj9 bt113.1 bt117.1).bind fun t128 => (if t128 = true then (q3.j2 kj9 x3_1 bt113.1 bt121.1 ((bt113.1.length : Int) != ((rd_T42 l0_0 x3_1).f0)) l0_0 l0_1 ((rd_T42 l0_0 x3_1).f0) ((rd_T42 l0_0 x3_1).f1) t106 t107) else (q3.j2 kj9 x3_1 bt113.1 bt121.1 true l0_0 l0_1 ((rd_T42 l0_0 x3_1).f0) ((rd_T42 l0_0 x3_1).f1) t106 t107))) else (q3.j2 kj9 x3_1 bt113.1 bt121.1 true l0_0 l0_1 ((rd_T42 l0_0 x3_1).f0) ((rd_T42 l0_0 x3_1).f1) t106 t107))) else (q3.j2 kj9 x3_1 bt113.1 bt121.1 true l0_0 l0_1 ((rd_T42 l0_0 x3_1).f0) ((rd_T42 l0_0 x3_1).f1) t106 t107))) else (q3.j2 kj9 x3_1 bt113.1 bt121.1 true l0_0 l0_1 ((rd_T42 l0_0 x3_1).f0) ((rd_T42 l0_0 x3_1).f1) t106 t107)))))) else (q3.l0 kj9 (wrap64 (x3_1 + 1)) l0_0 l0_1)) = some r := H
         have A18 := Aside0.mk A180
         clear A180
         by_cases c19 : t112 = 0
         ·rw [if_pos c19] at H
          have c19b0 : (t112 == 0) = true := beq_iff_eq.mpr c19
          have c19b1 : (t112 != 0) = false := bne_eq_false_iff_eq.mpr c19
          clear c19
          replace H := Option.bind_eq_some_iff.mp H
          obtain ⟨⟨t113, t116⟩, A200, H⟩ := H
          replace H : ((q25.f kj9 t106 t107).bind fun bt117 => ((q29.f kj9 ((rd_T42 l0_0 x3_1).f0) ((rd_T42 l0_0 x3_1).f1)).bind fun bt121 => ((q4.f t116).bind fun t125 => (if t125 = 0 then ((q4.f bt117.2).bind fun t126 => (if t126 = 0 then ((q4.f bt121.2).bind fun t127 => (if t127 = 0 then ((q5.f kj9 t113 bt117.1).bind fun t128 => (if t128 = true then (q3.j2 kj9 x3_1 t113 bt121.1 ((t113.length : Int) != ((rd_T42 l0_0 x3_1).f0)) l0_0 l0_1 ((rd_T42 l0_0 x3_1).f0) ((rd_T42 l0_0 x3_1).f1) t106 t107) else (q3.j2 kj9 x3_1 t113 bt121.1 true l0_0 l0_1 ((rd_T42 l0_0 x3_1).f0) ((rd_T42 l0_0 x3_1).f1) t106 t107))) else (q3.j2 kj9 x3_1 t113 bt121.1 true l0_0 l0_1 ((rd_T42 l0_0 x3_1).f0) ((rd_T42 l0_0 x3_1).f1) t106 t107))) else (q3.j2 kj9 x3_1 t113 bt121.1 true l0_0 l0_1 ((rd_T42 l0_0 x3_1).f0) ((rd_T42 l0_0 x3_1).f1) t106 t107))) else (q3.j2 kj9 x3_1 t113 bt121.1 true l0_0 l0_1 ((rd_T42 l0_0 x3_1).f0) ((rd_T42 l0_0 x3_1).f1) t106 t107))))) = some r := H
          have A20 := Aside0.mk A200
          clear A200
          replace H := Option.bind_eq_some_iff.mp H
          obtain ⟨⟨t117, t120⟩, A210, H⟩ := H
          replace H : ((q29.f kj9 ((rd_T42 l0_0 x3_1).f0) ((rd_T42 l0_0 x3_1).f1)).bind fun bt121 => ((q4.f t116).bind fun t125 => (if t125 = 0 then ((q4.f t120).bind fun t126 => (if t126 = 0 then ((q4.f bt121.2).bind fun t127 => (if t127 = 0 then ((q5.f kj9 t113 t117).bind fun t128 => (if t128 = true then (q3.j2 kj9 x3_1 t113 bt121.1 ((t113.length : Int) != ((rd_T42 l0_0 x3_1).f0)) l0_0 l0_1 ((rd_T42 l0_0 x3_1).f0) ((rd_T42 l0_0 x3_1).f1) t106 t107) else (q3.j2 kj9 x3_1 t113 bt121.1 true l0_0 l0_1 ((rd_T42 l0_0 x3_1).f0) ((rd_T42 l0_0 x3_1).f1) t106 t107))) else (q3.j2 kj9 x3_1 t113 bt121.1 true l0_0 l0_1 ((rd_T42 l0_0 x3_1).f0) ((rd_T42 l0_0 x3_1).f1) t106 t107))) else (q3.j2 kj9 x3_1 t113 bt121.1 true l0_0 l0_1 ((rd_T42 l0_0 x3_1).f0) ((rd_T42 l0_0 x3_1).f1) t106 t107))) else (q3.j2 kj9 x3_1 t113 bt121.1 true l0_0 l0_1 ((rd_T42 l0_0 x3_1).f0) ((rd_T42 l0_0 x3_1).f1) t106 t107)))) = some r := H
          have A21 := Aside0.mk A210
          clear A210
          replace H := Option.bind_eq_some_iff.mp H
          obtain ⟨⟨t121, t124⟩, A220, H⟩ := H
          replace H : ((q4.f t116).bind fun t125 => (if t125 = 0 then ((q4.f t120).bind fun t126 => (if t126 = 0 then ((q4.f t124).bind fun t127 => (if t127 = 0 then ((q5.f kj9 t113 t117).bind fun t128 => (if t128 = true then (q3.j2 kj9 x3_1 t113 t121 ((t113.length : Int) != ((rd_T42 l0_0 x3_1).f0)) l0_0 l0_1 ((rd_T42 l0_0 x3_1).f0) ((rd_T42 l0_0 x3_1).f1) t106 t107) else (q3.j2 kj9 x3_1 t113 t121 true l0_0 l0_1 ((rd_T42 l0_0 x3_1).f0) ((rd_T42 l0_0 x3_1).f1) t106 t107))) else (q3.j2 kj9 x3_1 t113 t121 true l0_0 l0_1 ((rd_T42 l0_0 x3_1).f0) ((rd_T42 l0_0 x3_1).f1) t106 t107))) else (q3.j2 kj9 x3_1 t113 t121 true l0_0 l0_1 ((rd_T42 l0_0 x3_1).f0) ((rd_T42 l0_0 x3_1).f1) t106 t107))) else (q3.j2 kj9 x3_1 t113 t121 true l0_0 l0_1 ((rd_T42 l0_0 x3_1).f0) ((rd_T42 l0_0 x3_1).f1) t106 t107))) = some r := H
          have A22 := Aside0.mk A220
          clear A220
          have HC23 := Aside0.mk H
          clear H
          have hcz24_0 : wc.cell? ⟨gb101, 0, none⟩ = some (.slice A0_0 l0_0.length c0_0) := (blk_cell BK101.out 0).trans rfl
          have hcz24_1 : wc.cell? ⟨gb101, 1, none⟩ = some (.slice A0_1 l0_1.length c0_1) := (blk_cell BK101.out 1).trans rfl
          have hfz24_0 := blk_frozen BK101.out 0
          have hfz24_1 := blk_frozen BK101.out 1
          have p104 : 0 ≤ (x3_1 : Int) := of_decide_eq_true v3_
          have q104 : x3_1 < (l0_0.length : Int) := of_decide_eq_true v3_
          obtain ⟨ad104, A104_1, c104_1, e104, hx104_0, hx104_1, hl104_1, hi104_1⟩ := at_T42 HR0_0.out x3_1 p104 q104
          cases e104
          replace hx104_0 := (HB.out.cell (World.block_lt_of_cell? w _ hx104_0)).trans hx104_0
          replace hx104_1 := (HB.out.cell (World.block_lt_of_cell? w _ hx104_1)).trans hx104_1
          have HR104_1 := Aside0.mk hi104_1
          have HC104_1 := Aside0.mk hl104_1
          clear hi104_1 hl104_1
          replace p104 := eq_true p104
          replace q104 := eq_true q104
          go_upto_region 12 with (first | ((with_reducible refine gate_dst (N := 4) rfl ?_); (try (refine gate_guard (by rfl) ?_; dsimp only)); refine box_event ?hg (N := 4) ?hd (cs := #[.int .i64 0, .slice none 0 0]) (t := 42) ?hr ?_; (case hd => rfl); (case hg => rfl); (case hr => first | (go_simp; done) | (go_simp; rfl)); intro gb105 hg w25 hbox hb; have n0_ := Aside0.mk (blk_below (g := gb101) (o := .cells #[.slice (some ad104) l0_0.length c0_0, .slice A0_1 l0_1.length c0_1] 37 (0, 0)) v2_ hb); have n1_ := Aside0.mk (below_step v0_ hb); have n2_ := Aside0.mk (hbox); have n3_ := Aside0.mk (v47_); have n4_ := Aside0.mk (v47_); have n5_ := Aside0.mk (v32_); have n6_ := Aside0.mk (v34_); clear BK101; clear HB; have BK101 := n0_; have HB := n1_; have BK105 := n2_; have GW105 := n3_; have GE105 := n4_; have NB101_105 := n5_; have NB105_101 := n6_; clear n0_ n1_ n2_ n3_ n4_ n5_ n6_; clear hb hbox hg; have hnb26 := NB105_101.out; have hnc26 := NB101_105.out; have hcz27_0 : w25.cell? ⟨gb105, 0, none⟩ = some (.int .i64 0) := (blk_cell BK105.out 0).trans rfl; have hcz27_1 : w25.cell? ⟨gb105, 1, none⟩ = some (.slice none 0 0) := (blk_cell BK105.out 1).trans rfl; have hfz27_0 := blk_frozen BK105.out 0; have hfz27_1 := blk_frozen BK105.out 1) | (go_at_call 41; (with_reducible refine (q32.calls kj9 ((rd_T42 l0_0 x3_1).f0) _ _ ((rd_T42 l0_0 x3_1).f1) t106 t107 t110 _ ?side1 ?side2 A17.out).mono ?_); (case side1 => exact Kd.C_below HR104_1.out v5_); (case side2 => exact HC104_1.out); rintro e w28 ⟨v108, rfl, ho0, hb⟩; have n0_ := Aside0.mk (Kd.S_lower ho0 (below_size v5_)); have n1_ := Aside0.mk (blk_below (g := gb101) (o := .cells #[.slice (some ad104) l0_0.length c0_0, .slice A0_1 l0_1.length c0_1] 37 (0, 0)) v16_ hb); have n2_ := Aside0.mk (blk_below (g := gb105) (o := .cells #[.int .i64 ((rd_T42 l0_0 x3_1).f0), .slice A104_1 ((rd_T42 l0_0 x3_1).f1).length c104_1] 42 (0, 0)) v15_ hb); have n3_ := Aside0.mk (below_step v5_ hb); clear BK101; clear BK105; clear HB; have HO109 := n0_; have BK101 := n1_; have BK105 := n2_; have HB := n3_; clear n0_ n1_ n2_ n3_; (try clear hb); (try clear hb2); (try clear hk); (try clear hi); (try clear ho0)) | ((with_reducible refine gate_dst (N := 5) rfl ?_); (try (refine gate_guard (by rfl) ?_; dsimp only)); refine box_event ?hg (N := 5) ?hd (cs := #[.int .i64 0, .slice none 0 0]) (t := 42) ?hr ?_; (case hd => rfl); (case hg => rfl); (case hr => first | (go_simp; done) | (go_simp; rfl)); intro gb111 hg w29 hbox hb; have n0_ := Aside0.mk (Kd.S_below v21_ hb); have n1_ := Aside0.mk (blk_below (g := gb101) (o := .cells #[.slice (some ad104) l0_0.length c0_0, .slice A0_1 l0_1.length c0_1] 37 (0, 0)) v2_ hb); have n2_ := Aside0.mk (blk_below (g := gb105) (o := .cells #[.int .i64 ((rd_T42 l0_0 x3_1).f0), .slice A104_1 ((rd_T42 l0_0 x3_1).f1).length c104_1] 42 (0, 0)) v11_ hb); have n3_ := Aside0.mk (below_step v5_ hb); have n4_ := Aside0.mk (hbox); have n5_ := Aside0.mk (v46_); have n6_ := Aside0.mk (v46_); have n7_ := Aside0.mk (v31_); have n8_ := Aside0.mk (v33_); have n9_ := Aside0.mk (v27_); have n10_ := Aside0.mk (v28_); clear HO109; clear BK101; clear BK105; clear HB; have HO109 := n0_; have BK101 := n1_; have BK105 := n2_; have HB := n3_; have BK111 := n4_; have GW111 := n5_; have GE111 := n6_; have NB101_111 := n7_; have NB111_101 := n8_; have NB105_111 := n9_; have NB111_105 := n10_; clear n0_ n1_ n2_ n3_ n4_ n5_ n6_ n7_ n8_ n9_ n10_; clear hb hbox hg; have hnb30 := NB111_101.out; have hnc30 := NB101_111.out; have hnb31 := NB111_105.out; have hnc31 := NB105_111.out; have hcz32_0 : w29.cell? ⟨gb111, 0, none⟩ = some (.int .i64 0) := (blk_cell BK111.out 0).trans rfl; have hcz32_1 : w29.cell? ⟨gb111, 1, none⟩ = some (.slice none 0 0) := (blk_cell BK111.out 1).trans rfl; have hfz32_0 := blk_frozen BK111.out 0; have hfz32_1 := blk_frozen BK111.out 1; obtain ⟨Ao33, co33, eo33⟩ := Kd.S_slice HO109.out; subst eo33) | (go_at_call 30; (with_reducible refine (q4.calls t110 t112 _ A18.out).mono ?_); rintro e w' ⟨rfl, ⟨nd, rfl⟩⟩; (try first | exact ⟨rfl, _, World.drewN_drewN _ _ _⟩ | exact ⟨rfl, _, Eq.trans (World.drewN_drewN _ _ _) (congrArg (World.drewN _) (Nat.add_assoc _ _ _))⟩); have hcz34_0 : w29.cell? ⟨gb105, 0, none⟩ = some (.int .i64 ((rd_T42 l0_0 x3_1).f0)) := (blk_cell BK105.out 0).trans rfl; have hcz34_1 : w29.cell? ⟨gb105, 1, none⟩ = some (.slice A104_1 ((rd_T42 l0_0 x3_1).f1).length c104_1) := (blk_cell BK105.out 1).trans rfl; have hfz34_0 := blk_frozen BK105.out 0; have hfz34_1 := blk_frozen BK105.out 1) | (go_at_call 36; (with_reducible refine (q25.calls kj9 ((rd_T42 l0_0 x3_1).f0) _ _ ((rd_T42 l0_0 x3_1).f1) t113 t116 _ ?side1 ?side2 A20.out).mono ?_); (case side1 => exact Kd.C_below HR104_1.out v4_); (case side2 => exact HC104_1.out); rintro e w35 ⟨v114, rfl, ho0, hb⟩; have n0_ := Aside0.mk (Kd.S_elder' v41_ (Kd.R_base ho0) hb); have n1_ := Aside0.mk (Kd.R_lower ho0 (below_size v4_)); have n2_ := Aside0.mk (blk_below (g := gb101) (o := .cells #[.slice (some ad104) l0_0.length c0_0, .slice A0_1 l0_1.length c0_1] 37 (0, 0)) v36_ hb); have n3_ := Aside0.mk (blk_below (g := gb105) (o := .cells #[.int .i64 ((rd_T42 l0_0 x3_1).f0), .slice A104_1 ((rd_T42 l0_0 x3_1).f1).length c104_1] 42 (0, 0)) v35_ hb); have n4_ := Aside0.mk (blk_below (g := gb111) (o := .cells #[.int .i64 t106, .slice Ao33 t107.length co33] 42 (0, 0)) v29_ hb); have n5_ := Aside0.mk (below_step v4_ hb); clear HO109; clear BK101; clear BK105; clear BK111; clear HB; have HO109 := n0_; have HO115 := n1_; have BK101 := n2_; have BK105 := n3_; have BK111 := n4_; have HB := n5_; clear n0_ n1_ n2_ n3_ n4_ n5_; (try clear hb); (try clear hb2); (try clear hk); (try clear hi); (try clear ho0); have hcz36_0 : w35.cell? ⟨gb111, 0, none⟩ = some (.int .i64 t106) := (blk_cell BK111.out 0).trans rfl; have hcz36_1 : w35.cell? ⟨gb111, 1, none⟩ = some (.slice Ao33 t107.length co33) := (blk_cell BK111.out 1).trans rfl; have hfz36_0 := blk_frozen BK111.out 0; have hfz36_1 := blk_frozen BK111.out 1) | (go_at_call 36; (with_reducible refine (q25.calls kj9 t106 _ _ t107 t117 t120 _ ?side1 ?side2 A21.out).mono ?_); (case side1 => repeat (first | exact (Kd.S_reads' HO109.out).2.2 | (with_reducible refine Kd.C_alloc ?_ _) | (with_reducible refine Kd.C_drewN ?_ _) | (with_reducible refine Kd.C_drew ?_))); (case side2 => exact (Kd.S_reads' HO109.out).2.1); rintro e w37 ⟨v118, rfl, ho0, hb⟩; have n0_ := Aside0.mk (Kd.S_elder' v21_ (Kd.R_base ho0) hb); have n1_ := Aside0.mk (Kd.R_elder' v23_ (Kd.R_base ho0) hb); have n2_ := Aside0.mk (Kd.R_lower (Kd.R_new' ho0 (Kd.R_lt v23_)) (below_size v4_)); have n3_ := Aside0.mk (blk_below (g := gb101) (o := .cells #[.slice (some ad104) l0_0.length c0_0, .slice A0_1 l0_1.length c0_1] 37 (0, 0)) v2_ hb); have n4_ := Aside0.mk (blk_below (g := gb105) (o := .cells #[.int .i64 ((rd_T42 l0_0 x3_1).f0), .slice A104_1 ((rd_T42 l0_0 x3_1).f1).length c104_1] 42 (0, 0)) v11_ hb); have n5_ := Aside0.mk (blk_below (g := gb111) (o := .cells #[.int .i64 t106, .slice Ao33 t107.length co33] 42 (0, 0)) v18_ hb); have n6_ := Aside0.mk (below_step v4_ hb); clear HO109; clear HO115; clear BK101; clear BK105; clear BK111; clear HB; have HO109 := n0_; have HO115 := n1_; have HO119 := n2_; have BK101 := n3_; have BK105 := n4_; have BK111 := n5_; have HB := n6_; clear n0_ n1_ n2_ n3_ n4_ n5_ n6_; (try clear hb); (try clear hb2); (try clear hk); (try clear hi); (try clear ho0); have hcz38_0 : w37.cell? ⟨gb105, 0, none⟩ = some (.int .i64 ((rd_T42 l0_0 x3_1).f0)) := (blk_cell BK105.out 0).trans rfl; have hcz38_1 : w37.cell? ⟨gb105, 1, none⟩ = some (.slice A104_1 ((rd_T42 l0_0 x3_1).f1).length c104_1) := (blk_cell BK105.out 1).trans rfl; have hfz38_0 := blk_frozen BK105.out 0; have hfz38_1 := blk_frozen BK105.out 1) | (go_at_call 34; (with_reducible refine (q29.calls kj9 ((rd_T42 l0_0 x3_1).f0) _ _ ((rd_T42 l0_0 x3_1).f1) t121 t124 _ ?side1 ?side2 A22.out).mono ?_); (case side1 => repeat (first | exact (Kd.C_below HR104_1.out HB.out) | (with_reducible refine Kd.C_alloc ?_ _) | (with_reducible refine Kd.C_drewN ?_ _) | (with_reducible refine Kd.C_drew ?_))); (case side2 => exact HC104_1.out); rintro e w39 ⟨v122, rfl, ho0, hb⟩; have n0_ := Aside0.mk (Kd.S_elder' v21_ (Kd.R_base ho0) hb); have n1_ := Aside0.mk (Kd.R_elder' v23_ (Kd.R_base ho0) hb); have n2_ := Aside0.mk (Kd.R_elder' v53_ (Kd.R_base ho0) hb); have n3_ := Aside0.mk (Kd.R_lower (Kd.R_new' (Kd.R_new' ho0 (Kd.R_lt v23_)) (Kd.R_lt v53_)) (below_size v4_)); have n4_ := Aside0.mk (blk_below (g := gb101) (o := .cells #[.slice (some ad104) l0_0.length c0_0, .slice A0_1 l0_1.length c0_1] 37 (0, 0)) v2_ hb); have n5_ := Aside0.mk (blk_below (g := gb105) (o := .cells #[.int .i64 ((rd_T42 l0_0 x3_1).f0), .slice A104_1 ((rd_T42 l0_0 x3_1).f1).length c104_1] 42 (0, 0)) v11_ hb); have n6_ := Aside0.mk (blk_below (g := gb111) (o := .cells #[.int .i64 t106, .slice Ao33 t107.length co33] 42 (0, 0)) v18_ hb); have n7_ := Aside0.mk (below_step v4_ hb); clear HO109; clear HO115; clear HO119; clear BK101; clear BK105; clear BK111; clear HB; have HO109 := n0_; have HO115 := n1_; have HO119 := n2_; have HO123 := n3_; have BK101 := n4_; have BK105 := n5_; have BK111 := n6_; have HB := n7_; clear n0_ n1_ n2_ n3_ n4_ n5_ n6_ n7_; (try clear hb); (try clear hb2); (try clear hk); (try clear hi); (try clear ho0)))
          repeat (go_quiet (first | ((with_reducible refine gate_dst (N := 4) rfl ?_); (try (refine gate_guard (by rfl) ?_; dsimp only)); refine box_event ?hg (N := 4) ?hd (cs := #[.int .i64 0, .slice none 0 0]) (t := 42) ?hr ?_; (case hd => rfl); (case hg => rfl); (case hr => first | (go_simp; done) | (go_simp; rfl)); intro gb105 hg w25 hbox hb; have n0_ := Aside0.mk (blk_below (g := gb101) (o := .cells #[.slice (some ad104) l0_0.length c0_0, .slice A0_1 l0_1.length c0_1] 37 (0, 0)) v2_ hb); have n1_ := Aside0.mk (below_step v0_ hb); have n2_ := Aside0.mk (hbox); have n3_ := Aside0.mk (v47_); have n4_ := Aside0.mk (v47_); have n5_ := Aside0.mk (v32_); have n6_ := Aside0.mk (v34_); clear BK101; clear HB; have BK101 := n0_; have HB := n1_; have BK105 := n2_; have GW105 := n3_; have GE105 := n4_; have NB101_105 := n5_; have NB105_101 := n6_; clear n0_ n1_ n2_ n3_ n4_ n5_ n6_; clear hb hbox hg; have hnb26 := NB105_101.out; have hnc26 := NB101_105.out; have hcz27_0 : w25.cell? ⟨gb105, 0, none⟩ = some (.int .i64 0) := (blk_cell BK105.out 0).trans rfl; have hcz27_1 : w25.cell? ⟨gb105, 1, none⟩ = some (.slice none 0 0) := (blk_cell BK105.out 1).trans rfl; have hfz27_0 := blk_frozen BK105.out 0; have hfz27_1 := blk_frozen BK105.out 1) | (go_at_call 41; (with_reducible refine (q32.calls kj9 ((rd_T42 l0_0 x3_1).f0) _ _ ((rd_T42 l0_0 x3_1).f1) t106 t107 t110 _ ?side1 ?side2 A17.out).mono ?_); (case side1 => exact Kd.C_below HR104_1.out v5_); (case side2 => exact HC104_1.out); rintro e w28 ⟨v108, rfl, ho0, hb⟩; have n0_ := Aside0.mk (Kd.S_lower ho0 (below_size v5_)); have n1_ := Aside0.mk (blk_below (g := gb101) (o := .cells #[.slice (some ad104) l0_0.length c0_0, .slice A0_1 l0_1.length c0_1] 37 (0, 0)) v16_ hb); have n2_ := Aside0.mk (blk_below (g := gb105) (o := .cells #[.int .i64 ((rd_T42 l0_0 x3_1).f0), .slice A104_1 ((rd_T42 l0_0 x3_1).f1).length c104_1] 42 (0, 0)) v15_ hb); have n3_ := Aside0.mk (below_step v5_ hb); clear BK101; clear BK105; clear HB; have HO109 := n0_; have BK101 := n1_; have BK105 := n2_; have HB := n3_; clear n0_ n1_ n2_ n3_; (try clear hb); (try clear hb2); (try clear hk); (try clear hi); (try clear ho0)) | ((with_reducible refine gate_dst (N := 5) rfl ?_); (try (refine gate_guard (by rfl) ?_; dsimp only)); refine box_event ?hg (N := 5) ?hd (cs := #[.int .i64 0, .slice none 0 0]) (t := 42) ?hr ?_; (case hd => rfl); (case hg => rfl); (case hr => first | (go_simp; done) | (go_simp; rfl)); intro gb111 hg w29 hbox hb; have n0_ := Aside0.mk (Kd.S_below v21_ hb); have n1_ := Aside0.mk (blk_below (g := gb101) (o := .cells #[.slice (some ad104) l0_0.length c0_0, .slice A0_1 l0_1.length c0_1] 37 (0, 0)) v2_ hb); have n2_ := Aside0.mk (blk_below (g := gb105) (o := .cells #[.int .i64 ((rd_T42 l0_0 x3_1).f0), .slice A104_1 ((rd_T42 l0_0 x3_1).f1).length c104_1] 42 (0, 0)) v11_ hb); have n3_ := Aside0.mk (below_step v5_ hb); have n4_ := Aside0.mk (hbox); have n5_ := Aside0.mk (v46_); have n6_ := Aside0.mk (v46_); have n7_ := Aside0.mk (v31_); have n8_ := Aside0.mk (v33_); have n9_ := Aside0.mk (v27_); have n10_ := Aside0.mk (v28_); clear HO109; clear BK101; clear BK105; clear HB; have HO109 := n0_; have BK101 := n1_; have BK105 := n2_; have HB := n3_; have BK111 := n4_; have GW111 := n5_; have GE111 := n6_; have NB101_111 := n7_; have NB111_101 := n8_; have NB105_111 := n9_; have NB111_105 := n10_; clear n0_ n1_ n2_ n3_ n4_ n5_ n6_ n7_ n8_ n9_ n10_; clear hb hbox hg; have hnb30 := NB111_101.out; have hnc30 := NB101_111.out; have hnb31 := NB111_105.out; have hnc31 := NB105_111.out; have hcz32_0 : w29.cell? ⟨gb111, 0, none⟩ = some (.int .i64 0) := (blk_cell BK111.out 0).trans rfl; have hcz32_1 : w29.cell? ⟨gb111, 1, none⟩ = some (.slice none 0 0) := (blk_cell BK111.out 1).trans rfl; have hfz32_0 := blk_frozen BK111.out 0; have hfz32_1 := blk_frozen BK111.out 1; obtain ⟨Ao33, co33, eo33⟩ := Kd.S_slice HO109.out; subst eo33) | (go_at_call 30; (with_reducible refine (q4.calls t110 t112 _ A18.out).mono ?_); rintro e w' ⟨rfl, ⟨nd, rfl⟩⟩; (try first | exact ⟨rfl, _, World.drewN_drewN _ _ _⟩ | exact ⟨rfl, _, Eq.trans (World.drewN_drewN _ _ _) (congrArg (World.drewN _) (Nat.add_assoc _ _ _))⟩); have hcz34_0 : w29.cell? ⟨gb105, 0, none⟩ = some (.int .i64 ((rd_T42 l0_0 x3_1).f0)) := (blk_cell BK105.out 0).trans rfl; have hcz34_1 : w29.cell? ⟨gb105, 1, none⟩ = some (.slice A104_1 ((rd_T42 l0_0 x3_1).f1).length c104_1) := (blk_cell BK105.out 1).trans rfl; have hfz34_0 := blk_frozen BK105.out 0; have hfz34_1 := blk_frozen BK105.out 1) | (go_at_call 36; (with_reducible refine (q25.calls kj9 ((rd_T42 l0_0 x3_1).f0) _ _ ((rd_T42 l0_0 x3_1).f1) t113 t116 _ ?side1 ?side2 A20.out).mono ?_); (case side1 => exact Kd.C_below HR104_1.out v4_); (case side2 => exact HC104_1.out); rintro e w35 ⟨v114, rfl, ho0, hb⟩; have n0_ := Aside0.mk (Kd.S_elder' v41_ (Kd.R_base ho0) hb); have n1_ := Aside0.mk (Kd.R_lower ho0 (below_size v4_)); have n2_ := Aside0.mk (blk_below (g := gb101) (o := .cells #[.slice (some ad104) l0_0.length c0_0, .slice A0_1 l0_1.length c0_1] 37 (0, 0)) v36_ hb); have n3_ := Aside0.mk (blk_below (g := gb105) (o := .cells #[.int .i64 ((rd_T42 l0_0 x3_1).f0), .slice A104_1 ((rd_T42 l0_0 x3_1).f1).length c104_1] 42 (0, 0)) v35_ hb); have n4_ := Aside0.mk (blk_below (g := gb111) (o := .cells #[.int .i64 t106, .slice Ao33 t107.length co33] 42 (0, 0)) v29_ hb); have n5_ := Aside0.mk (below_step v4_ hb); clear HO109; clear BK101; clear BK105; clear BK111; clear HB; have HO109 := n0_; have HO115 := n1_; have BK101 := n2_; have BK105 := n3_; have BK111 := n4_; have HB := n5_; clear n0_ n1_ n2_ n3_ n4_ n5_; (try clear hb); (try clear hb2); (try clear hk); (try clear hi); (try clear ho0); have hcz36_0 : w35.cell? ⟨gb111, 0, none⟩ = some (.int .i64 t106) := (blk_cell BK111.out 0).trans rfl; have hcz36_1 : w35.cell? ⟨gb111, 1, none⟩ = some (.slice Ao33 t107.length co33) := (blk_cell BK111.out 1).trans rfl; have hfz36_0 := blk_frozen BK111.out 0; have hfz36_1 := blk_frozen BK111.out 1) | (go_at_call 36; (with_reducible refine (q25.calls kj9 t106 _ _ t107 t117 t120 _ ?side1 ?side2 A21.out).mono ?_); (case side1 => repeat (first | exact (Kd.S_reads' HO109.out).2.2 | (with_reducible refine Kd.C_alloc ?_ _) | (with_reducible refine Kd.C_drewN ?_ _) | (with_reducible refine Kd.C_drew ?_))); (case side2 => exact (Kd.S_reads' HO109.out).2.1); rintro e w37 ⟨v118, rfl, ho0, hb⟩; have n0_ := Aside0.mk (Kd.S_elder' v21_ (Kd.R_base ho0) hb); have n1_ := Aside0.mk (Kd.R_elder' v23_ (Kd.R_base ho0) hb); have n2_ := Aside0.mk (Kd.R_lower (Kd.R_new' ho0 (Kd.R_lt v23_)) (below_size v4_)); have n3_ := Aside0.mk (blk_below (g := gb101) (o := .cells #[.slice (some ad104) l0_0.length c0_0, .slice A0_1 l0_1.length c0_1] 37 (0, 0)) v2_ hb); have n4_ := Aside0.mk (blk_below (g := gb105) (o := .cells #[.int .i64 ((rd_T42 l0_0 x3_1).f0), .slice A104_1 ((rd_T42 l0_0 x3_1).f1).length c104_1] 42 (0, 0)) v11_ hb); have n5_ := Aside0.mk (blk_below (g := gb111) (o := .cells #[.int .i64 t106, .slice Ao33 t107.length co33] 42 (0, 0)) v18_ hb); have n6_ := Aside0.mk (below_step v4_ hb); clear HO109; clear HO115; clear BK101; clear BK105; clear BK111; clear HB; have HO109 := n0_; have HO115 := n1_; have HO119 := n2_; have BK101 := n3_; have BK105 := n4_; have BK111 := n5_; have HB := n6_; clear n0_ n1_ n2_ n3_ n4_ n5_ n6_; (try clear hb); (try clear hb2); (try clear hk); (try clear hi); (try clear ho0); have hcz38_0 : w37.cell? ⟨gb105, 0, none⟩ = some (.int .i64 ((rd_T42 l0_0 x3_1).f0)) := (blk_cell BK105.out 0).trans rfl; have hcz38_1 : w37.cell? ⟨gb105, 1, none⟩ = some (.slice A104_1 ((rd_T42 l0_0 x3_1).f1).length c104_1) := (blk_cell BK105.out 1).trans rfl; have hfz38_0 := blk_frozen BK105.out 0; have hfz38_1 := blk_frozen BK105.out 1) | (go_at_call 34; (with_reducible refine (q29.calls kj9 ((rd_T42 l0_0 x3_1).f0) _ _ ((rd_T42 l0_0 x3_1).f1) t121 t124 _ ?side1 ?side2 A22.out).mono ?_); (case side1 => repeat (first | exact (Kd.C_below HR104_1.out HB.out) | (with_reducible refine Kd.C_alloc ?_ _) | (with_reducible refine Kd.C_drewN ?_ _) | (with_reducible refine Kd.C_drew ?_))); (case side2 => exact HC104_1.out); rintro e w39 ⟨v122, rfl, ho0, hb⟩; have n0_ := Aside0.mk (Kd.S_elder' v21_ (Kd.R_base ho0) hb); have n1_ := Aside0.mk (Kd.R_elder' v23_ (Kd.R_base ho0) hb); have n2_ := Aside0.mk (Kd.R_elder' v53_ (Kd.R_base ho0) hb); have n3_ := Aside0.mk (Kd.R_lower (Kd.R_new' (Kd.R_new' ho0 (Kd.R_lt v23_)) (Kd.R_lt v53_)) (below_size v4_)); have n4_ := Aside0.mk (blk_below (g := gb101) (o := .cells #[.slice (some ad104) l0_0.length c0_0, .slice A0_1 l0_1.length c0_1] 37 (0, 0)) v2_ hb); have n5_ := Aside0.mk (blk_below (g := gb105) (o := .cells #[.int .i64 ((rd_T42 l0_0 x3_1).f0), .slice A104_1 ((rd_T42 l0_0 x3_1).f1).length c104_1] 42 (0, 0)) v11_ hb); have n6_ := Aside0.mk (blk_below (g := gb111) (o := .cells #[.int .i64 t106, .slice Ao33 t107.length co33] 42 (0, 0)) v18_ hb); have n7_ := Aside0.mk (below_step v4_ hb); clear HO109; clear HO115; clear HO119; clear BK101; clear BK105; clear BK111; clear HB; have HO109 := n0_; have HO115 := n1_; have HO119 := n2_; have HO123 := n3_; have BK101 := n4_; have BK105 := n5_; have BK111 := n6_; have HB := n7_; clear n0_ n1_ n2_ n3_ n4_ n5_ n6_ n7_; (try clear hb); (try clear hb2); (try clear hk); (try clear hi); (try clear ho0))); go_upto_region 12 with (first | ((with_reducible refine gate_dst (N := 4) rfl ?_); (try (refine gate_guard (by rfl) ?_; dsimp only)); refine box_event ?hg (N := 4) ?hd (cs := #[.int .i64 0, .slice none 0 0]) (t := 42) ?hr ?_; (case hd => rfl); (case hg => rfl); (case hr => first | (go_simp; done) | (go_simp; rfl)); intro gb105 hg w25 hbox hb; have n0_ := Aside0.mk (blk_below (g := gb101) (o := .cells #[.slice (some ad104) l0_0.length c0_0, .slice A0_1 l0_1.length c0_1] 37 (0, 0)) v2_ hb); have n1_ := Aside0.mk (below_step v0_ hb); have n2_ := Aside0.mk (hbox); have n3_ := Aside0.mk (v47_); have n4_ := Aside0.mk (v47_); have n5_ := Aside0.mk (v32_); have n6_ := Aside0.mk (v34_); clear BK101; clear HB; have BK101 := n0_; have HB := n1_; have BK105 := n2_; have GW105 := n3_; have GE105 := n4_; have NB101_105 := n5_; have NB105_101 := n6_; clear n0_ n1_ n2_ n3_ n4_ n5_ n6_; clear hb hbox hg; have hnb26 := NB105_101.out; have hnc26 := NB101_105.out; have hcz27_0 : w25.cell? ⟨gb105, 0, none⟩ = some (.int .i64 0) := (blk_cell BK105.out 0).trans rfl; have hcz27_1 : w25.cell? ⟨gb105, 1, none⟩ = some (.slice none 0 0) := (blk_cell BK105.out 1).trans rfl; have hfz27_0 := blk_frozen BK105.out 0; have hfz27_1 := blk_frozen BK105.out 1) | (go_at_call 41; (with_reducible refine (q32.calls kj9 ((rd_T42 l0_0 x3_1).f0) _ _ ((rd_T42 l0_0 x3_1).f1) t106 t107 t110 _ ?side1 ?side2 A17.out).mono ?_); (case side1 => exact Kd.C_below HR104_1.out v5_); (case side2 => exact HC104_1.out); rintro e w28 ⟨v108, rfl, ho0, hb⟩; have n0_ := Aside0.mk (Kd.S_lower ho0 (below_size v5_)); have n1_ := Aside0.mk (blk_below (g := gb101) (o := .cells #[.slice (some ad104) l0_0.length c0_0, .slice A0_1 l0_1.length c0_1] 37 (0, 0)) v16_ hb); have n2_ := Aside0.mk (blk_below (g := gb105) (o := .cells #[.int .i64 ((rd_T42 l0_0 x3_1).f0), .slice A104_1 ((rd_T42 l0_0 x3_1).f1).length c104_1] 42 (0, 0)) v15_ hb); have n3_ := Aside0.mk (below_step v5_ hb); clear BK101; clear BK105; clear HB; have HO109 := n0_; have BK101 := n1_; have BK105 := n2_; have HB := n3_; clear n0_ n1_ n2_ n3_; (try clear hb); (try clear hb2); (try clear hk); (try clear hi); (try clear ho0)) | ((with_reducible refine gate_dst (N := 5) rfl ?_); (try (refine gate_guard (by rfl) ?_; dsimp only)); refine box_event ?hg (N := 5) ?hd (cs := #[.int .i64 0, .slice none 0 0]) (t := 42) ?hr ?_; (case hd => rfl); (case hg => rfl); (case hr => first | (go_simp; done) | (go_simp; rfl)); intro gb111 hg w29 hbox hb; have n0_ := Aside0.mk (Kd.S_below v21_ hb); have n1_ := Aside0.mk (blk_below (g := gb101) (o := .cells #[.slice (some ad104) l0_0.length c0_0, .slice A0_1 l0_1.length c0_1] 37 (0, 0)) v2_ hb); have n2_ := Aside0.mk (blk_below (g := gb105) (o := .cells #[.int .i64 ((rd_T42 l0_0 x3_1).f0), .slice A104_1 ((rd_T42 l0_0 x3_1).f1).length c104_1] 42 (0, 0)) v11_ hb); have n3_ := Aside0.mk (below_step v5_ hb); have n4_ := Aside0.mk (hbox); have n5_ := Aside0.mk (v46_); have n6_ := Aside0.mk (v46_); have n7_ := Aside0.mk (v31_); have n8_ := Aside0.mk (v33_); have n9_ := Aside0.mk (v27_); have n10_ := Aside0.mk (v28_); clear HO109; clear BK101; clear BK105; clear HB; have HO109 := n0_; have BK101 := n1_; have BK105 := n2_; have HB := n3_; have BK111 := n4_; have GW111 := n5_; have GE111 := n6_; have NB101_111 := n7_; have NB111_101 := n8_; have NB105_111 := n9_; have NB111_105 := n10_; clear n0_ n1_ n2_ n3_ n4_ n5_ n6_ n7_ n8_ n9_ n10_; clear hb hbox hg; have hnb30 := NB111_101.out; have hnc30 := NB101_111.out; have hnb31 := NB111_105.out; have hnc31 := NB105_111.out; have hcz32_0 : w29.cell? ⟨gb111, 0, none⟩ = some (.int .i64 0) := (blk_cell BK111.out 0).trans rfl; have hcz32_1 : w29.cell? ⟨gb111, 1, none⟩ = some (.slice none 0 0) := (blk_cell BK111.out 1).trans rfl; have hfz32_0 := blk_frozen BK111.out 0; have hfz32_1 := blk_frozen BK111.out 1; obtain ⟨Ao33, co33, eo33⟩ := Kd.S_slice HO109.out; subst eo33) | (go_at_call 30; (with_reducible refine (q4.calls t110 t112 _ A18.out).mono ?_); rintro e w' ⟨rfl, ⟨nd, rfl⟩⟩; (try first | exact ⟨rfl, _, World.drewN_drewN _ _ _⟩ | exact ⟨rfl, _, Eq.trans (World.drewN_drewN _ _ _) (congrArg (World.drewN _) (Nat.add_assoc _ _ _))⟩); have hcz34_0 : w29.cell? ⟨gb105, 0, none⟩ = some (.int .i64 ((rd_T42 l0_0 x3_1).f0)) := (blk_cell BK105.out 0).trans rfl; have hcz34_1 : w29.cell? ⟨gb105, 1, none⟩ = some (.slice A104_1 ((rd_T42 l0_0 x3_1).f1).length c104_1) := (blk_cell BK105.out 1).trans rfl; have hfz34_0 := blk_frozen BK105.out 0; have hfz34_1 := blk_frozen BK105.out 1) | (go_at_call 36; (with_reducible refine (q25.calls kj9 ((rd_T42 l0_0 x3_1).f0) _ _ ((rd_T42 l0_0 x3_1).f1) t113 t116 _ ?side1 ?side2 A20.out).mono ?_); (case side1 => exact Kd.C_below HR104_1.out v4_); (case side2 => exact HC104_1.out); rintro e w35 ⟨v114, rfl, ho0, hb⟩; have n0_ := Aside0.mk (Kd.S_elder' v41_ (Kd.R_base ho0) hb); have n1_ := Aside0.mk (Kd.R_lower ho0 (below_size v4_)); have n2_ := Aside0.mk (blk_below (g := gb101) (o := .cells #[.slice (some ad104) l0_0.length c0_0, .slice A0_1 l0_1.length c0_1] 37 (0, 0)) v36_ hb); have n3_ := Aside0.mk (blk_below (g := gb105) (o := .cells #[.int .i64 ((rd_T42 l0_0 x3_1).f0), .slice A104_1 ((rd_T42 l0_0 x3_1).f1).length c104_1] 42 (0, 0)) v35_ hb); have n4_ := Aside0.mk (blk_below (g := gb111) (o := .cells #[.int .i64 t106, .slice Ao33 t107.length co33] 42 (0, 0)) v29_ hb); have n5_ := Aside0.mk (below_step v4_ hb); clear HO109; clear BK101; clear BK105; clear BK111; clear HB; have HO109 := n0_; have HO115 := n1_; have BK101 := n2_; have BK105 := n3_; have BK111 := n4_; have HB := n5_; clear n0_ n1_ n2_ n3_ n4_ n5_; (try clear hb); (try clear hb2); (try clear hk); (try clear hi); (try clear ho0); have hcz36_0 : w35.cell? ⟨gb111, 0, none⟩ = some (.int .i64 t106) := (blk_cell BK111.out 0).trans rfl; have hcz36_1 : w35.cell? ⟨gb111, 1, none⟩ = some (.slice Ao33 t107.length co33) := (blk_cell BK111.out 1).trans rfl; have hfz36_0 := blk_frozen BK111.out 0; have hfz36_1 := blk_frozen BK111.out 1) | (go_at_call 36; (with_reducible refine (q25.calls kj9 t106 _ _ t107 t117 t120 _ ?side1 ?side2 A21.out).mono ?_); (case side1 => repeat (first | exact (Kd.S_reads' HO109.out).2.2 | (with_reducible refine Kd.C_alloc ?_ _) | (with_reducible refine Kd.C_drewN ?_ _) | (with_reducible refine Kd.C_drew ?_))); (case side2 => exact (Kd.S_reads' HO109.out).2.1); rintro e w37 ⟨v118, rfl, ho0, hb⟩; have n0_ := Aside0.mk (Kd.S_elder' v21_ (Kd.R_base ho0) hb); have n1_ := Aside0.mk (Kd.R_elder' v23_ (Kd.R_base ho0) hb); have n2_ := Aside0.mk (Kd.R_lower (Kd.R_new' ho0 (Kd.R_lt v23_)) (below_size v4_)); have n3_ := Aside0.mk (blk_below (g := gb101) (o := .cells #[.slice (some ad104) l0_0.length c0_0, .slice A0_1 l0_1.length c0_1] 37 (0, 0)) v2_ hb); have n4_ := Aside0.mk (blk_below (g := gb105) (o := .cells #[.int .i64 ((rd_T42 l0_0 x3_1).f0), .slice A104_1 ((rd_T42 l0_0 x3_1).f1).length c104_1] 42 (0, 0)) v11_ hb); have n5_ := Aside0.mk (blk_below (g := gb111) (o := .cells #[.int .i64 t106, .slice Ao33 t107.length co33] 42 (0, 0)) v18_ hb); have n6_ := Aside0.mk (below_step v4_ hb); clear HO109; clear HO115; clear BK101; clear BK105; clear BK111; clear HB; have HO109 := n0_; have HO115 := n1_; have HO119 := n2_; have BK101 := n3_; have BK105 := n4_; have BK111 := n5_; have HB := n6_; clear n0_ n1_ n2_ n3_ n4_ n5_ n6_; (try clear hb); (try clear hb2); (try clear hk); (try clear hi); (try clear ho0); have hcz38_0 : w37.cell? ⟨gb105, 0, none⟩ = some (.int .i64 ((rd_T42 l0_0 x3_1).f0)) := (blk_cell BK105.out 0).trans rfl; have hcz38_1 : w37.cell? ⟨gb105, 1, none⟩ = some (.slice A104_1 ((rd_T42 l0_0 x3_1).f1).length c104_1) := (blk_cell BK105.out 1).trans rfl; have hfz38_0 := blk_frozen BK105.out 0; have hfz38_1 := blk_frozen BK105.out 1) | (go_at_call 34; (with_reducible refine (q29.calls kj9 ((rd_T42 l0_0 x3_1).f0) _ _ ((rd_T42 l0_0 x3_1).f1) t121 t124 _ ?side1 ?side2 A22.out).mono ?_); (case side1 => repeat (first | exact (Kd.C_below HR104_1.out HB.out) | (with_reducible refine Kd.C_alloc ?_ _) | (with_reducible refine Kd.C_drewN ?_ _) | (with_reducible refine Kd.C_drew ?_))); (case side2 => exact HC104_1.out); rintro e w39 ⟨v122, rfl, ho0, hb⟩; have n0_ := Aside0.mk (Kd.S_elder' v21_ (Kd.R_base ho0) hb); have n1_ := Aside0.mk (Kd.R_elder' v23_ (Kd.R_base ho0) hb); have n2_ := Aside0.mk (Kd.R_elder' v53_ (Kd.R_base ho0) hb); have n3_ := Aside0.mk (Kd.R_lower (Kd.R_new' (Kd.R_new' ho0 (Kd.R_lt v23_)) (Kd.R_lt v53_)) (below_size v4_)); have n4_ := Aside0.mk (blk_below (g := gb101) (o := .cells #[.slice (some ad104) l0_0.length c0_0, .slice A0_1 l0_1.length c0_1] 37 (0, 0)) v2_ hb); have n5_ := Aside0.mk (blk_below (g := gb105) (o := .cells #[.int .i64 ((rd_T42 l0_0 x3_1).f0), .slice A104_1 ((rd_T42 l0_0 x3_1).f1).length c104_1] 42 (0, 0)) v11_ hb); have n6_ := Aside0.mk (blk_below (g := gb111) (o := .cells #[.int .i64 t106, .slice Ao33 t107.length co33] 42 (0, 0)) v18_ hb); have n7_ := Aside0.mk (below_step v4_ hb); clear HO109; clear HO115; clear HO119; clear BK101; clear BK105; clear BK111; clear HB; have HO109 := n0_; have HO115 := n1_; have HO119 := n2_; have HO123 := n3_; have BK101 := n4_; have BK105 := n5_; have BK111 := n6_; have HB := n7_; clear n0_ n1_ n2_ n3_ n4_ n5_ n6_ n7_; (try clear hb); (try clear hb2); (try clear hk); (try clear hi); (try clear ho0))))
          (try simp only [Act.put, List.setIfInBounds_toArray, List.set_cons_zero, List.set_cons_succ])
          go_cut [91] (fun v91 wc => ∃ (kq : Nat) (x91_22 : Bool), v91 = .bool x91_22 ∧ Aside0 (q3.j2 kq x3_1 t113 t121 x91_22 l0_0 l0_1 ((rd_T42 l0_0 x3_1).f0) ((rd_T42 l0_0 x3_1).f1) t106 t107 = some r) ∧ Aside0 (kq ≤ kj9) ∧ Aside0 (Kd.R (Kd.int .i64) 3 wc w.heap.size (fun k_ => some k_ ≠ (v122 : Value).ownBlock) v114 t113) ∧ Aside0 (Kd.R (Kd.int .i64) 3 wc w.heap.size (fun k_ => some k_ ≠ (v114 : Value).ownBlock) v122 t121) ∧ Aside0 (Kd.S (Kd.slice 3 (Kd.int .i64)) 45 wc w.heap.size (fun k_ => some k_ ≠ (v114 : Value).ownBlock ∧ some k_ ≠ (v122 : Value).ownBlock) (.slice Ao33 t107.length co33) t107) ∧ Aside0 (wc.heap[gb101]? = some (.cells #[(.slice (some ad104) l0_0.length c0_0), (.slice A0_1 l0_1.length c0_1)] 37 (0, 0))) ∧ Aside0 (wc.heap[gb105]? = some (.cells #[.int .i64 ((rd_T42 l0_0 x3_1).f0), (.slice A104_1 ((rd_T42 l0_0 x3_1).f1).length c104_1)] 42 (0, 0))) ∧ Aside0 (wc.heap[gb111]? = some (.cells #[.int .i64 t106, (.slice Ao33 t107.length co33)] 42 (0, 0))) ∧ Aside0 (Below w.heap.size w wc))
          case first => as_aux_lemma =>
           have H := HC23.out
           clear HC23
           replace H := Option.bind_eq_some_iff.mp H
           obtain ⟨t125, A400, H⟩ := H
           replace H : (if t125 = 0 then ((q4.f t120).bind fun t126 => (if t126 = 0 then ((q4.f t124).bind fun t127 => (if t127 = 0 then ((q5.f kj9 t113 t117).bind fun t128 => (if t128 = true then (q3.j2 kj9 x3_1 t113 t121 ((t113.length : Int) != ((rd_T42 l0_0 x3_1).f0)) l0_0 l0_1 ((rd_T42 l0_0 x3_1).f0) ((rd_T42 l0_0 x3_1).f1) t106 t107) else (q3.j2 kj9 x3_1 t113 t121 true l0_0 l0_1 ((rd_T42 l0_0 x3_1).f0) ((rd_T42 l0_0 x3_1).f1) t106 t107))) else (q3.j2 kj9 x3_1 t113 t121 true l0_0 l0_1 ((rd_T42 l0_0 x3_1).f0) ((rd_T42 l0_0 x3_1).f1) t106 t107))) else (q3.j2 kj9 x3_1 t113 t121 true l0_0 l0_1 ((rd_T42 l0_0 x3_1).f0) ((rd_T42 l0_0 x3_1).f1) t106 t107))) else (q3.j2 kj9 x3_1 t113 t121 true l0_0 l0_1 ((rd_T42 l0_0 x3_1).f0) ((rd_T42 l0_0 x3_1).f1) t106 t107)) = some r := H
           have A40 := Aside0.mk A400
           clear A400
           by_cases c41 : t125 = 0
           ·rw [if_pos c41] at H
            have c41b0 : (t125 == 0) = true := beq_iff_eq.mpr c41
            have c41b1 : (t125 != 0) = false := bne_eq_false_iff_eq.mpr c41
            clear c41
            (first | rw [c41b0] | (simp only [i64_w, i32_w]; rw [c41b0]) | skip)
            replace H := Option.bind_eq_some_iff.mp H
            obtain ⟨t126, A420, H⟩ := H
            replace H : (if t126 = 0 then ((q4.f t124).bind fun t127 => (if t127 = 0 then ((q5.f kj9 t113 t117).bind fun t128 => (if t128 = true then (q3.j2 kj9 x3_1 t113 t121 ((t113.length : Int) != ((rd_T42 l0_0 x3_1).f0)) l0_0 l0_1 ((rd_T42 l0_0 x3_1).f0) ((rd_T42 l0_0 x3_1).f1) t106 t107) else (q3.j2 kj9 x3_1 t113 t121 true l0_0 l0_1 ((rd_T42 l0_0 x3_1).f0) ((rd_T42 l0_0 x3_1).f1) t106 t107))) else (q3.j2 kj9 x3_1 t113 t121 true l0_0 l0_1 ((rd_T42 l0_0 x3_1).f0) ((rd_T42 l0_0 x3_1).f1) t106 t107))) else (q3.j2 kj9 x3_1 t113 t121 true l0_0 l0_1 ((rd_T42 l0_0 x3_1).f0) ((rd_T42 l0_0 x3_1).f1) t106 t107)) = some r := H
            have A42 := Aside0.mk A420
            clear A420
            by_cases c43 : t126 = 0
            ·rw [if_pos c43] at H
             have c43b0 : (t126 == 0) = true := beq_iff_eq.mpr c43
             have c43b1 : (t126 != 0) = false := bne_eq_false_iff_eq.mpr c43
             clear c43
             replace H := Option.bind_eq_some_iff.mp H
             obtain ⟨t127, A440, H⟩ := H
             replace H : (if t127 = 0 then ((q5.f kj9 t113 t117).bind fun t128 => (if t128 = true then (q3.j2 kj9 x3_1 t113 t121 ((t113.length : Int) != ((rd_T42 l0_0 x3_1).f0)) l0_0 l0_1 ((rd_T42 l0_0 x3_1).f0) ((rd_T42 l0_0 x3_1).f1) t106 t107) else (q3.j2 kj9 x3_1 t113 t121 true l0_0 l0_1 ((rd_T42 l0_0 x3_1).f0) ((rd_T42 l0_0 x3_1).f1) t106 t107))) else (q3.j2 kj9 x3_1 t113 t121 true l0_0 l0_1 ((rd_T42 l0_0 x3_1).f0) ((rd_T42 l0_0 x3_1).f1) t106 t107)) = some r := H
             have A44 := Aside0.mk A440
             clear A440
             by_cases c45 : t127 = 0
             ·rw [if_pos c45] at H
              have c45b0 : (t127 == 0) = true := beq_iff_eq.mpr c45
              have c45b1 : (t127 != 0) = false := bne_eq_false_iff_eq.mpr c45
              clear c45
              replace H := Option.bind_eq_some_iff.mp H
              obtain ⟨t128, A460, H⟩ := H
              replace H : (if t128 = true then (q3.j2 kj9 x3_1 t113 t121 ((t113.length : Int) != ((rd_T42 l0_0 x3_1).f0)) l0_0 l0_1 ((rd_T42 l0_0 x3_1).f0) ((rd_T42 l0_0 x3_1).f1) t106 t107) else (q3.j2 kj9 x3_1 t113 t121 true l0_0 l0_1 ((rd_T42 l0_0 x3_1).f0) ((rd_T42 l0_0 x3_1).f1) t106 t107)) = some r := H
              have A46 := Aside0.mk A460
              clear A460
              by_cases c47 : t128 = true
              ·subst c47
               have H1 : (q3.j2 kj9 x3_1 t113 t121 ((t113.length : Int) != ((rd_T42 l0_0 x3_1).f0)) l0_0 l0_1 ((rd_T42 l0_0 x3_1).f0) ((rd_T42 l0_0 x3_1).f1) t106 t107) = some r := by rw [if_pos rfl] at H; exact H
               clear H
               have H := H1
               clear H1
               have H' := Aside0.mk H
               clear H
               go_wp2_with (first | (go_at_call 30; (with_reducible refine (q4.calls t116 t125 _ A40.out).mono ?_); rintro e w' ⟨rfl, ⟨nd, rfl⟩⟩; (try first | exact ⟨rfl, _, World.drewN_drewN _ _ _⟩ | exact ⟨rfl, _, Eq.trans (World.drewN_drewN _ _ _) (congrArg (World.drewN _) (Nat.add_assoc _ _ _))⟩)) | (go_at_call 30; (with_reducible refine (q4.calls t120 t126 _ A42.out).mono ?_); rintro e w' ⟨rfl, ⟨nd, rfl⟩⟩; (try first | exact ⟨rfl, _, World.drewN_drewN _ _ _⟩ | exact ⟨rfl, _, Eq.trans (World.drewN_drewN _ _ _) (congrArg (World.drewN _) (Nat.add_assoc _ _ _))⟩)) | (go_at_call 30; (with_reducible refine (q4.calls t124 t127 _ A44.out).mono ?_); rintro e w' ⟨rfl, ⟨nd, rfl⟩⟩; (try first | exact ⟨rfl, _, World.drewN_drewN _ _ _⟩ | exact ⟨rfl, _, Eq.trans (World.drewN_drewN _ _ _) (congrArg (World.drewN _) (Nat.add_assoc _ _ _))⟩); obtain ⟨Ao48, co48, eo48⟩ := Kd.R_slice HO115.out; subst eo48; obtain ⟨Ao49, co49, eo49⟩ := Kd.R_slice HO119.out; subst eo49) | (go_at_call 31; (with_reducible refine (q5.calls kj9 _ _ t113 _ _ t117 true _ ?side1 ?side2 ?side3 ?side4 A46.out).mono ?_); (case side1 => repeat (first | exact (Kd.R_reads' HO115.out).2.2 | (with_reducible refine Kd.C_alloc ?_ _) | (with_reducible refine Kd.C_drewN ?_ _) | (with_reducible refine Kd.C_drew ?_))); (case side2 => exact (Kd.R_reads' HO115.out).2.1); (case side3 => repeat (first | exact (Kd.R_reads' HO119.out).2.2 | (with_reducible refine Kd.C_alloc ?_ _) | (with_reducible refine Kd.C_drewN ?_ _) | (with_reducible refine Kd.C_drew ?_))); (case side4 => exact (Kd.R_reads' HO119.out).2.1); rintro e w' ⟨rfl, ⟨nd, rfl⟩⟩; (try first | exact ⟨rfl, _, World.drewN_drewN _ _ _⟩ | exact ⟨rfl, _, Eq.trans (World.drewN_drewN _ _ _) (congrArg (World.drewN _) (Nat.add_assoc _ _ _))⟩); have hnb50 := NB105_101.out; have hnc50 := NB101_105.out; have hnb51 := NB105_111.out; have hnc51 := NB111_105.out; have hcz52_0 : w39.cell? ⟨gb105, 0, none⟩ = some (.int .i64 ((rd_T42 l0_0 x3_1).f0)) := (blk_cell BK105.out 0).trans rfl; have hcz52_1 : w39.cell? ⟨gb105, 1, none⟩ = some (.slice A104_1 ((rd_T42 l0_0 x3_1).f1).length c104_1) := (blk_cell BK105.out 1).trans rfl; have hfz52_0 := blk_frozen BK105.out 0; have hfz52_1 := blk_frozen BK105.out 1))
               repeat (go_quiet (first | (go_at_call 30; (with_reducible refine (q4.calls t116 t125 _ A40.out).mono ?_); rintro e w' ⟨rfl, ⟨nd, rfl⟩⟩; (try first | exact ⟨rfl, _, World.drewN_drewN _ _ _⟩ | exact ⟨rfl, _, Eq.trans (World.drewN_drewN _ _ _) (congrArg (World.drewN _) (Nat.add_assoc _ _ _))⟩)) | (go_at_call 30; (with_reducible refine (q4.calls t120 t126 _ A42.out).mono ?_); rintro e w' ⟨rfl, ⟨nd, rfl⟩⟩; (try first | exact ⟨rfl, _, World.drewN_drewN _ _ _⟩ | exact ⟨rfl, _, Eq.trans (World.drewN_drewN _ _ _) (congrArg (World.drewN _) (Nat.add_assoc _ _ _))⟩)) | (go_at_call 30; (with_reducible refine (q4.calls t124 t127 _ A44.out).mono ?_); rintro e w' ⟨rfl, ⟨nd, rfl⟩⟩; (try first | exact ⟨rfl, _, World.drewN_drewN _ _ _⟩ | exact ⟨rfl, _, Eq.trans (World.drewN_drewN _ _ _) (congrArg (World.drewN _) (Nat.add_assoc _ _ _))⟩); obtain ⟨Ao48, co48, eo48⟩ := Kd.R_slice HO115.out; subst eo48; obtain ⟨Ao49, co49, eo49⟩ := Kd.R_slice HO119.out; subst eo49) | (go_at_call 31; (with_reducible refine (q5.calls kj9 _ _ t113 _ _ t117 true _ ?side1 ?side2 ?side3 ?side4 A46.out).mono ?_); (case side1 => repeat (first | exact (Kd.R_reads' HO115.out).2.2 | (with_reducible refine Kd.C_alloc ?_ _) | (with_reducible refine Kd.C_drewN ?_ _) | (with_reducible refine Kd.C_drew ?_))); (case side2 => exact (Kd.R_reads' HO115.out).2.1); (case side3 => repeat (first | exact (Kd.R_reads' HO119.out).2.2 | (with_reducible refine Kd.C_alloc ?_ _) | (with_reducible refine Kd.C_drewN ?_ _) | (with_reducible refine Kd.C_drew ?_))); (case side4 => exact (Kd.R_reads' HO119.out).2.1); rintro e w' ⟨rfl, ⟨nd, rfl⟩⟩; (try first | exact ⟨rfl, _, World.drewN_drewN _ _ _⟩ | exact ⟨rfl, _, Eq.trans (World.drewN_drewN _ _ _) (congrArg (World.drewN _) (Nat.add_assoc _ _ _))⟩); have hnb50 := NB105_101.out; have hnc50 := NB101_105.out; have hnb51 := NB105_111.out; have hnc51 := NB111_105.out; have hcz52_0 : w39.cell? ⟨gb105, 0, none⟩ = some (.int .i64 ((rd_T42 l0_0 x3_1).f0)) := (blk_cell BK105.out 0).trans rfl; have hcz52_1 : w39.cell? ⟨gb105, 1, none⟩ = some (.slice A104_1 ((rd_T42 l0_0 x3_1).f1).length c104_1) := (blk_cell BK105.out 1).trans rfl; have hfz52_0 := blk_frozen BK105.out 0; have hfz52_1 := blk_frozen BK105.out 1)); try go_wp2_with (first | (go_at_call 30; (with_reducible refine (q4.calls t116 t125 _ A40.out).mono ?_); rintro e w' ⟨rfl, ⟨nd, rfl⟩⟩; (try first | exact ⟨rfl, _, World.drewN_drewN _ _ _⟩ | exact ⟨rfl, _, Eq.trans (World.drewN_drewN _ _ _) (congrArg (World.drewN _) (Nat.add_assoc _ _ _))⟩)) | (go_at_call 30; (with_reducible refine (q4.calls t120 t126 _ A42.out).mono ?_); rintro e w' ⟨rfl, ⟨nd, rfl⟩⟩; (try first | exact ⟨rfl, _, World.drewN_drewN _ _ _⟩ | exact ⟨rfl, _, Eq.trans (World.drewN_drewN _ _ _) (congrArg (World.drewN _) (Nat.add_assoc _ _ _))⟩)) | (go_at_call 30; (with_reducible refine (q4.calls t124 t127 _ A44.out).mono ?_); rintro e w' ⟨rfl, ⟨nd, rfl⟩⟩; (try first | exact ⟨rfl, _, World.drewN_drewN _ _ _⟩ | exact ⟨rfl, _, Eq.trans (World.drewN_drewN _ _ _) (congrArg (World.drewN _) (Nat.add_assoc _ _ _))⟩); obtain ⟨Ao48, co48, eo48⟩ := Kd.R_slice HO115.out; subst eo48; obtain ⟨Ao49, co49, eo49⟩ := Kd.R_slice HO119.out; subst eo49) | (go_at_call 31; (with_reducible refine (q5.calls kj9 _ _ t113 _ _ t117 true _ ?side1 ?side2 ?side3 ?side4 A46.out).mono ?_); (case side1 => repeat (first | exact (Kd.R_reads' HO115.out).2.2 | (with_reducible refine Kd.C_alloc ?_ _) | (with_reducible refine Kd.C_drewN ?_ _) | (with_reducible refine Kd.C_drew ?_))); (case side2 => exact (Kd.R_reads' HO115.out).2.1); (case side3 => repeat (first | exact (Kd.R_reads' HO119.out).2.2 | (with_reducible refine Kd.C_alloc ?_ _) | (with_reducible refine Kd.C_drewN ?_ _) | (with_reducible refine Kd.C_drew ?_))); (case side4 => exact (Kd.R_reads' HO119.out).2.1); rintro e w' ⟨rfl, ⟨nd, rfl⟩⟩; (try first | exact ⟨rfl, _, World.drewN_drewN _ _ _⟩ | exact ⟨rfl, _, Eq.trans (World.drewN_drewN _ _ _) (congrArg (World.drewN _) (Nat.add_assoc _ _ _))⟩); have hnb50 := NB105_101.out; have hnc50 := NB101_105.out; have hnb51 := NB105_111.out; have hnc51 := NB111_105.out; have hcz52_0 : w39.cell? ⟨gb105, 0, none⟩ = some (.int .i64 ((rd_T42 l0_0 x3_1).f0)) := (blk_cell BK105.out 0).trans rfl; have hcz52_1 : w39.cell? ⟨gb105, 1, none⟩ = some (.slice A104_1 ((rd_T42 l0_0 x3_1).f1).length c104_1) := (blk_cell BK105.out 1).trans rfl; have hfz52_0 := blk_frozen BK105.out 0; have hfz52_1 := blk_frozen BK105.out 1)))
               go_meet
               case rel => exact ⟨_, (((t113.length : Int) != ((rd_T42 l0_0 x3_1).f0))), v12_, H', ⟨v73_⟩, ⟨v50_⟩, ⟨v49_⟩, ⟨v48_⟩, ⟨v6_⟩, ⟨v14_⟩, ⟨v13_⟩, ⟨v8_⟩⟩
              ·replace c47 := Bool.eq_false_iff.mpr c47
               subst c47
               have H1 : (q3.j2 kj9 x3_1 t113 t121 true l0_0 l0_1 ((rd_T42 l0_0 x3_1).f0) ((rd_T42 l0_0 x3_1).f1) t106 t107) = some r := by rw [if_neg (show ¬ (false = true) by decide)] at H; exact H
               clear H
               have H := H1
               clear H1
               have H' := Aside0.mk H
               clear H
               go_wp2_with (first | (go_at_call 30; (with_reducible refine (q4.calls t116 t125 _ A40.out).mono ?_); rintro e w' ⟨rfl, ⟨nd, rfl⟩⟩; (try first | exact ⟨rfl, _, World.drewN_drewN _ _ _⟩ | exact ⟨rfl, _, Eq.trans (World.drewN_drewN _ _ _) (congrArg (World.drewN _) (Nat.add_assoc _ _ _))⟩)) | (go_at_call 30; (with_reducible refine (q4.calls t120 t126 _ A42.out).mono ?_); rintro e w' ⟨rfl, ⟨nd, rfl⟩⟩; (try first | exact ⟨rfl, _, World.drewN_drewN _ _ _⟩ | exact ⟨rfl, _, Eq.trans (World.drewN_drewN _ _ _) (congrArg (World.drewN _) (Nat.add_assoc _ _ _))⟩)) | (go_at_call 30; (with_reducible refine (q4.calls t124 t127 _ A44.out).mono ?_); rintro e w' ⟨rfl, ⟨nd, rfl⟩⟩; (try first | exact ⟨rfl, _, World.drewN_drewN _ _ _⟩ | exact ⟨rfl, _, Eq.trans (World.drewN_drewN _ _ _) (congrArg (World.drewN _) (Nat.add_assoc _ _ _))⟩); obtain ⟨Ao53, co53, eo53⟩ := Kd.R_slice HO115.out; subst eo53; obtain ⟨Ao54, co54, eo54⟩ := Kd.R_slice HO119.out; subst eo54) | (go_at_call 31; (with_reducible refine (q5.calls kj9 _ _ t113 _ _ t117 false _ ?side1 ?side2 ?side3 ?side4 A46.out).mono ?_); (case side1 => repeat (first | exact (Kd.R_reads' HO115.out).2.2 | (with_reducible refine Kd.C_alloc ?_ _) | (with_reducible refine Kd.C_drewN ?_ _) | (with_reducible refine Kd.C_drew ?_))); (case side2 => exact (Kd.R_reads' HO115.out).2.1); (case side3 => repeat (first | exact (Kd.R_reads' HO119.out).2.2 | (with_reducible refine Kd.C_alloc ?_ _) | (with_reducible refine Kd.C_drewN ?_ _) | (with_reducible refine Kd.C_drew ?_))); (case side4 => exact (Kd.R_reads' HO119.out).2.1); rintro e w' ⟨rfl, ⟨nd, rfl⟩⟩; (try first | exact ⟨rfl, _, World.drewN_drewN _ _ _⟩ | exact ⟨rfl, _, Eq.trans (World.drewN_drewN _ _ _) (congrArg (World.drewN _) (Nat.add_assoc _ _ _))⟩)))
               repeat (go_quiet (first | (go_at_call 30; (with_reducible refine (q4.calls t116 t125 _ A40.out).mono ?_); rintro e w' ⟨rfl, ⟨nd, rfl⟩⟩; (try first | exact ⟨rfl, _, World.drewN_drewN _ _ _⟩ | exact ⟨rfl, _, Eq.trans (World.drewN_drewN _ _ _) (congrArg (World.drewN _) (Nat.add_assoc _ _ _))⟩)) | (go_at_call 30; (with_reducible refine (q4.calls t120 t126 _ A42.out).mono ?_); rintro e w' ⟨rfl, ⟨nd, rfl⟩⟩; (try first | exact ⟨rfl, _, World.drewN_drewN _ _ _⟩ | exact ⟨rfl, _, Eq.trans (World.drewN_drewN _ _ _) (congrArg (World.drewN _) (Nat.add_assoc _ _ _))⟩)) | (go_at_call 30; (with_reducible refine (q4.calls t124 t127 _ A44.out).mono ?_); rintro e w' ⟨rfl, ⟨nd, rfl⟩⟩; (try first | exact ⟨rfl, _, World.drewN_drewN _ _ _⟩ | exact ⟨rfl, _, Eq.trans (World.drewN_drewN _ _ _) (congrArg (World.drewN _) (Nat.add_assoc _ _ _))⟩); obtain ⟨Ao53, co53, eo53⟩ := Kd.R_slice HO115.out; subst eo53; obtain ⟨Ao54, co54, eo54⟩ := Kd.R_slice HO119.out; subst eo54) | (go_at_call 31; (with_reducible refine (q5.calls kj9 _ _ t113 _ _ t117 false _ ?side1 ?side2 ?side3 ?side4 A46.out).mono ?_); (case side1 => repeat (first | exact (Kd.R_reads' HO115.out).2.2 | (with_reducible refine Kd.C_alloc ?_ _) | (with_reducible refine Kd.C_drewN ?_ _) | (with_reducible refine Kd.C_drew ?_))); (case side2 => exact (Kd.R_reads' HO115.out).2.1); (case side3 => repeat (first | exact (Kd.R_reads' HO119.out).2.2 | (with_reducible refine Kd.C_alloc ?_ _) | (with_reducible refine Kd.C_drewN ?_ _) | (with_reducible refine Kd.C_drew ?_))); (case side4 => exact (Kd.R_reads' HO119.out).2.1); rintro e w' ⟨rfl, ⟨nd, rfl⟩⟩; (try first | exact ⟨rfl, _, World.drewN_drewN _ _ _⟩ | exact ⟨rfl, _, Eq.trans (World.drewN_drewN _ _ _) (congrArg (World.drewN _) (Nat.add_assoc _ _ _))⟩))); try go_wp2_with (first | (go_at_call 30; (with_reducible refine (q4.calls t116 t125 _ A40.out).mono ?_); rintro e w' ⟨rfl, ⟨nd, rfl⟩⟩; (try first | exact ⟨rfl, _, World.drewN_drewN _ _ _⟩ | exact ⟨rfl, _, Eq.trans (World.drewN_drewN _ _ _) (congrArg (World.drewN _) (Nat.add_assoc _ _ _))⟩)) | (go_at_call 30; (with_reducible refine (q4.calls t120 t126 _ A42.out).mono ?_); rintro e w' ⟨rfl, ⟨nd, rfl⟩⟩; (try first | exact ⟨rfl, _, World.drewN_drewN _ _ _⟩ | exact ⟨rfl, _, Eq.trans (World.drewN_drewN _ _ _) (congrArg (World.drewN _) (Nat.add_assoc _ _ _))⟩)) | (go_at_call 30; (with_reducible refine (q4.calls t124 t127 _ A44.out).mono ?_); rintro e w' ⟨rfl, ⟨nd, rfl⟩⟩; (try first | exact ⟨rfl, _, World.drewN_drewN _ _ _⟩ | exact ⟨rfl, _, Eq.trans (World.drewN_drewN _ _ _) (congrArg (World.drewN _) (Nat.add_assoc _ _ _))⟩); obtain ⟨Ao53, co53, eo53⟩ := Kd.R_slice HO115.out; subst eo53; obtain ⟨Ao54, co54, eo54⟩ := Kd.R_slice HO119.out; subst eo54) | (go_at_call 31; (with_reducible refine (q5.calls kj9 _ _ t113 _ _ t117 false _ ?side1 ?side2 ?side3 ?side4 A46.out).mono ?_); (case side1 => repeat (first | exact (Kd.R_reads' HO115.out).2.2 | (with_reducible refine Kd.C_alloc ?_ _) | (with_reducible refine Kd.C_drewN ?_ _) | (with_reducible refine Kd.C_drew ?_))); (case side2 => exact (Kd.R_reads' HO115.out).2.1); (case side3 => repeat (first | exact (Kd.R_reads' HO119.out).2.2 | (with_reducible refine Kd.C_alloc ?_ _) | (with_reducible refine Kd.C_drewN ?_ _) | (with_reducible refine Kd.C_drew ?_))); (case side4 => exact (Kd.R_reads' HO119.out).2.1); rintro e w' ⟨rfl, ⟨nd, rfl⟩⟩; (try first | exact ⟨rfl, _, World.drewN_drewN _ _ _⟩ | exact ⟨rfl, _, Eq.trans (World.drewN_drewN _ _ _) (congrArg (World.drewN _) (Nat.add_assoc _ _ _))⟩))))
               go_meet
               case rel => exact ⟨_, (true), v12_, H', ⟨v73_⟩, ⟨v50_⟩, ⟨v49_⟩, ⟨v48_⟩, ⟨v6_⟩, ⟨v14_⟩, ⟨v13_⟩, ⟨v8_⟩⟩
             ·rw [if_neg c45] at H
              have c45b0 : (t127 == 0) = false := beq_eq_false_iff_ne.mpr c45
              have c45b1 : (t127 != 0) = true := bne_iff_ne.mpr c45
              have H' := Aside0.mk H
              clear H
              go_wp2_with (first | (go_at_call 30; (with_reducible refine (q4.calls t116 t125 _ A40.out).mono ?_); rintro e w' ⟨rfl, ⟨nd, rfl⟩⟩; (try first | exact ⟨rfl, _, World.drewN_drewN _ _ _⟩ | exact ⟨rfl, _, Eq.trans (World.drewN_drewN _ _ _) (congrArg (World.drewN _) (Nat.add_assoc _ _ _))⟩)) | (go_at_call 30; (with_reducible refine (q4.calls t120 t126 _ A42.out).mono ?_); rintro e w' ⟨rfl, ⟨nd, rfl⟩⟩; (try first | exact ⟨rfl, _, World.drewN_drewN _ _ _⟩ | exact ⟨rfl, _, Eq.trans (World.drewN_drewN _ _ _) (congrArg (World.drewN _) (Nat.add_assoc _ _ _))⟩)) | (go_at_call 30; (with_reducible refine (q4.calls t124 t127 _ A44.out).mono ?_); rintro e w' ⟨rfl, ⟨nd, rfl⟩⟩; (try first | exact ⟨rfl, _, World.drewN_drewN _ _ _⟩ | exact ⟨rfl, _, Eq.trans (World.drewN_drewN _ _ _) (congrArg (World.drewN _) (Nat.add_assoc _ _ _))⟩)))
              repeat (go_quiet (first | (go_at_call 30; (with_reducible refine (q4.calls t116 t125 _ A40.out).mono ?_); rintro e w' ⟨rfl, ⟨nd, rfl⟩⟩; (try first | exact ⟨rfl, _, World.drewN_drewN _ _ _⟩ | exact ⟨rfl, _, Eq.trans (World.drewN_drewN _ _ _) (congrArg (World.drewN _) (Nat.add_assoc _ _ _))⟩)) | (go_at_call 30; (with_reducible refine (q4.calls t120 t126 _ A42.out).mono ?_); rintro e w' ⟨rfl, ⟨nd, rfl⟩⟩; (try first | exact ⟨rfl, _, World.drewN_drewN _ _ _⟩ | exact ⟨rfl, _, Eq.trans (World.drewN_drewN _ _ _) (congrArg (World.drewN _) (Nat.add_assoc _ _ _))⟩)) | (go_at_call 30; (with_reducible refine (q4.calls t124 t127 _ A44.out).mono ?_); rintro e w' ⟨rfl, ⟨nd, rfl⟩⟩; (try first | exact ⟨rfl, _, World.drewN_drewN _ _ _⟩ | exact ⟨rfl, _, Eq.trans (World.drewN_drewN _ _ _) (congrArg (World.drewN _) (Nat.add_assoc _ _ _))⟩))); try go_wp2_with (first | (go_at_call 30; (with_reducible refine (q4.calls t116 t125 _ A40.out).mono ?_); rintro e w' ⟨rfl, ⟨nd, rfl⟩⟩; (try first | exact ⟨rfl, _, World.drewN_drewN _ _ _⟩ | exact ⟨rfl, _, Eq.trans (World.drewN_drewN _ _ _) (congrArg (World.drewN _) (Nat.add_assoc _ _ _))⟩)) | (go_at_call 30; (with_reducible refine (q4.calls t120 t126 _ A42.out).mono ?_); rintro e w' ⟨rfl, ⟨nd, rfl⟩⟩; (try first | exact ⟨rfl, _, World.drewN_drewN _ _ _⟩ | exact ⟨rfl, _, Eq.trans (World.drewN_drewN _ _ _) (congrArg (World.drewN _) (Nat.add_assoc _ _ _))⟩)) | (go_at_call 30; (with_reducible refine (q4.calls t124 t127 _ A44.out).mono ?_); rintro e w' ⟨rfl, ⟨nd, rfl⟩⟩; (try first | exact ⟨rfl, _, World.drewN_drewN _ _ _⟩ | exact ⟨rfl, _, Eq.trans (World.drewN_drewN _ _ _) (congrArg (World.drewN _) (Nat.add_assoc _ _ _))⟩))))
              go_meet
              case rel => exact ⟨_, (true), v12_, H', ⟨v73_⟩, ⟨v50_⟩, ⟨v49_⟩, ⟨v48_⟩, ⟨v6_⟩, ⟨v14_⟩, ⟨v13_⟩, ⟨v8_⟩⟩
            ·rw [if_neg c43] at H
             have c43b0 : (t126 == 0) = false := beq_eq_false_iff_ne.mpr c43
             have c43b1 : (t126 != 0) = true := bne_iff_ne.mpr c43
             have H' := Aside0.mk H
             clear H
             go_wp2_with (first | (go_at_call 30; (with_reducible refine (q4.calls t116 t125 _ A40.out).mono ?_); rintro e w' ⟨rfl, ⟨nd, rfl⟩⟩; (try first | exact ⟨rfl, _, World.drewN_drewN _ _ _⟩ | exact ⟨rfl, _, Eq.trans (World.drewN_drewN _ _ _) (congrArg (World.drewN _) (Nat.add_assoc _ _ _))⟩)) | (go_at_call 30; (with_reducible refine (q4.calls t120 t126 _ A42.out).mono ?_); rintro e w' ⟨rfl, ⟨nd, rfl⟩⟩; (try first | exact ⟨rfl, _, World.drewN_drewN _ _ _⟩ | exact ⟨rfl, _, Eq.trans (World.drewN_drewN _ _ _) (congrArg (World.drewN _) (Nat.add_assoc _ _ _))⟩)))
             repeat (go_quiet (first | (go_at_call 30; (with_reducible refine (q4.calls t116 t125 _ A40.out).mono ?_); rintro e w' ⟨rfl, ⟨nd, rfl⟩⟩; (try first | exact ⟨rfl, _, World.drewN_drewN _ _ _⟩ | exact ⟨rfl, _, Eq.trans (World.drewN_drewN _ _ _) (congrArg (World.drewN _) (Nat.add_assoc _ _ _))⟩)) | (go_at_call 30; (with_reducible refine (q4.calls t120 t126 _ A42.out).mono ?_); rintro e w' ⟨rfl, ⟨nd, rfl⟩⟩; (try first | exact ⟨rfl, _, World.drewN_drewN _ _ _⟩ | exact ⟨rfl, _, Eq.trans (World.drewN_drewN _ _ _) (congrArg (World.drewN _) (Nat.add_assoc _ _ _))⟩))); try go_wp2_with (first | (go_at_call 30; (with_reducible refine (q4.calls t116 t125 _ A40.out).mono ?_); rintro e w' ⟨rfl, ⟨nd, rfl⟩⟩; (try first | exact ⟨rfl, _, World.drewN_drewN _ _ _⟩ | exact ⟨rfl, _, Eq.trans (World.drewN_drewN _ _ _) (congrArg (World.drewN _) (Nat.add_assoc _ _ _))⟩)) | (go_at_call 30; (with_reducible refine (q4.calls t120 t126 _ A42.out).mono ?_); rintro e w' ⟨rfl, ⟨nd, rfl⟩⟩; (try first | exact ⟨rfl, _, World.drewN_drewN _ _ _⟩ | exact ⟨rfl, _, Eq.trans (World.drewN_drewN _ _ _) (congrArg (World.drewN _) (Nat.add_assoc _ _ _))⟩))))
             go_meet
             case rel => exact ⟨_, (true), v12_, H', ⟨v73_⟩, ⟨v50_⟩, ⟨v49_⟩, ⟨v48_⟩, ⟨v6_⟩, ⟨v14_⟩, ⟨v13_⟩, ⟨v8_⟩⟩
           ·rw [if_neg c41] at H
            have c41b0 : (t125 == 0) = false := beq_eq_false_iff_ne.mpr c41
            have c41b1 : (t125 != 0) = true := bne_iff_ne.mpr c41
            (first | rw [c41b0] | (simp only [i64_w, i32_w]; rw [c41b0]) | skip)
            have H' := Aside0.mk H
            clear H
            go_wp2_with (first | (go_at_call 30; (with_reducible refine (q4.calls t116 t125 _ A40.out).mono ?_); rintro e w' ⟨rfl, ⟨nd, rfl⟩⟩; (try first | exact ⟨rfl, _, World.drewN_drewN _ _ _⟩ | exact ⟨rfl, _, Eq.trans (World.drewN_drewN _ _ _) (congrArg (World.drewN _) (Nat.add_assoc _ _ _))⟩)))
            repeat (go_quiet (first | (go_at_call 30; (with_reducible refine (q4.calls t116 t125 _ A40.out).mono ?_); rintro e w' ⟨rfl, ⟨nd, rfl⟩⟩; (try first | exact ⟨rfl, _, World.drewN_drewN _ _ _⟩ | exact ⟨rfl, _, Eq.trans (World.drewN_drewN _ _ _) (congrArg (World.drewN _) (Nat.add_assoc _ _ _))⟩))); try go_wp2_with (first | (go_at_call 30; (with_reducible refine (q4.calls t116 t125 _ A40.out).mono ?_); rintro e w' ⟨rfl, ⟨nd, rfl⟩⟩; (try first | exact ⟨rfl, _, World.drewN_drewN _ _ _⟩ | exact ⟨rfl, _, Eq.trans (World.drewN_drewN _ _ _) (congrArg (World.drewN _) (Nat.add_assoc _ _ _))⟩))))
            go_meet
            case rel => exact ⟨_, (true), v12_, H', ⟨v73_⟩, ⟨v50_⟩, ⟨v49_⟩, ⟨v48_⟩, ⟨v6_⟩, ⟨v14_⟩, ⟨v13_⟩, ⟨v8_⟩⟩
          case rest => as_aux_lemma =>
           clear HC23
           try clear c1
           try clear p1
           try clear q1
           try clear hx1
           try clear c2
           try clear p2
           try clear c3
           try clear c4
           try clear c5
           try clear p6
           try clear c10
           try clear p10
           try clear q10
           try clear hx10
           try clear c11
           try clear c11b0
           try clear c13
           try clear c14
           try clear c15
           try clear c15b0
           try clear c16
           try clear c16b0
           try clear c19
           try clear c19b0
           try clear c19b1
           try clear c26
           try clear c30
           try clear c31
           try clear c41
           try clear c41b0
           try clear c41b1
           try clear c43
           try clear c43b0
           try clear c43b1
           try clear c45
           try clear c45b0
           try clear c45b1
           try clear c47
           try clear c50
           try clear c51
           try clear hcz12_0
           try clear hcz12_1
           try clear hcz13_0
           try clear hcz13_1
           try clear hcz24_0
           try clear hcz24_1
           try clear hcz27_0
           try clear hcz27_1
           try clear hcz32_0
           try clear hcz32_1
           try clear hcz34_0
           try clear hcz34_1
           try clear hcz36_0
           try clear hcz36_1
           try clear hcz38_0
           try clear hcz38_1
           try clear hcz52_0
           try clear hcz52_1
           try clear hcz5_0
           try clear hcz5_1
           try clear hcz8_0
           try clear hcz8_1
           try clear hfz12_0
           try clear hfz12_1
           try clear hfz13_0
           try clear hfz13_1
           try clear hfz24_0
           try clear hfz24_1
           try clear hfz27_0
           try clear hfz27_1
           try clear hfz32_0
           try clear hfz32_1
           try clear hfz34_0
           try clear hfz34_1
           try clear hfz36_0
           try clear hfz36_1
           try clear hfz38_0
           try clear hfz38_1
           try clear hfz52_0
           try clear hfz52_1
           try clear hfz5_0
           try clear hfz5_1
           try clear hfz8_0
           try clear hfz8_1
           try clear hx104_0
           try clear hx104_1
           try clear p104
           try clear p2
           try clear q104
           obtain ⟨kq, x91_22, rfl, HA, HJ22, HO_7, HO_11, HO_112001, BK101, BK105, BK111, HB⟩ := hcut
           cases kq with
           | zero => exact absurd HA.out (by simp [q3.j2])
           | succ kj22 =>
            have H := HA.out
            clear HA
            simp only [q3.j2] at H
            by_cases c55 : x91_22 = true
            ·subst c55
             have H1 : (some false) = some r := by rw [if_pos rfl] at H; exact H
             clear H
             have H := H1
             clear H1
             obtain rfl := Option.some.inj H
             go_wp2
             repeat (go_quiet (fail); try go_wp2)
             go_ret
             exact ⟨by first | rfl | (simp [errW_none, errW_some] <;> rfl) | (simp [*, errW_none, errW_some] <;> rfl), by repeat (first | (with_reducible first | exact HB.out | apply below_alloc | apply pw_below_drewN | apply below_drew1 | refine below_set ?_ GE101.out | refine below_set ?_ GE105.out | refine below_set ?_ GE111.out) | exact HB.out)⟩
            ·replace c55 := Bool.eq_false_iff.mpr c55
             subst c55
             have H1 : (q3.l1 kj22 x3_1 t113 t121 0 0 l0_0 l0_1 ((rd_T42 l0_0 x3_1).f0) ((rd_T42 l0_0 x3_1).f1) t106 t107) = some r := by rw [if_neg (show ¬ (false = true) by decide)] at H; exact H
             clear H
             have H := H1
             clear H1
             have H' := Aside0.mk H
             clear H
             go_wp2
             repeat (go_quiet (fail); try go_wp2)
             go_loopg [13, 14] kj22 (fun kq v13 v14 w' => ∃ (x13_4 : Int) (x14_4 : Int), v13 = .int .i64 x13_4 ∧ v14 = .int .i64 x14_4 ∧ Aside0 (q3.l1 kq x3_1 t113 t121 x13_4 x14_4 l0_0 l0_1 ((rd_T42 l0_0 x3_1).f0) ((rd_T42 l0_0 x3_1).f1) t106 t107 = some r) ∧ Aside0 (kq ≤ kj22) ∧ Aside0 (Kd.R (Kd.int .i64) 3 w' w.heap.size (fun k_ => some k_ ≠ (v122 : Value).ownBlock) v114 t113) ∧ Aside0 (Kd.R (Kd.int .i64) 3 w' w.heap.size (fun k_ => some k_ ≠ (v114 : Value).ownBlock) v122 t121) ∧ Aside0 (Kd.S (Kd.slice 3 (Kd.int .i64)) 45 w' w.heap.size (fun k_ => some k_ ≠ (v114 : Value).ownBlock ∧ some k_ ≠ (v122 : Value).ownBlock) (.slice Ao33 t107.length co33) t107) ∧ Aside0 (w'.heap[gb101]? = some (.cells #[(.slice (some ad104) l0_0.length c0_0), (.slice A0_1 l0_1.length c0_1)] 37 (0, 0))) ∧ Aside0 (w'.heap[gb105]? = some (.cells #[.int .i64 ((rd_T42 l0_0 x3_1).f0), (.slice A104_1 ((rd_T42 l0_0 x3_1).f1).length c104_1)] 42 (0, 0))) ∧ Aside0 (w'.heap[gb111]? = some (.cells #[.int .i64 t106, (.slice Ao33 t107.length co33)] 42 (0, 0))) ∧ Aside0 (Below w.heap.size w w'))
             case atStart => exact ⟨(0), (0), v12_, v12_, H', ⟨Nat.le_refl _⟩, ⟨v26_⟩, ⟨v103_⟩, ⟨v25_⟩, ⟨v6_⟩, ⟨v14_⟩, ⟨v13_⟩, ⟨v8_⟩⟩
             case round => as_aux_lemma =>
              clear H'
              try clear c1
              try clear p1
              try clear q1
              try clear hx1
              try clear c2
              try clear p2
              try clear c3
              try clear c4
              try clear c5
              try clear p6
              try clear c10
              try clear p10
              try clear q10
              try clear hx10
              try clear c11
              try clear c11b0
              try clear c13
              try clear c14
              try clear c15
              try clear c15b0
              try clear c16
              try clear c16b0
              try clear c19
              try clear c19b0
              try clear c19b1
              try clear c26
              try clear c30
              try clear c31
              try clear c41
              try clear c41b0
              try clear c41b1
              try clear c43
              try clear c43b0
              try clear c43b1
              try clear c45
              try clear c45b0
              try clear c45b1
              try clear c47
              try clear c50
              try clear c51
              try clear c55
              try clear hcz12_0
              try clear hcz12_1
              try clear hcz13_0
              try clear hcz13_1
              try clear hcz24_0
              try clear hcz24_1
              try clear hcz27_0
              try clear hcz27_1
              try clear hcz32_0
              try clear hcz32_1
              try clear hcz34_0
              try clear hcz34_1
              try clear hcz36_0
              try clear hcz36_1
              try clear hcz38_0
              try clear hcz38_1
              try clear hcz52_0
              try clear hcz52_1
              try clear hcz5_0
              try clear hcz5_1
              try clear hcz8_0
              try clear hcz8_1
              try clear hfz12_0
              try clear hfz12_1
              try clear hfz13_0
              try clear hfz13_1
              try clear hfz24_0
              try clear hfz24_1
              try clear hfz27_0
              try clear hfz27_1
              try clear hfz32_0
              try clear hfz32_1
              try clear hfz34_0
              try clear hfz34_1
              try clear hfz36_0
              try clear hfz36_1
              try clear hfz38_0
              try clear hfz38_1
              try clear hfz52_0
              try clear hfz52_1
              try clear hfz5_0
              try clear hfz5_1
              try clear hfz8_0
              try clear hfz8_1
              try clear hx104_0
              try clear hx104_1
              try clear p1
              try clear p10
              try clear p104
              try clear p2
              try clear p6
              try clear q1
              try clear q10
              try clear q104
              obtain ⟨x13_4, x14_4, rfl, rfl, HA, HK4, HO_7, HO_11, HO_112001, BK101, BK105, BK111, HB⟩ := hrel
              cases gk with
              | zero => exact absurd HA.out (by simp [q3.l1])
              | succ k4 =>
               have H := HA.out
               clear HA
               simp only [q3.l1] at H
               by_cases c56 : x14_4 < (t121.length : Int)
               ·rw [if_pos c56] at H
                have c56b0 : decide (x14_4 < (t121.length : Int)) = true := decide_eq_true c56
                clear c56
                by_cases c57 : 0 ≤ x14_4
                ·rw [if_pos c57] at H
                 have c57b0 : decide (0 ≤ x14_4) = true := decide_eq_true c57
                 clear c57
                 have H' := Aside0.mk H
                 clear H
                 obtain ⟨Ao58, co58, eo58⟩ := Kd.R_slice HO_11.out
                 subst eo58
                 have p129 : 0 ≤ (x14_4 : Int) := of_decide_eq_true v3_
                 have q129 : x14_4 < (t121.length : Int) := of_decide_eq_true v3_
                 obtain ⟨ad129, e129, hx129_0⟩ := Kd.at_int (Kd.R_reads' HO_11.out).2.2 x14_4 p129 q129
                 cases e129
                 replace p129 := eq_true p129
                 replace q129 := eq_true q129
                 go_wp2
                 repeat (go_quiet (fail); try go_wp2)
                 go_roundg k4
                 case measure => have := HK1.out; have := HJ9.out; have := HJ22.out; have := HK4.out; omega
                 case rel => exact ⟨(wrap64 (x13_4 + (rd t121 x14_4))), (wrap64 (x14_4 + 1)), v12_, v12_, H', ⟨by have := HK1.out; have := HJ9.out; have := HJ22.out; have := HK4.out; omega⟩, ⟨v26_⟩, ⟨v103_⟩, ⟨v25_⟩, ⟨v6_⟩, ⟨v14_⟩, ⟨v13_⟩, ⟨v8_⟩⟩
                ·rw [if_neg c57] at H
                 exact absurd H v58_
               ·rw [if_neg c56] at H
                have c56b0 : decide (x14_4 < (t121.length : Int)) = false := decide_eq_false c56
                clear c56
                by_cases c59 : x13_4 = ((rd_T42 l0_0 x3_1).f0)
                ·rw [if_pos c59] at H
                 have c59b0 : (x13_4 == ((rd_T42 l0_0 x3_1).f0)) = true := beq_iff_eq.mpr c59
                 have c59b1 : (x13_4 != ((rd_T42 l0_0 x3_1).f0)) = false := bne_eq_false_iff_eq.mpr c59
                 clear c59
                 have H' := Aside0.mk H
                 clear H
                 obtain ⟨Ao60, co60, eo60⟩ := Kd.R_slice HO_11.out
                 subst eo60
                 have hnb61 := NB105_101.out
                 have hnc61 := NB101_105.out
                 have hnb62 := NB105_111.out
                 have hnc62 := NB111_105.out
                 have hcz63_0 : wr.cell? ⟨gb105, 0, none⟩ = some (.int .i64 ((rd_T42 l0_0 x3_1).f0)) := (blk_cell BK105.out 0).trans rfl
                 have hcz63_1 : wr.cell? ⟨gb105, 1, none⟩ = some (.slice A104_1 ((rd_T42 l0_0 x3_1).f1).length c104_1) := (blk_cell BK105.out 1).trans rfl
                 have hfz63_0 := blk_frozen BK105.out 0
                 have hfz63_1 := blk_frozen BK105.out 1
                 go_wp2
                 repeat (go_quiet (fail); try go_wp2)
                 go_loopg [15] k4 (fun kq v15 w' => ∃ (x15_5 : Int), v15 = .int .i64 x15_5 ∧ Aside0 (q3.l2 kq x3_1 t113 x15_5 l0_0 l0_1 ((rd_T42 l0_0 x3_1).f0) ((rd_T42 l0_0 x3_1).f1) t106 t107 = some r) ∧ Aside0 (kq ≤ k4) ∧ Aside0 (Kd.R (Kd.int .i64) 3 w' w.heap.size (fun _ => True) v114 t113) ∧ Aside0 (Kd.S (Kd.slice 3 (Kd.int .i64)) 45 w' w.heap.size (fun k_ => some k_ ≠ (v114 : Value).ownBlock) (.slice Ao33 t107.length co33) t107) ∧ Aside0 (w'.heap[gb101]? = some (.cells #[(.slice (some ad104) l0_0.length c0_0), (.slice A0_1 l0_1.length c0_1)] 37 (0, 0))) ∧ Aside0 (w'.heap[gb105]? = some (.cells #[.int .i64 ((rd_T42 l0_0 x3_1).f0), (.slice A104_1 ((rd_T42 l0_0 x3_1).f1).length c104_1)] 42 (0, 0))) ∧ Aside0 (w'.heap[gb111]? = some (.cells #[.int .i64 t106, (.slice Ao33 t107.length co33)] 42 (0, 0))) ∧ Aside0 (Below w.heap.size w w'))
                 case atStart => exact ⟨(0), v12_, H', ⟨Nat.le_refl _⟩, ⟨v100_⟩, ⟨v97_⟩, ⟨v6_⟩, ⟨v14_⟩, ⟨v13_⟩, ⟨v8_⟩⟩
                 case round => as_aux_lemma =>
                  clear H'
                  try clear c1
                  try clear p1
                  try clear q1
                  try clear hx1
                  try clear c2
                  try clear p2
                  try clear c3
                  try clear c4
                  try clear c5
                  try clear c6
                  try clear p6
                  try clear c10
                  try clear p10
                  try clear q10
                  try clear hx10
                  try clear c11
                  try clear c11b0
                  try clear p12
                  try clear q12
                  try clear hx12
                  try clear c13
                  try clear c14
                  try clear c15
                  try clear c15b0
                  try clear c16
                  try clear c16b0
                  try clear c19
                  try clear c19b0
                  try clear c19b1
                  try clear c26
                  try clear c30
                  try clear c31
                  try clear c41
                  try clear c41b0
                  try clear c41b1
                  try clear c43
                  try clear c43b0
                  try clear c43b1
                  try clear c45
                  try clear c45b0
                  try clear c45b1
                  try clear c47
                  try clear c50
                  try clear c51
                  try clear c55
                  try clear c56
                  try clear c56b0
                  try clear c57
                  try clear c57b0
                  try clear c59
                  try clear c59b0
                  try clear c59b1
                  try clear c61
                  try clear c62
                  try clear hcz12_0
                  try clear hcz12_1
                  try clear hcz13_0
                  try clear hcz13_1
                  try clear hcz24_0
                  try clear hcz24_1
                  try clear hcz27_0
                  try clear hcz27_1
                  try clear hcz32_0
                  try clear hcz32_1
                  try clear hcz34_0
                  try clear hcz34_1
                  try clear hcz36_0
                  try clear hcz36_1
                  try clear hcz38_0
                  try clear hcz38_1
                  try clear hcz52_0
                  try clear hcz52_1
                  try clear hcz5_0
                  try clear hcz5_1
                  try clear hcz63_0
                  try clear hcz63_1
                  try clear hcz8_0
                  try clear hcz8_1
                  try clear hfz12_0
                  try clear hfz12_1
                  try clear hfz13_0
                  try clear hfz13_1
                  try clear hfz24_0
                  try clear hfz24_1
                  try clear hfz27_0
                  try clear hfz27_1
                  try clear hfz32_0
                  try clear hfz32_1
                  try clear hfz34_0
                  try clear hfz34_1
                  try clear hfz36_0
                  try clear hfz36_1
                  try clear hfz38_0
                  try clear hfz38_1
                  try clear hfz52_0
                  try clear hfz52_1
                  try clear hfz5_0
                  try clear hfz5_1
                  try clear hfz63_0
                  try clear hfz63_1
                  try clear hfz8_0
                  try clear hfz8_1
                  try clear hx104_0
                  try clear hx104_1
                  try clear hx129_0
                  try clear p1
                  try clear p10
                  try clear p104
                  try clear p129
                  try clear p2
                  try clear p6
                  try clear q1
                  try clear q10
                  try clear q104
                  try clear q129
                  obtain ⟨x15_5, rfl, HA, HK5, HO_7, HO_112001, BK101, BK105, BK111, HB⟩ := hrel
                  cases gk with
                  | zero => exact absurd HA.out (by simp [q3.l2])
                  | succ k5 =>
                   have H := HA.out
                   clear HA
                   simp only [q3.l2] at H
                   by_cases c64 : x15_5 < ((rd_T42 l0_0 x3_1).f0)
                   ·rw [if_pos c64] at H
                    have c64b0 : decide (x15_5 < ((rd_T42 l0_0 x3_1).f0)) = true := decide_eq_true c64
                    clear c64
                    replace H := Option.bind_eq_some_iff.mp H
                    obtain ⟨⟨t130, t133⟩, A650, H⟩ := H
                    replace H : ((q40.f k5 t106 t107 x15_5).bind fun bt134 => ((q26.f k5 ((rd_T42 l0_0 x3_1).f0) ((rd_T42 l0_0 x3_1).f1) x15_5).bind fun bt138 => ((q4.f t133).bind fun t142 => (if t142 = 0 then ((q4.f bt134.2).bind fun t143 => (if t143 = 0 then ((q4.f bt138.2).bind fun t144 => (if t144 = 0 then ((q5.f k5 t130 bt134.1).bind fun t145 => (if t145 = true then (if (bt138.1.length : Int) = ((rd_T42 l0_0 x3_1).f0) then (if 0 ≤ x15_5 then (if x15_5 < (bt138.1.length : Int) then (q3.j5 k5 x3_1 t113 x15_5 bt138.1 ((rd bt138.1 x15_5) != 0) l0_0 l0_1 ((rd_T42 l0_0 x3_1).f0) ((rd_T42 l0_0 x3_1).f1) t106 t107) else (none)) else (none)) else (q3.j5 k5 x3_1 t113 x15_5 bt138.1 true l0_0 l0_1 ((rd_T42 l0_0 x3_1).f0) ((rd_T42 l0_0 x3_1).f1) t106 t107)) else (q3.j5 k5 x3_1 t113 x15_5 bt138.1 true l0_0 l0_1 ((rd_T42 l0_0 x3_1).f0) ((rd_T42 l0_0 x3_1).f1) t106 t107))) else (q3.j5 k5 x3_1 t113 x15_5 bt138.1 true l0_0 l0_1 ((rd_T42 l0_0 x3_1).f0) ((rd_T42 l0_0 x3_1).f1) t106 t107))) else (q3.j5 k5 x3_1 t113 x15_5 bt138.1 true l0_0 l0_1 ((rd_T42 l0_0 x3_1).f0) ((rd_T42 l0_0 x3_1).f1) t106 t107))) else (q3.j5 k5 x3_1 t113 x15_5 bt138.1 true l0_0 l0_1 ((rd_T42 l0_0 x3_1).f0) ((rd_T42 l0_0 x3_1).f1) t106 t107))))) = some r := H
                    have A65 := Aside0.mk A650
                    clear A650
                    replace H := Option.bind_eq_some_iff.mp H
                    obtain ⟨⟨t134, t137⟩, A660, H⟩ := H
                    replace H : ((q26.f k5 ((rd_T42 l0_0 x3_1).f0) ((rd_T42 l0_0 x3_1).f1) x15_5).bind fun bt138 => ((q4.f t133).bind fun t142 => (if t142 = 0 then ((q4.f t137).bind fun t143 => (if t143 = 0 then ((q4.f bt138.2).bind fun t144 => (if t144 = 0 then ((q5.f k5 t130 t134).bind fun t145 => (if t145 = true then (if (bt138.1.length : Int) = ((rd_T42 l0_0 x3_1).f0) then (if 0 ≤ x15_5 then (if x15_5 < (bt138.1.length : Int) then (q3.j5 k5 x3_1 t113 x15_5 bt138.1 ((rd bt138.1 x15_5) != 0) l0_0 l0_1 ((rd_T42 l0_0 x3_1).f0) ((rd_T42 l0_0 x3_1).f1) t106 t107) else (none)) else (none)) else (q3.j5 k5 x3_1 t113 x15_5 bt138.1 true l0_0 l0_1 ((rd_T42 l0_0 x3_1).f0) ((rd_T42 l0_0 x3_1).f1) t106 t107)) else (q3.j5 k5 x3_1 t113 x15_5 bt138.1 true l0_0 l0_1 ((rd_T42 l0_0 x3_1).f0) ((rd_T42 l0_0 x3_1).f1) t106 t107))) else (q3.j5 k5 x3_1 t113 x15_5 bt138.1 true l0_0 l0_1 ((rd_T42 l0_0 x3_1).f0) ((rd_T42 l0_0 x3_1).f1) t106 t107))) else (q3.j5 k5 x3_1 t113 x15_5 bt138.1 true l0_0 l0_1 ((rd_T42 l0_0 x3_1).f0) ((rd_T42 l0_0 x3_1).f1) t106 t107))) else (q3.j5 k5 x3_1 t113 x15_5 bt138.1 true l0_0 l0_1 ((rd_T42 l0_0 x3_1).f0) ((rd_T42 l0_0 x3_1).f1) t106 t107)))) = some r := H
                    have A66 := Aside0.mk A660
                    clear A660
                    replace H := Option.bind_eq_some_iff.mp H
                    obtain ⟨⟨t138, t141⟩, A670, H⟩ := H
                    replace H : ((q4.f t133).bind fun t142 => (if t142 = 0 then ((q4.f t137).bind fun t143 => (if t143 = 0 then ((q4.f t141).bind fun t144 => (if t144 = 0 then ((q5.f k5 t130 t134).bind fun t145 => (if t145 = true then (if (t138.length : Int) = ((rd_T42 l0_0 x3_1).f0) then (if 0 ≤ x15_5 then (if x15_5 < (t138.length : Int) then (q3.j5 k5 x3_1 t113 x15_5 t138 ((rd t138 x15_5) != 0) l0_0 l0_1 ((rd_T42 l0_0 x3_1).f0) ((rd_T42 l0_0 x3_1).f1) t106 t107) else (none)) else (none)) else (q3.j5 k5 x3_1 t113 x15_5 t138 true l0_0 l0_1 ((rd_T42 l0_0 x3_1).f0) ((rd_T42 l0_0 x3_1).f1) t106 t107)) else (q3.j5 k5 x3_1 t113 x15_5 t138 true l0_0 l0_1 ((rd_T42 l0_0 x3_1).f0) ((rd_T42 l0_0 x3_1).f1) t106 t107))) else (q3.j5 k5 x3_1 t113 x15_5 t138 true l0_0 l0_1 ((rd_T42 l0_0 x3_1).f0) ((rd_T42 l0_0 x3_1).f1) t106 t107))) else (q3.j5 k5 x3_1 t113 x15_5 t138 true l0_0 l0_1 ((rd_T42 l0_0 x3_1).f0) ((rd_T42 l0_0 x3_1).f1) t106 t107))) else (q3.j5 k5 x3_1 t113 x15_5 t138 true l0_0 l0_1 ((rd_T42 l0_0 x3_1).f0) ((rd_T42 l0_0 x3_1).f1) t106 t107))) = some r := H
                    have A67 := Aside0.mk A670
                    clear A670
                    have HC68 := Aside0.mk H
                    clear H
                    have hnb69 := NB105_101.out
                    have hnc69 := NB101_105.out
                    have hnb70 := NB105_111.out
                    have hnc70 := NB111_105.out
                    have hcz71_0 : wr.cell? ⟨gb105, 0, none⟩ = some (.int .i64 ((rd_T42 l0_0 x3_1).f0)) := (blk_cell BK105.out 0).trans rfl
                    have hcz71_1 : wr.cell? ⟨gb105, 1, none⟩ = some (.slice A104_1 ((rd_T42 l0_0 x3_1).f1).length c104_1) := (blk_cell BK105.out 1).trans rfl
                    have hfz71_0 := blk_frozen BK105.out 0
                    have hfz71_1 := blk_frozen BK105.out 1
                    go_upto_region 27 with (first | (go_at_call 33; (with_reducible refine (q43.calls k5 ((rd_T42 l0_0 x3_1).f0) _ _ ((rd_T42 l0_0 x3_1).f1) x15_5 t130 t133 _ ?side1 ?side2 A65.out).mono ?_); (case side1 => repeat (first | exact (Kd.C_below HR104_1.out HB.out) | (with_reducible refine Kd.C_alloc ?_ _) | (with_reducible refine Kd.C_drewN ?_ _) | (with_reducible refine Kd.C_drew ?_))); (case side2 => exact HC104_1.out); rintro e w72 ⟨v131, rfl, ho0, hb⟩; have n0_ := Aside0.mk (Kd.R_elder' v17_ (Kd.R_base ho0) hb); have n1_ := Aside0.mk (Kd.S_elder' v30_ (Kd.R_base ho0) hb); have n2_ := Aside0.mk (Kd.R_lower (Kd.R_new' ho0 (Kd.R_lt v17_)) (below_size v4_)); have n3_ := Aside0.mk (blk_below (g := gb101) (o := .cells #[.slice (some ad104) l0_0.length c0_0, .slice A0_1 l0_1.length c0_1] 37 (0, 0)) v2_ hb); have n4_ := Aside0.mk (blk_below (g := gb105) (o := .cells #[.int .i64 ((rd_T42 l0_0 x3_1).f0), .slice A104_1 ((rd_T42 l0_0 x3_1).f1).length c104_1] 42 (0, 0)) v11_ hb); have n5_ := Aside0.mk (blk_below (g := gb111) (o := .cells #[.int .i64 t106, .slice Ao33 t107.length co33] 42 (0, 0)) v18_ hb); have n6_ := Aside0.mk (below_step v4_ hb); clear HO_7; clear HO_112001; clear BK101; clear BK105; clear BK111; clear HB; have HO_7 := n0_; have HO_112001 := n1_; have HO132 := n2_; have BK101 := n3_; have BK105 := n4_; have BK111 := n5_; have HB := n6_; clear n0_ n1_ n2_ n3_ n4_ n5_ n6_; (try clear hb); (try clear hb2); (try clear hk); (try clear hi); (try clear ho0); have hnb73 := NB111_101.out; have hnc73 := NB101_111.out; have hcz74_0 : w72.cell? ⟨gb111, 0, none⟩ = some (.int .i64 t106) := (blk_cell BK111.out 0).trans rfl; have hcz74_1 : w72.cell? ⟨gb111, 1, none⟩ = some (.slice Ao33 t107.length co33) := (blk_cell BK111.out 1).trans rfl; have hfz74_0 := blk_frozen BK111.out 0; have hfz74_1 := blk_frozen BK111.out 1) | (go_at_call 32; (with_reducible refine (q40.calls k5 t106 _ _ t107 x15_5 t134 t137 _ ?side1 ?side2 A66.out).mono ?_); (case side1 => repeat (first | exact (Kd.S_reads' HO_112001.out).2.2 | (with_reducible refine Kd.C_alloc ?_ _) | (with_reducible refine Kd.C_drewN ?_ _) | (with_reducible refine Kd.C_drew ?_))); (case side2 => exact (Kd.S_reads' HO_112001.out).2.1); rintro e w75 ⟨v135, rfl, ho0, hb⟩; have n0_ := Aside0.mk (Kd.R_elder' v17_ (Kd.R_base ho0) hb); have n1_ := Aside0.mk (Kd.S_elder' v30_ (Kd.R_base ho0) hb); have n2_ := Aside0.mk (Kd.R_elder' v22_ (Kd.R_base ho0) hb); have n3_ := Aside0.mk (Kd.R_lower (Kd.R_new' (Kd.R_new' ho0 (Kd.R_lt v17_)) (Kd.R_lt v22_)) (below_size v4_)); have n4_ := Aside0.mk (blk_below (g := gb101) (o := .cells #[.slice (some ad104) l0_0.length c0_0, .slice A0_1 l0_1.length c0_1] 37 (0, 0)) v2_ hb); have n5_ := Aside0.mk (blk_below (g := gb105) (o := .cells #[.int .i64 ((rd_T42 l0_0 x3_1).f0), .slice A104_1 ((rd_T42 l0_0 x3_1).f1).length c104_1] 42 (0, 0)) v11_ hb); have n6_ := Aside0.mk (blk_below (g := gb111) (o := .cells #[.int .i64 t106, .slice Ao33 t107.length co33] 42 (0, 0)) v18_ hb); have n7_ := Aside0.mk (below_step v4_ hb); clear HO_7; clear HO_112001; clear HO132; clear BK101; clear BK105; clear BK111; clear HB; have HO_7 := n0_; have HO_112001 := n1_; have HO132 := n2_; have HO136 := n3_; have BK101 := n4_; have BK105 := n5_; have BK111 := n6_; have HB := n7_; clear n0_ n1_ n2_ n3_ n4_ n5_ n6_ n7_; (try clear hb); (try clear hb2); (try clear hk); (try clear hi); (try clear ho0); have hcz76_0 : w75.cell? ⟨gb105, 0, none⟩ = some (.int .i64 ((rd_T42 l0_0 x3_1).f0)) := (blk_cell BK105.out 0).trans rfl; have hcz76_1 : w75.cell? ⟨gb105, 1, none⟩ = some (.slice A104_1 ((rd_T42 l0_0 x3_1).f1).length c104_1) := (blk_cell BK105.out 1).trans rfl; have hfz76_0 := blk_frozen BK105.out 0; have hfz76_1 := blk_frozen BK105.out 1) | (go_at_call 35; (with_reducible refine (q26.calls k5 ((rd_T42 l0_0 x3_1).f0) _ _ ((rd_T42 l0_0 x3_1).f1) x15_5 t138 t141 _ ?side1 ?side2 A67.out).mono ?_); (case side1 => repeat (first | exact (Kd.C_below HR104_1.out HB.out) | (with_reducible refine Kd.C_alloc ?_ _) | (with_reducible refine Kd.C_drewN ?_ _) | (with_reducible refine Kd.C_drew ?_))); (case side2 => exact HC104_1.out); rintro e w77 ⟨v139, rfl, ho0, hb⟩; have n0_ := Aside0.mk (Kd.R_elder' v17_ (Kd.R_base ho0) hb); have n1_ := Aside0.mk (Kd.S_elder' v30_ (Kd.R_base ho0) hb); have n2_ := Aside0.mk (Kd.R_elder' v22_ (Kd.R_base ho0) hb); have n3_ := Aside0.mk (Kd.R_elder' v52_ (Kd.R_base ho0) hb); have n4_ := Aside0.mk (Kd.R_lower (Kd.R_new' (Kd.R_new' (Kd.R_new' ho0 (Kd.R_lt v17_)) (Kd.R_lt v22_)) (Kd.R_lt v52_)) (below_size v4_)); have n5_ := Aside0.mk (blk_below (g := gb101) (o := .cells #[.slice (some ad104) l0_0.length c0_0, .slice A0_1 l0_1.length c0_1] 37 (0, 0)) v2_ hb); have n6_ := Aside0.mk (blk_below (g := gb105) (o := .cells #[.int .i64 ((rd_T42 l0_0 x3_1).f0), .slice A104_1 ((rd_T42 l0_0 x3_1).f1).length c104_1] 42 (0, 0)) v11_ hb); have n7_ := Aside0.mk (blk_below (g := gb111) (o := .cells #[.int .i64 t106, .slice Ao33 t107.length co33] 42 (0, 0)) v18_ hb); have n8_ := Aside0.mk (below_step v4_ hb); clear HO_7; clear HO_112001; clear HO132; clear HO136; clear BK101; clear BK105; clear BK111; clear HB; have HO_7 := n0_; have HO_112001 := n1_; have HO132 := n2_; have HO136 := n3_; have HO140 := n4_; have BK101 := n5_; have BK105 := n6_; have BK111 := n7_; have HB := n8_; clear n0_ n1_ n2_ n3_ n4_ n5_ n6_ n7_ n8_; (try clear hb); (try clear hb2); (try clear hk); (try clear hi); (try clear ho0)))
                    repeat (go_quiet (first | (go_at_call 33; (with_reducible refine (q43.calls k5 ((rd_T42 l0_0 x3_1).f0) _ _ ((rd_T42 l0_0 x3_1).f1) x15_5 t130 t133 _ ?side1 ?side2 A65.out).mono ?_); (case side1 => repeat (first | exact (Kd.C_below HR104_1.out HB.out) | (with_reducible refine Kd.C_alloc ?_ _) | (with_reducible refine Kd.C_drewN ?_ _) | (with_reducible refine Kd.C_drew ?_))); (case side2 => exact HC104_1.out); rintro e w72 ⟨v131, rfl, ho0, hb⟩; have n0_ := Aside0.mk (Kd.R_elder' v17_ (Kd.R_base ho0) hb); have n1_ := Aside0.mk (Kd.S_elder' v30_ (Kd.R_base ho0) hb); have n2_ := Aside0.mk (Kd.R_lower (Kd.R_new' ho0 (Kd.R_lt v17_)) (below_size v4_)); have n3_ := Aside0.mk (blk_below (g := gb101) (o := .cells #[.slice (some ad104) l0_0.length c0_0, .slice A0_1 l0_1.length c0_1] 37 (0, 0)) v2_ hb); have n4_ := Aside0.mk (blk_below (g := gb105) (o := .cells #[.int .i64 ((rd_T42 l0_0 x3_1).f0), .slice A104_1 ((rd_T42 l0_0 x3_1).f1).length c104_1] 42 (0, 0)) v11_ hb); have n5_ := Aside0.mk (blk_below (g := gb111) (o := .cells #[.int .i64 t106, .slice Ao33 t107.length co33] 42 (0, 0)) v18_ hb); have n6_ := Aside0.mk (below_step v4_ hb); clear HO_7; clear HO_112001; clear BK101; clear BK105; clear BK111; clear HB; have HO_7 := n0_; have HO_112001 := n1_; have HO132 := n2_; have BK101 := n3_; have BK105 := n4_; have BK111 := n5_; have HB := n6_; clear n0_ n1_ n2_ n3_ n4_ n5_ n6_; (try clear hb); (try clear hb2); (try clear hk); (try clear hi); (try clear ho0); have hnb73 := NB111_101.out; have hnc73 := NB101_111.out; have hcz74_0 : w72.cell? ⟨gb111, 0, none⟩ = some (.int .i64 t106) := (blk_cell BK111.out 0).trans rfl; have hcz74_1 : w72.cell? ⟨gb111, 1, none⟩ = some (.slice Ao33 t107.length co33) := (blk_cell BK111.out 1).trans rfl; have hfz74_0 := blk_frozen BK111.out 0; have hfz74_1 := blk_frozen BK111.out 1) | (go_at_call 32; (with_reducible refine (q40.calls k5 t106 _ _ t107 x15_5 t134 t137 _ ?side1 ?side2 A66.out).mono ?_); (case side1 => repeat (first | exact (Kd.S_reads' HO_112001.out).2.2 | (with_reducible refine Kd.C_alloc ?_ _) | (with_reducible refine Kd.C_drewN ?_ _) | (with_reducible refine Kd.C_drew ?_))); (case side2 => exact (Kd.S_reads' HO_112001.out).2.1); rintro e w75 ⟨v135, rfl, ho0, hb⟩; have n0_ := Aside0.mk (Kd.R_elder' v17_ (Kd.R_base ho0) hb); have n1_ := Aside0.mk (Kd.S_elder' v30_ (Kd.R_base ho0) hb); have n2_ := Aside0.mk (Kd.R_elder' v22_ (Kd.R_base ho0) hb); have n3_ := Aside0.mk (Kd.R_lower (Kd.R_new' (Kd.R_new' ho0 (Kd.R_lt v17_)) (Kd.R_lt v22_)) (below_size v4_)); have n4_ := Aside0.mk (blk_below (g := gb101) (o := .cells #[.slice (some ad104) l0_0.length c0_0, .slice A0_1 l0_1.length c0_1] 37 (0, 0)) v2_ hb); have n5_ := Aside0.mk (blk_below (g := gb105) (o := .cells #[.int .i64 ((rd_T42 l0_0 x3_1).f0), .slice A104_1 ((rd_T42 l0_0 x3_1).f1).length c104_1] 42 (0, 0)) v11_ hb); have n6_ := Aside0.mk (blk_below (g := gb111) (o := .cells #[.int .i64 t106, .slice Ao33 t107.length co33] 42 (0, 0)) v18_ hb); have n7_ := Aside0.mk (below_step v4_ hb); clear HO_7; clear HO_112001; clear HO132; clear BK101; clear BK105; clear BK111; clear HB; have HO_7 := n0_; have HO_112001 := n1_; have HO132 := n2_; have HO136 := n3_; have BK101 := n4_; have BK105 := n5_; have BK111 := n6_; have HB := n7_; clear n0_ n1_ n2_ n3_ n4_ n5_ n6_ n7_; (try clear hb); (try clear hb2); (try clear hk); (try clear hi); (try clear ho0); have hcz76_0 : w75.cell? ⟨gb105, 0, none⟩ = some (.int .i64 ((rd_T42 l0_0 x3_1).f0)) := (blk_cell BK105.out 0).trans rfl; have hcz76_1 : w75.cell? ⟨gb105, 1, none⟩ = some (.slice A104_1 ((rd_T42 l0_0 x3_1).f1).length c104_1) := (blk_cell BK105.out 1).trans rfl; have hfz76_0 := blk_frozen BK105.out 0; have hfz76_1 := blk_frozen BK105.out 1) | (go_at_call 35; (with_reducible refine (q26.calls k5 ((rd_T42 l0_0 x3_1).f0) _ _ ((rd_T42 l0_0 x3_1).f1) x15_5 t138 t141 _ ?side1 ?side2 A67.out).mono ?_); (case side1 => repeat (first | exact (Kd.C_below HR104_1.out HB.out) | (with_reducible refine Kd.C_alloc ?_ _) | (with_reducible refine Kd.C_drewN ?_ _) | (with_reducible refine Kd.C_drew ?_))); (case side2 => exact HC104_1.out); rintro e w77 ⟨v139, rfl, ho0, hb⟩; have n0_ := Aside0.mk (Kd.R_elder' v17_ (Kd.R_base ho0) hb); have n1_ := Aside0.mk (Kd.S_elder' v30_ (Kd.R_base ho0) hb); have n2_ := Aside0.mk (Kd.R_elder' v22_ (Kd.R_base ho0) hb); have n3_ := Aside0.mk (Kd.R_elder' v52_ (Kd.R_base ho0) hb); have n4_ := Aside0.mk (Kd.R_lower (Kd.R_new' (Kd.R_new' (Kd.R_new' ho0 (Kd.R_lt v17_)) (Kd.R_lt v22_)) (Kd.R_lt v52_)) (below_size v4_)); have n5_ := Aside0.mk (blk_below (g := gb101) (o := .cells #[.slice (some ad104) l0_0.length c0_0, .slice A0_1 l0_1.length c0_1] 37 (0, 0)) v2_ hb); have n6_ := Aside0.mk (blk_below (g := gb105) (o := .cells #[.int .i64 ((rd_T42 l0_0 x3_1).f0), .slice A104_1 ((rd_T42 l0_0 x3_1).f1).length c104_1] 42 (0, 0)) v11_ hb); have n7_ := Aside0.mk (blk_below (g := gb111) (o := .cells #[.int .i64 t106, .slice Ao33 t107.length co33] 42 (0, 0)) v18_ hb); have n8_ := Aside0.mk (below_step v4_ hb); clear HO_7; clear HO_112001; clear HO132; clear HO136; clear BK101; clear BK105; clear BK111; clear HB; have HO_7 := n0_; have HO_112001 := n1_; have HO132 := n2_; have HO136 := n3_; have HO140 := n4_; have BK101 := n5_; have BK105 := n6_; have BK111 := n7_; have HB := n8_; clear n0_ n1_ n2_ n3_ n4_ n5_ n6_ n7_ n8_; (try clear hb); (try clear hb2); (try clear hk); (try clear hi); (try clear ho0))); go_upto_region 27 with (first | (go_at_call 33; (with_reducible refine (q43.calls k5 ((rd_T42 l0_0 x3_1).f0) _ _ ((rd_T42 l0_0 x3_1).f1) x15_5 t130 t133 _ ?side1 ?side2 A65.out).mono ?_); (case side1 => repeat (first | exact (Kd.C_below HR104_1.out HB.out) | (with_reducible refine Kd.C_alloc ?_ _) | (with_reducible refine Kd.C_drewN ?_ _) | (with_reducible refine Kd.C_drew ?_))); (case side2 => exact HC104_1.out); rintro e w72 ⟨v131, rfl, ho0, hb⟩; have n0_ := Aside0.mk (Kd.R_elder' v17_ (Kd.R_base ho0) hb); have n1_ := Aside0.mk (Kd.S_elder' v30_ (Kd.R_base ho0) hb); have n2_ := Aside0.mk (Kd.R_lower (Kd.R_new' ho0 (Kd.R_lt v17_)) (below_size v4_)); have n3_ := Aside0.mk (blk_below (g := gb101) (o := .cells #[.slice (some ad104) l0_0.length c0_0, .slice A0_1 l0_1.length c0_1] 37 (0, 0)) v2_ hb); have n4_ := Aside0.mk (blk_below (g := gb105) (o := .cells #[.int .i64 ((rd_T42 l0_0 x3_1).f0), .slice A104_1 ((rd_T42 l0_0 x3_1).f1).length c104_1] 42 (0, 0)) v11_ hb); have n5_ := Aside0.mk (blk_below (g := gb111) (o := .cells #[.int .i64 t106, .slice Ao33 t107.length co33] 42 (0, 0)) v18_ hb); have n6_ := Aside0.mk (below_step v4_ hb); clear HO_7; clear HO_112001; clear BK101; clear BK105; clear BK111; clear HB; have HO_7 := n0_; have HO_112001 := n1_; have HO132 := n2_; have BK101 := n3_; have BK105 := n4_; have BK111 := n5_; have HB := n6_; clear n0_ n1_ n2_ n3_ n4_ n5_ n6_; (try clear hb); (try clear hb2); (try clear hk); (try clear hi); (try clear ho0); have hnb73 := NB111_101.out; have hnc73 := NB101_111.out; have hcz74_0 : w72.cell? ⟨gb111, 0, none⟩ = some (.int .i64 t106) := (blk_cell BK111.out 0).trans rfl; have hcz74_1 : w72.cell? ⟨gb111, 1, none⟩ = some (.slice Ao33 t107.length co33) := (blk_cell BK111.out 1).trans rfl; have hfz74_0 := blk_frozen BK111.out 0; have hfz74_1 := blk_frozen BK111.out 1) | (go_at_call 32; (with_reducible refine (q40.calls k5 t106 _ _ t107 x15_5 t134 t137 _ ?side1 ?side2 A66.out).mono ?_); (case side1 => repeat (first | exact (Kd.S_reads' HO_112001.out).2.2 | (with_reducible refine Kd.C_alloc ?_ _) | (with_reducible refine Kd.C_drewN ?_ _) | (with_reducible refine Kd.C_drew ?_))); (case side2 => exact (Kd.S_reads' HO_112001.out).2.1); rintro e w75 ⟨v135, rfl, ho0, hb⟩; have n0_ := Aside0.mk (Kd.R_elder' v17_ (Kd.R_base ho0) hb); have n1_ := Aside0.mk (Kd.S_elder' v30_ (Kd.R_base ho0) hb); have n2_ := Aside0.mk (Kd.R_elder' v22_ (Kd.R_base ho0) hb); have n3_ := Aside0.mk (Kd.R_lower (Kd.R_new' (Kd.R_new' ho0 (Kd.R_lt v17_)) (Kd.R_lt v22_)) (below_size v4_)); have n4_ := Aside0.mk (blk_below (g := gb101) (o := .cells #[.slice (some ad104) l0_0.length c0_0, .slice A0_1 l0_1.length c0_1] 37 (0, 0)) v2_ hb); have n5_ := Aside0.mk (blk_below (g := gb105) (o := .cells #[.int .i64 ((rd_T42 l0_0 x3_1).f0), .slice A104_1 ((rd_T42 l0_0 x3_1).f1).length c104_1] 42 (0, 0)) v11_ hb); have n6_ := Aside0.mk (blk_below (g := gb111) (o := .cells #[.int .i64 t106, .slice Ao33 t107.length co33] 42 (0, 0)) v18_ hb); have n7_ := Aside0.mk (below_step v4_ hb); clear HO_7; clear HO_112001; clear HO132; clear BK101; clear BK105; clear BK111; clear HB; have HO_7 := n0_; have HO_112001 := n1_; have HO132 := n2_; have HO136 := n3_; have BK101 := n4_; have BK105 := n5_; have BK111 := n6_; have HB := n7_; clear n0_ n1_ n2_ n3_ n4_ n5_ n6_ n7_; (try clear hb); (try clear hb2); (try clear hk); (try clear hi); (try clear ho0); have hcz76_0 : w75.cell? ⟨gb105, 0, none⟩ = some (.int .i64 ((rd_T42 l0_0 x3_1).f0)) := (blk_cell BK105.out 0).trans rfl; have hcz76_1 : w75.cell? ⟨gb105, 1, none⟩ = some (.slice A104_1 ((rd_T42 l0_0 x3_1).f1).length c104_1) := (blk_cell BK105.out 1).trans rfl; have hfz76_0 := blk_frozen BK105.out 0; have hfz76_1 := blk_frozen BK105.out 1) | (go_at_call 35; (with_reducible refine (q26.calls k5 ((rd_T42 l0_0 x3_1).f0) _ _ ((rd_T42 l0_0 x3_1).f1) x15_5 t138 t141 _ ?side1 ?side2 A67.out).mono ?_); (case side1 => repeat (first | exact (Kd.C_below HR104_1.out HB.out) | (with_reducible refine Kd.C_alloc ?_ _) | (with_reducible refine Kd.C_drewN ?_ _) | (with_reducible refine Kd.C_drew ?_))); (case side2 => exact HC104_1.out); rintro e w77 ⟨v139, rfl, ho0, hb⟩; have n0_ := Aside0.mk (Kd.R_elder' v17_ (Kd.R_base ho0) hb); have n1_ := Aside0.mk (Kd.S_elder' v30_ (Kd.R_base ho0) hb); have n2_ := Aside0.mk (Kd.R_elder' v22_ (Kd.R_base ho0) hb); have n3_ := Aside0.mk (Kd.R_elder' v52_ (Kd.R_base ho0) hb); have n4_ := Aside0.mk (Kd.R_lower (Kd.R_new' (Kd.R_new' (Kd.R_new' ho0 (Kd.R_lt v17_)) (Kd.R_lt v22_)) (Kd.R_lt v52_)) (below_size v4_)); have n5_ := Aside0.mk (blk_below (g := gb101) (o := .cells #[.slice (some ad104) l0_0.length c0_0, .slice A0_1 l0_1.length c0_1] 37 (0, 0)) v2_ hb); have n6_ := Aside0.mk (blk_below (g := gb105) (o := .cells #[.int .i64 ((rd_T42 l0_0 x3_1).f0), .slice A104_1 ((rd_T42 l0_0 x3_1).f1).length c104_1] 42 (0, 0)) v11_ hb); have n7_ := Aside0.mk (blk_below (g := gb111) (o := .cells #[.int .i64 t106, .slice Ao33 t107.length co33] 42 (0, 0)) v18_ hb); have n8_ := Aside0.mk (below_step v4_ hb); clear HO_7; clear HO_112001; clear HO132; clear HO136; clear BK101; clear BK105; clear BK111; clear HB; have HO_7 := n0_; have HO_112001 := n1_; have HO132 := n2_; have HO136 := n3_; have HO140 := n4_; have BK101 := n5_; have BK105 := n6_; have BK111 := n7_; have HB := n8_; clear n0_ n1_ n2_ n3_ n4_ n5_ n6_ n7_ n8_; (try clear hb); (try clear hb2); (try clear hk); (try clear hi); (try clear ho0))))
                    (try simp only [Act.put, List.setIfInBounds_toArray, List.set_cons_zero, List.set_cons_succ])
                    go_cut [164] (fun v164 wc => ∃ (kq : Nat) (x164_67 : Bool), v164 = .bool x164_67 ∧ Aside0 (q3.j5 kq x3_1 t113 x15_5 t138 x164_67 l0_0 l0_1 ((rd_T42 l0_0 x3_1).f0) ((rd_T42 l0_0 x3_1).f1) t106 t107 = some r) ∧ Aside0 (kq ≤ k5) ∧ Aside0 (Kd.R (Kd.int .i64) 3 wc w.heap.size (fun k_ => some k_ ≠ (v139 : Value).ownBlock) v114 t113) ∧ Aside0 (Kd.R (Kd.int .i64) 3 wc w.heap.size (fun k_ => some k_ ≠ (v114 : Value).ownBlock) v139 t138) ∧ Aside0 (Kd.S (Kd.slice 3 (Kd.int .i64)) 45 wc w.heap.size (fun k_ => some k_ ≠ (v114 : Value).ownBlock ∧ some k_ ≠ (v139 : Value).ownBlock) (.slice Ao33 t107.length co33) t107) ∧ Aside0 (wc.heap[gb101]? = some (.cells #[(.slice (some ad104) l0_0.length c0_0), (.slice A0_1 l0_1.length c0_1)] 37 (0, 0))) ∧ Aside0 (wc.heap[gb105]? = some (.cells #[.int .i64 ((rd_T42 l0_0 x3_1).f0), (.slice A104_1 ((rd_T42 l0_0 x3_1).f1).length c104_1)] 42 (0, 0))) ∧ Aside0 (wc.heap[gb111]? = some (.cells #[.int .i64 t106, (.slice Ao33 t107.length co33)] 42 (0, 0))) ∧ Aside0 (Below w.heap.size w wc))
                    case first => as_aux_lemma =>
                     have H := HC68.out
                     clear HC68
                     replace H := Option.bind_eq_some_iff.mp H
                     obtain ⟨t142, A780, H⟩ := H
                     replace H : (if t142 = 0 then ((q4.f t137).bind fun t143 => (if t143 = 0 then ((q4.f t141).bind fun t144 => (if t144 = 0 then ((q5.f k5 t130 t134).bind fun t145 => (if t145 = true then (if (t138.length : Int) = ((rd_T42 l0_0 x3_1).f0) then (if 0 ≤ x15_5 then (if x15_5 < (t138.length : Int) then (q3.j5 k5 x3_1 t113 x15_5 t138 ((rd t138 x15_5) != 0) l0_0 l0_1 ((rd_T42 l0_0 x3_1).f0) ((rd_T42 l0_0 x3_1).f1) t106 t107) else (none)) else (none)) else (q3.j5 k5 x3_1 t113 x15_5 t138 true l0_0 l0_1 ((rd_T42 l0_0 x3_1).f0) ((rd_T42 l0_0 x3_1).f1) t106 t107)) else (q3.j5 k5 x3_1 t113 x15_5 t138 true l0_0 l0_1 ((rd_T42 l0_0 x3_1).f0) ((rd_T42 l0_0 x3_1).f1) t106 t107))) else (q3.j5 k5 x3_1 t113 x15_5 t138 true l0_0 l0_1 ((rd_T42 l0_0 x3_1).f0) ((rd_T42 l0_0 x3_1).f1) t106 t107))) else (q3.j5 k5 x3_1 t113 x15_5 t138 true l0_0 l0_1 ((rd_T42 l0_0 x3_1).f0) ((rd_T42 l0_0 x3_1).f1) t106 t107))) else (q3.j5 k5 x3_1 t113 x15_5 t138 true l0_0 l0_1 ((rd_T42 l0_0 x3_1).f0) ((rd_T42 l0_0 x3_1).f1) t106 t107)) = some r := H
                     have A78 := Aside0.mk A780
                     clear A780
                     by_cases c79 : t142 = 0
                     ·rw [if_pos c79] at H
                      have c79b0 : (t142 == 0) = true := beq_iff_eq.mpr c79
                      have c79b1 : (t142 != 0) = false := bne_eq_false_iff_eq.mpr c79
                      clear c79
                      (first | rw [c79b0] | (simp only [i64_w, i32_w]; rw [c79b0]) | skip)
                      replace H := Option.bind_eq_some_iff.mp H
                      obtain ⟨t143, A800, H⟩ := H
                      replace H : (if t143 = 0 then ((q4.f t141).bind fun t144 => (if t144 = 0 then ((q5.f k5 t130 t134).bind fun t145 => (if t145 = true then (if (t138.length : Int) = ((rd_T42 l0_0 x3_1).f0) then (if 0 ≤ x15_5 then (if x15_5 < (t138.length : Int) then (q3.j5 k5 x3_1 t113 x15_5 t138 ((rd t138 x15_5) != 0) l0_0 l0_1 ((rd_T42 l0_0 x3_1).f0) ((rd_T42 l0_0 x3_1).f1) t106 t107) else (none)) else (none)) else (q3.j5 k5 x3_1 t113 x15_5 t138 true l0_0 l0_1 ((rd_T42 l0_0 x3_1).f0) ((rd_T42 l0_0 x3_1).f1) t106 t107)) else (q3.j5 k5 x3_1 t113 x15_5 t138 true l0_0 l0_1 ((rd_T42 l0_0 x3_1).f0) ((rd_T42 l0_0 x3_1).f1) t106 t107))) else (q3.j5 k5 x3_1 t113 x15_5 t138 true l0_0 l0_1 ((rd_T42 l0_0 x3_1).f0) ((rd_T42 l0_0 x3_1).f1) t106 t107))) else (q3.j5 k5 x3_1 t113 x15_5 t138 true l0_0 l0_1 ((rd_T42 l0_0 x3_1).f0) ((rd_T42 l0_0 x3_1).f1) t106 t107)) = some r := H
                      have A80 := Aside0.mk A800
                      clear A800
                      by_cases c81 : t143 = 0
                      ·rw [if_pos c81] at H
                       have c81b0 : (t143 == 0) = true := beq_iff_eq.mpr c81
                       have c81b1 : (t143 != 0) = false := bne_eq_false_iff_eq.mpr c81
                       clear c81
                       replace H := Option.bind_eq_some_iff.mp H
                       obtain ⟨t144, A820, H⟩ := H
                       replace H : (if t144 = 0 then ((q5.f k5 t130 t134).bind fun t145 => (if t145 = true then (if (t138.length : Int) = ((rd_T42 l0_0 x3_1).f0) then (if 0 ≤ x15_5 then (if x15_5 < (t138.length : Int) then (q3.j5 k5 x3_1 t113 x15_5 t138 ((rd t138 x15_5) != 0) l0_0 l0_1 ((rd_T42 l0_0 x3_1).f0) ((rd_T42 l0_0 x3_1).f1) t106 t107) else (none)) else (none)) else (q3.j5 k5 x3_1 t113 x15_5 t138 true l0_0 l0_1 ((rd_T42 l0_0 x3_1).f0) ((rd_T42 l0_0 x3_1).f1) t106 t107)) else (q3.j5 k5 x3_1 t113 x15_5 t138 true l0_0 l0_1 ((rd_T42 l0_0 x3_1).f0) ((rd_T42 l0_0 x3_1).f1) t106 t107))) else (q3.j5 k5 x3_1 t113 x15_5 t138 true l0_0 l0_1 ((rd_T42 l0_0 x3_1).f0) ((rd_T42 l0_0 x3_1).f1) t106 t107)) = some r := H
                       have A82 := Aside0.mk A820
                       clear A820
                       by_cases c83 : t144 = 0
                       ·rw [if_pos c83] at H
                        have c83b0 : (t144 == 0) = true := beq_iff_eq.mpr c83
                        have c83b1 : (t144 != 0) = false := bne_eq_false_iff_eq.mpr c83
                        clear c83
                        replace H := Option.bind_eq_some_iff.mp H
                        obtain ⟨t145, A840, H⟩ := H
                        replace H : (if t145 = true then (if (t138.length : Int) = ((rd_T42 l0_0 x3_1).f0) then (if 0 ≤ x15_5 then (if x15_5 < (t138.length : Int) then (q3.j5 k5 x3_1 t113 x15_5 t138 ((rd t138 x15_5) != 0) l0_0 l0_1 ((rd_T42 l0_0 x3_1).f0) ((rd_T42 l0_0 x3_1).f1) t106 t107) else (none)) else (none)) else (q3.j5 k5 x3_1 t113 x15_5 t138 true l0_0 l0_1 ((rd_T42 l0_0 x3_1).f0) ((rd_T42 l0_0 x3_1).f1) t106 t107)) else (q3.j5 k5 x3_1 t113 x15_5 t138 true l0_0 l0_1 ((rd_T42 l0_0 x3_1).f0) ((rd_T42 l0_0 x3_1).f1) t106 t107)) = some r := H
                        have A84 := Aside0.mk A840
                        clear A840
                        by_cases c85 : t145 = true
                        ·subst c85
                         have H1 : (if (t138.length : Int) = ((rd_T42 l0_0 x3_1).f0) then (if 0 ≤ x15_5 then (if x15_5 < (t138.length : Int) then (q3.j5 k5 x3_1 t113 x15_5 t138 ((rd t138 x15_5) != 0) l0_0 l0_1 ((rd_T42 l0_0 x3_1).f0) ((rd_T42 l0_0 x3_1).f1) t106 t107) else (none)) else (none)) else (q3.j5 k5 x3_1 t113 x15_5 t138 true l0_0 l0_1 ((rd_T42 l0_0 x3_1).f0) ((rd_T42 l0_0 x3_1).f1) t106 t107)) = some r := by rw [if_pos rfl] at H; exact H
                         clear H
                         have H := H1
                         clear H1
                         by_cases c86 : (t138.length : Int) = ((rd_T42 l0_0 x3_1).f0)
                         ·rw [if_pos c86] at H
                          have c86b0 : ((t138.length : Int) == ((rd_T42 l0_0 x3_1).f0)) = true := beq_iff_eq.mpr c86
                          have c86b1 : ((t138.length : Int) != ((rd_T42 l0_0 x3_1).f0)) = false := bne_eq_false_iff_eq.mpr c86
                          clear c86
                          by_cases c87 : 0 ≤ x15_5
                          ·rw [if_pos c87] at H
                           have c87b0 : decide (0 ≤ x15_5) = true := decide_eq_true c87
                           clear c87
                           by_cases c88 : x15_5 < (t138.length : Int)
                           ·rw [if_pos c88] at H
                            have c88b0 : decide (x15_5 < (t138.length : Int)) = true := decide_eq_true c88
                            clear c88
                            have H' := Aside0.mk H
                            clear H
                            go_wp2_with (first | (go_at_call 30; (with_reducible refine (q4.calls t133 t142 _ A78.out).mono ?_); rintro e w' ⟨rfl, ⟨nd, rfl⟩⟩; (try first | exact ⟨rfl, _, World.drewN_drewN _ _ _⟩ | exact ⟨rfl, _, Eq.trans (World.drewN_drewN _ _ _) (congrArg (World.drewN _) (Nat.add_assoc _ _ _))⟩)) | (go_at_call 30; (with_reducible refine (q4.calls t137 t143 _ A80.out).mono ?_); rintro e w' ⟨rfl, ⟨nd, rfl⟩⟩; (try first | exact ⟨rfl, _, World.drewN_drewN _ _ _⟩ | exact ⟨rfl, _, Eq.trans (World.drewN_drewN _ _ _) (congrArg (World.drewN _) (Nat.add_assoc _ _ _))⟩)) | (go_at_call 30; (with_reducible refine (q4.calls t141 t144 _ A82.out).mono ?_); rintro e w' ⟨rfl, ⟨nd, rfl⟩⟩; (try first | exact ⟨rfl, _, World.drewN_drewN _ _ _⟩ | exact ⟨rfl, _, Eq.trans (World.drewN_drewN _ _ _) (congrArg (World.drewN _) (Nat.add_assoc _ _ _))⟩); obtain ⟨Ao89, co89, eo89⟩ := Kd.R_slice HO132.out; subst eo89; obtain ⟨Ao90, co90, eo90⟩ := Kd.R_slice HO136.out; subst eo90) | (go_at_call 31; (with_reducible refine (q5.calls k5 _ _ t130 _ _ t134 true _ ?side1 ?side2 ?side3 ?side4 A84.out).mono ?_); (case side1 => repeat (first | exact (Kd.R_reads' HO132.out).2.2 | (with_reducible refine Kd.C_alloc ?_ _) | (with_reducible refine Kd.C_drewN ?_ _) | (with_reducible refine Kd.C_drew ?_))); (case side2 => exact (Kd.R_reads' HO132.out).2.1); (case side3 => repeat (first | exact (Kd.R_reads' HO136.out).2.2 | (with_reducible refine Kd.C_alloc ?_ _) | (with_reducible refine Kd.C_drewN ?_ _) | (with_reducible refine Kd.C_drew ?_))); (case side4 => exact (Kd.R_reads' HO136.out).2.1); rintro e w' ⟨rfl, ⟨nd, rfl⟩⟩; (try first | exact ⟨rfl, _, World.drewN_drewN _ _ _⟩ | exact ⟨rfl, _, Eq.trans (World.drewN_drewN _ _ _) (congrArg (World.drewN _) (Nat.add_assoc _ _ _))⟩); obtain ⟨Ao91, co91, eo91⟩ := Kd.R_slice HO140.out; subst eo91; have hnb92 := NB105_101.out; have hnc92 := NB101_105.out; have hnb93 := NB105_111.out; have hnc93 := NB111_105.out; have hcz94_0 : w77.cell? ⟨gb105, 0, none⟩ = some (.int .i64 ((rd_T42 l0_0 x3_1).f0)) := (blk_cell BK105.out 0).trans rfl; have hcz94_1 : w77.cell? ⟨gb105, 1, none⟩ = some (.slice A104_1 ((rd_T42 l0_0 x3_1).f1).length c104_1) := (blk_cell BK105.out 1).trans rfl; have hfz94_0 := blk_frozen BK105.out 0; have hfz94_1 := blk_frozen BK105.out 1; have p146 : 0 ≤ (x15_5 : Int) := of_decide_eq_true v3_; have q146 : x15_5 < (t138.length : Int) := of_decide_eq_true v3_; obtain ⟨ad146, e146, hx146_0⟩ := Kd.at_int (Kd.R_reads' HO140.out).2.2 x15_5 p146 q146; cases e146; replace p146 := eq_true p146; replace q146 := eq_true q146))
                            repeat (go_quiet (first | (go_at_call 30; (with_reducible refine (q4.calls t133 t142 _ A78.out).mono ?_); rintro e w' ⟨rfl, ⟨nd, rfl⟩⟩; (try first | exact ⟨rfl, _, World.drewN_drewN _ _ _⟩ | exact ⟨rfl, _, Eq.trans (World.drewN_drewN _ _ _) (congrArg (World.drewN _) (Nat.add_assoc _ _ _))⟩)) | (go_at_call 30; (with_reducible refine (q4.calls t137 t143 _ A80.out).mono ?_); rintro e w' ⟨rfl, ⟨nd, rfl⟩⟩; (try first | exact ⟨rfl, _, World.drewN_drewN _ _ _⟩ | exact ⟨rfl, _, Eq.trans (World.drewN_drewN _ _ _) (congrArg (World.drewN _) (Nat.add_assoc _ _ _))⟩)) | (go_at_call 30; (with_reducible refine (q4.calls t141 t144 _ A82.out).mono ?_); rintro e w' ⟨rfl, ⟨nd, rfl⟩⟩; (try first | exact ⟨rfl, _, World.drewN_drewN _ _ _⟩ | exact ⟨rfl, _, Eq.trans (World.drewN_drewN _ _ _) (congrArg (World.drewN _) (Nat.add_assoc _ _ _))⟩); obtain ⟨Ao89, co89, eo89⟩ := Kd.R_slice HO132.out; subst eo89; obtain ⟨Ao90, co90, eo90⟩ := Kd.R_slice HO136.out; subst eo90) | (go_at_call 31; (with_reducible refine (q5.calls k5 _ _ t130 _ _ t134 true _ ?side1 ?side2 ?side3 ?side4 A84.out).mono ?_); (case side1 => repeat (first | exact (Kd.R_reads' HO132.out).2.2 | (with_reducible refine Kd.C_alloc ?_ _) | (with_reducible refine Kd.C_drewN ?_ _) | (with_reducible refine Kd.C_drew ?_))); (case side2 => exact (Kd.R_reads' HO132.out).2.1); (case side3 => repeat (first | exact (Kd.R_reads' HO136.out).2.2 | (with_reducible refine Kd.C_alloc ?_ _) | (with_reducible refine Kd.C_drewN ?_ _) | (with_reducible refine Kd.C_drew ?_))); (case side4 => exact (Kd.R_reads' HO136.out).2.1); rintro e w' ⟨rfl, ⟨nd, rfl⟩⟩; (try first | exact ⟨rfl, _, World.drewN_drewN _ _ _⟩ | exact ⟨rfl, _, Eq.trans (World.drewN_drewN _ _ _) (congrArg (World.drewN _) (Nat.add_assoc _ _ _))⟩); obtain ⟨Ao91, co91, eo91⟩ := Kd.R_slice HO140.out; subst eo91; have hnb92 := NB105_101.out; have hnc92 := NB101_105.out; have hnb93 := NB105_111.out; have hnc93 := NB111_105.out; have hcz94_0 : w77.cell? ⟨gb105, 0, none⟩ = some (.int .i64 ((rd_T42 l0_0 x3_1).f0)) := (blk_cell BK105.out 0).trans rfl; have hcz94_1 : w77.cell? ⟨gb105, 1, none⟩ = some (.slice A104_1 ((rd_T42 l0_0 x3_1).f1).length c104_1) := (blk_cell BK105.out 1).trans rfl; have hfz94_0 := blk_frozen BK105.out 0; have hfz94_1 := blk_frozen BK105.out 1; have p146 : 0 ≤ (x15_5 : Int) := of_decide_eq_true v3_; have q146 : x15_5 < (t138.length : Int) := of_decide_eq_true v3_; obtain ⟨ad146, e146, hx146_0⟩ := Kd.at_int (Kd.R_reads' HO140.out).2.2 x15_5 p146 q146; cases e146; replace p146 := eq_true p146; replace q146 := eq_true q146)); try go_wp2_with (first | (go_at_call 30; (with_reducible refine (q4.calls t133 t142 _ A78.out).mono ?_); rintro e w' ⟨rfl, ⟨nd, rfl⟩⟩; (try first | exact ⟨rfl, _, World.drewN_drewN _ _ _⟩ | exact ⟨rfl, _, Eq.trans (World.drewN_drewN _ _ _) (congrArg (World.drewN _) (Nat.add_assoc _ _ _))⟩)) | (go_at_call 30; (with_reducible refine (q4.calls t137 t143 _ A80.out).mono ?_); rintro e w' ⟨rfl, ⟨nd, rfl⟩⟩; (try first | exact ⟨rfl, _, World.drewN_drewN _ _ _⟩ | exact ⟨rfl, _, Eq.trans (World.drewN_drewN _ _ _) (congrArg (World.drewN _) (Nat.add_assoc _ _ _))⟩)) | (go_at_call 30; (with_reducible refine (q4.calls t141 t144 _ A82.out).mono ?_); rintro e w' ⟨rfl, ⟨nd, rfl⟩⟩; (try first | exact ⟨rfl, _, World.drewN_drewN _ _ _⟩ | exact ⟨rfl, _, Eq.trans (World.drewN_drewN _ _ _) (congrArg (World.drewN _) (Nat.add_assoc _ _ _))⟩); obtain ⟨Ao89, co89, eo89⟩ := Kd.R_slice HO132.out; subst eo89; obtain ⟨Ao90, co90, eo90⟩ := Kd.R_slice HO136.out; subst eo90) | (go_at_call 31; (with_reducible refine (q5.calls k5 _ _ t130 _ _ t134 true _ ?side1 ?side2 ?side3 ?side4 A84.out).mono ?_); (case side1 => repeat (first | exact (Kd.R_reads' HO132.out).2.2 | (with_reducible refine Kd.C_alloc ?_ _) | (with_reducible refine Kd.C_drewN ?_ _) | (with_reducible refine Kd.C_drew ?_))); (case side2 => exact (Kd.R_reads' HO132.out).2.1); (case side3 => repeat (first | exact (Kd.R_reads' HO136.out).2.2 | (with_reducible refine Kd.C_alloc ?_ _) | (with_reducible refine Kd.C_drewN ?_ _) | (with_reducible refine Kd.C_drew ?_))); (case side4 => exact (Kd.R_reads' HO136.out).2.1); rintro e w' ⟨rfl, ⟨nd, rfl⟩⟩; (try first | exact ⟨rfl, _, World.drewN_drewN _ _ _⟩ | exact ⟨rfl, _, Eq.trans (World.drewN_drewN _ _ _) (congrArg (World.drewN _) (Nat.add_assoc _ _ _))⟩); obtain ⟨Ao91, co91, eo91⟩ := Kd.R_slice HO140.out; subst eo91; have hnb92 := NB105_101.out; have hnc92 := NB101_105.out; have hnb93 := NB105_111.out; have hnc93 := NB111_105.out; have hcz94_0 : w77.cell? ⟨gb105, 0, none⟩ = some (.int .i64 ((rd_T42 l0_0 x3_1).f0)) := (blk_cell BK105.out 0).trans rfl; have hcz94_1 : w77.cell? ⟨gb105, 1, none⟩ = some (.slice A104_1 ((rd_T42 l0_0 x3_1).f1).length c104_1) := (blk_cell BK105.out 1).trans rfl; have hfz94_0 := blk_frozen BK105.out 0; have hfz94_1 := blk_frozen BK105.out 1; have p146 : 0 ≤ (x15_5 : Int) := of_decide_eq_true v3_; have q146 : x15_5 < (t138.length : Int) := of_decide_eq_true v3_; obtain ⟨ad146, e146, hx146_0⟩ := Kd.at_int (Kd.R_reads' HO140.out).2.2 x15_5 p146 q146; cases e146; replace p146 := eq_true p146; replace q146 := eq_true q146)))
                            go_meet
                            case rel => exact ⟨_, (((rd t138 x15_5) != 0)), v12_, H', ⟨v43_⟩, ⟨v40_⟩, ⟨v39_⟩, ⟨v37_⟩, ⟨v6_⟩, ⟨v14_⟩, ⟨v13_⟩, ⟨v8_⟩⟩
                           ·rw [if_neg c88] at H
                            exact absurd H v58_
                          ·rw [if_neg c87] at H
                           exact absurd H v58_
                         ·rw [if_neg c86] at H
                          have c86b0 : ((t138.length : Int) == ((rd_T42 l0_0 x3_1).f0)) = false := beq_eq_false_iff_ne.mpr c86
                          have c86b1 : ((t138.length : Int) != ((rd_T42 l0_0 x3_1).f0)) = true := bne_iff_ne.mpr c86
                          have H' := Aside0.mk H
                          clear H
                          go_wp2_with (first | (go_at_call 30; (with_reducible refine (q4.calls t133 t142 _ A78.out).mono ?_); rintro e w' ⟨rfl, ⟨nd, rfl⟩⟩; (try first | exact ⟨rfl, _, World.drewN_drewN _ _ _⟩ | exact ⟨rfl, _, Eq.trans (World.drewN_drewN _ _ _) (congrArg (World.drewN _) (Nat.add_assoc _ _ _))⟩)) | (go_at_call 30; (with_reducible refine (q4.calls t137 t143 _ A80.out).mono ?_); rintro e w' ⟨rfl, ⟨nd, rfl⟩⟩; (try first | exact ⟨rfl, _, World.drewN_drewN _ _ _⟩ | exact ⟨rfl, _, Eq.trans (World.drewN_drewN _ _ _) (congrArg (World.drewN _) (Nat.add_assoc _ _ _))⟩)) | (go_at_call 30; (with_reducible refine (q4.calls t141 t144 _ A82.out).mono ?_); rintro e w' ⟨rfl, ⟨nd, rfl⟩⟩; (try first | exact ⟨rfl, _, World.drewN_drewN _ _ _⟩ | exact ⟨rfl, _, Eq.trans (World.drewN_drewN _ _ _) (congrArg (World.drewN _) (Nat.add_assoc _ _ _))⟩); obtain ⟨Ao95, co95, eo95⟩ := Kd.R_slice HO132.out; subst eo95; obtain ⟨Ao96, co96, eo96⟩ := Kd.R_slice HO136.out; subst eo96) | (go_at_call 31; (with_reducible refine (q5.calls k5 _ _ t130 _ _ t134 true _ ?side1 ?side2 ?side3 ?side4 A84.out).mono ?_); (case side1 => repeat (first | exact (Kd.R_reads' HO132.out).2.2 | (with_reducible refine Kd.C_alloc ?_ _) | (with_reducible refine Kd.C_drewN ?_ _) | (with_reducible refine Kd.C_drew ?_))); (case side2 => exact (Kd.R_reads' HO132.out).2.1); (case side3 => repeat (first | exact (Kd.R_reads' HO136.out).2.2 | (with_reducible refine Kd.C_alloc ?_ _) | (with_reducible refine Kd.C_drewN ?_ _) | (with_reducible refine Kd.C_drew ?_))); (case side4 => exact (Kd.R_reads' HO136.out).2.1); rintro e w' ⟨rfl, ⟨nd, rfl⟩⟩; (try first | exact ⟨rfl, _, World.drewN_drewN _ _ _⟩ | exact ⟨rfl, _, Eq.trans (World.drewN_drewN _ _ _) (congrArg (World.drewN _) (Nat.add_assoc _ _ _))⟩); obtain ⟨Ao97, co97, eo97⟩ := Kd.R_slice HO140.out; subst eo97; have hnb98 := NB105_101.out; have hnc98 := NB101_105.out; have hnb99 := NB105_111.out; have hnc99 := NB111_105.out; have hcz100_0 : w77.cell? ⟨gb105, 0, none⟩ = some (.int .i64 ((rd_T42 l0_0 x3_1).f0)) := (blk_cell BK105.out 0).trans rfl; have hcz100_1 : w77.cell? ⟨gb105, 1, none⟩ = some (.slice A104_1 ((rd_T42 l0_0 x3_1).f1).length c104_1) := (blk_cell BK105.out 1).trans rfl; have hfz100_0 := blk_frozen BK105.out 0; have hfz100_1 := blk_frozen BK105.out 1))
                          repeat (go_quiet (first | (go_at_call 30; (with_reducible refine (q4.calls t133 t142 _ A78.out).mono ?_); rintro e w' ⟨rfl, ⟨nd, rfl⟩⟩; (try first | exact ⟨rfl, _, World.drewN_drewN _ _ _⟩ | exact ⟨rfl, _, Eq.trans (World.drewN_drewN _ _ _) (congrArg (World.drewN _) (Nat.add_assoc _ _ _))⟩)) | (go_at_call 30; (with_reducible refine (q4.calls t137 t143 _ A80.out).mono ?_); rintro e w' ⟨rfl, ⟨nd, rfl⟩⟩; (try first | exact ⟨rfl, _, World.drewN_drewN _ _ _⟩ | exact ⟨rfl, _, Eq.trans (World.drewN_drewN _ _ _) (congrArg (World.drewN _) (Nat.add_assoc _ _ _))⟩)) | (go_at_call 30; (with_reducible refine (q4.calls t141 t144 _ A82.out).mono ?_); rintro e w' ⟨rfl, ⟨nd, rfl⟩⟩; (try first | exact ⟨rfl, _, World.drewN_drewN _ _ _⟩ | exact ⟨rfl, _, Eq.trans (World.drewN_drewN _ _ _) (congrArg (World.drewN _) (Nat.add_assoc _ _ _))⟩); obtain ⟨Ao95, co95, eo95⟩ := Kd.R_slice HO132.out; subst eo95; obtain ⟨Ao96, co96, eo96⟩ := Kd.R_slice HO136.out; subst eo96) | (go_at_call 31; (with_reducible refine (q5.calls k5 _ _ t130 _ _ t134 true _ ?side1 ?side2 ?side3 ?side4 A84.out).mono ?_); (case side1 => repeat (first | exact (Kd.R_reads' HO132.out).2.2 | (with_reducible refine Kd.C_alloc ?_ _) | (with_reducible refine Kd.C_drewN ?_ _) | (with_reducible refine Kd.C_drew ?_))); (case side2 => exact (Kd.R_reads' HO132.out).2.1); (case side3 => repeat (first | exact (Kd.R_reads' HO136.out).2.2 | (with_reducible refine Kd.C_alloc ?_ _) | (with_reducible refine Kd.C_drewN ?_ _) | (with_reducible refine Kd.C_drew ?_))); (case side4 => exact (Kd.R_reads' HO136.out).2.1); rintro e w' ⟨rfl, ⟨nd, rfl⟩⟩; (try first | exact ⟨rfl, _, World.drewN_drewN _ _ _⟩ | exact ⟨rfl, _, Eq.trans (World.drewN_drewN _ _ _) (congrArg (World.drewN _) (Nat.add_assoc _ _ _))⟩); obtain ⟨Ao97, co97, eo97⟩ := Kd.R_slice HO140.out; subst eo97; have hnb98 := NB105_101.out; have hnc98 := NB101_105.out; have hnb99 := NB105_111.out; have hnc99 := NB111_105.out; have hcz100_0 : w77.cell? ⟨gb105, 0, none⟩ = some (.int .i64 ((rd_T42 l0_0 x3_1).f0)) := (blk_cell BK105.out 0).trans rfl; have hcz100_1 : w77.cell? ⟨gb105, 1, none⟩ = some (.slice A104_1 ((rd_T42 l0_0 x3_1).f1).length c104_1) := (blk_cell BK105.out 1).trans rfl; have hfz100_0 := blk_frozen BK105.out 0; have hfz100_1 := blk_frozen BK105.out 1)); try go_wp2_with (first | (go_at_call 30; (with_reducible refine (q4.calls t133 t142 _ A78.out).mono ?_); rintro e w' ⟨rfl, ⟨nd, rfl⟩⟩; (try first | exact ⟨rfl, _, World.drewN_drewN _ _ _⟩ | exact ⟨rfl, _, Eq.trans (World.drewN_drewN _ _ _) (congrArg (World.drewN _) (Nat.add_assoc _ _ _))⟩)) | (go_at_call 30; (with_reducible refine (q4.calls t137 t143 _ A80.out).mono ?_); rintro e w' ⟨rfl, ⟨nd, rfl⟩⟩; (try first | exact ⟨rfl, _, World.drewN_drewN _ _ _⟩ | exact ⟨rfl, _, Eq.trans (World.drewN_drewN _ _ _) (congrArg (World.drewN _) (Nat.add_assoc _ _ _))⟩)) | (go_at_call 30; (with_reducible refine (q4.calls t141 t144 _ A82.out).mono ?_); rintro e w' ⟨rfl, ⟨nd, rfl⟩⟩; (try first | exact ⟨rfl, _, World.drewN_drewN _ _ _⟩ | exact ⟨rfl, _, Eq.trans (World.drewN_drewN _ _ _) (congrArg (World.drewN _) (Nat.add_assoc _ _ _))⟩); obtain ⟨Ao95, co95, eo95⟩ := Kd.R_slice HO132.out; subst eo95; obtain ⟨Ao96, co96, eo96⟩ := Kd.R_slice HO136.out; subst eo96) | (go_at_call 31; (with_reducible refine (q5.calls k5 _ _ t130 _ _ t134 true _ ?side1 ?side2 ?side3 ?side4 A84.out).mono ?_); (case side1 => repeat (first | exact (Kd.R_reads' HO132.out).2.2 | (with_reducible refine Kd.C_alloc ?_ _) | (with_reducible refine Kd.C_drewN ?_ _) | (with_reducible refine Kd.C_drew ?_))); (case side2 => exact (Kd.R_reads' HO132.out).2.1); (case side3 => repeat (first | exact (Kd.R_reads' HO136.out).2.2 | (with_reducible refine Kd.C_alloc ?_ _) | (with_reducible refine Kd.C_drewN ?_ _) | (with_reducible refine Kd.C_drew ?_))); (case side4 => exact (Kd.R_reads' HO136.out).2.1); rintro e w' ⟨rfl, ⟨nd, rfl⟩⟩; (try first | exact ⟨rfl, _, World.drewN_drewN _ _ _⟩ | exact ⟨rfl, _, Eq.trans (World.drewN_drewN _ _ _) (congrArg (World.drewN _) (Nat.add_assoc _ _ _))⟩); obtain ⟨Ao97, co97, eo97⟩ := Kd.R_slice HO140.out; subst eo97; have hnb98 := NB105_101.out; have hnc98 := NB101_105.out; have hnb99 := NB105_111.out; have hnc99 := NB111_105.out; have hcz100_0 : w77.cell? ⟨gb105, 0, none⟩ = some (.int .i64 ((rd_T42 l0_0 x3_1).f0)) := (blk_cell BK105.out 0).trans rfl; have hcz100_1 : w77.cell? ⟨gb105, 1, none⟩ = some (.slice A104_1 ((rd_T42 l0_0 x3_1).f1).length c104_1) := (blk_cell BK105.out 1).trans rfl; have hfz100_0 := blk_frozen BK105.out 0; have hfz100_1 := blk_frozen BK105.out 1)))
                          go_meet
                          case rel => exact ⟨_, (true), v12_, H', ⟨v43_⟩, ⟨v40_⟩, ⟨v39_⟩, ⟨v37_⟩, ⟨v6_⟩, ⟨v14_⟩, ⟨v13_⟩, ⟨v8_⟩⟩
                        ·replace c85 := Bool.eq_false_iff.mpr c85
                         subst c85
                         have H1 : (q3.j5 k5 x3_1 t113 x15_5 t138 true l0_0 l0_1 ((rd_T42 l0_0 x3_1).f0) ((rd_T42 l0_0 x3_1).f1) t106 t107) = some r := by rw [if_neg (show ¬ (false = true) by decide)] at H; exact H
                         clear H
                         have H := H1
                         clear H1
                         have H' := Aside0.mk H
                         clear H
                         go_wp2_with (first | (go_at_call 30; (with_reducible refine (q4.calls t133 t142 _ A78.out).mono ?_); rintro e w' ⟨rfl, ⟨nd, rfl⟩⟩; (try first | exact ⟨rfl, _, World.drewN_drewN _ _ _⟩ | exact ⟨rfl, _, Eq.trans (World.drewN_drewN _ _ _) (congrArg (World.drewN _) (Nat.add_assoc _ _ _))⟩)) | (go_at_call 30; (with_reducible refine (q4.calls t137 t143 _ A80.out).mono ?_); rintro e w' ⟨rfl, ⟨nd, rfl⟩⟩; (try first | exact ⟨rfl, _, World.drewN_drewN _ _ _⟩ | exact ⟨rfl, _, Eq.trans (World.drewN_drewN _ _ _) (congrArg (World.drewN _) (Nat.add_assoc _ _ _))⟩)) | (go_at_call 30; (with_reducible refine (q4.calls t141 t144 _ A82.out).mono ?_); rintro e w' ⟨rfl, ⟨nd, rfl⟩⟩; (try first | exact ⟨rfl, _, World.drewN_drewN _ _ _⟩ | exact ⟨rfl, _, Eq.trans (World.drewN_drewN _ _ _) (congrArg (World.drewN _) (Nat.add_assoc _ _ _))⟩); obtain ⟨Ao101, co101, eo101⟩ := Kd.R_slice HO132.out; subst eo101; obtain ⟨Ao102, co102, eo102⟩ := Kd.R_slice HO136.out; subst eo102) | (go_at_call 31; (with_reducible refine (q5.calls k5 _ _ t130 _ _ t134 false _ ?side1 ?side2 ?side3 ?side4 A84.out).mono ?_); (case side1 => repeat (first | exact (Kd.R_reads' HO132.out).2.2 | (with_reducible refine Kd.C_alloc ?_ _) | (with_reducible refine Kd.C_drewN ?_ _) | (with_reducible refine Kd.C_drew ?_))); (case side2 => exact (Kd.R_reads' HO132.out).2.1); (case side3 => repeat (first | exact (Kd.R_reads' HO136.out).2.2 | (with_reducible refine Kd.C_alloc ?_ _) | (with_reducible refine Kd.C_drewN ?_ _) | (with_reducible refine Kd.C_drew ?_))); (case side4 => exact (Kd.R_reads' HO136.out).2.1); rintro e w' ⟨rfl, ⟨nd, rfl⟩⟩; (try first | exact ⟨rfl, _, World.drewN_drewN _ _ _⟩ | exact ⟨rfl, _, Eq.trans (World.drewN_drewN _ _ _) (congrArg (World.drewN _) (Nat.add_assoc _ _ _))⟩)))
                         repeat (go_quiet (first | (go_at_call 30; (with_reducible refine (q4.calls t133 t142 _ A78.out).mono ?_); rintro e w' ⟨rfl, ⟨nd, rfl⟩⟩; (try first | exact ⟨rfl, _, World.drewN_drewN _ _ _⟩ | exact ⟨rfl, _, Eq.trans (World.drewN_drewN _ _ _) (congrArg (World.drewN _) (Nat.add_assoc _ _ _))⟩)) | (go_at_call 30; (with_reducible refine (q4.calls t137 t143 _ A80.out).mono ?_); rintro e w' ⟨rfl, ⟨nd, rfl⟩⟩; (try first | exact ⟨rfl, _, World.drewN_drewN _ _ _⟩ | exact ⟨rfl, _, Eq.trans (World.drewN_drewN _ _ _) (congrArg (World.drewN _) (Nat.add_assoc _ _ _))⟩)) | (go_at_call 30; (with_reducible refine (q4.calls t141 t144 _ A82.out).mono ?_); rintro e w' ⟨rfl, ⟨nd, rfl⟩⟩; (try first | exact ⟨rfl, _, World.drewN_drewN _ _ _⟩ | exact ⟨rfl, _, Eq.trans (World.drewN_drewN _ _ _) (congrArg (World.drewN _) (Nat.add_assoc _ _ _))⟩); obtain ⟨Ao101, co101, eo101⟩ := Kd.R_slice HO132.out; subst eo101; obtain ⟨Ao102, co102, eo102⟩ := Kd.R_slice HO136.out; subst eo102) | (go_at_call 31; (with_reducible refine (q5.calls k5 _ _ t130 _ _ t134 false _ ?side1 ?side2 ?side3 ?side4 A84.out).mono ?_); (case side1 => repeat (first | exact (Kd.R_reads' HO132.out).2.2 | (with_reducible refine Kd.C_alloc ?_ _) | (with_reducible refine Kd.C_drewN ?_ _) | (with_reducible refine Kd.C_drew ?_))); (case side2 => exact (Kd.R_reads' HO132.out).2.1); (case side3 => repeat (first | exact (Kd.R_reads' HO136.out).2.2 | (with_reducible refine Kd.C_alloc ?_ _) | (with_reducible refine Kd.C_drewN ?_ _) | (with_reducible refine Kd.C_drew ?_))); (case side4 => exact (Kd.R_reads' HO136.out).2.1); rintro e w' ⟨rfl, ⟨nd, rfl⟩⟩; (try first | exact ⟨rfl, _, World.drewN_drewN _ _ _⟩ | exact ⟨rfl, _, Eq.trans (World.drewN_drewN _ _ _) (congrArg (World.drewN _) (Nat.add_assoc _ _ _))⟩))); try go_wp2_with (first | (go_at_call 30; (with_reducible refine (q4.calls t133 t142 _ A78.out).mono ?_); rintro e w' ⟨rfl, ⟨nd, rfl⟩⟩; (try first | exact ⟨rfl, _, World.drewN_drewN _ _ _⟩ | exact ⟨rfl, _, Eq.trans (World.drewN_drewN _ _ _) (congrArg (World.drewN _) (Nat.add_assoc _ _ _))⟩)) | (go_at_call 30; (with_reducible refine (q4.calls t137 t143 _ A80.out).mono ?_); rintro e w' ⟨rfl, ⟨nd, rfl⟩⟩; (try first | exact ⟨rfl, _, World.drewN_drewN _ _ _⟩ | exact ⟨rfl, _, Eq.trans (World.drewN_drewN _ _ _) (congrArg (World.drewN _) (Nat.add_assoc _ _ _))⟩)) | (go_at_call 30; (with_reducible refine (q4.calls t141 t144 _ A82.out).mono ?_); rintro e w' ⟨rfl, ⟨nd, rfl⟩⟩; (try first | exact ⟨rfl, _, World.drewN_drewN _ _ _⟩ | exact ⟨rfl, _, Eq.trans (World.drewN_drewN _ _ _) (congrArg (World.drewN _) (Nat.add_assoc _ _ _))⟩); obtain ⟨Ao101, co101, eo101⟩ := Kd.R_slice HO132.out; subst eo101; obtain ⟨Ao102, co102, eo102⟩ := Kd.R_slice HO136.out; subst eo102) | (go_at_call 31; (with_reducible refine (q5.calls k5 _ _ t130 _ _ t134 false _ ?side1 ?side2 ?side3 ?side4 A84.out).mono ?_); (case side1 => repeat (first | exact (Kd.R_reads' HO132.out).2.2 | (with_reducible refine Kd.C_alloc ?_ _) | (with_reducible refine Kd.C_drewN ?_ _) | (with_reducible refine Kd.C_drew ?_))); (case side2 => exact (Kd.R_reads' HO132.out).2.1); (case side3 => repeat (first | exact (Kd.R_reads' HO136.out).2.2 | (with_reducible refine Kd.C_alloc ?_ _) | (with_reducible refine Kd.C_drewN ?_ _) | (with_reducible refine Kd.C_drew ?_))); (case side4 => exact (Kd.R_reads' HO136.out).2.1); rintro e w' ⟨rfl, ⟨nd, rfl⟩⟩; (try first | exact ⟨rfl, _, World.drewN_drewN _ _ _⟩ | exact ⟨rfl, _, Eq.trans (World.drewN_drewN _ _ _) (congrArg (World.drewN _) (Nat.add_assoc _ _ _))⟩))))
                         go_meet
                         case rel => exact ⟨_, (true), v12_, H', ⟨v43_⟩, ⟨v40_⟩, ⟨v39_⟩, ⟨v37_⟩, ⟨v6_⟩, ⟨v14_⟩, ⟨v13_⟩, ⟨v8_⟩⟩
                       ·rw [if_neg c83] at H
                        have c83b0 : (t144 == 0) = false := beq_eq_false_iff_ne.mpr c83
                        have c83b1 : (t144 != 0) = true := bne_iff_ne.mpr c83
                        have H' := Aside0.mk H
                        clear H
                        go_wp2_with (first | (go_at_call 30; (with_reducible refine (q4.calls t133 t142 _ A78.out).mono ?_); rintro e w' ⟨rfl, ⟨nd, rfl⟩⟩; (try first | exact ⟨rfl, _, World.drewN_drewN _ _ _⟩ | exact ⟨rfl, _, Eq.trans (World.drewN_drewN _ _ _) (congrArg (World.drewN _) (Nat.add_assoc _ _ _))⟩)) | (go_at_call 30; (with_reducible refine (q4.calls t137 t143 _ A80.out).mono ?_); rintro e w' ⟨rfl, ⟨nd, rfl⟩⟩; (try first | exact ⟨rfl, _, World.drewN_drewN _ _ _⟩ | exact ⟨rfl, _, Eq.trans (World.drewN_drewN _ _ _) (congrArg (World.drewN _) (Nat.add_assoc _ _ _))⟩)) | (go_at_call 30; (with_reducible refine (q4.calls t141 t144 _ A82.out).mono ?_); rintro e w' ⟨rfl, ⟨nd, rfl⟩⟩; (try first | exact ⟨rfl, _, World.drewN_drewN _ _ _⟩ | exact ⟨rfl, _, Eq.trans (World.drewN_drewN _ _ _) (congrArg (World.drewN _) (Nat.add_assoc _ _ _))⟩)))
                        repeat (go_quiet (first | (go_at_call 30; (with_reducible refine (q4.calls t133 t142 _ A78.out).mono ?_); rintro e w' ⟨rfl, ⟨nd, rfl⟩⟩; (try first | exact ⟨rfl, _, World.drewN_drewN _ _ _⟩ | exact ⟨rfl, _, Eq.trans (World.drewN_drewN _ _ _) (congrArg (World.drewN _) (Nat.add_assoc _ _ _))⟩)) | (go_at_call 30; (with_reducible refine (q4.calls t137 t143 _ A80.out).mono ?_); rintro e w' ⟨rfl, ⟨nd, rfl⟩⟩; (try first | exact ⟨rfl, _, World.drewN_drewN _ _ _⟩ | exact ⟨rfl, _, Eq.trans (World.drewN_drewN _ _ _) (congrArg (World.drewN _) (Nat.add_assoc _ _ _))⟩)) | (go_at_call 30; (with_reducible refine (q4.calls t141 t144 _ A82.out).mono ?_); rintro e w' ⟨rfl, ⟨nd, rfl⟩⟩; (try first | exact ⟨rfl, _, World.drewN_drewN _ _ _⟩ | exact ⟨rfl, _, Eq.trans (World.drewN_drewN _ _ _) (congrArg (World.drewN _) (Nat.add_assoc _ _ _))⟩))); try go_wp2_with (first | (go_at_call 30; (with_reducible refine (q4.calls t133 t142 _ A78.out).mono ?_); rintro e w' ⟨rfl, ⟨nd, rfl⟩⟩; (try first | exact ⟨rfl, _, World.drewN_drewN _ _ _⟩ | exact ⟨rfl, _, Eq.trans (World.drewN_drewN _ _ _) (congrArg (World.drewN _) (Nat.add_assoc _ _ _))⟩)) | (go_at_call 30; (with_reducible refine (q4.calls t137 t143 _ A80.out).mono ?_); rintro e w' ⟨rfl, ⟨nd, rfl⟩⟩; (try first | exact ⟨rfl, _, World.drewN_drewN _ _ _⟩ | exact ⟨rfl, _, Eq.trans (World.drewN_drewN _ _ _) (congrArg (World.drewN _) (Nat.add_assoc _ _ _))⟩)) | (go_at_call 30; (with_reducible refine (q4.calls t141 t144 _ A82.out).mono ?_); rintro e w' ⟨rfl, ⟨nd, rfl⟩⟩; (try first | exact ⟨rfl, _, World.drewN_drewN _ _ _⟩ | exact ⟨rfl, _, Eq.trans (World.drewN_drewN _ _ _) (congrArg (World.drewN _) (Nat.add_assoc _ _ _))⟩))))
                        go_meet
                        case rel => exact ⟨_, (true), v12_, H', ⟨v43_⟩, ⟨v40_⟩, ⟨v39_⟩, ⟨v37_⟩, ⟨v6_⟩, ⟨v14_⟩, ⟨v13_⟩, ⟨v8_⟩⟩
                      ·rw [if_neg c81] at H
                       have c81b0 : (t143 == 0) = false := beq_eq_false_iff_ne.mpr c81
                       have c81b1 : (t143 != 0) = true := bne_iff_ne.mpr c81
                       have H' := Aside0.mk H
                       clear H
                       go_wp2_with (first | (go_at_call 30; (with_reducible refine (q4.calls t133 t142 _ A78.out).mono ?_); rintro e w' ⟨rfl, ⟨nd, rfl⟩⟩; (try first | exact ⟨rfl, _, World.drewN_drewN _ _ _⟩ | exact ⟨rfl, _, Eq.trans (World.drewN_drewN _ _ _) (congrArg (World.drewN _) (Nat.add_assoc _ _ _))⟩)) | (go_at_call 30; (with_reducible refine (q4.calls t137 t143 _ A80.out).mono ?_); rintro e w' ⟨rfl, ⟨nd, rfl⟩⟩; (try first | exact ⟨rfl, _, World.drewN_drewN _ _ _⟩ | exact ⟨rfl, _, Eq.trans (World.drewN_drewN _ _ _) (congrArg (World.drewN _) (Nat.add_assoc _ _ _))⟩)))
                       repeat (go_quiet (first | (go_at_call 30; (with_reducible refine (q4.calls t133 t142 _ A78.out).mono ?_); rintro e w' ⟨rfl, ⟨nd, rfl⟩⟩; (try first | exact ⟨rfl, _, World.drewN_drewN _ _ _⟩ | exact ⟨rfl, _, Eq.trans (World.drewN_drewN _ _ _) (congrArg (World.drewN _) (Nat.add_assoc _ _ _))⟩)) | (go_at_call 30; (with_reducible refine (q4.calls t137 t143 _ A80.out).mono ?_); rintro e w' ⟨rfl, ⟨nd, rfl⟩⟩; (try first | exact ⟨rfl, _, World.drewN_drewN _ _ _⟩ | exact ⟨rfl, _, Eq.trans (World.drewN_drewN _ _ _) (congrArg (World.drewN _) (Nat.add_assoc _ _ _))⟩))); try go_wp2_with (first | (go_at_call 30; (with_reducible refine (q4.calls t133 t142 _ A78.out).mono ?_); rintro e w' ⟨rfl, ⟨nd, rfl⟩⟩; (try first | exact ⟨rfl, _, World.drewN_drewN _ _ _⟩ | exact ⟨rfl, _, Eq.trans (World.drewN_drewN _ _ _) (congrArg (World.drewN _) (Nat.add_assoc _ _ _))⟩)) | (go_at_call 30; (with_reducible refine (q4.calls t137 t143 _ A80.out).mono ?_); rintro e w' ⟨rfl, ⟨nd, rfl⟩⟩; (try first | exact ⟨rfl, _, World.drewN_drewN _ _ _⟩ | exact ⟨rfl, _, Eq.trans (World.drewN_drewN _ _ _) (congrArg (World.drewN _) (Nat.add_assoc _ _ _))⟩))))
                       go_meet
                       case rel => exact ⟨_, (true), v12_, H', ⟨v43_⟩, ⟨v40_⟩, ⟨v39_⟩, ⟨v37_⟩, ⟨v6_⟩, ⟨v14_⟩, ⟨v13_⟩, ⟨v8_⟩⟩
                     ·rw [if_neg c79] at H
                      have c79b0 : (t142 == 0) = false := beq_eq_false_iff_ne.mpr c79
                      have c79b1 : (t142 != 0) = true := bne_iff_ne.mpr c79
                      (first | rw [c79b0] | (simp only [i64_w, i32_w]; rw [c79b0]) | skip)
                      have H' := Aside0.mk H
                      clear H
                      go_wp2_with (first | (go_at_call 30; (with_reducible refine (q4.calls t133 t142 _ A78.out).mono ?_); rintro e w' ⟨rfl, ⟨nd, rfl⟩⟩; (try first | exact ⟨rfl, _, World.drewN_drewN _ _ _⟩ | exact ⟨rfl, _, Eq.trans (World.drewN_drewN _ _ _) (congrArg (World.drewN _) (Nat.add_assoc _ _ _))⟩)))
                      repeat (go_quiet (first | (go_at_call 30; (with_reducible refine (q4.calls t133 t142 _ A78.out).mono ?_); rintro e w' ⟨rfl, ⟨nd, rfl⟩⟩; (try first | exact ⟨rfl, _, World.drewN_drewN _ _ _⟩ | exact ⟨rfl, _, Eq.trans (World.drewN_drewN _ _ _) (congrArg (World.drewN _) (Nat.add_assoc _ _ _))⟩))); try go_wp2_with (first | (go_at_call 30; (with_reducible refine (q4.calls t133 t142 _ A78.out).mono ?_); rintro e w' ⟨rfl, ⟨nd, rfl⟩⟩; (try first | exact ⟨rfl, _, World.drewN_drewN _ _ _⟩ | exact ⟨rfl, _, Eq.trans (World.drewN_drewN _ _ _) (congrArg (World.drewN _) (Nat.add_assoc _ _ _))⟩))))
                      go_meet
                      case rel => exact ⟨_, (true), v12_, H', ⟨v43_⟩, ⟨v40_⟩, ⟨v39_⟩, ⟨v37_⟩, ⟨v6_⟩, ⟨v14_⟩, ⟨v13_⟩, ⟨v8_⟩⟩
                    case rest => as_aux_lemma =>
                     clear HC68
                     try clear c1
                     try clear p1
                     try clear q1
                     try clear hx1
                     try clear c2
                     try clear p2
                     try clear c3
                     try clear c4
                     try clear c5
                     try clear c6
                     try clear p6
                     try clear c7
                     try clear c8
                     try clear c9
                     try clear c10
                     try clear p10
                     try clear q10
                     try clear hx10
                     try clear c11
                     try clear c11b0
                     try clear p12
                     try clear q12
                     try clear hx12
                     try clear c13
                     try clear c14
                     try clear p14
                     try clear q14
                     try clear hx14
                     try clear c15
                     try clear c15b0
                     try clear c16
                     try clear c16b0
                     try clear c19
                     try clear c19b0
                     try clear c19b1
                     try clear c26
                     try clear c30
                     try clear c31
                     try clear c41
                     try clear c41b0
                     try clear c41b1
                     try clear c43
                     try clear c43b0
                     try clear c43b1
                     try clear c45
                     try clear c45b0
                     try clear c45b1
                     try clear c47
                     try clear c50
                     try clear c51
                     try clear c55
                     try clear c56
                     try clear c56b0
                     try clear c57
                     try clear c57b0
                     try clear c59
                     try clear c59b0
                     try clear c59b1
                     try clear c61
                     try clear c62
                     try clear c64
                     try clear c64b0
                     try clear p64
                     try clear c69
                     try clear c70
                     try clear c73
                     try clear c79
                     try clear c79b0
                     try clear c79b1
                     try clear c81
                     try clear c81b0
                     try clear c81b1
                     try clear c83
                     try clear c83b0
                     try clear c83b1
                     try clear c85
                     try clear c86
                     try clear c86b0
                     try clear c86b1
                     try clear c87
                     try clear c87b0
                     try clear c88
                     try clear c88b0
                     try clear c92
                     try clear c93
                     try clear c98
                     try clear c99
                     try clear hcz100_0
                     try clear hcz100_1
                     try clear hcz12_0
                     try clear hcz12_1
                     try clear hcz13_0
                     try clear hcz13_1
                     try clear hcz24_0
                     try clear hcz24_1
                     try clear hcz27_0
                     try clear hcz27_1
                     try clear hcz32_0
                     try clear hcz32_1
                     try clear hcz34_0
                     try clear hcz34_1
                     try clear hcz36_0
                     try clear hcz36_1
                     try clear hcz38_0
                     try clear hcz38_1
                     try clear hcz52_0
                     try clear hcz52_1
                     try clear hcz5_0
                     try clear hcz5_1
                     try clear hcz63_0
                     try clear hcz63_1
                     try clear hcz71_0
                     try clear hcz71_1
                     try clear hcz74_0
                     try clear hcz74_1
                     try clear hcz76_0
                     try clear hcz76_1
                     try clear hcz8_0
                     try clear hcz8_1
                     try clear hcz94_0
                     try clear hcz94_1
                     try clear hfz100_0
                     try clear hfz100_1
                     try clear hfz12_0
                     try clear hfz12_1
                     try clear hfz13_0
                     try clear hfz13_1
                     try clear hfz24_0
                     try clear hfz24_1
                     try clear hfz27_0
                     try clear hfz27_1
                     try clear hfz32_0
                     try clear hfz32_1
                     try clear hfz34_0
                     try clear hfz34_1
                     try clear hfz36_0
                     try clear hfz36_1
                     try clear hfz38_0
                     try clear hfz38_1
                     try clear hfz52_0
                     try clear hfz52_1
                     try clear hfz5_0
                     try clear hfz5_1
                     try clear hfz63_0
                     try clear hfz63_1
                     try clear hfz71_0
                     try clear hfz71_1
                     try clear hfz74_0
                     try clear hfz74_1
                     try clear hfz76_0
                     try clear hfz76_1
                     try clear hfz8_0
                     try clear hfz8_1
                     try clear hfz94_0
                     try clear hfz94_1
                     try clear hx104_0
                     try clear hx104_1
                     try clear hx129_0
                     try clear hx146_0
                     try clear p1
                     try clear p10
                     try clear p104
                     try clear p12
                     try clear p129
                     try clear p146
                     try clear p2
                     try clear p6
                     try clear q1
                     try clear q10
                     try clear q104
                     try clear q12
                     try clear q129
                     try clear q146
                     obtain ⟨kq, x164_67, rfl, HA, HJ67, HO_7, HO_20, HO_112001, BK101, BK105, BK111, HB⟩ := hcut
                     cases kq with
                     | zero => exact absurd HA.out (by simp [q3.j5])
                     | succ kj67 =>
                      have H := HA.out
                      clear HA
                      simp only [q3.j5] at H
                      by_cases c103 : x164_67 = true
                      ·subst c103
                       have H1 : (some false) = some r := by rw [if_pos rfl] at H; exact H
                       clear H
                       have H := H1
                       clear H1
                       obtain rfl := Option.some.inj H
                       go_wp2
                       repeat (go_quiet (fail); try go_wp2)
                       go_ret
                       exact ⟨by first | rfl | (simp [errW_none, errW_some] <;> rfl) | (simp [*, errW_none, errW_some] <;> rfl), by repeat (first | (with_reducible first | exact HB.out | apply below_alloc | apply pw_below_drewN | apply below_drew1 | refine below_set ?_ GE101.out | refine below_set ?_ GE105.out | refine below_set ?_ GE111.out) | exact HB.out)⟩
                      ·replace c103 := Bool.eq_false_iff.mpr c103
                       subst c103
                       have H1 : (q3.l3 kj67 x3_1 t113 x15_5 t138 0 l0_0 l0_1 ((rd_T42 l0_0 x3_1).f0) ((rd_T42 l0_0 x3_1).f1) t106 t107) = some r := by rw [if_neg (show ¬ (false = true) by decide)] at H; exact H
                       clear H
                       have H := H1
                       clear H1
                       have H' := Aside0.mk H
                       clear H
                       go_wp2
                       repeat (go_quiet (fail); try go_wp2)
                       go_loopg [22] kj67 (fun kq v22 w' => ∃ (x22_7 : Int), v22 = .int .i64 x22_7 ∧ Aside0 (q3.l3 kq x3_1 t113 x15_5 t138 x22_7 l0_0 l0_1 ((rd_T42 l0_0 x3_1).f0) ((rd_T42 l0_0 x3_1).f1) t106 t107 = some r) ∧ Aside0 (kq ≤ kj67) ∧ Aside0 (Kd.R (Kd.int .i64) 3 w' w.heap.size (fun k_ => some k_ ≠ (v139 : Value).ownBlock) v114 t113) ∧ Aside0 (Kd.R (Kd.int .i64) 3 w' w.heap.size (fun k_ => some k_ ≠ (v114 : Value).ownBlock) v139 t138) ∧ Aside0 (Kd.S (Kd.slice 3 (Kd.int .i64)) 45 w' w.heap.size (fun k_ => some k_ ≠ (v114 : Value).ownBlock ∧ some k_ ≠ (v139 : Value).ownBlock) (.slice Ao33 t107.length co33) t107) ∧ Aside0 (w'.heap[gb101]? = some (.cells #[(.slice (some ad104) l0_0.length c0_0), (.slice A0_1 l0_1.length c0_1)] 37 (0, 0))) ∧ Aside0 (w'.heap[gb105]? = some (.cells #[.int .i64 ((rd_T42 l0_0 x3_1).f0), (.slice A104_1 ((rd_T42 l0_0 x3_1).f1).length c104_1)] 42 (0, 0))) ∧ Aside0 (w'.heap[gb111]? = some (.cells #[.int .i64 t106, (.slice Ao33 t107.length co33)] 42 (0, 0))) ∧ Aside0 (Below w.heap.size w w'))
                       case atStart => exact ⟨(0), v12_, H', ⟨Nat.le_refl _⟩, ⟨v26_⟩, ⟨v38_⟩, ⟨v25_⟩, ⟨v6_⟩, ⟨v14_⟩, ⟨v13_⟩, ⟨v8_⟩⟩
                       case round => as_aux_lemma =>
                        clear H'
                        try clear c1
                        try clear p1
                        try clear q1
                        try clear hx1
                        try clear c2
                        try clear p2
                        try clear c3
                        try clear c4
                        try clear c5
                        try clear c6
                        try clear p6
                        try clear c7
                        try clear c8
                        try clear c9
                        try clear c10
                        try clear p10
                        try clear q10
                        try clear hx10
                        try clear c11
                        try clear c11b0
                        try clear p12
                        try clear q12
                        try clear hx12
                        try clear c13
                        try clear c14
                        try clear p14
                        try clear q14
                        try clear hx14
                        try clear c15
                        try clear c15b0
                        try clear c16
                        try clear c16b0
                        try clear c19
                        try clear c19b0
                        try clear c19b1
                        try clear c26
                        try clear c30
                        try clear c31
                        try clear c41
                        try clear c41b0
                        try clear c41b1
                        try clear c43
                        try clear c43b0
                        try clear c43b1
                        try clear c45
                        try clear c45b0
                        try clear c45b1
                        try clear c47
                        try clear c50
                        try clear c51
                        try clear c55
                        try clear c56
                        try clear c56b0
                        try clear c57
                        try clear c57b0
                        try clear c59
                        try clear c59b0
                        try clear c59b1
                        try clear c61
                        try clear c62
                        try clear c64
                        try clear c64b0
                        try clear p64
                        try clear c69
                        try clear c70
                        try clear c73
                        try clear c79
                        try clear c79b0
                        try clear c79b1
                        try clear c81
                        try clear c81b0
                        try clear c81b1
                        try clear c83
                        try clear c83b0
                        try clear c83b1
                        try clear c85
                        try clear c86
                        try clear c86b0
                        try clear c86b1
                        try clear c87
                        try clear c87b0
                        try clear c88
                        try clear c88b0
                        try clear c92
                        try clear c93
                        try clear c98
                        try clear c99
                        try clear c103
                        try clear hcz100_0
                        try clear hcz100_1
                        try clear hcz12_0
                        try clear hcz12_1
                        try clear hcz13_0
                        try clear hcz13_1
                        try clear hcz24_0
                        try clear hcz24_1
                        try clear hcz27_0
                        try clear hcz27_1
                        try clear hcz32_0
                        try clear hcz32_1
                        try clear hcz34_0
                        try clear hcz34_1
                        try clear hcz36_0
                        try clear hcz36_1
                        try clear hcz38_0
                        try clear hcz38_1
                        try clear hcz52_0
                        try clear hcz52_1
                        try clear hcz5_0
                        try clear hcz5_1
                        try clear hcz63_0
                        try clear hcz63_1
                        try clear hcz71_0
                        try clear hcz71_1
                        try clear hcz74_0
                        try clear hcz74_1
                        try clear hcz76_0
                        try clear hcz76_1
                        try clear hcz8_0
                        try clear hcz8_1
                        try clear hcz94_0
                        try clear hcz94_1
                        try clear hfz100_0
                        try clear hfz100_1
                        try clear hfz12_0
                        try clear hfz12_1
                        try clear hfz13_0
                        try clear hfz13_1
                        try clear hfz24_0
                        try clear hfz24_1
                        try clear hfz27_0
                        try clear hfz27_1
                        try clear hfz32_0
                        try clear hfz32_1
                        try clear hfz34_0
                        try clear hfz34_1
                        try clear hfz36_0
                        try clear hfz36_1
                        try clear hfz38_0
                        try clear hfz38_1
                        try clear hfz52_0
                        try clear hfz52_1
                        try clear hfz5_0
                        try clear hfz5_1
                        try clear hfz63_0
                        try clear hfz63_1
                        try clear hfz71_0
                        try clear hfz71_1
                        try clear hfz74_0
                        try clear hfz74_1
                        try clear hfz76_0
                        try clear hfz76_1
                        try clear hfz8_0
                        try clear hfz8_1
                        try clear hfz94_0
                        try clear hfz94_1
                        try clear hx104_0
                        try clear hx104_1
                        try clear hx129_0
                        try clear hx146_0
                        try clear p1
                        try clear p10
                        try clear p104
                        try clear p12
                        try clear p129
                        try clear p14
                        try clear p146
                        try clear p2
                        try clear p6
                        try clear p64
                        try clear q1
                        try clear q10
                        try clear q104
                        try clear q12
                        try clear q129
                        try clear q14
                        try clear q146
                        obtain ⟨x22_7, rfl, HA, HK7, HO_7, HO_20, HO_112001, BK101, BK105, BK111, HB⟩ := hrel
                        cases gk with
                        | zero => exact absurd HA.out (by simp [q3.l3])
                        | succ k7 =>
                         have H := HA.out
                         clear HA
                         simp only [q3.l3] at H
                         by_cases c104 : x22_7 < ((rd_T42 l0_0 x3_1).f0)
                         ·rw [if_pos c104] at H
                          have c104b0 : decide (x22_7 < ((rd_T42 l0_0 x3_1).f0)) = true := decide_eq_true c104
                          clear c104
                          have HC105 := Aside0.mk H
                          clear H
                          have hnb106 := NB105_101.out
                          have hnc106 := NB101_105.out
                          have hnb107 := NB105_111.out
                          have hnc107 := NB111_105.out
                          have hcz108_0 : wr.cell? ⟨gb105, 0, none⟩ = some (.int .i64 ((rd_T42 l0_0 x3_1).f0)) := (blk_cell BK105.out 0).trans rfl
                          have hcz108_1 : wr.cell? ⟨gb105, 1, none⟩ = some (.slice A104_1 ((rd_T42 l0_0 x3_1).f1).length c104_1) := (blk_cell BK105.out 1).trans rfl
                          have hfz108_0 := blk_frozen BK105.out 0
                          have hfz108_1 := blk_frozen BK105.out 1
                          go_upto_region 32 with (fail)
                          repeat (go_quiet (fail); go_upto_region 32 with (fail))
                          go_cut [194] (fun v194 wc => ∃ (kq : Nat) (x194_104 : Bool), v194 = .bool x194_104 ∧ Aside0 (q3.j7 kq x3_1 t113 x15_5 t138 x22_7 x194_104 l0_0 l0_1 ((rd_T42 l0_0 x3_1).f0) ((rd_T42 l0_0 x3_1).f1) t106 t107 = some r) ∧ Aside0 (kq ≤ k7) ∧ Aside0 (Kd.R (Kd.int .i64) 3 wc w.heap.size (fun k_ => some k_ ≠ (v139 : Value).ownBlock) v114 t113) ∧ Aside0 (Kd.R (Kd.int .i64) 3 wc w.heap.size (fun k_ => some k_ ≠ (v114 : Value).ownBlock) v139 t138) ∧ Aside0 (Kd.S (Kd.slice 3 (Kd.int .i64)) 45 wc w.heap.size (fun k_ => some k_ ≠ (v114 : Value).ownBlock ∧ some k_ ≠ (v139 : Value).ownBlock) (.slice Ao33 t107.length co33) t107) ∧ Aside0 (wc.heap[gb101]? = some (.cells #[(.slice (some ad104) l0_0.length c0_0), (.slice A0_1 l0_1.length c0_1)] 37 (0, 0))) ∧ Aside0 (wc.heap[gb105]? = some (.cells #[.int .i64 ((rd_T42 l0_0 x3_1).f0), (.slice A104_1 ((rd_T42 l0_0 x3_1).f1).length c104_1)] 42 (0, 0))) ∧ Aside0 (wc.heap[gb111]? = some (.cells #[.int .i64 t106, (.slice Ao33 t107.length co33)] 42 (0, 0))) ∧ Aside0 (Below w.heap.size w wc))
                          case first => as_aux_lemma =>
                           have H := HC105.out
                           clear HC105
                           by_cases c109 : 0 ≤ x22_7
                           ·rw [if_pos c109] at H
                            have c109b0 : decide (0 ≤ x22_7) = true := decide_eq_true c109
                            clear c109
                            (first | rw [c109b0] | (simp only [i64_w, i32_w]; rw [c109b0]) | skip)
                            by_cases c110 : x22_7 < (t138.length : Int)
                            ·rw [if_pos c110] at H
                             have c110b0 : decide (x22_7 < (t138.length : Int)) = true := decide_eq_true c110
                             clear c110
                             by_cases c111 : (rd t138 x22_7) ≥ 0
                             ·rw [if_pos c111] at H
                              have c111b0 : decide (0 ≤ (rd t138 x22_7)) = true := decide_eq_true c111
                              clear c111
                              by_cases c112 : x22_7 < (t113.length : Int)
                              ·rw [if_pos c112] at H
                               have c112b0 : decide (x22_7 < (t113.length : Int)) = true := decide_eq_true c112
                               clear c112
                               by_cases c113 : 0 ≤ x15_5
                               ·rw [if_pos c113] at H
                                have c113b0 : decide (0 ≤ x15_5) = true := decide_eq_true c113
                                clear c113
                                by_cases c114 : x15_5 < (t113.length : Int)
                                ·rw [if_pos c114] at H
                                 have c114b0 : decide (x15_5 < (t113.length : Int)) = true := decide_eq_true c114
                                 clear c114
                                 by_cases c115 : (rd t113 x22_7) = (rd t113 x15_5)
                                 ·rw [if_pos c115] at H
                                  have c115b0 : ((rd t113 x22_7) == (rd t113 x15_5)) = true := beq_iff_eq.mpr c115
                                  have c115b1 : ((rd t113 x22_7) != (rd t113 x15_5)) = false := bne_eq_false_iff_eq.mpr c115
                                  clear c115
                                  have H' := Aside0.mk H
                                  clear H
                                  obtain ⟨Ao116, co116, eo116⟩ := Kd.R_slice HO_20.out
                                  subst eo116
                                  have p147 : 0 ≤ (x22_7 : Int) := of_decide_eq_true v3_
                                  have q147 : x22_7 < (t138.length : Int) := of_decide_eq_true v3_
                                  obtain ⟨ad147, e147, hx147_0⟩ := Kd.at_int (Kd.R_reads' HO_20.out).2.2 x22_7 p147 q147
                                  cases e147
                                  replace p147 := eq_true p147
                                  replace q147 := eq_true q147
                                  obtain ⟨Ao117, co117, eo117⟩ := Kd.R_slice HO_7.out
                                  subst eo117
                                  have p148 : 0 ≤ (x22_7 : Int) := of_decide_eq_true v3_
                                  have q148 : x22_7 < (t113.length : Int) := of_decide_eq_true v3_
                                  obtain ⟨ad148, e148, hx148_0⟩ := Kd.at_int (Kd.R_reads' HO_7.out).2.2 x22_7 p148 q148
                                  cases e148
                                  replace p148 := eq_true p148
                                  replace q148 := eq_true q148
                                  have p149 : 0 ≤ (x15_5 : Int) := of_decide_eq_true v3_
                                  have q149 : x15_5 < (t113.length : Int) := of_decide_eq_true v3_
                                  obtain ⟨ad149, e149, hx149_0⟩ := Kd.at_int (Kd.R_reads' HO_7.out).2.2 x15_5 p149 q149
                                  obtain rfl : ad148 = ad149 := (by injection e149)
                                  replace p149 := eq_true p149
                                  replace q149 := eq_true q149
                                  have p150 : 0 ≤ (x22_7 : Int) := of_decide_eq_true v3_
                                  have q150 : x22_7 < (t113.length : Int) := of_decide_eq_true v3_
                                  obtain ⟨ad150, e150, hx150_0⟩ := Kd.at_int (Kd.R_reads' HO_7.out).2.2 x22_7 p150 q150
                                  obtain rfl : ad148 = ad150 := (by injection e150)
                                  replace p150 := eq_true p150
                                  replace q150 := eq_true q150
                                  go_wp2
                                  repeat (go_quiet (fail); try go_wp2)
                                  go_meet
                                  case rel => exact ⟨_, (decide ((rd t113 x22_7) > x22_7)), v12_, H', ⟨v65_⟩, ⟨v26_⟩, ⟨v38_⟩, ⟨v25_⟩, ⟨v6_⟩, ⟨v14_⟩, ⟨v13_⟩, ⟨v8_⟩⟩
                                 ·rw [if_neg c115] at H
                                  have c115b0 : ((rd t113 x22_7) == (rd t113 x15_5)) = false := beq_eq_false_iff_ne.mpr c115
                                  have c115b1 : ((rd t113 x22_7) != (rd t113 x15_5)) = true := bne_iff_ne.mpr c115
                                  have H' := Aside0.mk H
                                  clear H
                                  obtain ⟨Ao118, co118, eo118⟩ := Kd.R_slice HO_20.out
                                  subst eo118
                                  have p147 : 0 ≤ (x22_7 : Int) := of_decide_eq_true v3_
                                  have q147 : x22_7 < (t138.length : Int) := of_decide_eq_true v3_
                                  obtain ⟨ad147, e147, hx147_0⟩ := Kd.at_int (Kd.R_reads' HO_20.out).2.2 x22_7 p147 q147
                                  cases e147
                                  replace p147 := eq_true p147
                                  replace q147 := eq_true q147
                                  obtain ⟨Ao119, co119, eo119⟩ := Kd.R_slice HO_7.out
                                  subst eo119
                                  have p148 : 0 ≤ (x22_7 : Int) := of_decide_eq_true v3_
                                  have q148 : x22_7 < (t113.length : Int) := of_decide_eq_true v3_
                                  obtain ⟨ad148, e148, hx148_0⟩ := Kd.at_int (Kd.R_reads' HO_7.out).2.2 x22_7 p148 q148
                                  cases e148
                                  replace p148 := eq_true p148
                                  replace q148 := eq_true q148
                                  have p149 : 0 ≤ (x15_5 : Int) := of_decide_eq_true v3_
                                  have q149 : x15_5 < (t113.length : Int) := of_decide_eq_true v3_
                                  obtain ⟨ad149, e149, hx149_0⟩ := Kd.at_int (Kd.R_reads' HO_7.out).2.2 x15_5 p149 q149
                                  obtain rfl : ad148 = ad149 := (by injection e149)
                                  replace p149 := eq_true p149
                                  replace q149 := eq_true q149
                                  go_wp2
                                  repeat (go_quiet (fail); try go_wp2)
                                  go_meet
                                  case rel => exact ⟨_, (true), v12_, H', ⟨v65_⟩, ⟨v26_⟩, ⟨v38_⟩, ⟨v25_⟩, ⟨v6_⟩, ⟨v14_⟩, ⟨v13_⟩, ⟨v8_⟩⟩
                                ·rw [if_neg c114] at H
                                 exact absurd H v58_
                               ·rw [if_neg c113] at H
                                exact absurd H v58_
                              ·rw [if_neg c112] at H
                               exact absurd H v58_
                             ·rw [if_neg c111] at H
                              have c111b0 : decide (0 ≤ (rd t138 x22_7)) = false := decide_eq_false c111
                              clear c111
                              by_cases c120 : x22_7 < (t113.length : Int)
                              ·rw [if_pos c120] at H
                               have c120b0 : decide (x22_7 < (t113.length : Int)) = true := decide_eq_true c120
                               clear c120
                               have H' := Aside0.mk H
                               clear H
                               obtain ⟨Ao121, co121, eo121⟩ := Kd.R_slice HO_20.out
                               subst eo121
                               have p147 : 0 ≤ (x22_7 : Int) := of_decide_eq_true v3_
                               have q147 : x22_7 < (t138.length : Int) := of_decide_eq_true v3_
                               obtain ⟨ad147, e147, hx147_0⟩ := Kd.at_int (Kd.R_reads' HO_20.out).2.2 x22_7 p147 q147
                               cases e147
                               replace p147 := eq_true p147
                               replace q147 := eq_true q147
                               obtain ⟨Ao122, co122, eo122⟩ := Kd.R_slice HO_7.out
                               subst eo122
                               have p151 : 0 ≤ (x22_7 : Int) := of_decide_eq_true v3_
                               have q151 : x22_7 < (t113.length : Int) := of_decide_eq_true v3_
                               obtain ⟨ad151, e151, hx151_0⟩ := Kd.at_int (Kd.R_reads' HO_7.out).2.2 x22_7 p151 q151
                               cases e151
                               replace p151 := eq_true p151
                               replace q151 := eq_true q151
                               go_wp2
                               repeat (go_quiet (fail); try go_wp2)
                               go_meet
                               case rel => exact ⟨_, (decide ((rd t113 x22_7) > x22_7)), v12_, H', ⟨v65_⟩, ⟨v26_⟩, ⟨v38_⟩, ⟨v25_⟩, ⟨v6_⟩, ⟨v14_⟩, ⟨v13_⟩, ⟨v8_⟩⟩
                              ·rw [if_neg c120] at H
                               exact absurd H v58_
                            ·rw [if_neg c110] at H
                             exact absurd H v58_
                           ·rw [if_neg c109] at H
                            exact absurd H v58_
                          case rest => as_aux_lemma =>
                           clear HC105
                           try clear c1
                           try clear p1
                           try clear q1
                           try clear hx1
                           try clear c2
                           try clear p2
                           try clear c3
                           try clear c4
                           try clear c5
                           try clear c6
                           try clear p6
                           try clear c7
                           try clear c8
                           try clear c9
                           try clear c10
                           try clear p10
                           try clear q10
                           try clear hx10
                           try clear c11
                           try clear c11b0
                           try clear c12
                           try clear p12
                           try clear q12
                           try clear hx12
                           try clear c13
                           try clear c14
                           try clear p14
                           try clear q14
                           try clear hx14
                           try clear c15
                           try clear c15b0
                           try clear p15
                           try clear q15
                           try clear hx15
                           try clear c16
                           try clear c16b0
                           try clear c19
                           try clear c19b0
                           try clear c19b1
                           try clear c26
                           try clear c30
                           try clear c31
                           try clear c41
                           try clear c41b0
                           try clear c41b1
                           try clear c43
                           try clear c43b0
                           try clear c43b1
                           try clear c45
                           try clear c45b0
                           try clear c45b1
                           try clear c47
                           try clear c50
                           try clear c51
                           try clear c55
                           try clear c56
                           try clear c56b0
                           try clear c57
                           try clear c57b0
                           try clear c59
                           try clear c59b0
                           try clear c59b1
                           try clear c61
                           try clear c62
                           try clear c64
                           try clear c64b0
                           try clear p64
                           try clear c69
                           try clear c70
                           try clear c73
                           try clear c79
                           try clear c79b0
                           try clear c79b1
                           try clear c81
                           try clear c81b0
                           try clear c81b1
                           try clear c83
                           try clear c83b0
                           try clear c83b1
                           try clear c85
                           try clear c86
                           try clear c86b0
                           try clear c86b1
                           try clear c87
                           try clear c87b0
                           try clear c88
                           try clear c88b0
                           try clear c92
                           try clear c93
                           try clear c98
                           try clear c99
                           try clear c103
                           try clear c104
                           try clear c104b0
                           try clear p104
                           try clear q104
                           try clear hx104
                           try clear c106
                           try clear c107
                           try clear c109
                           try clear c109b0
                           try clear c110
                           try clear c110b0
                           try clear c111
                           try clear c111b0
                           try clear c112
                           try clear c112b0
                           try clear c113
                           try clear c113b0
                           try clear c114
                           try clear c114b0
                           try clear c115
                           try clear c115b0
                           try clear c115b1
                           try clear c120
                           try clear c120b0
                           try clear hcz100_0
                           try clear hcz100_1
                           try clear hcz108_0
                           try clear hcz108_1
                           try clear hcz12_0
                           try clear hcz12_1
                           try clear hcz13_0
                           try clear hcz13_1
                           try clear hcz24_0
                           try clear hcz24_1
                           try clear hcz27_0
                           try clear hcz27_1
                           try clear hcz32_0
                           try clear hcz32_1
                           try clear hcz34_0
                           try clear hcz34_1
                           try clear hcz36_0
                           try clear hcz36_1
                           try clear hcz38_0
                           try clear hcz38_1
                           try clear hcz52_0
                           try clear hcz52_1
                           try clear hcz5_0
                           try clear hcz5_1
                           try clear hcz63_0
                           try clear hcz63_1
                           try clear hcz71_0
                           try clear hcz71_1
                           try clear hcz74_0
                           try clear hcz74_1
                           try clear hcz76_0
                           try clear hcz76_1
                           try clear hcz8_0
                           try clear hcz8_1
                           try clear hcz94_0
                           try clear hcz94_1
                           try clear hfz100_0
                           try clear hfz100_1
                           try clear hfz108_0
                           try clear hfz108_1
                           try clear hfz12_0
                           try clear hfz12_1
                           try clear hfz13_0
                           try clear hfz13_1
                           try clear hfz24_0
                           try clear hfz24_1
                           try clear hfz27_0
                           try clear hfz27_1
                           try clear hfz32_0
                           try clear hfz32_1
                           try clear hfz34_0
                           try clear hfz34_1
                           try clear hfz36_0
                           try clear hfz36_1
                           try clear hfz38_0
                           try clear hfz38_1
                           try clear hfz52_0
                           try clear hfz52_1
                           try clear hfz5_0
                           try clear hfz5_1
                           try clear hfz63_0
                           try clear hfz63_1
                           try clear hfz71_0
                           try clear hfz71_1
                           try clear hfz74_0
                           try clear hfz74_1
                           try clear hfz76_0
                           try clear hfz76_1
                           try clear hfz8_0
                           try clear hfz8_1
                           try clear hfz94_0
                           try clear hfz94_1
                           try clear hx104_0
                           try clear hx104_1
                           try clear hx129_0
                           try clear hx146_0
                           try clear hx147_0
                           try clear hx148_0
                           try clear hx149_0
                           try clear hx150_0
                           try clear hx151_0
                           try clear p1
                           try clear p10
                           try clear p104
                           try clear p12
                           try clear p129
                           try clear p14
                           try clear p146
                           try clear p147
                           try clear p148
                           try clear p149
                           try clear p150
                           try clear p151
                           try clear p2
                           try clear p6
                           try clear p64
                           try clear q1
                           try clear q10
                           try clear q104
                           try clear q12
                           try clear q129
                           try clear q14
                           try clear q146
                           try clear q147
                           try clear q148
                           try clear q149
                           try clear q150
                           try clear q151
                           obtain ⟨kq, x194_104, rfl, HA, HJ104, HO_7, HO_20, HO_112001, BK101, BK105, BK111, HB⟩ := hcut
                           cases kq with
                           | zero => exact absurd HA.out (by simp [q3.j7])
                           | succ kj104 =>
                            have H := HA.out
                            clear HA
                            simp only [q3.j7] at H
                            by_cases c123 : x194_104 = true
                            ·subst c123
                             have H1 : (some false) = some r := by rw [if_pos rfl] at H; exact H
                             clear H
                             have H := H1
                             clear H1
                             obtain rfl := Option.some.inj H
                             go_wp2
                             repeat (go_quiet (fail); try go_wp2)
                             go_ret
                             exact ⟨by first | rfl | (simp [errW_none, errW_some] <;> rfl) | (simp [*, errW_none, errW_some] <;> rfl), by repeat (first | (with_reducible first | exact HB.out | apply below_alloc | apply pw_below_drewN | apply below_drew1 | refine below_set ?_ GE101.out | refine below_set ?_ GE105.out | refine below_set ?_ GE111.out) | exact HB.out)⟩
                            ·replace c123 := Bool.eq_false_iff.mpr c123
                             subst c123
                             have H1 : (q3.l4 kj104 x3_1 t113 x15_5 t138 x22_7 0 l0_0 l0_1 ((rd_T42 l0_0 x3_1).f0) ((rd_T42 l0_0 x3_1).f1) t106 t107) = some r := by rw [if_neg (show ¬ (false = true) by decide)] at H; exact H
                             clear H
                             have H := H1
                             clear H1
                             have H' := Aside0.mk H
                             clear H
                             go_wp2
                             repeat (go_quiet (fail); try go_wp2)
                             go_loopg [23] kj104 (fun kq v23 w' => ∃ (x23_9 : Int), v23 = .int .i64 x23_9 ∧ Aside0 (q3.l4 kq x3_1 t113 x15_5 t138 x22_7 x23_9 l0_0 l0_1 ((rd_T42 l0_0 x3_1).f0) ((rd_T42 l0_0 x3_1).f1) t106 t107 = some r) ∧ Aside0 (kq ≤ kj104) ∧ Aside0 (Kd.R (Kd.int .i64) 3 w' w.heap.size (fun k_ => some k_ ≠ (v139 : Value).ownBlock) v114 t113) ∧ Aside0 (Kd.R (Kd.int .i64) 3 w' w.heap.size (fun k_ => some k_ ≠ (v114 : Value).ownBlock) v139 t138) ∧ Aside0 (Kd.S (Kd.slice 3 (Kd.int .i64)) 45 w' w.heap.size (fun k_ => some k_ ≠ (v114 : Value).ownBlock ∧ some k_ ≠ (v139 : Value).ownBlock) (.slice Ao33 t107.length co33) t107) ∧ Aside0 (w'.heap[gb101]? = some (.cells #[(.slice (some ad104) l0_0.length c0_0), (.slice A0_1 l0_1.length c0_1)] 37 (0, 0))) ∧ Aside0 (w'.heap[gb105]? = some (.cells #[.int .i64 ((rd_T42 l0_0 x3_1).f0), (.slice A104_1 ((rd_T42 l0_0 x3_1).f1).length c104_1)] 42 (0, 0))) ∧ Aside0 (w'.heap[gb111]? = some (.cells #[.int .i64 t106, (.slice Ao33 t107.length co33)] 42 (0, 0))) ∧ Aside0 (Below w.heap.size w w'))
                             case atStart => exact ⟨(0), v12_, H', ⟨Nat.le_refl _⟩, ⟨v26_⟩, ⟨v38_⟩, ⟨v25_⟩, ⟨v6_⟩, ⟨v14_⟩, ⟨v13_⟩, ⟨v8_⟩⟩
                             case round => as_aux_lemma =>
                              clear H'
                              try clear c1
                              try clear p1
                              try clear q1
                              try clear hx1
                              try clear c2
                              try clear p2
                              try clear c3
                              try clear c4
                              try clear c5
                              try clear c6
                              try clear p6
                              try clear c7
                              try clear c8
                              try clear c9
                              try clear c10
                              try clear p10
                              try clear q10
                              try clear hx10
                              try clear c11
                              try clear c11b0
                              try clear c12
                              try clear p12
                              try clear q12
                              try clear hx12
                              try clear c13
                              try clear c14
                              try clear p14
                              try clear q14
                              try clear hx14
                              try clear c15
                              try clear c15b0
                              try clear p15
                              try clear q15
                              try clear hx15
                              try clear c16
                              try clear c16b0
                              try clear c19
                              try clear c19b0
                              try clear c19b1
                              try clear c26
                              try clear c30
                              try clear c31
                              try clear c41
                              try clear c41b0
                              try clear c41b1
                              try clear c43
                              try clear c43b0
                              try clear c43b1
                              try clear c45
                              try clear c45b0
                              try clear c45b1
                              try clear c47
                              try clear c50
                              try clear c51
                              try clear c55
                              try clear c56
                              try clear c56b0
                              try clear c57
                              try clear c57b0
                              try clear c59
                              try clear c59b0
                              try clear c59b1
                              try clear c61
                              try clear c62
                              try clear c64
                              try clear c64b0
                              try clear p64
                              try clear c69
                              try clear c70
                              try clear c73
                              try clear c79
                              try clear c79b0
                              try clear c79b1
                              try clear c81
                              try clear c81b0
                              try clear c81b1
                              try clear c83
                              try clear c83b0
                              try clear c83b1
                              try clear c85
                              try clear c86
                              try clear c86b0
                              try clear c86b1
                              try clear c87
                              try clear c87b0
                              try clear c88
                              try clear c88b0
                              try clear c92
                              try clear c93
                              try clear c98
                              try clear c99
                              try clear c103
                              try clear c104
                              try clear c104b0
                              try clear p104
                              try clear q104
                              try clear hx104
                              try clear c106
                              try clear c107
                              try clear c109
                              try clear c109b0
                              try clear c110
                              try clear c110b0
                              try clear c111
                              try clear c111b0
                              try clear c112
                              try clear c112b0
                              try clear c113
                              try clear c113b0
                              try clear c114
                              try clear c114b0
                              try clear c115
                              try clear c115b0
                              try clear c115b1
                              try clear c120
                              try clear c120b0
                              try clear c123
                              try clear hcz100_0
                              try clear hcz100_1
                              try clear hcz108_0
                              try clear hcz108_1
                              try clear hcz12_0
                              try clear hcz12_1
                              try clear hcz13_0
                              try clear hcz13_1
                              try clear hcz24_0
                              try clear hcz24_1
                              try clear hcz27_0
                              try clear hcz27_1
                              try clear hcz32_0
                              try clear hcz32_1
                              try clear hcz34_0
                              try clear hcz34_1
                              try clear hcz36_0
                              try clear hcz36_1
                              try clear hcz38_0
                              try clear hcz38_1
                              try clear hcz52_0
                              try clear hcz52_1
                              try clear hcz5_0
                              try clear hcz5_1
                              try clear hcz63_0
                              try clear hcz63_1
                              try clear hcz71_0
                              try clear hcz71_1
                              try clear hcz74_0
                              try clear hcz74_1
                              try clear hcz76_0
                              try clear hcz76_1
                              try clear hcz8_0
                              try clear hcz8_1
                              try clear hcz94_0
                              try clear hcz94_1
                              try clear hfz100_0
                              try clear hfz100_1
                              try clear hfz108_0
                              try clear hfz108_1
                              try clear hfz12_0
                              try clear hfz12_1
                              try clear hfz13_0
                              try clear hfz13_1
                              try clear hfz24_0
                              try clear hfz24_1
                              try clear hfz27_0
                              try clear hfz27_1
                              try clear hfz32_0
                              try clear hfz32_1
                              try clear hfz34_0
                              try clear hfz34_1
                              try clear hfz36_0
                              try clear hfz36_1
                              try clear hfz38_0
                              try clear hfz38_1
                              try clear hfz52_0
                              try clear hfz52_1
                              try clear hfz5_0
                              try clear hfz5_1
                              try clear hfz63_0
                              try clear hfz63_1
                              try clear hfz71_0
                              try clear hfz71_1
                              try clear hfz74_0
                              try clear hfz74_1
                              try clear hfz76_0
                              try clear hfz76_1
                              try clear hfz8_0
                              try clear hfz8_1
                              try clear hfz94_0
                              try clear hfz94_1
                              try clear hx104_0
                              try clear hx104_1
                              try clear hx129_0
                              try clear hx146_0
                              try clear hx147_0
                              try clear hx148_0
                              try clear hx149_0
                              try clear hx150_0
                              try clear hx151_0
                              try clear p1
                              try clear p10
                              try clear p104
                              try clear p12
                              try clear p129
                              try clear p14
                              try clear p146
                              try clear p147
                              try clear p148
                              try clear p149
                              try clear p15
                              try clear p150
                              try clear p151
                              try clear p2
                              try clear p6
                              try clear p64
                              try clear q1
                              try clear q10
                              try clear q104
                              try clear q12
                              try clear q129
                              try clear q14
                              try clear q146
                              try clear q147
                              try clear q148
                              try clear q149
                              try clear q15
                              try clear q150
                              try clear q151
                              obtain ⟨x23_9, rfl, HA, HK9, HO_7, HO_20, HO_112001, BK101, BK105, BK111, HB⟩ := hrel
                              cases gk with
                              | zero => exact absurd HA.out (by simp [q3.l4])
                              | succ k9 =>
                               have H := HA.out
                               clear HA
                               simp only [q3.l4] at H
                               by_cases c124 : 0 ≤ x22_7
                               ·rw [if_pos c124] at H
                                have c124b0 : decide (0 ≤ x22_7) = true := decide_eq_true c124
                                clear c124
                                by_cases c125 : x22_7 < (((rd_T42 l0_0 x3_1).f1).length : Int)
                                ·rw [if_pos c125] at H
                                 have c125b0 : decide (x22_7 < (((rd_T42 l0_0 x3_1).f1).length : Int)) = true := decide_eq_true c125
                                 clear c125
                                 by_cases c126 : x23_9 < ((rd_L1 ((rd_T42 l0_0 x3_1).f1) x22_7).length : Int)
                                 ·rw [if_pos c126] at H
                                  have c126b0 : decide (x23_9 < ((rd_L1 ((rd_T42 l0_0 x3_1).f1) x22_7).length : Int)) = true := decide_eq_true c126
                                  clear c126
                                  by_cases c127 : 0 ≤ x23_9
                                  ·rw [if_pos c127] at H
                                   have c127b0 : decide (0 ≤ x23_9) = true := decide_eq_true c127
                                   clear c127
                                   by_cases c128 : 0 ≤ (rd (rd_L1 ((rd_T42 l0_0 x3_1).f1) x22_7) x23_9)
                                   ·rw [if_pos c128] at H
                                    have c128b0 : decide (0 ≤ (rd (rd_L1 ((rd_T42 l0_0 x3_1).f1) x22_7) x23_9)) = true := decide_eq_true c128
                                    clear c128
                                    by_cases c129 : (rd (rd_L1 ((rd_T42 l0_0 x3_1).f1) x22_7) x23_9) < (t113.length : Int)
                                    ·rw [if_pos c129] at H
                                     have c129b0 : decide ((rd (rd_L1 ((rd_T42 l0_0 x3_1).f1) x22_7) x23_9) < (t113.length : Int)) = true := decide_eq_true c129
                                     clear c129
                                     by_cases c130 : x22_7 < (t113.length : Int)
                                     ·rw [if_pos c130] at H
                                      have c130b0 : decide (x22_7 < (t113.length : Int)) = true := decide_eq_true c130
                                      clear c130
                                      by_cases c131 : (rd t113 (rd (rd_L1 ((rd_T42 l0_0 x3_1).f1) x22_7) x23_9)) = (rd t113 x22_7)
                                      ·rw [if_pos c131] at H
                                       have c131b0 : ((rd t113 (rd (rd_L1 ((rd_T42 l0_0 x3_1).f1) x22_7) x23_9)) == (rd t113 x22_7)) = true := beq_iff_eq.mpr c131
                                       have c131b1 : ((rd t113 (rd (rd_L1 ((rd_T42 l0_0 x3_1).f1) x22_7) x23_9)) != (rd t113 x22_7)) = false := bne_eq_false_iff_eq.mpr c131
                                       clear c131
                                       by_cases c132 : x22_7 < (t138.length : Int)
                                       ·rw [if_pos c132] at H
                                        have c132b0 : decide (x22_7 < (t138.length : Int)) = true := decide_eq_true c132
                                        clear c132
                                        by_cases c133 : (rd t138 x22_7) ≥ 0
                                        ·rw [if_pos c133] at H
                                         have c133b0 : decide (0 ≤ (rd t138 x22_7)) = true := decide_eq_true c133
                                         clear c133
                                         by_cases c134 : (rd (rd_L1 ((rd_T42 l0_0 x3_1).f1) x22_7) x23_9) < (t138.length : Int)
                                         ·rw [if_pos c134] at H
                                          have c134b0 : decide ((rd (rd_L1 ((rd_T42 l0_0 x3_1).f1) x22_7) x23_9) < (t138.length : Int)) = true := decide_eq_true c134
                                          clear c134
                                          by_cases c135 : (rd t138 (rd (rd_L1 ((rd_T42 l0_0 x3_1).f1) x22_7) x23_9)) < 0
                                          ·rw [if_pos c135] at H
                                           have c135b0 : decide ((rd t138 (rd (rd_L1 ((rd_T42 l0_0 x3_1).f1) x22_7) x23_9)) < 0) = true := decide_eq_true c135
                                           clear c135
                                           obtain rfl := Option.some.inj H
                                           have hnb136 := NB105_101.out
                                           have hnc136 := NB101_105.out
                                           have hnb137 := NB105_111.out
                                           have hnc137 := NB111_105.out
                                           have hcz138_0 : wr.cell? ⟨gb105, 0, none⟩ = some (.int .i64 ((rd_T42 l0_0 x3_1).f0)) := (blk_cell BK105.out 0).trans rfl
                                           have hcz138_1 : wr.cell? ⟨gb105, 1, none⟩ = some (.slice A104_1 ((rd_T42 l0_0 x3_1).f1).length c104_1) := (blk_cell BK105.out 1).trans rfl
                                           have hfz138_0 := blk_frozen BK105.out 0
                                           have hfz138_1 := blk_frozen BK105.out 1
                                           have p152 : 0 ≤ (x22_7 : Int) := of_decide_eq_true v3_
                                           have q152 : x22_7 < (((rd_T42 l0_0 x3_1).f1).length : Int) := of_decide_eq_true v3_
                                           obtain ⟨ad152, A152_0, c152_0, e152, hx152_0, hl152_0, hi152_0⟩ := at_L1 HR104_1.out x22_7 p152 q152
                                           cases e152
                                           replace hx152_0 := (HB.out.cell (World.block_lt_of_cell? w _ hx152_0)).trans hx152_0
                                           have HR152_0 := Aside0.mk hi152_0
                                           have HC152_0 := Aside0.mk hl152_0
                                           clear hi152_0 hl152_0
                                           replace p152 := eq_true p152
                                           replace q152 := eq_true q152
                                           have p153 : 0 ≤ (x22_7 : Int) := of_decide_eq_true v3_
                                           have q153 : x22_7 < (((rd_T42 l0_0 x3_1).f1).length : Int) := of_decide_eq_true v3_
                                           obtain ⟨ad153, A153_0, c153_0, e153, hx153_0, hl153_0, hi153_0⟩ := at_L1 HR104_1.out x22_7 p153 q153
                                           obtain rfl : ad152 = ad153 := (by injection e153)
                                           replace hx153_0 := (HB.out.cell (World.block_lt_of_cell? w _ hx153_0)).trans hx153_0
                                           have HR153_0 := Aside0.mk hi153_0
                                           have HC153_0 := Aside0.mk hl153_0
                                           clear hi153_0 hl153_0
                                           replace p153 := eq_true p153
                                           replace q153 := eq_true q153
                                           have ea_ := Option.some.inj (hx152_0.symm.trans hx153_0)
                                           injection ea_ with ea_ en_ ec_
                                           subst ea_
                                           subst ec_
                                           clear en_
                                           have p154 : 0 ≤ (x23_9 : Int) := of_decide_eq_true v3_
                                           have q154 : x23_9 < ((rd_L1 ((rd_T42 l0_0 x3_1).f1) x22_7).length : Int) := of_decide_eq_true v3_
                                           obtain ⟨ad154, e154, hx154_0⟩ := Kd.at_int HR153_0.out x23_9 p154 q154
                                           cases e154
                                           replace hx154_0 := (HB.out.cell (World.block_lt_of_cell? w _ hx154_0)).trans hx154_0
                                           replace p154 := eq_true p154
                                           replace q154 := eq_true q154
                                           obtain ⟨Ao139, co139, eo139⟩ := Kd.R_slice HO_7.out
                                           subst eo139
                                           have p155 : 0 ≤ ((rd (rd_L1 ((rd_T42 l0_0 x3_1).f1) x22_7) x23_9) : Int) := of_decide_eq_true v3_
                                           have q155 : (rd (rd_L1 ((rd_T42 l0_0 x3_1).f1) x22_7) x23_9) < (t113.length : Int) := of_decide_eq_true v3_
                                           obtain ⟨ad155, e155, hx155_0⟩ := Kd.at_int (Kd.R_reads' HO_7.out).2.2 (rd (rd_L1 ((rd_T42 l0_0 x3_1).f1) x22_7) x23_9) p155 q155
                                           cases e155
                                           replace p155 := eq_true p155
                                           replace q155 := eq_true q155
                                           have p156 : 0 ≤ (x22_7 : Int) := of_decide_eq_true v3_
                                           have q156 : x22_7 < (t113.length : Int) := of_decide_eq_true v3_
                                           obtain ⟨ad156, e156, hx156_0⟩ := Kd.at_int (Kd.R_reads' HO_7.out).2.2 x22_7 p156 q156
                                           obtain rfl : ad155 = ad156 := (by injection e156)
                                           replace p156 := eq_true p156
                                           replace q156 := eq_true q156
                                           obtain ⟨Ao140, co140, eo140⟩ := Kd.R_slice HO_20.out
                                           subst eo140
                                           have p157 : 0 ≤ (x22_7 : Int) := of_decide_eq_true v3_
                                           have q157 : x22_7 < (t138.length : Int) := of_decide_eq_true v3_
                                           obtain ⟨ad157, e157, hx157_0⟩ := Kd.at_int (Kd.R_reads' HO_20.out).2.2 x22_7 p157 q157
                                           cases e157
                                           replace p157 := eq_true p157
                                           replace q157 := eq_true q157
                                           have p158 : 0 ≤ ((rd (rd_L1 ((rd_T42 l0_0 x3_1).f1) x22_7) x23_9) : Int) := of_decide_eq_true v3_
                                           have q158 : (rd (rd_L1 ((rd_T42 l0_0 x3_1).f1) x22_7) x23_9) < (t138.length : Int) := of_decide_eq_true v3_
                                           obtain ⟨ad158, e158, hx158_0⟩ := Kd.at_int (Kd.R_reads' HO_20.out).2.2 (rd (rd_L1 ((rd_T42 l0_0 x3_1).f1) x22_7) x23_9) p158 q158
                                           obtain rfl : ad157 = ad158 := (by injection e158)
                                           replace p158 := eq_true p158
                                           replace q158 := eq_true q158
                                           go_wp2
                                           repeat (go_quiet (fail); try go_wp2)
                                           go_ret
                                           exact ⟨by first | rfl | (simp [errW_none, errW_some] <;> rfl) | (simp [*, errW_none, errW_some] <;> rfl), by repeat (first | (with_reducible first | exact HB.out | apply below_alloc | apply pw_below_drewN | apply below_drew1 | refine below_set ?_ GE101.out | refine below_set ?_ GE105.out | refine below_set ?_ GE111.out) | exact HB.out)⟩
                                          ·rw [if_neg c135] at H
                                           have c135b0 : decide ((rd t138 (rd (rd_L1 ((rd_T42 l0_0 x3_1).f1) x22_7) x23_9)) < 0) = false := decide_eq_false c135
                                           clear c135
                                           by_cases c141 : (rd t138 (rd (rd_L1 ((rd_T42 l0_0 x3_1).f1) x22_7) x23_9)) > (wrap64 ((rd t138 x22_7) + 1))
                                           ·rw [if_pos c141] at H
                                            have c141b0 : decide ((wrap64 ((rd t138 x22_7) + 1)) < (rd t138 (rd (rd_L1 ((rd_T42 l0_0 x3_1).f1) x22_7) x23_9))) = true := decide_eq_true c141
                                            clear c141
                                            obtain rfl := Option.some.inj H
                                            have hnb142 := NB105_101.out
                                            have hnc142 := NB101_105.out
                                            have hnb143 := NB105_111.out
                                            have hnc143 := NB111_105.out
                                            have hcz144_0 : wr.cell? ⟨gb105, 0, none⟩ = some (.int .i64 ((rd_T42 l0_0 x3_1).f0)) := (blk_cell BK105.out 0).trans rfl
                                            have hcz144_1 : wr.cell? ⟨gb105, 1, none⟩ = some (.slice A104_1 ((rd_T42 l0_0 x3_1).f1).length c104_1) := (blk_cell BK105.out 1).trans rfl
                                            have hfz144_0 := blk_frozen BK105.out 0
                                            have hfz144_1 := blk_frozen BK105.out 1
                                            have p152 : 0 ≤ (x22_7 : Int) := of_decide_eq_true v3_
                                            have q152 : x22_7 < (((rd_T42 l0_0 x3_1).f1).length : Int) := of_decide_eq_true v3_
                                            obtain ⟨ad152, A152_0, c152_0, e152, hx152_0, hl152_0, hi152_0⟩ := at_L1 HR104_1.out x22_7 p152 q152
                                            cases e152
                                            replace hx152_0 := (HB.out.cell (World.block_lt_of_cell? w _ hx152_0)).trans hx152_0
                                            have HR152_0 := Aside0.mk hi152_0
                                            have HC152_0 := Aside0.mk hl152_0
                                            clear hi152_0 hl152_0
                                            replace p152 := eq_true p152
                                            replace q152 := eq_true q152
                                            have p153 : 0 ≤ (x22_7 : Int) := of_decide_eq_true v3_
                                            have q153 : x22_7 < (((rd_T42 l0_0 x3_1).f1).length : Int) := of_decide_eq_true v3_
                                            obtain ⟨ad153, A153_0, c153_0, e153, hx153_0, hl153_0, hi153_0⟩ := at_L1 HR104_1.out x22_7 p153 q153
                                            obtain rfl : ad152 = ad153 := (by injection e153)
                                            replace hx153_0 := (HB.out.cell (World.block_lt_of_cell? w _ hx153_0)).trans hx153_0
                                            have HR153_0 := Aside0.mk hi153_0
                                            have HC153_0 := Aside0.mk hl153_0
                                            clear hi153_0 hl153_0
                                            replace p153 := eq_true p153
                                            replace q153 := eq_true q153
                                            have ea_ := Option.some.inj (hx152_0.symm.trans hx153_0)
                                            injection ea_ with ea_ en_ ec_
                                            subst ea_
                                            subst ec_
                                            clear en_
                                            have p154 : 0 ≤ (x23_9 : Int) := of_decide_eq_true v3_
                                            have q154 : x23_9 < ((rd_L1 ((rd_T42 l0_0 x3_1).f1) x22_7).length : Int) := of_decide_eq_true v3_
                                            obtain ⟨ad154, e154, hx154_0⟩ := Kd.at_int HR153_0.out x23_9 p154 q154
                                            cases e154
                                            replace hx154_0 := (HB.out.cell (World.block_lt_of_cell? w _ hx154_0)).trans hx154_0
                                            replace p154 := eq_true p154
                                            replace q154 := eq_true q154
                                            obtain ⟨Ao145, co145, eo145⟩ := Kd.R_slice HO_7.out
                                            subst eo145
                                            have p155 : 0 ≤ ((rd (rd_L1 ((rd_T42 l0_0 x3_1).f1) x22_7) x23_9) : Int) := of_decide_eq_true v3_
                                            have q155 : (rd (rd_L1 ((rd_T42 l0_0 x3_1).f1) x22_7) x23_9) < (t113.length : Int) := of_decide_eq_true v3_
                                            obtain ⟨ad155, e155, hx155_0⟩ := Kd.at_int (Kd.R_reads' HO_7.out).2.2 (rd (rd_L1 ((rd_T42 l0_0 x3_1).f1) x22_7) x23_9) p155 q155
                                            cases e155
                                            replace p155 := eq_true p155
                                            replace q155 := eq_true q155
                                            have p156 : 0 ≤ (x22_7 : Int) := of_decide_eq_true v3_
                                            have q156 : x22_7 < (t113.length : Int) := of_decide_eq_true v3_
                                            obtain ⟨ad156, e156, hx156_0⟩ := Kd.at_int (Kd.R_reads' HO_7.out).2.2 x22_7 p156 q156
                                            obtain rfl : ad155 = ad156 := (by injection e156)
                                            replace p156 := eq_true p156
                                            replace q156 := eq_true q156
                                            obtain ⟨Ao146, co146, eo146⟩ := Kd.R_slice HO_20.out
                                            subst eo146
                                            have p157 : 0 ≤ (x22_7 : Int) := of_decide_eq_true v3_
                                            have q157 : x22_7 < (t138.length : Int) := of_decide_eq_true v3_
                                            obtain ⟨ad157, e157, hx157_0⟩ := Kd.at_int (Kd.R_reads' HO_20.out).2.2 x22_7 p157 q157
                                            cases e157
                                            replace p157 := eq_true p157
                                            replace q157 := eq_true q157
                                            have p158 : 0 ≤ ((rd (rd_L1 ((rd_T42 l0_0 x3_1).f1) x22_7) x23_9) : Int) := of_decide_eq_true v3_
                                            have q158 : (rd (rd_L1 ((rd_T42 l0_0 x3_1).f1) x22_7) x23_9) < (t138.length : Int) := of_decide_eq_true v3_
                                            obtain ⟨ad158, e158, hx158_0⟩ := Kd.at_int (Kd.R_reads' HO_20.out).2.2 (rd (rd_L1 ((rd_T42 l0_0 x3_1).f1) x22_7) x23_9) p158 q158
                                            obtain rfl : ad157 = ad158 := (by injection e158)
                                            replace p158 := eq_true p158
                                            replace q158 := eq_true q158
                                            have p159 : 0 ≤ ((rd (rd_L1 ((rd_T42 l0_0 x3_1).f1) x22_7) x23_9) : Int) := of_decide_eq_true v3_
                                            have q159 : (rd (rd_L1 ((rd_T42 l0_0 x3_1).f1) x22_7) x23_9) < (t138.length : Int) := of_decide_eq_true v3_
                                            obtain ⟨ad159, e159, hx159_0⟩ := Kd.at_int (Kd.R_reads' HO_20.out).2.2 (rd (rd_L1 ((rd_T42 l0_0 x3_1).f1) x22_7) x23_9) p159 q159
                                            obtain rfl : ad157 = ad159 := (by injection e159)
                                            replace p159 := eq_true p159
                                            replace q159 := eq_true q159
                                            have p160 : 0 ≤ (x22_7 : Int) := of_decide_eq_true v3_
                                            have q160 : x22_7 < (t138.length : Int) := of_decide_eq_true v3_
                                            obtain ⟨ad160, e160, hx160_0⟩ := Kd.at_int (Kd.R_reads' HO_20.out).2.2 x22_7 p160 q160
                                            obtain rfl : ad157 = ad160 := (by injection e160)
                                            replace p160 := eq_true p160
                                            replace q160 := eq_true q160
                                            go_wp2
                                            repeat (go_quiet (fail); try go_wp2)
                                            go_ret
                                            exact ⟨by first | rfl | (simp [errW_none, errW_some] <;> rfl) | (simp [*, errW_none, errW_some] <;> rfl), by repeat (first | (with_reducible first | exact HB.out | apply below_alloc | apply pw_below_drewN | apply below_drew1 | refine below_set ?_ GE101.out | refine below_set ?_ GE105.out | refine below_set ?_ GE111.out) | exact HB.out)⟩
                                           ·rw [if_neg c141] at H
                                            have c141b0 : decide ((wrap64 ((rd t138 x22_7) + 1)) < (rd t138 (rd (rd_L1 ((rd_T42 l0_0 x3_1).f1) x22_7) x23_9))) = false := decide_eq_false c141
                                            clear c141
                                            have H' := Aside0.mk H
                                            clear H
                                            have hnb147 := NB105_101.out
                                            have hnc147 := NB101_105.out
                                            have hnb148 := NB105_111.out
                                            have hnc148 := NB111_105.out
                                            have hcz149_0 : wr.cell? ⟨gb105, 0, none⟩ = some (.int .i64 ((rd_T42 l0_0 x3_1).f0)) := (blk_cell BK105.out 0).trans rfl
                                            have hcz149_1 : wr.cell? ⟨gb105, 1, none⟩ = some (.slice A104_1 ((rd_T42 l0_0 x3_1).f1).length c104_1) := (blk_cell BK105.out 1).trans rfl
                                            have hfz149_0 := blk_frozen BK105.out 0
                                            have hfz149_1 := blk_frozen BK105.out 1
                                            have p152 : 0 ≤ (x22_7 : Int) := of_decide_eq_true v3_
                                            have q152 : x22_7 < (((rd_T42 l0_0 x3_1).f1).length : Int) := of_decide_eq_true v3_
                                            obtain ⟨ad152, A152_0, c152_0, e152, hx152_0, hl152_0, hi152_0⟩ := at_L1 HR104_1.out x22_7 p152 q152
                                            cases e152
                                            replace hx152_0 := (HB.out.cell (World.block_lt_of_cell? w _ hx152_0)).trans hx152_0
                                            have HR152_0 := Aside0.mk hi152_0
                                            have HC152_0 := Aside0.mk hl152_0
                                            clear hi152_0 hl152_0
                                            replace p152 := eq_true p152
                                            replace q152 := eq_true q152
                                            have p153 : 0 ≤ (x22_7 : Int) := of_decide_eq_true v3_
                                            have q153 : x22_7 < (((rd_T42 l0_0 x3_1).f1).length : Int) := of_decide_eq_true v3_
                                            obtain ⟨ad153, A153_0, c153_0, e153, hx153_0, hl153_0, hi153_0⟩ := at_L1 HR104_1.out x22_7 p153 q153
                                            obtain rfl : ad152 = ad153 := (by injection e153)
                                            replace hx153_0 := (HB.out.cell (World.block_lt_of_cell? w _ hx153_0)).trans hx153_0
                                            have HR153_0 := Aside0.mk hi153_0
                                            have HC153_0 := Aside0.mk hl153_0
                                            clear hi153_0 hl153_0
                                            replace p153 := eq_true p153
                                            replace q153 := eq_true q153
                                            have ea_ := Option.some.inj (hx152_0.symm.trans hx153_0)
                                            injection ea_ with ea_ en_ ec_
                                            subst ea_
                                            subst ec_
                                            clear en_
                                            have p154 : 0 ≤ (x23_9 : Int) := of_decide_eq_true v3_
                                            have q154 : x23_9 < ((rd_L1 ((rd_T42 l0_0 x3_1).f1) x22_7).length : Int) := of_decide_eq_true v3_
                                            obtain ⟨ad154, e154, hx154_0⟩ := Kd.at_int HR153_0.out x23_9 p154 q154
                                            cases e154
                                            replace hx154_0 := (HB.out.cell (World.block_lt_of_cell? w _ hx154_0)).trans hx154_0
                                            replace p154 := eq_true p154
                                            replace q154 := eq_true q154
                                            obtain ⟨Ao150, co150, eo150⟩ := Kd.R_slice HO_7.out
                                            subst eo150
                                            have p155 : 0 ≤ ((rd (rd_L1 ((rd_T42 l0_0 x3_1).f1) x22_7) x23_9) : Int) := of_decide_eq_true v3_
                                            have q155 : (rd (rd_L1 ((rd_T42 l0_0 x3_1).f1) x22_7) x23_9) < (t113.length : Int) := of_decide_eq_true v3_
                                            obtain ⟨ad155, e155, hx155_0⟩ := Kd.at_int (Kd.R_reads' HO_7.out).2.2 (rd (rd_L1 ((rd_T42 l0_0 x3_1).f1) x22_7) x23_9) p155 q155
                                            cases e155
                                            replace p155 := eq_true p155
                                            replace q155 := eq_true q155
                                            have p156 : 0 ≤ (x22_7 : Int) := of_decide_eq_true v3_
                                            have q156 : x22_7 < (t113.length : Int) := of_decide_eq_true v3_
                                            obtain ⟨ad156, e156, hx156_0⟩ := Kd.at_int (Kd.R_reads' HO_7.out).2.2 x22_7 p156 q156
                                            obtain rfl : ad155 = ad156 := (by injection e156)
                                            replace p156 := eq_true p156
                                            replace q156 := eq_true q156
                                            obtain ⟨Ao151, co151, eo151⟩ := Kd.R_slice HO_20.out
                                            subst eo151
                                            have p157 : 0 ≤ (x22_7 : Int) := of_decide_eq_true v3_
                                            have q157 : x22_7 < (t138.length : Int) := of_decide_eq_true v3_
                                            obtain ⟨ad157, e157, hx157_0⟩ := Kd.at_int (Kd.R_reads' HO_20.out).2.2 x22_7 p157 q157
                                            cases e157
                                            replace p157 := eq_true p157
                                            replace q157 := eq_true q157
                                            have p158 : 0 ≤ ((rd (rd_L1 ((rd_T42 l0_0 x3_1).f1) x22_7) x23_9) : Int) := of_decide_eq_true v3_
                                            have q158 : (rd (rd_L1 ((rd_T42 l0_0 x3_1).f1) x22_7) x23_9) < (t138.length : Int) := of_decide_eq_true v3_
                                            obtain ⟨ad158, e158, hx158_0⟩ := Kd.at_int (Kd.R_reads' HO_20.out).2.2 (rd (rd_L1 ((rd_T42 l0_0 x3_1).f1) x22_7) x23_9) p158 q158
                                            obtain rfl : ad157 = ad158 := (by injection e158)
                                            replace p158 := eq_true p158
                                            replace q158 := eq_true q158
                                            have p159 : 0 ≤ ((rd (rd_L1 ((rd_T42 l0_0 x3_1).f1) x22_7) x23_9) : Int) := of_decide_eq_true v3_
                                            have q159 : (rd (rd_L1 ((rd_T42 l0_0 x3_1).f1) x22_7) x23_9) < (t138.length : Int) := of_decide_eq_true v3_
                                            obtain ⟨ad159, e159, hx159_0⟩ := Kd.at_int (Kd.R_reads' HO_20.out).2.2 (rd (rd_L1 ((rd_T42 l0_0 x3_1).f1) x22_7) x23_9) p159 q159
                                            obtain rfl : ad157 = ad159 := (by injection e159)
                                            replace p159 := eq_true p159
                                            replace q159 := eq_true q159
                                            have p160 : 0 ≤ (x22_7 : Int) := of_decide_eq_true v3_
                                            have q160 : x22_7 < (t138.length : Int) := of_decide_eq_true v3_
                                            obtain ⟨ad160, e160, hx160_0⟩ := Kd.at_int (Kd.R_reads' HO_20.out).2.2 x22_7 p160 q160
                                            obtain rfl : ad157 = ad160 := (by injection e160)
                                            replace p160 := eq_true p160
                                            replace q160 := eq_true q160
                                            go_wp2
                                            repeat (go_quiet (fail); try go_wp2)
                                            go_roundg k9
                                            case measure => have := HK1.out; have := HJ9.out; have := HJ22.out; have := HK4.out; have := HK5.out; have := HJ67.out; have := HK7.out; have := HJ104.out; have := HK9.out; omega
                                            case rel => exact ⟨(wrap64 (x23_9 + 1)), v12_, H', ⟨v64_⟩, ⟨v26_⟩, ⟨v38_⟩, ⟨v25_⟩, ⟨v6_⟩, ⟨v14_⟩, ⟨v13_⟩, ⟨v8_⟩⟩
                                         ·rw [if_neg c134] at H
                                          exact absurd H v58_
                                        ·rw [if_neg c133] at H
                                         have c133b0 : decide (0 ≤ (rd t138 x22_7)) = false := decide_eq_false c133
                                         clear c133
                                         have H' := Aside0.mk H
                                         clear H
                                         have hnb152 := NB105_101.out
                                         have hnc152 := NB101_105.out
                                         have hnb153 := NB105_111.out
                                         have hnc153 := NB111_105.out
                                         have hcz154_0 : wr.cell? ⟨gb105, 0, none⟩ = some (.int .i64 ((rd_T42 l0_0 x3_1).f0)) := (blk_cell BK105.out 0).trans rfl
                                         have hcz154_1 : wr.cell? ⟨gb105, 1, none⟩ = some (.slice A104_1 ((rd_T42 l0_0 x3_1).f1).length c104_1) := (blk_cell BK105.out 1).trans rfl
                                         have hfz154_0 := blk_frozen BK105.out 0
                                         have hfz154_1 := blk_frozen BK105.out 1
                                         have p152 : 0 ≤ (x22_7 : Int) := of_decide_eq_true v3_
                                         have q152 : x22_7 < (((rd_T42 l0_0 x3_1).f1).length : Int) := of_decide_eq_true v3_
                                         obtain ⟨ad152, A152_0, c152_0, e152, hx152_0, hl152_0, hi152_0⟩ := at_L1 HR104_1.out x22_7 p152 q152
                                         cases e152
                                         replace hx152_0 := (HB.out.cell (World.block_lt_of_cell? w _ hx152_0)).trans hx152_0
                                         have HR152_0 := Aside0.mk hi152_0
                                         have HC152_0 := Aside0.mk hl152_0
                                         clear hi152_0 hl152_0
                                         replace p152 := eq_true p152
                                         replace q152 := eq_true q152
                                         have p153 : 0 ≤ (x22_7 : Int) := of_decide_eq_true v3_
                                         have q153 : x22_7 < (((rd_T42 l0_0 x3_1).f1).length : Int) := of_decide_eq_true v3_
                                         obtain ⟨ad153, A153_0, c153_0, e153, hx153_0, hl153_0, hi153_0⟩ := at_L1 HR104_1.out x22_7 p153 q153
                                         obtain rfl : ad152 = ad153 := (by injection e153)
                                         replace hx153_0 := (HB.out.cell (World.block_lt_of_cell? w _ hx153_0)).trans hx153_0
                                         have HR153_0 := Aside0.mk hi153_0
                                         have HC153_0 := Aside0.mk hl153_0
                                         clear hi153_0 hl153_0
                                         replace p153 := eq_true p153
                                         replace q153 := eq_true q153
                                         have ea_ := Option.some.inj (hx152_0.symm.trans hx153_0)
                                         injection ea_ with ea_ en_ ec_
                                         subst ea_
                                         subst ec_
                                         clear en_
                                         have p154 : 0 ≤ (x23_9 : Int) := of_decide_eq_true v3_
                                         have q154 : x23_9 < ((rd_L1 ((rd_T42 l0_0 x3_1).f1) x22_7).length : Int) := of_decide_eq_true v3_
                                         obtain ⟨ad154, e154, hx154_0⟩ := Kd.at_int HR153_0.out x23_9 p154 q154
                                         cases e154
                                         replace hx154_0 := (HB.out.cell (World.block_lt_of_cell? w _ hx154_0)).trans hx154_0
                                         replace p154 := eq_true p154
                                         replace q154 := eq_true q154
                                         obtain ⟨Ao155, co155, eo155⟩ := Kd.R_slice HO_7.out
                                         subst eo155
                                         have p155 : 0 ≤ ((rd (rd_L1 ((rd_T42 l0_0 x3_1).f1) x22_7) x23_9) : Int) := of_decide_eq_true v3_
                                         have q155 : (rd (rd_L1 ((rd_T42 l0_0 x3_1).f1) x22_7) x23_9) < (t113.length : Int) := of_decide_eq_true v3_
                                         obtain ⟨ad155, e155, hx155_0⟩ := Kd.at_int (Kd.R_reads' HO_7.out).2.2 (rd (rd_L1 ((rd_T42 l0_0 x3_1).f1) x22_7) x23_9) p155 q155
                                         cases e155
                                         replace p155 := eq_true p155
                                         replace q155 := eq_true q155
                                         have p156 : 0 ≤ (x22_7 : Int) := of_decide_eq_true v3_
                                         have q156 : x22_7 < (t113.length : Int) := of_decide_eq_true v3_
                                         obtain ⟨ad156, e156, hx156_0⟩ := Kd.at_int (Kd.R_reads' HO_7.out).2.2 x22_7 p156 q156
                                         obtain rfl : ad155 = ad156 := (by injection e156)
                                         replace p156 := eq_true p156
                                         replace q156 := eq_true q156
                                         obtain ⟨Ao156, co156, eo156⟩ := Kd.R_slice HO_20.out
                                         subst eo156
                                         have p157 : 0 ≤ (x22_7 : Int) := of_decide_eq_true v3_
                                         have q157 : x22_7 < (t138.length : Int) := of_decide_eq_true v3_
                                         obtain ⟨ad157, e157, hx157_0⟩ := Kd.at_int (Kd.R_reads' HO_20.out).2.2 x22_7 p157 q157
                                         cases e157
                                         replace p157 := eq_true p157
                                         replace q157 := eq_true q157
                                         go_wp2
                                         repeat (go_quiet (fail); try go_wp2)
                                         go_roundg k9
                                         case measure => have := HK1.out; have := HJ9.out; have := HJ22.out; have := HK4.out; have := HK5.out; have := HJ67.out; have := HK7.out; have := HJ104.out; have := HK9.out; omega
                                         case rel => exact ⟨(wrap64 (x23_9 + 1)), v12_, H', ⟨v64_⟩, ⟨v26_⟩, ⟨v38_⟩, ⟨v25_⟩, ⟨v6_⟩, ⟨v14_⟩, ⟨v13_⟩, ⟨v8_⟩⟩
                                       ·rw [if_neg c132] at H
                                        exact absurd H v58_
                                      ·rw [if_neg c131] at H
                                       have c131b0 : ((rd t113 (rd (rd_L1 ((rd_T42 l0_0 x3_1).f1) x22_7) x23_9)) == (rd t113 x22_7)) = false := beq_eq_false_iff_ne.mpr c131
                                       have c131b1 : ((rd t113 (rd (rd_L1 ((rd_T42 l0_0 x3_1).f1) x22_7) x23_9)) != (rd t113 x22_7)) = true := bne_iff_ne.mpr c131
                                       obtain rfl := Option.some.inj H
                                       have hnb157 := NB105_101.out
                                       have hnc157 := NB101_105.out
                                       have hnb158 := NB105_111.out
                                       have hnc158 := NB111_105.out
                                       have hcz159_0 : wr.cell? ⟨gb105, 0, none⟩ = some (.int .i64 ((rd_T42 l0_0 x3_1).f0)) := (blk_cell BK105.out 0).trans rfl
                                       have hcz159_1 : wr.cell? ⟨gb105, 1, none⟩ = some (.slice A104_1 ((rd_T42 l0_0 x3_1).f1).length c104_1) := (blk_cell BK105.out 1).trans rfl
                                       have hfz159_0 := blk_frozen BK105.out 0
                                       have hfz159_1 := blk_frozen BK105.out 1
                                       have p152 : 0 ≤ (x22_7 : Int) := of_decide_eq_true v3_
                                       have q152 : x22_7 < (((rd_T42 l0_0 x3_1).f1).length : Int) := of_decide_eq_true v3_
                                       obtain ⟨ad152, A152_0, c152_0, e152, hx152_0, hl152_0, hi152_0⟩ := at_L1 HR104_1.out x22_7 p152 q152
                                       cases e152
                                       replace hx152_0 := (HB.out.cell (World.block_lt_of_cell? w _ hx152_0)).trans hx152_0
                                       have HR152_0 := Aside0.mk hi152_0
                                       have HC152_0 := Aside0.mk hl152_0
                                       clear hi152_0 hl152_0
                                       replace p152 := eq_true p152
                                       replace q152 := eq_true q152
                                       have p153 : 0 ≤ (x22_7 : Int) := of_decide_eq_true v3_
                                       have q153 : x22_7 < (((rd_T42 l0_0 x3_1).f1).length : Int) := of_decide_eq_true v3_
                                       obtain ⟨ad153, A153_0, c153_0, e153, hx153_0, hl153_0, hi153_0⟩ := at_L1 HR104_1.out x22_7 p153 q153
                                       obtain rfl : ad152 = ad153 := (by injection e153)
                                       replace hx153_0 := (HB.out.cell (World.block_lt_of_cell? w _ hx153_0)).trans hx153_0
                                       have HR153_0 := Aside0.mk hi153_0
                                       have HC153_0 := Aside0.mk hl153_0
                                       clear hi153_0 hl153_0
                                       replace p153 := eq_true p153
                                       replace q153 := eq_true q153
                                       have ea_ := Option.some.inj (hx152_0.symm.trans hx153_0)
                                       injection ea_ with ea_ en_ ec_
                                       subst ea_
                                       subst ec_
                                       clear en_
                                       have p154 : 0 ≤ (x23_9 : Int) := of_decide_eq_true v3_
                                       have q154 : x23_9 < ((rd_L1 ((rd_T42 l0_0 x3_1).f1) x22_7).length : Int) := of_decide_eq_true v3_
                                       obtain ⟨ad154, e154, hx154_0⟩ := Kd.at_int HR153_0.out x23_9 p154 q154
                                       cases e154
                                       replace hx154_0 := (HB.out.cell (World.block_lt_of_cell? w _ hx154_0)).trans hx154_0
                                       replace p154 := eq_true p154
                                       replace q154 := eq_true q154
                                       obtain ⟨Ao160, co160, eo160⟩ := Kd.R_slice HO_7.out
                                       subst eo160
                                       have p155 : 0 ≤ ((rd (rd_L1 ((rd_T42 l0_0 x3_1).f1) x22_7) x23_9) : Int) := of_decide_eq_true v3_
                                       have q155 : (rd (rd_L1 ((rd_T42 l0_0 x3_1).f1) x22_7) x23_9) < (t113.length : Int) := of_decide_eq_true v3_
                                       obtain ⟨ad155, e155, hx155_0⟩ := Kd.at_int (Kd.R_reads' HO_7.out).2.2 (rd (rd_L1 ((rd_T42 l0_0 x3_1).f1) x22_7) x23_9) p155 q155
                                       cases e155
                                       replace p155 := eq_true p155
                                       replace q155 := eq_true q155
                                       have p156 : 0 ≤ (x22_7 : Int) := of_decide_eq_true v3_
                                       have q156 : x22_7 < (t113.length : Int) := of_decide_eq_true v3_
                                       obtain ⟨ad156, e156, hx156_0⟩ := Kd.at_int (Kd.R_reads' HO_7.out).2.2 x22_7 p156 q156
                                       obtain rfl : ad155 = ad156 := (by injection e156)
                                       replace p156 := eq_true p156
                                       replace q156 := eq_true q156
                                       go_wp2
                                       repeat (go_quiet (fail); try go_wp2)
                                       go_ret
                                       exact ⟨by first | rfl | (simp [errW_none, errW_some] <;> rfl) | (simp [*, errW_none, errW_some] <;> rfl), by repeat (first | (with_reducible first | exact HB.out | apply below_alloc | apply pw_below_drewN | apply below_drew1 | refine below_set ?_ GE101.out | refine below_set ?_ GE105.out | refine below_set ?_ GE111.out) | exact HB.out)⟩
                                     ·rw [if_neg c130] at H
                                      exact absurd H v58_
                                    ·rw [if_neg c129] at H
                                     exact absurd H v58_
                                   ·rw [if_neg c128] at H
                                    exact absurd H v58_
                                  ·rw [if_neg c127] at H
                                   exact absurd H v58_
                                 ·rw [if_neg c126] at H
                                  have c126b0 : decide (x23_9 < ((rd_L1 ((rd_T42 l0_0 x3_1).f1) x22_7).length : Int)) = false := decide_eq_false c126
                                  clear c126
                                  have H' := Aside0.mk H
                                  clear H
                                  have hnb161 := NB105_101.out
                                  have hnc161 := NB101_105.out
                                  have hnb162 := NB105_111.out
                                  have hnc162 := NB111_105.out
                                  have hcz163_0 : wr.cell? ⟨gb105, 0, none⟩ = some (.int .i64 ((rd_T42 l0_0 x3_1).f0)) := (blk_cell BK105.out 0).trans rfl
                                  have hcz163_1 : wr.cell? ⟨gb105, 1, none⟩ = some (.slice A104_1 ((rd_T42 l0_0 x3_1).f1).length c104_1) := (blk_cell BK105.out 1).trans rfl
                                  have hfz163_0 := blk_frozen BK105.out 0
                                  have hfz163_1 := blk_frozen BK105.out 1
                                  have p152 : 0 ≤ (x22_7 : Int) := of_decide_eq_true v3_
                                  have q152 : x22_7 < (((rd_T42 l0_0 x3_1).f1).length : Int) := of_decide_eq_true v3_
                                  obtain ⟨ad152, A152_0, c152_0, e152, hx152_0, hl152_0, hi152_0⟩ := at_L1 HR104_1.out x22_7 p152 q152
                                  cases e152
                                  replace hx152_0 := (HB.out.cell (World.block_lt_of_cell? w _ hx152_0)).trans hx152_0
                                  have HR152_0 := Aside0.mk hi152_0
                                  have HC152_0 := Aside0.mk hl152_0
                                  clear hi152_0 hl152_0
                                  replace p152 := eq_true p152
                                  replace q152 := eq_true q152
                                  go_wp2
                                  repeat (go_quiet (fail); try go_wp2)
                                  go_roundg k9
                                  case measure => have := HK1.out; have := HJ9.out; have := HJ22.out; have := HK4.out; have := HK5.out; have := HJ67.out; have := HK7.out; have := HJ104.out; have := HK9.out; omega
                                  case rel => exact ⟨(wrap64 (x22_7 + 1)), v12_, H', ⟨v64_⟩, ⟨v26_⟩, ⟨v38_⟩, ⟨v25_⟩, ⟨v6_⟩, ⟨v14_⟩, ⟨v13_⟩, ⟨v8_⟩⟩
                                ·rw [if_neg c125] at H
                                 exact absurd H v58_
                               ·rw [if_neg c124] at H
                                exact absurd H v58_
                         ·rw [if_neg c104] at H
                          have c104b0 : decide (x22_7 < ((rd_T42 l0_0 x3_1).f0)) = false := decide_eq_false c104
                          clear c104
                          have H' := Aside0.mk H
                          clear H
                          have hnb164 := NB105_101.out
                          have hnc164 := NB101_105.out
                          have hnb165 := NB105_111.out
                          have hnc165 := NB111_105.out
                          have hcz166_0 : wr.cell? ⟨gb105, 0, none⟩ = some (.int .i64 ((rd_T42 l0_0 x3_1).f0)) := (blk_cell BK105.out 0).trans rfl
                          have hcz166_1 : wr.cell? ⟨gb105, 1, none⟩ = some (.slice A104_1 ((rd_T42 l0_0 x3_1).f1).length c104_1) := (blk_cell BK105.out 1).trans rfl
                          have hfz166_0 := blk_frozen BK105.out 0
                          have hfz166_1 := blk_frozen BK105.out 1
                          go_wp2
                          repeat (go_quiet (fail); try go_wp2)
                          go_roundg k7
                          case measure => have := HK1.out; have := HJ9.out; have := HJ22.out; have := HK4.out; have := HK5.out; have := HJ67.out; have := HK7.out; omega
                          case rel => exact ⟨(wrap64 (x15_5 + 1)), v12_, H', ⟨by have := HK1.out; have := HJ9.out; have := HJ22.out; have := HK4.out; have := HK5.out; have := HJ67.out; have := HK7.out; omega⟩, ⟨v100_⟩, ⟨v97_⟩, ⟨v6_⟩, ⟨v14_⟩, ⟨v13_⟩, ⟨v8_⟩⟩
                   ·rw [if_neg c64] at H
                    have c64b0 : decide (x15_5 < ((rd_T42 l0_0 x3_1).f0)) = false := decide_eq_false c64
                    clear c64
                    have H' := Aside0.mk H
                    clear H
                    have hnb167 := NB105_101.out
                    have hnc167 := NB101_105.out
                    have hnb168 := NB105_111.out
                    have hnc168 := NB111_105.out
                    have hcz169_0 : wr.cell? ⟨gb105, 0, none⟩ = some (.int .i64 ((rd_T42 l0_0 x3_1).f0)) := (blk_cell BK105.out 0).trans rfl
                    have hcz169_1 : wr.cell? ⟨gb105, 1, none⟩ = some (.slice A104_1 ((rd_T42 l0_0 x3_1).f1).length c104_1) := (blk_cell BK105.out 1).trans rfl
                    have hfz169_0 := blk_frozen BK105.out 0
                    have hfz169_1 := blk_frozen BK105.out 1
                    go_wp2
                    repeat (go_quiet (fail); try go_wp2)
                    go_roundg k5
                    case measure => have := HK1.out; have := HJ9.out; have := HJ22.out; have := HK4.out; have := HK5.out; omega
                    case rel => exact ⟨(wrap64 (x3_1 + 1)), v12_, H', ⟨by have := HK1.out; have := HJ9.out; have := HJ22.out; have := HK4.out; have := HK5.out; omega⟩, ⟨v6_⟩, ⟨v8_⟩⟩
                ·rw [if_neg c59] at H
                 have c59b0 : (x13_4 == ((rd_T42 l0_0 x3_1).f0)) = false := beq_eq_false_iff_ne.mpr c59
                 have c59b1 : (x13_4 != ((rd_T42 l0_0 x3_1).f0)) = true := bne_iff_ne.mpr c59
                 obtain rfl := Option.some.inj H
                 obtain ⟨Ao170, co170, eo170⟩ := Kd.R_slice HO_11.out
                 subst eo170
                 have hnb171 := NB105_101.out
                 have hnc171 := NB101_105.out
                 have hnb172 := NB105_111.out
                 have hnc172 := NB111_105.out
                 have hcz173_0 : wr.cell? ⟨gb105, 0, none⟩ = some (.int .i64 ((rd_T42 l0_0 x3_1).f0)) := (blk_cell BK105.out 0).trans rfl
                 have hcz173_1 : wr.cell? ⟨gb105, 1, none⟩ = some (.slice A104_1 ((rd_T42 l0_0 x3_1).f1).length c104_1) := (blk_cell BK105.out 1).trans rfl
                 have hfz173_0 := blk_frozen BK105.out 0
                 have hfz173_1 := blk_frozen BK105.out 1
                 go_wp2
                 repeat (go_quiet (fail); try go_wp2)
                 go_ret
                 exact ⟨by first | rfl | (simp [errW_none, errW_some] <;> rfl) | (simp [*, errW_none, errW_some] <;> rfl), by repeat (first | (with_reducible first | exact HB.out | apply below_alloc | apply pw_below_drewN | apply below_drew1 | refine below_set ?_ GE101.out | refine below_set ?_ GE105.out | refine below_set ?_ GE111.out) | exact HB.out)⟩
         ·rw [if_neg c19] at H
          have c19b0 : (t112 == 0) = false := beq_eq_false_iff_ne.mpr c19
          have c19b1 : (t112 != 0) = true := bne_iff_ne.mpr c19
          have H' := Aside0.mk H
          clear H
          have hcz174_0 : wc.cell? ⟨gb101, 0, none⟩ = some (.slice A0_0 l0_0.length c0_0) := (blk_cell BK101.out 0).trans rfl
          have hcz174_1 : wc.cell? ⟨gb101, 1, none⟩ = some (.slice A0_1 l0_1.length c0_1) := (blk_cell BK101.out 1).trans rfl
          have hfz174_0 := blk_frozen BK101.out 0
          have hfz174_1 := blk_frozen BK101.out 1
          have p104 : 0 ≤ (x3_1 : Int) := of_decide_eq_true v3_
          have q104 : x3_1 < (l0_0.length : Int) := of_decide_eq_true v3_
          obtain ⟨ad104, A104_1, c104_1, e104, hx104_0, hx104_1, hl104_1, hi104_1⟩ := at_T42 HR0_0.out x3_1 p104 q104
          cases e104
          replace hx104_0 := (HB.out.cell (World.block_lt_of_cell? w _ hx104_0)).trans hx104_0
          replace hx104_1 := (HB.out.cell (World.block_lt_of_cell? w _ hx104_1)).trans hx104_1
          have HR104_1 := Aside0.mk hi104_1
          have HC104_1 := Aside0.mk hl104_1
          clear hi104_1 hl104_1
          replace p104 := eq_true p104
          replace q104 := eq_true q104
          go_wp2_with (first | ((with_reducible refine gate_dst (N := 4) rfl ?_); (try (refine gate_guard (by rfl) ?_; dsimp only)); refine box_event ?hg (N := 4) ?hd (cs := #[.int .i64 0, .slice none 0 0]) (t := 42) ?hr ?_; (case hd => rfl); (case hg => rfl); (case hr => first | (go_simp; done) | (go_simp; rfl)); intro gb105 hg w175 hbox hb; have n0_ := Aside0.mk (blk_below (g := gb101) (o := .cells #[.slice (some ad104) l0_0.length c0_0, .slice A0_1 l0_1.length c0_1] 37 (0, 0)) v2_ hb); have n1_ := Aside0.mk (below_step v0_ hb); have n2_ := Aside0.mk (hbox); have n3_ := Aside0.mk (v47_); have n4_ := Aside0.mk (v47_); have n5_ := Aside0.mk (v32_); have n6_ := Aside0.mk (v34_); clear BK101; clear HB; have BK101 := n0_; have HB := n1_; have BK105 := n2_; have GW105 := n3_; have GE105 := n4_; have NB101_105 := n5_; have NB105_101 := n6_; clear n0_ n1_ n2_ n3_ n4_ n5_ n6_; clear hb hbox hg; have hnb176 := NB105_101.out; have hnc176 := NB101_105.out; have hcz177_0 : w175.cell? ⟨gb105, 0, none⟩ = some (.int .i64 0) := (blk_cell BK105.out 0).trans rfl; have hcz177_1 : w175.cell? ⟨gb105, 1, none⟩ = some (.slice none 0 0) := (blk_cell BK105.out 1).trans rfl; have hfz177_0 := blk_frozen BK105.out 0; have hfz177_1 := blk_frozen BK105.out 1) | (go_at_call 41; (with_reducible refine (q32.calls kj9 ((rd_T42 l0_0 x3_1).f0) _ _ ((rd_T42 l0_0 x3_1).f1) t106 t107 t110 _ ?side1 ?side2 A17.out).mono ?_); (case side1 => exact Kd.C_below HR104_1.out v5_); (case side2 => exact HC104_1.out); rintro e w178 ⟨v108, rfl, ho0, hb⟩; have n0_ := Aside0.mk (Kd.S_lower ho0 (below_size v5_)); have n1_ := Aside0.mk (blk_below (g := gb101) (o := .cells #[.slice (some ad104) l0_0.length c0_0, .slice A0_1 l0_1.length c0_1] 37 (0, 0)) v16_ hb); have n2_ := Aside0.mk (blk_below (g := gb105) (o := .cells #[.int .i64 ((rd_T42 l0_0 x3_1).f0), .slice A104_1 ((rd_T42 l0_0 x3_1).f1).length c104_1] 42 (0, 0)) v15_ hb); have n3_ := Aside0.mk (below_step v5_ hb); clear BK101; clear BK105; clear HB; have HO109 := n0_; have BK101 := n1_; have BK105 := n2_; have HB := n3_; clear n0_ n1_ n2_ n3_; (try clear hb); (try clear hb2); (try clear hk); (try clear hi); (try clear ho0)) | ((with_reducible refine gate_dst (N := 5) rfl ?_); (try (refine gate_guard (by rfl) ?_; dsimp only)); refine box_event ?hg (N := 5) ?hd (cs := #[.int .i64 0, .slice none 0 0]) (t := 42) ?hr ?_; (case hd => rfl); (case hg => rfl); (case hr => first | (go_simp; done) | (go_simp; rfl)); intro gb111 hg w179 hbox hb; have n0_ := Aside0.mk (Kd.S_below v21_ hb); have n1_ := Aside0.mk (blk_below (g := gb101) (o := .cells #[.slice (some ad104) l0_0.length c0_0, .slice A0_1 l0_1.length c0_1] 37 (0, 0)) v2_ hb); have n2_ := Aside0.mk (blk_below (g := gb105) (o := .cells #[.int .i64 ((rd_T42 l0_0 x3_1).f0), .slice A104_1 ((rd_T42 l0_0 x3_1).f1).length c104_1] 42 (0, 0)) v11_ hb); have n3_ := Aside0.mk (below_step v5_ hb); have n4_ := Aside0.mk (hbox); have n5_ := Aside0.mk (v46_); have n6_ := Aside0.mk (v46_); have n7_ := Aside0.mk (v31_); have n8_ := Aside0.mk (v33_); have n9_ := Aside0.mk (v27_); have n10_ := Aside0.mk (v28_); clear HO109; clear BK101; clear BK105; clear HB; have HO109 := n0_; have BK101 := n1_; have BK105 := n2_; have HB := n3_; have BK111 := n4_; have GW111 := n5_; have GE111 := n6_; have NB101_111 := n7_; have NB111_101 := n8_; have NB105_111 := n9_; have NB111_105 := n10_; clear n0_ n1_ n2_ n3_ n4_ n5_ n6_ n7_ n8_ n9_ n10_; clear hb hbox hg; have hnb180 := NB111_101.out; have hnc180 := NB101_111.out; have hnb181 := NB111_105.out; have hnc181 := NB105_111.out; have hcz182_0 : w179.cell? ⟨gb111, 0, none⟩ = some (.int .i64 0) := (blk_cell BK111.out 0).trans rfl; have hcz182_1 : w179.cell? ⟨gb111, 1, none⟩ = some (.slice none 0 0) := (blk_cell BK111.out 1).trans rfl; have hfz182_0 := blk_frozen BK111.out 0; have hfz182_1 := blk_frozen BK111.out 1; obtain ⟨Ao183, co183, eo183⟩ := Kd.S_slice HO109.out; subst eo183) | (go_at_call 30; (with_reducible refine (q4.calls t110 t112 _ A18.out).mono ?_); rintro e w' ⟨rfl, ⟨nd, rfl⟩⟩; (try first | exact ⟨rfl, _, World.drewN_drewN _ _ _⟩ | exact ⟨rfl, _, Eq.trans (World.drewN_drewN _ _ _) (congrArg (World.drewN _) (Nat.add_assoc _ _ _))⟩)))
          repeat (go_quiet (first | ((with_reducible refine gate_dst (N := 4) rfl ?_); (try (refine gate_guard (by rfl) ?_; dsimp only)); refine box_event ?hg (N := 4) ?hd (cs := #[.int .i64 0, .slice none 0 0]) (t := 42) ?hr ?_; (case hd => rfl); (case hg => rfl); (case hr => first | (go_simp; done) | (go_simp; rfl)); intro gb105 hg w175 hbox hb; have n0_ := Aside0.mk (blk_below (g := gb101) (o := .cells #[.slice (some ad104) l0_0.length c0_0, .slice A0_1 l0_1.length c0_1] 37 (0, 0)) v2_ hb); have n1_ := Aside0.mk (below_step v0_ hb); have n2_ := Aside0.mk (hbox); have n3_ := Aside0.mk (v47_); have n4_ := Aside0.mk (v47_); have n5_ := Aside0.mk (v32_); have n6_ := Aside0.mk (v34_); clear BK101; clear HB; have BK101 := n0_; have HB := n1_; have BK105 := n2_; have GW105 := n3_; have GE105 := n4_; have NB101_105 := n5_; have NB105_101 := n6_; clear n0_ n1_ n2_ n3_ n4_ n5_ n6_; clear hb hbox hg; have hnb176 := NB105_101.out; have hnc176 := NB101_105.out; have hcz177_0 : w175.cell? ⟨gb105, 0, none⟩ = some (.int .i64 0) := (blk_cell BK105.out 0).trans rfl; have hcz177_1 : w175.cell? ⟨gb105, 1, none⟩ = some (.slice none 0 0) := (blk_cell BK105.out 1).trans rfl; have hfz177_0 := blk_frozen BK105.out 0; have hfz177_1 := blk_frozen BK105.out 1) | (go_at_call 41; (with_reducible refine (q32.calls kj9 ((rd_T42 l0_0 x3_1).f0) _ _ ((rd_T42 l0_0 x3_1).f1) t106 t107 t110 _ ?side1 ?side2 A17.out).mono ?_); (case side1 => exact Kd.C_below HR104_1.out v5_); (case side2 => exact HC104_1.out); rintro e w178 ⟨v108, rfl, ho0, hb⟩; have n0_ := Aside0.mk (Kd.S_lower ho0 (below_size v5_)); have n1_ := Aside0.mk (blk_below (g := gb101) (o := .cells #[.slice (some ad104) l0_0.length c0_0, .slice A0_1 l0_1.length c0_1] 37 (0, 0)) v16_ hb); have n2_ := Aside0.mk (blk_below (g := gb105) (o := .cells #[.int .i64 ((rd_T42 l0_0 x3_1).f0), .slice A104_1 ((rd_T42 l0_0 x3_1).f1).length c104_1] 42 (0, 0)) v15_ hb); have n3_ := Aside0.mk (below_step v5_ hb); clear BK101; clear BK105; clear HB; have HO109 := n0_; have BK101 := n1_; have BK105 := n2_; have HB := n3_; clear n0_ n1_ n2_ n3_; (try clear hb); (try clear hb2); (try clear hk); (try clear hi); (try clear ho0)) | ((with_reducible refine gate_dst (N := 5) rfl ?_); (try (refine gate_guard (by rfl) ?_; dsimp only)); refine box_event ?hg (N := 5) ?hd (cs := #[.int .i64 0, .slice none 0 0]) (t := 42) ?hr ?_; (case hd => rfl); (case hg => rfl); (case hr => first | (go_simp; done) | (go_simp; rfl)); intro gb111 hg w179 hbox hb; have n0_ := Aside0.mk (Kd.S_below v21_ hb); have n1_ := Aside0.mk (blk_below (g := gb101) (o := .cells #[.slice (some ad104) l0_0.length c0_0, .slice A0_1 l0_1.length c0_1] 37 (0, 0)) v2_ hb); have n2_ := Aside0.mk (blk_below (g := gb105) (o := .cells #[.int .i64 ((rd_T42 l0_0 x3_1).f0), .slice A104_1 ((rd_T42 l0_0 x3_1).f1).length c104_1] 42 (0, 0)) v11_ hb); have n3_ := Aside0.mk (below_step v5_ hb); have n4_ := Aside0.mk (hbox); have n5_ := Aside0.mk (v46_); have n6_ := Aside0.mk (v46_); have n7_ := Aside0.mk (v31_); have n8_ := Aside0.mk (v33_); have n9_ := Aside0.mk (v27_); have n10_ := Aside0.mk (v28_); clear HO109; clear BK101; clear BK105; clear HB; have HO109 := n0_; have BK101 := n1_; have BK105 := n2_; have HB := n3_; have BK111 := n4_; have GW111 := n5_; have GE111 := n6_; have NB101_111 := n7_; have NB111_101 := n8_; have NB105_111 := n9_; have NB111_105 := n10_; clear n0_ n1_ n2_ n3_ n4_ n5_ n6_ n7_ n8_ n9_ n10_; clear hb hbox hg; have hnb180 := NB111_101.out; have hnc180 := NB101_111.out; have hnb181 := NB111_105.out; have hnc181 := NB105_111.out; have hcz182_0 : w179.cell? ⟨gb111, 0, none⟩ = some (.int .i64 0) := (blk_cell BK111.out 0).trans rfl; have hcz182_1 : w179.cell? ⟨gb111, 1, none⟩ = some (.slice none 0 0) := (blk_cell BK111.out 1).trans rfl; have hfz182_0 := blk_frozen BK111.out 0; have hfz182_1 := blk_frozen BK111.out 1; obtain ⟨Ao183, co183, eo183⟩ := Kd.S_slice HO109.out; subst eo183) | (go_at_call 30; (with_reducible refine (q4.calls t110 t112 _ A18.out).mono ?_); rintro e w' ⟨rfl, ⟨nd, rfl⟩⟩; (try first | exact ⟨rfl, _, World.drewN_drewN _ _ _⟩ | exact ⟨rfl, _, Eq.trans (World.drewN_drewN _ _ _) (congrArg (World.drewN _) (Nat.add_assoc _ _ _))⟩))); try go_wp2_with (first | ((with_reducible refine gate_dst (N := 4) rfl ?_); (try (refine gate_guard (by rfl) ?_; dsimp only)); refine box_event ?hg (N := 4) ?hd (cs := #[.int .i64 0, .slice none 0 0]) (t := 42) ?hr ?_; (case hd => rfl); (case hg => rfl); (case hr => first | (go_simp; done) | (go_simp; rfl)); intro gb105 hg w175 hbox hb; have n0_ := Aside0.mk (blk_below (g := gb101) (o := .cells #[.slice (some ad104) l0_0.length c0_0, .slice A0_1 l0_1.length c0_1] 37 (0, 0)) v2_ hb); have n1_ := Aside0.mk (below_step v0_ hb); have n2_ := Aside0.mk (hbox); have n3_ := Aside0.mk (v47_); have n4_ := Aside0.mk (v47_); have n5_ := Aside0.mk (v32_); have n6_ := Aside0.mk (v34_); clear BK101; clear HB; have BK101 := n0_; have HB := n1_; have BK105 := n2_; have GW105 := n3_; have GE105 := n4_; have NB101_105 := n5_; have NB105_101 := n6_; clear n0_ n1_ n2_ n3_ n4_ n5_ n6_; clear hb hbox hg; have hnb176 := NB105_101.out; have hnc176 := NB101_105.out; have hcz177_0 : w175.cell? ⟨gb105, 0, none⟩ = some (.int .i64 0) := (blk_cell BK105.out 0).trans rfl; have hcz177_1 : w175.cell? ⟨gb105, 1, none⟩ = some (.slice none 0 0) := (blk_cell BK105.out 1).trans rfl; have hfz177_0 := blk_frozen BK105.out 0; have hfz177_1 := blk_frozen BK105.out 1) | (go_at_call 41; (with_reducible refine (q32.calls kj9 ((rd_T42 l0_0 x3_1).f0) _ _ ((rd_T42 l0_0 x3_1).f1) t106 t107 t110 _ ?side1 ?side2 A17.out).mono ?_); (case side1 => exact Kd.C_below HR104_1.out v5_); (case side2 => exact HC104_1.out); rintro e w178 ⟨v108, rfl, ho0, hb⟩; have n0_ := Aside0.mk (Kd.S_lower ho0 (below_size v5_)); have n1_ := Aside0.mk (blk_below (g := gb101) (o := .cells #[.slice (some ad104) l0_0.length c0_0, .slice A0_1 l0_1.length c0_1] 37 (0, 0)) v16_ hb); have n2_ := Aside0.mk (blk_below (g := gb105) (o := .cells #[.int .i64 ((rd_T42 l0_0 x3_1).f0), .slice A104_1 ((rd_T42 l0_0 x3_1).f1).length c104_1] 42 (0, 0)) v15_ hb); have n3_ := Aside0.mk (below_step v5_ hb); clear BK101; clear BK105; clear HB; have HO109 := n0_; have BK101 := n1_; have BK105 := n2_; have HB := n3_; clear n0_ n1_ n2_ n3_; (try clear hb); (try clear hb2); (try clear hk); (try clear hi); (try clear ho0)) | ((with_reducible refine gate_dst (N := 5) rfl ?_); (try (refine gate_guard (by rfl) ?_; dsimp only)); refine box_event ?hg (N := 5) ?hd (cs := #[.int .i64 0, .slice none 0 0]) (t := 42) ?hr ?_; (case hd => rfl); (case hg => rfl); (case hr => first | (go_simp; done) | (go_simp; rfl)); intro gb111 hg w179 hbox hb; have n0_ := Aside0.mk (Kd.S_below v21_ hb); have n1_ := Aside0.mk (blk_below (g := gb101) (o := .cells #[.slice (some ad104) l0_0.length c0_0, .slice A0_1 l0_1.length c0_1] 37 (0, 0)) v2_ hb); have n2_ := Aside0.mk (blk_below (g := gb105) (o := .cells #[.int .i64 ((rd_T42 l0_0 x3_1).f0), .slice A104_1 ((rd_T42 l0_0 x3_1).f1).length c104_1] 42 (0, 0)) v11_ hb); have n3_ := Aside0.mk (below_step v5_ hb); have n4_ := Aside0.mk (hbox); have n5_ := Aside0.mk (v46_); have n6_ := Aside0.mk (v46_); have n7_ := Aside0.mk (v31_); have n8_ := Aside0.mk (v33_); have n9_ := Aside0.mk (v27_); have n10_ := Aside0.mk (v28_); clear HO109; clear BK101; clear BK105; clear HB; have HO109 := n0_; have BK101 := n1_; have BK105 := n2_; have HB := n3_; have BK111 := n4_; have GW111 := n5_; have GE111 := n6_; have NB101_111 := n7_; have NB111_101 := n8_; have NB105_111 := n9_; have NB111_105 := n10_; clear n0_ n1_ n2_ n3_ n4_ n5_ n6_ n7_ n8_ n9_ n10_; clear hb hbox hg; have hnb180 := NB111_101.out; have hnc180 := NB101_111.out; have hnb181 := NB111_105.out; have hnc181 := NB105_111.out; have hcz182_0 : w179.cell? ⟨gb111, 0, none⟩ = some (.int .i64 0) := (blk_cell BK111.out 0).trans rfl; have hcz182_1 : w179.cell? ⟨gb111, 1, none⟩ = some (.slice none 0 0) := (blk_cell BK111.out 1).trans rfl; have hfz182_0 := blk_frozen BK111.out 0; have hfz182_1 := blk_frozen BK111.out 1; obtain ⟨Ao183, co183, eo183⟩ := Kd.S_slice HO109.out; subst eo183) | (go_at_call 30; (with_reducible refine (q4.calls t110 t112 _ A18.out).mono ?_); rintro e w' ⟨rfl, ⟨nd, rfl⟩⟩; (try first | exact ⟨rfl, _, World.drewN_drewN _ _ _⟩ | exact ⟨rfl, _, Eq.trans (World.drewN_drewN _ _ _) (congrArg (World.drewN _) (Nat.add_assoc _ _ _))⟩))))
          go_roundg kj9
          case measure => have := HK1.out; have := HJ9.out; omega
          case rel => exact ⟨(wrap64 (x3_1 + 1)), v12_, H', ⟨by have := HK1.out; have := HJ9.out; omega⟩, ⟨by (with_reducible repeat (first | refine blk_drewN ?_ _ | refine blk_drew ?_ | refine blk_alloc ?_ _)); refine blk_far ?_ NB101_111.out _; (with_reducible repeat (first | refine blk_drewN ?_ _ | refine blk_drew ?_ | refine blk_alloc ?_ _)); refine blk_far ?_ NB101_111.out _; (with_reducible repeat (first | refine blk_drewN ?_ _ | refine blk_drew ?_ | refine blk_alloc ?_ _)); exact BK101.out⟩, ⟨v8_⟩⟩
        ·rw [if_neg c16] at H
         exact absurd H v58_
       ·rw [if_neg c15] at H
        exact absurd H v58_
      ·replace c14 := Bool.eq_false_iff.mpr c14
       subst c14
       have H1 : ((q31.f kj9).bind fun t103 => (some t103)) = some r := by rw [if_neg (show ¬ (false = true) by decide)] at H; exact H
       clear H
       have H := H1
       clear H1
       replace H := Option.bind_eq_some_iff.mp H
       obtain ⟨t103, A1840, H⟩ := H
       replace H : (some t103) = some r := H
       have A184 := Aside0.mk A1840
       clear A1840
       obtain rfl := Option.some.inj H
       go_wp2_with (first | (go_at_call 40; (with_reducible refine (q31.calls kj9  t103 _ A184.out).mono ?_); rintro e w185 ⟨rfl, hb⟩; have n0_ := Aside0.mk (blk_below (g := gb101) (o := .cells #[.slice A0_0 l0_0.length c0_0, .slice A0_1 l0_1.length c0_1] 37 (0, 0)) v2_ hb); have n1_ := Aside0.mk (below_step v0_ hb); clear BK101; clear HB; have BK101 := n0_; have HB := n1_; clear n0_ n1_; (try clear hb); (try clear hb2); (try clear hk); (try clear hi)))
       repeat (go_quiet (first | (go_at_call 40; (with_reducible refine (q31.calls kj9  t103 _ A184.out).mono ?_); rintro e w185 ⟨rfl, hb⟩; have n0_ := Aside0.mk (blk_below (g := gb101) (o := .cells #[.slice A0_0 l0_0.length c0_0, .slice A0_1 l0_1.length c0_1] 37 (0, 0)) v2_ hb); have n1_ := Aside0.mk (below_step v0_ hb); clear BK101; clear HB; have BK101 := n0_; have HB := n1_; clear n0_ n1_; (try clear hb); (try clear hb2); (try clear hk); (try clear hi))); try go_wp2_with (first | (go_at_call 40; (with_reducible refine (q31.calls kj9  t103 _ A184.out).mono ?_); rintro e w185 ⟨rfl, hb⟩; have n0_ := Aside0.mk (blk_below (g := gb101) (o := .cells #[.slice A0_0 l0_0.length c0_0, .slice A0_1 l0_1.length c0_1] 37 (0, 0)) v2_ hb); have n1_ := Aside0.mk (below_step v0_ hb); clear BK101; clear HB; have BK101 := n0_; have HB := n1_; clear n0_ n1_; (try clear hb); (try clear hb2); (try clear hk); (try clear hi))))
       go_ret
       exact ⟨by first | rfl | (simp [errW_none, errW_some] <;> rfl) | (simp [*, errW_none, errW_some] <;> rfl), by repeat (first | (with_reducible first | exact HB.out | apply below_alloc | apply pw_below_drewN | apply below_drew1 | refine below_set ?_ GE101.out) | exact HB.out)⟩
end Go.Proofs.Ytcfhffhmpalkbaa.P
