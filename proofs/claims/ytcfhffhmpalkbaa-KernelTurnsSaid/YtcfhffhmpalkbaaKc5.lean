import Derived.Test.YtcfhffhmpalkbaaKc1
import Derived.Test.YtcfhffhmpalkbaaKc2
import Derived.Test.YtcfhffhmpalkbaaKc4
namespace Go.Proofs.Ytcfhffhmpalkbaa.P
open Go.RowKit Go.Proofs.YtcfhffhmpalkbaaM Go.Proofs.YtcfhffhmpalkbaaW.PrintWords Go.Proofs.YtcfhffhmpalkbaaW.PrintLast Go.Proofs.YtcfhffhmpalkbaaW.PrintMore
attribute [local go_sem] Go.Instr.field Go.asAgg max2_int min2_int max_two min_two max_three min_three max_four min_four
set_option linter.unusedVariables false
set_option linter.unusedSimpArgs false
set_option maxHeartbeats 8000000 in
set_option maxRecDepth 100000 in
theorem q38.calls (a0 : Int) (r : Bool) (w : World) (h : q38.f a0 = some r) :
 Calls Try.prog 78 #[.int .i64 a0] w fun e w' => e = .returned (.bool r) ∧ Drawn0 w w' := by
 have H : (if a0 = 1 then (some true) else (if a0 = 2 then (some true) else (some (a0 == 4)))) = some r := h
 clear h
 by_cases c2 : a0 = 1
 ·rw [if_pos c2] at H
  have c2b0 : (a0 == 1) = true := beq_iff_eq.mpr c2
  have c2b1 : (a0 != 1) = false := bne_eq_false_iff_eq.mpr c2
  clear c2
  obtain rfl := Option.some.inj H
  go_enter Try.func78, Try.ntmps78
  go_wp2
  go_ret
  exact ⟨by first | rfl | (simp; done) | (simp [*]; done), by repeat (first | exact Drawn0.refl _ | apply Drawn0.step)⟩
 ·rw [if_neg c2] at H
  have c2b0 : (a0 == 1) = false := beq_eq_false_iff_ne.mpr c2
  have c2b1 : (a0 != 1) = true := bne_iff_ne.mpr c2
  by_cases c3 : a0 = 2
  ·rw [if_pos c3] at H
   have c3b0 : (a0 == 2) = true := beq_iff_eq.mpr c3
   have c3b1 : (a0 != 2) = false := bne_eq_false_iff_eq.mpr c3
   clear c3
   obtain rfl := Option.some.inj H
   go_enter Try.func78, Try.ntmps78
   go_wp2
   go_ret
   exact ⟨by first | rfl | (simp; done) | (simp [*]; done), by repeat (first | exact Drawn0.refl _ | apply Drawn0.step)⟩
  ·rw [if_neg c3] at H
   have c3b0 : (a0 == 2) = false := beq_eq_false_iff_ne.mpr c3
   have c3b1 : (a0 != 2) = true := bne_iff_ne.mpr c3
   obtain rfl := Option.some.inj H
   go_enter Try.func78, Try.ntmps78
   go_wp2
   go_ret
   exact ⟨by first | rfl | (simp; done) | (simp [*]; done), by repeat (first | exact Drawn0.refl _ | apply Drawn0.step)⟩
set_option maxHeartbeats 8000000 in
set_option maxRecDepth 100000 in
theorem q18.calls (k : Nat) (a0_0 : Int) (A0_1 : Option Addr) (c0_1 : Nat) (l0_1 : List (List Int)) (a1 : Int) (a2 : Int) (r : Int) (w : World) (hr0_1 : Kd.C (Kd.slice 3 (Kd.int .i64)) w A0_1 l0_1.length l0_1) (hc0_1 : l0_1.length ≤ c0_1) (h : q18.f k a0_0 l0_1 a1 a2 = some r) :
 Calls Try.prog 53 #[.agg #[.int .i64 a0_0, .slice A0_1 l0_1.length c0_1], .int .i64 a1, .int .i64 a2] w fun e w' => e = .returned (.int .i64 r) ∧ Below w.heap.size w w' := by
 have hu42 := Try.underlying42
 have HR0_1 := Aside0.mk hr0_1
 have HC0_1 := Aside0.mk hc0_1
 clear hr0_1 hc0_1
 have HB := Aside0.mk (Below.refl w.heap.size w)
 have H : ((q8.f k a0_0 l0_1).bind fun t102 => (if t102 = true then (if a1 < 1 then (q18.j0 k a1 a2 true a0_0 l0_1) else (q18.j0 k a1 a2 (decide (a1 > 6)) a0_0 l0_1)) else (q18.j0 k a1 a2 true a0_0 l0_1))) = some r := h
 clear h
 have HC4 := Aside0.mk H
 clear H
 go_enter Try.func53, Try.ntmps53
 go_upto_region 1 with (first | ((with_reducible refine gate_dst (N := 3) rfl ?_); refine box_event ?hg (N := 3) ?hd (cs := #[.int .i64 a0_0, .slice A0_1 l0_1.length c0_1]) (t := 42) ?hr ?_; (case hd => rfl); (case hg => rfl); (case hr => first | (go_simp; done) | (go_simp; rfl)); intro gb101 hg w5 hbox hb; have n0_ := Aside0.mk (below_step v1_ hb); have n1_ := Aside0.mk (hbox); have n2_ := Aside0.mk (v10_); have n3_ := Aside0.mk (v10_); clear HB; have HB := n0_; have BK101 := n1_; have GW101 := n2_; have GE101 := n3_; clear n0_ n1_ n2_ n3_; clear hb hbox hg))
 (try simp only [Act.put, List.setIfInBounds_toArray, List.set_cons_zero, List.set_cons_succ])
 go_cut [7] (fun v7 wc => ∃ (kq : Nat) (x7_3 : Bool), v7 = .bool x7_3 ∧ Aside0 (q18.j0 kq a1 a2 x7_3 a0_0 l0_1 = some r) ∧ Aside0 (kq ≤ k) ∧ Aside0 (wc.heap[gb101]? = some (.cells #[.int .i64 a0_0, (.slice A0_1 l0_1.length c0_1)] 42 (0, 0))) ∧ Aside0 (Below w.heap.size w wc))
 case first => as_aux_lemma =>
  have H := HC4.out
  clear HC4
  replace H := Option.bind_eq_some_iff.mp H
  obtain ⟨t102, A60, H⟩ := H
  replace H : (if t102 = true then (if a1 < 1 then (q18.j0 k a1 a2 true a0_0 l0_1) else (q18.j0 k a1 a2 (decide (a1 > 6)) a0_0 l0_1)) else (q18.j0 k a1 a2 true a0_0 l0_1)) = some r := H
  have A6 := Aside0.mk A60
  clear A60
  by_cases c7 : t102 = true
  ·subst c7
   have H1 : (if a1 < 1 then (q18.j0 k a1 a2 true a0_0 l0_1) else (q18.j0 k a1 a2 (decide (a1 > 6)) a0_0 l0_1)) = some r := by rw [if_pos rfl] at H; exact H
   clear H
   have H := H1
   clear H1
   by_cases c8 : a1 < 1
   ·rw [if_pos c8] at H
    have c8b0 : decide (a1 < 1) = true := decide_eq_true c8
    clear c8
    (first | rw [c8b0] | (simp only [i64_w, i32_w]; rw [c8b0]) | skip)
    have H' := Aside0.mk H
    clear H
    have hcz9_0 : w5.cell? ⟨gb101, 0, none⟩ = some (.int .i64 a0_0) := (blk_cell BK101.out 0).trans rfl
    have hcz9_1 : w5.cell? ⟨gb101, 1, none⟩ = some (.slice A0_1 l0_1.length c0_1) := (blk_cell BK101.out 1).trans rfl
    have hfz9_0 := blk_frozen BK101.out 0
    have hfz9_1 := blk_frozen BK101.out 1
    go_wp2_with (first | ((with_reducible refine gate_callee (f := 69) rfl ?_); refine goesL_ (some 9) rfl rfl Try.func69 v42_ rfl #[.agg #[.int .i64 a0_0, .slice A0_1 l0_1.length c0_1]] rfl v7_ ?_; (with_reducible refine (q8.calls k a0_0 _ _ l0_1 true _ ?side1 ?side2 A6.out).mono ?_); (case side1 => repeat (first | exact (Kd.C_below HR0_1.out HB.out) | (with_reducible refine Kd.C_alloc ?_ _) | (with_reducible refine Kd.C_drewN ?_ _) | (with_reducible refine Kd.C_drew ?_))); (case side2 => exact HC0_1.out); rintro e w10 ⟨rfl, hb⟩; refine ⟨_, rfl, ?_⟩; have n0_ := Aside0.mk (blk_below (g := gb101) (o := .cells #[.int .i64 a0_0, .slice A0_1 l0_1.length c0_1] 42 (0, 0)) v2_ hb); have n1_ := Aside0.mk (below_step v0_ hb); clear BK101; clear HB; have BK101 := n0_; have HB := n1_; clear n0_ n1_; (try clear hb); (try clear hb2); (try clear hk); (try clear hi)))
    go_meet
    case rel => exact ⟨_, (true), v12_, H', ⟨v92_⟩, ⟨v6_⟩, ⟨v9_⟩⟩
   ·rw [if_neg c8] at H
    have c8b0 : decide (a1 < 1) = false := decide_eq_false c8
    clear c8
    (first | rw [c8b0] | (simp only [i64_w, i32_w]; rw [c8b0]) | skip)
    have H' := Aside0.mk H
    clear H
    have hcz11_0 : w5.cell? ⟨gb101, 0, none⟩ = some (.int .i64 a0_0) := (blk_cell BK101.out 0).trans rfl
    have hcz11_1 : w5.cell? ⟨gb101, 1, none⟩ = some (.slice A0_1 l0_1.length c0_1) := (blk_cell BK101.out 1).trans rfl
    have hfz11_0 := blk_frozen BK101.out 0
    have hfz11_1 := blk_frozen BK101.out 1
    go_wp2_with (first | ((with_reducible refine gate_callee (f := 69) rfl ?_); refine goesL_ (some 9) rfl rfl Try.func69 v42_ rfl #[.agg #[.int .i64 a0_0, .slice A0_1 l0_1.length c0_1]] rfl v7_ ?_; (with_reducible refine (q8.calls k a0_0 _ _ l0_1 true _ ?side1 ?side2 A6.out).mono ?_); (case side1 => repeat (first | exact (Kd.C_below HR0_1.out HB.out) | (with_reducible refine Kd.C_alloc ?_ _) | (with_reducible refine Kd.C_drewN ?_ _) | (with_reducible refine Kd.C_drew ?_))); (case side2 => exact HC0_1.out); rintro e w12 ⟨rfl, hb⟩; refine ⟨_, rfl, ?_⟩; have n0_ := Aside0.mk (blk_below (g := gb101) (o := .cells #[.int .i64 a0_0, .slice A0_1 l0_1.length c0_1] 42 (0, 0)) v2_ hb); have n1_ := Aside0.mk (below_step v0_ hb); clear BK101; clear HB; have BK101 := n0_; have HB := n1_; clear n0_ n1_; (try clear hb); (try clear hb2); (try clear hk); (try clear hi)))
    go_meet
    case rel => exact ⟨_, (decide (a1 > 6)), v12_, H', ⟨v92_⟩, ⟨v6_⟩, ⟨v9_⟩⟩
  ·replace c7 := Bool.eq_false_iff.mpr c7
   subst c7
   have H1 : (q18.j0 k a1 a2 true a0_0 l0_1) = some r := by rw [if_neg (show ¬ (false = true) by decide)] at H; exact H
   clear H
   have H := H1
   clear H1
   have H' := Aside0.mk H
   clear H
   have hcz13_0 : w5.cell? ⟨gb101, 0, none⟩ = some (.int .i64 a0_0) := (blk_cell BK101.out 0).trans rfl
   have hcz13_1 : w5.cell? ⟨gb101, 1, none⟩ = some (.slice A0_1 l0_1.length c0_1) := (blk_cell BK101.out 1).trans rfl
   have hfz13_0 := blk_frozen BK101.out 0
   have hfz13_1 := blk_frozen BK101.out 1
   go_wp2_with (first | ((with_reducible refine gate_callee (f := 69) rfl ?_); refine goesL_ (some 9) rfl rfl Try.func69 v42_ rfl #[.agg #[.int .i64 a0_0, .slice A0_1 l0_1.length c0_1]] rfl v7_ ?_; (with_reducible refine (q8.calls k a0_0 _ _ l0_1 false _ ?side1 ?side2 A6.out).mono ?_); (case side1 => repeat (first | exact (Kd.C_below HR0_1.out HB.out) | (with_reducible refine Kd.C_alloc ?_ _) | (with_reducible refine Kd.C_drewN ?_ _) | (with_reducible refine Kd.C_drew ?_))); (case side2 => exact HC0_1.out); rintro e w14 ⟨rfl, hb⟩; refine ⟨_, rfl, ?_⟩; have n0_ := Aside0.mk (blk_below (g := gb101) (o := .cells #[.int .i64 a0_0, .slice A0_1 l0_1.length c0_1] 42 (0, 0)) v2_ hb); have n1_ := Aside0.mk (below_step v0_ hb); clear BK101; clear HB; have BK101 := n0_; have HB := n1_; clear n0_ n1_; (try clear hb); (try clear hb2); (try clear hk); (try clear hi)))
   go_meet
   case rel => exact ⟨_, (true), v12_, H', ⟨v92_⟩, ⟨v6_⟩, ⟨v9_⟩⟩
 case rest => as_aux_lemma =>
  clear HC4
  try clear p2
  try clear c5
  try clear c6
  try clear c7
  try clear c8
  try clear c8b0
  try clear hcz11_0
  try clear hcz11_1
  try clear hcz13_0
  try clear hcz13_1
  try clear hcz9_0
  try clear hcz9_1
  try clear hfz11_0
  try clear hfz11_1
  try clear hfz13_0
  try clear hfz13_1
  try clear hfz9_0
  try clear hfz9_1
  obtain ⟨kq, x7_3, rfl, HA, HJ3, BK101, HB⟩ := hcut
  cases kq with
  | zero => exact absurd HA.out (by simp [q18.j0])
  | succ kj3 =>
   have H := HA.out
   clear HA
   simp only [q18.j0] at H
   by_cases c15 : x7_3 = true
   ·subst c15
    have H1 : (some 1) = some r := by rw [if_pos rfl] at H; exact H
    clear H
    have H := H1
    clear H1
    obtain rfl := Option.some.inj H
    go_wp2
    go_ret
    exact ⟨by first | rfl | (simp [errW_none, errW_some] <;> rfl) | (simp [*, errW_none, errW_some] <;> rfl), by repeat (first | (with_reducible first | exact HB.out | apply below_alloc | apply pw_below_drewN | apply below_drew1 | refine below_set ?_ GE101.out) | exact HB.out)⟩
   ·replace c15 := Bool.eq_false_iff.mpr c15
    subst c15
    have H1 : ((q38.f a1).bind fun t103 => (if t103 = true then ((q34.f a0_0 l0_1 a2).bind fun t104 => (if t104 = true then (some 0) else (some 3))) else (some 0))) = some r := by rw [if_neg (show ¬ (false = true) by decide)] at H; exact H
    clear H
    have H := H1
    clear H1
    replace H := Option.bind_eq_some_iff.mp H
    obtain ⟨t103, A160, H⟩ := H
    replace H : (if t103 = true then ((q34.f a0_0 l0_1 a2).bind fun t104 => (if t104 = true then (some 0) else (some 3))) else (some 0)) = some r := H
    have A16 := Aside0.mk A160
    clear A160
    by_cases c17 : t103 = true
    ·subst c17
     have H1 : ((q34.f a0_0 l0_1 a2).bind fun t104 => (if t104 = true then (some 0) else (some 3))) = some r := by rw [if_pos rfl] at H; exact H
     clear H
     have H := H1
     clear H1
     replace H := Option.bind_eq_some_iff.mp H
     obtain ⟨t104, A180, H⟩ := H
     replace H : (if t104 = true then (some 0) else (some 3)) = some r := H
     have A18 := Aside0.mk A180
     clear A180
     by_cases c19 : t104 = true
     ·subst c19
      have H1 : (some 0) = some r := by rw [if_pos rfl] at H; exact H
      clear H
      have H := H1
      clear H1
      obtain rfl := Option.some.inj H
      go_wp2_with (first | ((with_reducible refine gate_callee (f := 78) rfl ?_); refine goesL_ (some 21) rfl rfl Try.func78 v42_ rfl #[.int .i64 a1] rfl v7_ ?_; (with_reducible refine (q38.calls a1 true _ A16.out).mono ?_); rintro e w' ⟨rfl, ⟨nd, rfl⟩⟩; refine ⟨_, rfl, ?_⟩; have hcz20_0 : wc.cell? ⟨gb101, 0, none⟩ = some (.int .i64 a0_0) := (blk_cell BK101.out 0).trans rfl; have hcz20_1 : wc.cell? ⟨gb101, 1, none⟩ = some (.slice A0_1 l0_1.length c0_1) := (blk_cell BK101.out 1).trans rfl; have hfz20_0 := blk_frozen BK101.out 0; have hfz20_1 := blk_frozen BK101.out 1) | (go_at_call 79; (with_reducible refine (q34.calls a0_0 _ _ l0_1 a2 true _ ?side1 ?side2 A18.out).mono ?_); (case side1 => repeat (first | exact (Kd.C_below HR0_1.out v0_) | (with_reducible refine Kd.C_alloc ?_ _) | (with_reducible refine Kd.C_drewN ?_ _) | (with_reducible refine Kd.C_drew ?_))); (case side2 => exact HC0_1.out); rintro e w21 ⟨rfl, hb⟩; have n0_ := Aside0.mk (blk_below (g := gb101) (o := .cells #[.int .i64 a0_0, .slice A0_1 l0_1.length c0_1] 42 (0, 0)) v2_ hb); have n1_ := Aside0.mk (below_step v0_ hb); clear BK101; clear HB; have BK101 := n0_; have HB := n1_; clear n0_ n1_; (try clear hb); (try clear hb2); (try clear hk); (try clear hi)))
      go_ret
      exact ⟨by first | rfl | (simp [errW_none, errW_some] <;> rfl) | (simp [*, errW_none, errW_some] <;> rfl), by repeat (first | (with_reducible first | exact HB.out | apply below_alloc | apply pw_below_drewN | apply below_drew1 | refine below_set ?_ GE101.out) | exact HB.out)⟩
     ·replace c19 := Bool.eq_false_iff.mpr c19
      subst c19
      have H1 : (some 3) = some r := by rw [if_neg (show ¬ (false = true) by decide)] at H; exact H
      clear H
      have H := H1
      clear H1
      obtain rfl := Option.some.inj H
      go_wp2_with (first | ((with_reducible refine gate_callee (f := 78) rfl ?_); refine goesL_ (some 21) rfl rfl Try.func78 v42_ rfl #[.int .i64 a1] rfl v7_ ?_; (with_reducible refine (q38.calls a1 true _ A16.out).mono ?_); rintro e w' ⟨rfl, ⟨nd, rfl⟩⟩; refine ⟨_, rfl, ?_⟩; have hcz22_0 : wc.cell? ⟨gb101, 0, none⟩ = some (.int .i64 a0_0) := (blk_cell BK101.out 0).trans rfl; have hcz22_1 : wc.cell? ⟨gb101, 1, none⟩ = some (.slice A0_1 l0_1.length c0_1) := (blk_cell BK101.out 1).trans rfl; have hfz22_0 := blk_frozen BK101.out 0; have hfz22_1 := blk_frozen BK101.out 1) | (go_at_call 79; (with_reducible refine (q34.calls a0_0 _ _ l0_1 a2 false _ ?side1 ?side2 A18.out).mono ?_); (case side1 => repeat (first | exact (Kd.C_below HR0_1.out v0_) | (with_reducible refine Kd.C_alloc ?_ _) | (with_reducible refine Kd.C_drewN ?_ _) | (with_reducible refine Kd.C_drew ?_))); (case side2 => exact HC0_1.out); rintro e w23 ⟨rfl, hb⟩; have n0_ := Aside0.mk (blk_below (g := gb101) (o := .cells #[.int .i64 a0_0, .slice A0_1 l0_1.length c0_1] 42 (0, 0)) v2_ hb); have n1_ := Aside0.mk (below_step v0_ hb); clear BK101; clear HB; have BK101 := n0_; have HB := n1_; clear n0_ n1_; (try clear hb); (try clear hb2); (try clear hk); (try clear hi)))
      go_ret
      exact ⟨by first | rfl | (simp [errW_none, errW_some] <;> rfl) | (simp [*, errW_none, errW_some] <;> rfl), by repeat (first | (with_reducible first | exact HB.out | apply below_alloc | apply pw_below_drewN | apply below_drew1 | refine below_set ?_ GE101.out) | exact HB.out)⟩
    ·replace c17 := Bool.eq_false_iff.mpr c17
     subst c17
     have H1 : (some 0) = some r := by rw [if_neg (show ¬ (false = true) by decide)] at H; exact H
     clear H
     have H := H1
     clear H1
     obtain rfl := Option.some.inj H
     go_wp2_with (first | ((with_reducible refine gate_callee (f := 78) rfl ?_); refine goesL_ (some 21) rfl rfl Try.func78 v42_ rfl #[.int .i64 a1] rfl v7_ ?_; (with_reducible refine (q38.calls a1 false _ A16.out).mono ?_); rintro e w' ⟨rfl, ⟨nd, rfl⟩⟩; refine ⟨_, rfl, ?_⟩))
     go_ret
     exact ⟨by first | rfl | (simp [errW_none, errW_some] <;> rfl) | (simp [*, errW_none, errW_some] <;> rfl), by repeat (first | (with_reducible first | exact HB.out | apply below_alloc | apply pw_below_drewN | apply below_drew1 | refine below_set ?_ GE101.out) | exact HB.out)⟩
set_option maxHeartbeats 8000000 in
set_option maxRecDepth 100000 in
theorem q19.calls (k : Nat) (a0_0 : Int) (A0_1 : Option Addr) (c0_1 : Nat) (l0_1 : List (List Int)) (r : List Int) (w : World) (hr0_1 : Kd.C (Kd.slice 3 (Kd.int .i64)) w A0_1 l0_1.length l0_1) (hc0_1 : l0_1.length ≤ c0_1) (h : q19.f k a0_0 l0_1 = some r) :
 Calls Try.prog 56 #[.agg #[.int .i64 a0_0, .slice A0_1 l0_1.length c0_1]] w fun e w' => ∃ v0_ : Value, e = .returned (v0_) ∧ Kd.R (Kd.int .i64) 3 w' w.heap.size (fun _ => True) v0_ r ∧ Below w.heap.size w w' := by
 have hu42 := Try.underlying42
 have HR0_1 := Aside0.mk hr0_1
 have HC0_1 := Aside0.mk hc0_1
 clear hr0_1 hc0_1
 have HB := Aside0.mk (Below.refl w.heap.size w)
 have H : (q19.l0 k ([] : List Int) l0_1 (l0_1.length : Int) 0) = some r := h
 clear h
 have H' := Aside0.mk H
 clear H
 go_enter Try.func56, Try.ntmps56
 go_wp2_with (first | ((with_reducible refine gate_dst (N := 1) rfl ?_); refine box_event ?hg (N := 1) ?hd (cs := #[.int .i64 a0_0, .slice A0_1 l0_1.length c0_1]) (t := 42) ?hr ?_; (case hd => rfl); (case hg => rfl); (case hr => first | (go_simp; done) | (go_simp; rfl)); intro gb101 hg w2 hbox hb; have n0_ := Aside0.mk (below_step v1_ hb); have n1_ := Aside0.mk (hbox); have n2_ := Aside0.mk (v10_); have n3_ := Aside0.mk (v10_); clear HB; have HB := n0_; have BK101 := n1_; have GW101 := n2_; have GE101 := n3_; clear n0_ n1_ n2_ n3_; clear hb hbox hg; have hcz3_0 : w2.cell? ⟨gb101, 0, none⟩ = some (.int .i64 a0_0) := (blk_cell BK101.out 0).trans rfl; have hcz3_1 : w2.cell? ⟨gb101, 1, none⟩ = some (.slice A0_1 l0_1.length c0_1) := (blk_cell BK101.out 1).trans rfl; have hfz3_0 := blk_frozen BK101.out 0; have hfz3_1 := blk_frozen BK101.out 1))
 go_loopg [2, 8] k (fun kq v2 v8 w' => ∃ (x2_1 : List Int) (x8_1 : Int), v8 = .int .i64 x8_1 ∧ Aside0 (q19.l0 kq x2_1 l0_1 (l0_1.length : Int) x8_1 = some r) ∧ Aside0 (kq ≤ k) ∧ Aside0 (Kd.R (Kd.int .i64) 3 w' w.heap.size (fun _ => True) v2 x2_1) ∧ Aside0 (w'.heap[gb101]? = some (.cells #[.int .i64 a0_0, (.slice A0_1 l0_1.length c0_1)] 42 (0, 0))) ∧ Aside0 (Below w.heap.size w w'))
 case atStart => exact ⟨(([] : List Int)), (0), v12_, H', ⟨Nat.le_refl _⟩, ⟨v72_⟩, ⟨v6_⟩, ⟨v9_⟩⟩
 case round => as_aux_lemma =>
  clear H'
  try clear p2
  try clear hcz3_0
  try clear hcz3_1
  try clear hfz3_0
  try clear hfz3_1
  obtain ⟨x2_1, x8_1, rfl, HA, HK1, HO_2, BK101, HB⟩ := hrel
  cases gk with
  | zero => exact absurd HA.out (by simp [q19.l0])
  | succ k1 =>
   have H := HA.out
   clear HA
   simp only [q19.l0] at H
   by_cases c4 : x8_1 < (l0_1.length : Int)
   ·rw [if_pos c4] at H
    have c4b0 : decide (x8_1 < (l0_1.length : Int)) = true := decide_eq_true c4
    clear c4
    by_cases c5 : 0 ≤ x8_1
    ·rw [if_pos c5] at H
     have c5b0 : decide (0 ≤ x8_1) = true := decide_eq_true c5
     clear c5
     by_cases c6 : x8_1 < (l0_1.length : Int)
     ·rw [if_pos c6] at H
      have c6b0 : decide (x8_1 < (l0_1.length : Int)) = true := decide_eq_true c6
      clear c6
      have H' := Aside0.mk H
      clear H
      have p102 : 0 ≤ (x8_1 : Int) := of_decide_eq_true v3_
      have q102 : x8_1 < (l0_1.length : Int) := of_decide_eq_true v3_
      obtain ⟨ad102, A102_0, c102_0, e102, hx102_0, hl102_0, hi102_0⟩ := at_L1 HR0_1.out x8_1 p102 q102
      cases e102
      replace hx102_0 := (HB.out.cell (World.block_lt_of_cell? w _ hx102_0)).trans hx102_0
      have HR102_0 := Aside0.mk hi102_0
      have HC102_0 := Aside0.mk hl102_0
      clear hi102_0 hl102_0
      replace p102 := eq_true p102
      replace q102 := eq_true q102
      go_wp2
      go_loopg [2] k1 (fun kq v2 w' => ∃ (x2_2 : List Int), Aside0 (q19.l1 kq x2_2 (rd_L1 l0_1 x8_1) l0_1 (l0_1.length : Int) x8_1 = some r) ∧ Aside0 (kq ≤ k1) ∧ Aside0 (Kd.R (Kd.int .i64) 3 w' w.heap.size (fun _ => True) v2 x2_2) ∧ Aside0 (w'.heap[gb101]? = some (.cells #[.int .i64 a0_0, (.slice (some ad102) l0_1.length c0_1)] 42 (0, 0))) ∧ Aside0 (Below w.heap.size w w'))
      case atStart => exact ⟨(x2_1), H', ⟨Nat.le_refl _⟩, ⟨v66_⟩, ⟨v6_⟩, ⟨v9_⟩⟩
      case round => as_aux_lemma =>
       clear H'
       try clear c1
       try clear p1
       try clear q1
       try clear hx1
       try clear p2
       try clear c4
       try clear c4b0
       try clear c5
       try clear c5b0
       try clear c6
       try clear c6b0
       try clear hcz3_0
       try clear hcz3_1
       try clear hfz3_0
       try clear hfz3_1
       try clear hx102_0
       try clear p102
       try clear p2
       try clear q102
       obtain ⟨x2_2, HA, HK2, HO_2, BK101, HB⟩ := hrel
       cases gk with
       | zero => exact absurd HA.out (by simp [q19.l1])
       | succ k2 =>
        have H := HA.out
        clear HA
        simp only [q19.l1] at H
        by_cases c7 : (x2_2.length : Int) ≤ ((rd_L1 l0_1 x8_1).length : Int)
        ·rw [if_pos c7] at H
         have c7b0 : decide ((x2_2.length : Int) ≤ ((rd_L1 l0_1 x8_1).length : Int)) = true := decide_eq_true c7
         have c7b1 : decide (x2_2.length ≤ (rd_L1 l0_1 x8_1).length) = true := decide_eq_true (Int.ofNat_le.mp c7)
         clear c7
         by_cases c8 : x2_2.length < 17592186044416
         ·rw [if_pos c8] at H
          have LMc8 := Aside0.mk c8
          clear c8
          obtain ⟨y103, hy103⟩ : ∃ y_ : List Int, y_ = (x2_2 ++ [0]) := ⟨_, rfl⟩
          replace H : (q19.l1 k2 y103 (rd_L1 l0_1 x8_1) l0_1 (l0_1.length : Int) x8_1) = some r := by first | (rw [hy103]; with_reducible exact H) | (have H2_ := (Option.bind_some _ _).symm.trans H; rw [hy103]; with_reducible exact H2_) | (have H2_ := (Option.bind_some _ _).symm.trans H; with_reducible exact H2_) | with_reducible exact H | (rw [hy103]; exact H) | exact H
          have Ny103 := Aside0.mk hy103
          clear hy103
          have H' := Aside0.mk H
          clear H
          obtain ⟨Ao9, co9, eo9⟩ := Kd.R_slice HO_2.out
          subst eo9
          go_wp2_with (first | ((with_reducible refine gate_builtin (b := .append) (xs := #[.tmp 17, .tmp 18]) rfl ?_); at_builtin; refine Kd.R_append (Kd.int .i64) (w0 := w) w.heap.size rfl (.tmp 17) (.tmp 18) 45 3 (.int .i64 0) 8 rfl Try.underlying45 info3 rfl v55_ v93_ (.slice Ao9 x2_2.length co9) x2_2 0 [.int .i64 0] (fun _ => True) (fun _ => False) rfl rfl ?aP (fun _ hk => hk.elim) ?aF ?aO ?aB ?aS ?aL ?_; (case aP => exact rfl); (case aB => exact v0_); (case aF => exact (fun _ _ => trivial)); (case aO => exact v67_); (case aS => exact (below_size v0_)); (case aL => have := LMc8.out; omega); intro v104 w10 ho hb hg hat; rw [← Ny103.out] at ho; have n0_ := Aside0.mk (blk_grown (g := gb101) (o := .cells #[.int .i64 a0_0, .slice (some ad102) l0_1.length c0_1] 42 (0, 0)) v2_ hg (Kd.R_ne HO_2.out BK101.out v55_)); have n1_ := Aside0.mk (hb); have n2_ := Aside0.mk (ho); clear BK101; clear HB; clear HO_2; have BK101 := n0_; have HB := n1_; have HO105 := n2_; clear n0_ n1_ n2_; clear ho hb hg hat))
          go_roundg k2
          case measure => have := HK1.out; have := HK2.out; omega
          case rel => exact ⟨(y103), H', ⟨v86_⟩, ⟨by (with_reducible repeat (first | apply Kd.R_alloc | apply Kd.R_drewN | apply Kd.R_drew)); exact HO105.out⟩, ⟨v6_⟩, ⟨v9_⟩⟩
         ·rw [if_neg c8] at H
          exact absurd H v58_
        ·rw [if_neg c7] at H
         have c7b0 : decide ((x2_2.length : Int) ≤ ((rd_L1 l0_1 x8_1).length : Int)) = false := decide_eq_false c7
         have c7b1 : decide (x2_2.length ≤ (rd_L1 l0_1 x8_1).length) = false := decide_eq_false (fun h => c7 (Int.ofNat_le.mpr h))
         clear c7
         by_cases c11 : 0 ≤ ((rd_L1 l0_1 x8_1).length : Int)
         ·rw [if_pos c11] at H
          have c11b0 : decide (0 ≤ ((rd_L1 l0_1 x8_1).length : Int)) = true := decide_eq_true c11
          have c11b1 : decide (0 ≤ (rd_L1 l0_1 x8_1).length) = true := decide_eq_true v93_
          clear c11
          by_cases c12 : ((rd_L1 l0_1 x8_1).length : Int) < (x2_2.length : Int)
          ·rw [if_pos c12] at H
           have c12b0 : decide (((rd_L1 l0_1 x8_1).length : Int) < (x2_2.length : Int)) = true := decide_eq_true c12
           have c12b1 : decide ((rd_L1 l0_1 x8_1).length < x2_2.length) = true := decide_eq_true (Int.ofNat_lt.mp c12)
           clear c12
           obtain ⟨y107, hy107⟩ : ∃ y_ : List Int, y_ = (x2_2.set (((rd_L1 l0_1 x8_1).length : Int) : Int).toNat (wrap64 ((rd x2_2 ((rd_L1 l0_1 x8_1).length : Int)) + 1))) := ⟨_, rfl⟩
           replace H : (q19.l0 k2 y107 l0_1 (l0_1.length : Int) (wrap64 (x8_1 + 1))) = some r := by first | (rw [hy107]; with_reducible exact H) | (have H2_ := (Option.bind_some _ _).symm.trans H; rw [hy107]; with_reducible exact H2_) | (have H2_ := (Option.bind_some _ _).symm.trans H; with_reducible exact H2_) | with_reducible exact H | (rw [hy107]; exact H) | exact H
           have Ny107 := Aside0.mk hy107
           clear hy107
           have H' := Aside0.mk H
           clear H
           obtain ⟨Ao14, co14, eo14⟩ := Kd.R_slice HO_2.out
           subst eo14
           have p106 : 0 ≤ (((rd_L1 l0_1 x8_1).length : Int) : Int) := of_decide_eq_true v3_
           have q106 : ((rd_L1 l0_1 x8_1).length : Int) < (x2_2.length : Int) := of_decide_eq_true v3_
           obtain ⟨ad106, e106, hx106_0⟩ := Kd.at_int (Kd.R_reads' HO_2.out).2.2 ((rd_L1 l0_1 x8_1).length : Int) p106 q106
           cases e106
           (try simp only [Go.IntWalk.toNatUp] at hx106_0)
           replace p106 := eq_true p106
           replace q106 := eq_true q106
           have p13 : 0 ≤ (((rd_L1 l0_1 x8_1).length : Int) : Int) := of_decide_eq_true v3_
           have q13 : (((rd_L1 l0_1 x8_1).length : Int) : Int) < ((x2_2.length : Int) : Int) := of_decide_eq_true v3_
           obtain ⟨go13, co13, eo13, gb13, gl13, cl13, HG13⟩ := Kd.R_form HO_2.out v93_
           (first | cases eo13 | (injection eo13 with ea_ en_ ec_; (first | subst ea_ | (injection ea_ with ea_; subst ea_)); subst ec_; clear en_))
           (try simp only [add_plain] at *)
           have GB13 := Aside0.mk gb13
           have GG13 := Aside0.mk HG13
           clear gb13 gl13 HG13
           (first | simp only [add_plain] at hx106_0 | skip)
           obtain ⟨hx13_0, hf13_0⟩ := Kd.R_celln 0 HO_2.out (((rd_L1 l0_1 x8_1).length : Int) : Int) p13 q13
           (try simp only [Int.toNat_natCast] at hx13_0 hf13_0)
           replace p13 := eq_true p13
           replace q13 := eq_true q13
           have HP15 := Kd.R_putg HO_2.out (((rd_L1 l0_1 x8_1).length : Int) : Int) (wrap64 ((rd x2_2 ((rd_L1 l0_1 x8_1).length : Int)) + 1))
           go_wp2_with (first | ((with_reducible refine gate_store (t := 3) (p := 26) rfl ?_); refine store_event (t := 3) (p := 26) (v := ?vo_w16) (w1 := (wr.setCell ⟨go13, (((rd_L1 l0_1 x8_1).length : Int) : Int).toNat, none⟩ (.int .i64 (wrap64 ((rd x2_2 ((rd_L1 l0_1 x8_1).length : Int)) + 1))))) ?hg ?ho ?hn ?hr ?_; (case ho => rfl); (case hg => rfl); (case hn => rfl); (case hr => first | (go_simp; done) | (go_simp; rfl)); intro w16 hw; have hg : wr.grownBy w16 (some go13) := (by rw [hw]; exact HP15.2); have hp_ : Kd.R (Kd.int .i64) 3 w16 w.heap.size (fun _ => True) (.slice (some ⟨go13, 0, none⟩) x2_2.length co14) y107 := (by rw [hw, Ny107.out]; exact HP15.1); clear HP15; have n0_ := Aside0.mk (hp_); have n1_ := Aside0.mk (blk_grown (g := gb101) (o := .cells #[.int .i64 a0_0, .slice (some ad102) l0_1.length c0_1] 42 (0, 0)) v2_ hg (Kd.R_ne HO_2.out BK101.out v55_)); have n2_ := Aside0.mk ((by rw [hw]; exact below_set (HB.out) GB13.out : Below w.heap.size w w16)); clear HO_2; clear BK101; clear HB; have HO_2 := n0_; have BK101 := n1_; have HB := n2_; clear n0_ n1_ n2_; clear hg hw hp_))
           go_roundg k2
           case measure => have := HK1.out; have := HK2.out; omega
           case rel => exact ⟨(y107), (wrap64 (x8_1 + 1)), v12_, H', ⟨v86_⟩, ⟨v66_⟩, ⟨v6_⟩, ⟨v9_⟩⟩
          ·rw [if_neg c12] at H
           exact absurd H v58_
         ·rw [if_neg c11] at H
          exact absurd H v58_
     ·rw [if_neg c6] at H
      exact absurd H v58_
    ·rw [if_neg c5] at H
     exact absurd H v58_
   ·rw [if_neg c4] at H
    have c4b0 : decide (x8_1 < (l0_1.length : Int)) = false := decide_eq_false c4
    clear c4
    obtain rfl := Option.some.inj H
    go_wp2
    go_ret
    exact ⟨_, by first | rfl | (simp [errW_none, errW_some] <;> rfl) | (simp [*, errW_none, errW_some] <;> rfl), by (with_reducible repeat (first | apply Kd.R_alloc | apply Kd.R_drewN | apply Kd.R_drew)); exact HO_2.out, by repeat (first | (with_reducible first | exact HB.out | apply below_alloc | apply pw_below_drewN | apply below_drew1 | refine below_set ?_ GE101.out) | exact HB.out)⟩
set_option maxHeartbeats 8000000 in
set_option maxRecDepth 100000 in
theorem q16.calls (k : Nat) (a0_0 : Int) (A0_1 : Option Addr) (c0_1 : Nat) (l0_1 : List (List Int)) (a1 : Int) (r : List Int) (w : World) (hr0_1 : Kd.C (Kd.slice 3 (Kd.int .i64)) w A0_1 l0_1.length l0_1) (hc0_1 : l0_1.length ≤ c0_1) (h : q16.f k a0_0 l0_1 a1 = some r) :
 Calls Try.prog 57 #[.agg #[.int .i64 a0_0, .slice A0_1 l0_1.length c0_1], .int .i64 a1] w fun e w' => ∃ v0_ : Value, e = .returned (v0_) ∧ Kd.R (Kd.int .i64) 3 w' w.heap.size (fun _ => True) v0_ r ∧ Below w.heap.size w w' := by
 have hu42 := Try.underlying42
 have HR0_1 := Aside0.mk hr0_1
 have HC0_1 := Aside0.mk hc0_1
 clear hr0_1 hc0_1
 have HB := Aside0.mk (Below.refl w.heap.size w)
 have H : ((q39.f (([(-1)] : List Int)) a0_0).bind fun t105 => (if 0 ≤ a1 then (if a1 < (t105.length : Int) then (q16.l0 k (t105.set (a1 : Int).toNat 0) (([a1] : List Int)) a0_0 l0_1) else (none)) else (none))) = some r := h
 clear h
 obtain ⟨y102, hy102⟩ : ∃ y_ : List Int, y_ = (([(-1)] : List Int)) := ⟨_, rfl⟩
 replace H : ((q39.f y102 a0_0).bind fun t105 => (if 0 ≤ a1 then (if a1 < (t105.length : Int) then (q16.l0 k (t105.set (a1 : Int).toNat 0) (([a1] : List Int)) a0_0 l0_1) else (none)) else (none))) = some r := by first | (rw [hy102]; with_reducible exact H) | (have H2_ := (Option.bind_some _ _).symm.trans H; rw [hy102]; with_reducible exact H2_) | (have H2_ := (Option.bind_some _ _).symm.trans H; with_reducible exact H2_) | with_reducible exact H | (rw [hy102]; exact H) | exact H
 have Ny102 := Aside0.mk hy102
 clear hy102
 replace H := Option.bind_eq_some_iff.mp H
 obtain ⟨t105, A30, H⟩ := H
 replace H : (if 0 ≤ a1 then (if a1 < (t105.length : Int) then (q16.l0 k (t105.set (a1 : Int).toNat 0) (([a1] : List Int)) a0_0 l0_1) else (none)) else (none)) = some r := H
 have A3 := Aside0.mk A30
 clear A30
 by_cases c4 : 0 ≤ a1
 ·rw [if_pos c4] at H
  have c4b0 : decide (0 ≤ a1) = true := decide_eq_true c4
  clear c4
  by_cases c5 : a1 < (t105.length : Int)
  ·rw [if_pos c5] at H
   have c5b0 : decide (a1 < (t105.length : Int)) = true := decide_eq_true c5
   clear c5
   obtain ⟨y108, hy108⟩ : ∃ y_ : List Int, y_ = (t105.set (a1 : Int).toNat 0) := ⟨_, rfl⟩
   replace H : (q16.l0 k y108 (([a1] : List Int)) a0_0 l0_1) = some r := by first | (rw [hy108]; with_reducible exact H) | (have H2_ := (Option.bind_some _ _).symm.trans H; rw [hy108]; with_reducible exact H2_) | (have H2_ := (Option.bind_some _ _).symm.trans H; with_reducible exact H2_) | with_reducible exact H | (rw [hy108]; exact H) | exact H
   have Ny108 := Aside0.mk hy108
   clear hy108
   obtain ⟨y109, hy109⟩ : ∃ y_ : List Int, y_ = (([a1] : List Int)) := ⟨_, rfl⟩
   replace H : (q16.l0 k y108 y109 a0_0 l0_1) = some r := by first | (rw [hy109]; with_reducible exact H) | (have H2_ := (Option.bind_some _ _).symm.trans H; rw [hy109]; with_reducible exact H2_) | (have H2_ := (Option.bind_some _ _).symm.trans H; with_reducible exact H2_) | with_reducible exact H | (rw [hy109]; exact H) | exact H
   have Ny109 := Aside0.mk hy109
   clear hy109
   have H' := Aside0.mk H
   clear H
   go_enter Try.func57, Try.ntmps57
   go_wp2_with (first | ((with_reducible refine gate_dst (N := 2) rfl ?_); refine box_event ?hg (N := 2) ?hd (cs := #[.int .i64 a0_0, .slice A0_1 l0_1.length c0_1]) (t := 42) ?hr ?_; (case hd => rfl); (case hg => rfl); (case hr => first | (go_simp; done) | (go_simp; rfl)); intro gb101 hg w7 hbox hb; have n0_ := Aside0.mk (below_step v1_ hb); have n1_ := Aside0.mk (hbox); have n2_ := Aside0.mk (v10_); have n3_ := Aside0.mk (v10_); clear HB; have HB := n0_; have BK101 := n1_; have GW101 := n2_; have GE101 := n3_; clear n0_ n1_ n2_ n3_; clear hb hbox hg) | ((with_reducible refine gate_dst (N := 10) rfl ?_); refine Kd.R_lit (Kd.int .i64) _ 3 ?hg (N := 10) ?hd (xs := ([(-1)] : List Int)) (inner := [.int .i64 (-1)]) (ok := fun _ => True) (okp := fun _ => True) ?hr ?hp (fun _ hk => hk) trivial (Below.refl _ _) (Nat.le_refl _) v58_ ?_; (case hd => rfl); (case hg => rfl); (case hr => first | (go_simp; done) | (go_simp; rfl)); (case hp => exact (Reps.one (show Kd.M (Kd.int .i64) _ _ _ (-1) [.int .i64 (-1)] from rfl) (Reps.none _ _))); intro v103 w8 ho9 hb hg_ hnew_; clear hg_ hnew_; (first | rw [← Ny102.out] at ho9 | (simp only [Int.reduceToNat] at ho9; rw [← Ny102.out] at ho9)); have n0_ := Aside0.mk (Kd.R_lower ho9 (below_size v0_)); have n1_ := Aside0.mk (blk_below (g := gb101) (o := .cells #[.int .i64 a0_0, .slice A0_1 l0_1.length c0_1] 42 (0, 0)) v2_ hb); have n2_ := Aside0.mk (below_step v0_ hb); clear BK101; clear HB; have HO104 := n0_; have BK101 := n1_; have HB := n2_; clear n0_ n1_ n2_; clear hb ho9; have hcz10_0 : w8.cell? ⟨gb101, 0, none⟩ = some (.int .i64 a0_0) := (blk_cell BK101.out 0).trans rfl; have hcz10_1 : w8.cell? ⟨gb101, 1, none⟩ = some (.slice A0_1 l0_1.length c0_1) := (blk_cell BK101.out 1).trans rfl; have hfz10_0 := blk_frozen BK101.out 0; have hfz10_1 := blk_frozen BK101.out 1; obtain ⟨Ao11, co11, eo11⟩ := Kd.R_slice HO104.out; subst eo11) | ((with_reducible refine gate_callee (f := 82) rfl ?_); refine goesL_ (some 13) rfl rfl Try.func82 v42_ rfl #[.slice Ao11 y102.length co11, .int .i64 a0_0] rfl v7_ ?_; (with_reducible refine (q39.calls _ _ y102 a0_0 t105 _ ?side1 ?side2 A3.out).mono ?_); (case side1 => repeat (first | exact (Kd.R_reads' HO104.out).2.2 | (with_reducible refine Kd.C_alloc ?_ _) | (with_reducible refine Kd.C_drewN ?_ _) | (with_reducible refine Kd.C_drew ?_))); (case side2 => exact (Kd.R_reads' HO104.out).2.1); rintro e w12 ⟨v106, rfl, ho0, hb⟩; refine ⟨_, rfl, ?_⟩; have n0_ := Aside0.mk (Kd.R_elder' v56_ (Kd.R_base ho0) hb); have n1_ := Aside0.mk (Kd.R_lower (Kd.R_new' ho0 (Kd.R_lt v56_)) (below_size v0_)); have n2_ := Aside0.mk (blk_below (g := gb101) (o := .cells #[.int .i64 a0_0, .slice A0_1 l0_1.length c0_1] 42 (0, 0)) v2_ hb); have n3_ := Aside0.mk (below_step v0_ hb); clear HO104; clear BK101; clear HB; have HO104 := n0_; have HO107 := n1_; have BK101 := n2_; have HB := n3_; clear n0_ n1_ n2_ n3_; (try clear hb); (try clear hb2); (try clear hk); (try clear hi); (try clear ho0); have p6 : 0 ≤ (a1 : Int) := of_decide_eq_true v3_; have q6 : (a1 : Int) < ((t105.length : Int) : Int) := of_decide_eq_true v3_; obtain ⟨go6, co6, eo6, gb6, gl6, cl6, HG6⟩ := Kd.R_form HO107.out v93_; (first | cases eo6 | (injection eo6 with ea_ en_ ec_; (first | subst ea_ | (injection ea_ with ea_; subst ea_)); subst ec_; clear en_)); have GB6 := Aside0.mk gb6; have GG6 := Aside0.mk HG6; clear gb6 gl6 HG6; obtain ⟨hx6_0, hf6_0⟩ := Kd.R_celln 0 HO107.out (a1 : Int) p6 q6; replace p6 := eq_true p6; replace q6 := eq_true q6; have n_ := Aside0.mk (Kd.R_mono (ok' := (fun k_ => some k_ ≠ (.slice Ao11 y102.length co11 : Value).ownBlock)) HO107.out (fun k_ hk => hk.2)); clear HO107; have HO107 := n_; clear n_; obtain ⟨hy13_, hz13_⟩ := Kd.R_celln 0 HO107.out (a1 : Int) (of_decide_eq_true v3_) (of_decide_eq_true v3_); have HP13 := Kd.R_putg HO107.out (a1 : Int) 0) | ((with_reducible refine gate_store (t := 3) (p := 16) rfl ?_); refine store_event (t := 3) (p := 16) (v := ?vo_w14) (w1 := (w12.setCell ⟨go6, (a1 : Int).toNat, none⟩ (.int .i64 0))) ?hg ?ho ?hn ?hr ?_; (case ho => rfl); (case hg => rfl); (case hn => rfl); (case hr => first | (go_simp; done) | (go_simp; rfl)); intro w14 hw; have hg : w12.grownBy w14 (some go6) := (by rw [hw]; exact HP13.2); have hp_ : Kd.R (Kd.int .i64) 3 w14 w.heap.size (fun k_ => some k_ ≠ (.slice Ao11 y102.length co11 : Value).ownBlock) (.slice (some ⟨go6, 0, none⟩) t105.length co6) y108 := (by rw [hw, Ny108.out]; exact HP13.1); clear HP13; have n0_ := Aside0.mk (blk_grown (g := gb101) (o := .cells #[.int .i64 a0_0, .slice A0_1 l0_1.length c0_1] 42 (0, 0)) v2_ hg (Kd.R_ne HO107.out BK101.out v55_)); have n1_ := Aside0.mk (Kd.R_after (v := (.slice (some ⟨go6, 0, none⟩) t105.length co6)) (v1 := (.slice (some ⟨go6, 0, none⟩) t105.length co6)) (ok := (fun _ => True)) v56_ hg (.inl rfl)); have n2_ := Aside0.mk (hp_); have n3_ := Aside0.mk ((by rw [hw]; exact below_set (HB.out) GB6.out : Below w.heap.size w w14)); clear BK101; clear HO104; clear HO107; clear HB; have BK101 := n0_; have HO104 := n1_; have HO107 := n2_; have HB := n3_; clear n0_ n1_ n2_ n3_; clear hg hw hp_) | ((with_reducible refine gate_dst (N := 18) rfl ?_); refine Kd.R_lit (Kd.int .i64) _ 3 ?hg (N := 18) ?hd (xs := ([a1] : List Int)) (inner := [.int .i64 a1]) (ok := fun _ => True) (okp := fun _ => True) ?hr ?hp (fun _ hk => hk) trivial (Below.refl _ _) (Nat.le_refl _) v58_ ?_; (case hd => rfl); (case hg => rfl); (case hr => first | (go_simp; done) | (go_simp; rfl)); (case hp => exact (Reps.one (show Kd.M (Kd.int .i64) _ _ _ a1 [.int .i64 a1] from rfl) (Reps.none _ _))); intro v110 w15 ho16 hb hg_ hnew_; clear hg_ hnew_; (first | rw [← Ny109.out] at ho16 | (simp only [Int.reduceToNat] at ho16; rw [← Ny109.out] at ho16)); have n0_ := Aside0.mk (Kd.R_elder' v56_ (Kd.R_base ho16) hb); have n1_ := Aside0.mk (Kd.R_elder' v107_ (Kd.R_base ho16) hb); have n2_ := Aside0.mk (Kd.R_lower (Kd.R_new' (Kd.R_new' ho16 (Kd.R_lt v56_)) (Kd.R_lt v107_)) (below_size v0_)); have n3_ := Aside0.mk (blk_below (g := gb101) (o := .cells #[.int .i64 a0_0, .slice A0_1 l0_1.length c0_1] 42 (0, 0)) v2_ hb); have n4_ := Aside0.mk (below_step v0_ hb); clear HO104; clear HO107; clear BK101; clear HB; have HO104 := n0_; have HO107 := n1_; have HO111 := n2_; have BK101 := n3_; have HB := n4_; clear n0_ n1_ n2_ n3_ n4_; clear hb ho16))
   go_loopg [6] k (fun kq v6 w' => ∃ (x5_1 : List Int) (x6_1 : List Int), Aside0 (q16.l0 kq x5_1 x6_1 a0_0 l0_1 = some r) ∧ Aside0 (kq ≤ k) ∧ Aside0 (Kd.R (Kd.int .i64) 3 w' w.heap.size (fun k_ => some k_ ≠ (v6 : Value).ownBlock) (.slice (some ⟨go6, 0, none⟩) t105.length co6) x5_1) ∧ Aside0 (Kd.Q (Kd.int .i64) 3 w' w.heap.size (fun k_ => some k_ ≠ ((.slice (some ⟨go6, 0, none⟩) t105.length co6) : Value).ownBlock) v6 x6_1) ∧ Aside0 (w'.heap[gb101]? = some (.cells #[.int .i64 a0_0, (.slice A0_1 l0_1.length c0_1)] 42 (0, 0))) ∧ Aside0 (Below w.heap.size w w'))
   case atStart => exact ⟨(y108), (y109), H', ⟨Nat.le_refl _⟩, ⟨by (with_reducible repeat (first | apply Kd.R_alloc | apply Kd.R_drewN | apply Kd.R_drew)); exact Kd.R_mono HO107.out (fun _ hk => hk.2)⟩, ⟨Kd.Q_of_R (by (with_reducible repeat (first | apply Kd.R_alloc | apply Kd.R_drewN | apply Kd.R_drew)); exact Kd.R_mono HO111.out (fun _ hk => hk.2))⟩, ⟨v6_⟩, ⟨v9_⟩⟩
   case round => as_aux_lemma =>
    clear H'
    try clear p2
    try clear c4
    try clear c4b0
    try clear c5
    try clear c5b0
    try clear p6
    try clear q6
    try clear hx6
    try clear hf6
    try clear c8
    try clear hcz10_0
    try clear hcz10_1
    try clear hfz10_0
    try clear hfz10_1
    try clear hx6_0
    try clear p6
    try clear q6
    obtain ⟨x5_1, x6_1, HA, HK1, HO_5, HO_6, BK101, HB⟩ := hrel
    have hl5_1 := (Kd.R_reads' HO_5.out).1
    rw [hl5_1] at HO_5
    (try simp only [hl5_1])
    (try simp only [hl5_1] at BK101)
    (try simp only [hl5_1] at HO_6)
    cases gk with
    | zero => exact absurd HA.out (by simp [q16.l0])
    | succ k1 =>
     have H := HA.out
     clear HA
     simp only [q16.l0] at H
     by_cases c17 : (x6_1.length : Int) > 0
     ·rw [if_pos c17] at H
      have c17b0 : decide (0 < (x6_1.length : Int)) = true := decide_eq_true c17
      have c17b1 : decide (0 < x6_1.length) = true := decide_eq_true v93_
      clear c17
      by_cases c18 : 0 < (x6_1.length : Int)
      ·rw [if_pos c18] at H
       have c18b0 : decide (0 < (x6_1.length : Int)) = true := decide_eq_true c18
       have c18b1 : decide (0 < x6_1.length) = true := decide_eq_true v93_
       clear c18
       by_cases c19 : 1 ≤ (x6_1.length : Int)
       ·rw [if_pos c19] at H
        have c19b0 := eq_true c19
        have c19b1 : decide (1 ≤ (x6_1.length : Int)) = true := decide_eq_true c19
        clear c19
        obtain ⟨y113, hy113⟩ : ∃ y_ : List Int, y_ = (x6_1.drop (1 : Int).toNat) := ⟨_, rfl⟩
        replace H : (if 0 ≤ (rd x6_1 0) then (if (rd x6_1 0) < (l0_1.length : Int) then (q16.l1 k1 x5_1 y113 (rd x6_1 0) (rd_L1 l0_1 (rd x6_1 0)) ((rd_L1 l0_1 (rd x6_1 0)).length : Int) 0 a0_0 l0_1) else (none)) else (none)) = some r := by first | (rw [hy113]; with_reducible exact H) | (have H2_ := (Option.bind_some _ _).symm.trans H; rw [hy113]; with_reducible exact H2_) | (have H2_ := (Option.bind_some _ _).symm.trans H; with_reducible exact H2_) | with_reducible exact H | (rw [hy113]; exact H) | exact H
        have Ny113 := Aside0.mk hy113
        clear hy113
        by_cases c20 : 0 ≤ (rd x6_1 0)
        ·rw [if_pos c20] at H
         have c20b0 : decide (0 ≤ (rd x6_1 0)) = true := decide_eq_true c20
         clear c20
         by_cases c21 : (rd x6_1 0) < (l0_1.length : Int)
         ·rw [if_pos c21] at H
          have c21b0 : decide ((rd x6_1 0) < (l0_1.length : Int)) = true := decide_eq_true c21
          clear c21
          have H' := Aside0.mk H
          clear H
          obtain ⟨Ao22, co22, eo22, _⟩ := Kd.Q_slice HO_6.out
          subst eo22
          have p112 : 0 ≤ (0 : Int) := v93_
          have q112 : 0 < (x6_1.length : Int) := of_decide_eq_true v3_
          obtain ⟨ad112, e112, hx112_0⟩ := Kd.at_int (Kd.Q_reads' HO_6.out).2.2 0 p112 q112
          cases e112
          have qi112 : (0 < x6_1.length) = True := eq_true v93_
          (try rw [show ((0 : Int)).toNat = 0 from rfl] at hx112_0)
          (try rw [Addr.add_zero'] at hx112_0)
          replace p112 := eq_true p112
          replace q112 := eq_true q112
          have q23 : (1 : Int) ≤ ((x6_1.length : Int) : Int) := of_decide_eq_true v3_
          obtain ⟨i023, hi023, _, hsz23, _⟩ := info_parts info3
          have hcut23 := cut_from (P := Try.prog) 45 3 .i64 Try.underlying45 hi023 1 hsz23 (some ad112) x6_1.length co22 1 v93_ q23
          have hr23 := Kd.Q_drop (k := (1 : Int).toNat) HO_6.out v93_
          obtain ⟨A23, hA23⟩ : ∃ A1, A1 = (if co22 = (1 : Int).toNat then (some ad112) else ((some ad112) : Option Addr).map (·.add ((1 : Int).toNat * 1))) := ⟨_, rfl⟩
          obtain ⟨c23, hc23⟩ : ∃ c1, c1 = co22 - (1 : Int).toNat := ⟨_, rfl⟩
          have hy23 : y113.length = x6_1.length - (1 : Int).toNat := (by rw [Ny113.out, List.length_drop])
          rw [← Ny113.out] at hr23
          rw [← hy23, ← hA23, ← hc23] at hcut23
          replace hr23 : Kd.Q (Kd.int .i64) 3 wr w.heap.size (fun k_ => some k_ ≠ (.slice (some ⟨go6, 0, none⟩) x5_1.length co6 : Value).ownBlock) (.slice A23 y113.length c23) y113 := (by rw [hA23, hc23, hy23]; exact hr23)
          have HE23 : Aside0 ((Value.slice A23 y113.length c23).ownBlock = (.slice (some ad112) x6_1.length co22 : Value).ownBlock) := ⟨by rw [hA23]; split <;> (cases ((some ad112) : Option Addr) <;> rfl)⟩
          clear hy23 hi023 hsz23 HO_6 hA23 hc23
          have HO115 := Aside0.mk hr23
          clear hr23
          replace q23 := eq_true q23
          have n_ := Aside0.mk (Kd.R_mono (ok' := fun k_ => some k_ ≠ (.slice A23 y113.length c23 : Value).ownBlock) HO_5.out (fun k_ hk => (by rw [HE23.out]; exact hk)))
          clear HO_5
          have HO_5 := n_
          clear n_
          have hcz24_0 : wr.cell? ⟨gb101, 0, none⟩ = some (.int .i64 a0_0) := (blk_cell BK101.out 0).trans rfl
          have hcz24_1 : wr.cell? ⟨gb101, 1, none⟩ = some (.slice A0_1 l0_1.length c0_1) := (blk_cell BK101.out 1).trans rfl
          have hfz24_0 := blk_frozen BK101.out 0
          have hfz24_1 := blk_frozen BK101.out 1
          have p116 : 0 ≤ ((rd x6_1 0) : Int) := of_decide_eq_true v3_
          have q116 : (rd x6_1 0) < (l0_1.length : Int) := of_decide_eq_true v3_
          obtain ⟨ad116, A116_0, c116_0, e116, hx116_0, hl116_0, hi116_0⟩ := at_L1 HR0_1.out (rd x6_1 0) p116 q116
          cases e116
          replace hx116_0 := (HB.out.cell (World.block_lt_of_cell? w _ hx116_0)).trans hx116_0
          have HR116_0 := Aside0.mk hi116_0
          have HC116_0 := Aside0.mk hl116_0
          clear hi116_0 hl116_0
          replace p116 := eq_true p116
          replace q116 := eq_true q116
          go_wp2
          go_loopg [6, 33] k1 (fun kq v6 v33 w' => ∃ (x5_2 : List Int) (x6_2 : List Int) (x33_2 : Int), v33 = .int .i64 x33_2 ∧ Aside0 (q16.l1 kq x5_2 x6_2 (rd x6_1 0) (rd_L1 l0_1 (rd x6_1 0)) ((rd_L1 l0_1 (rd x6_1 0)).length : Int) x33_2 a0_0 l0_1 = some r) ∧ Aside0 (kq ≤ k1) ∧ Aside0 (Kd.R (Kd.int .i64) 3 w' w.heap.size (fun k_ => some k_ ≠ (v6 : Value).ownBlock) (.slice (some ⟨go6, 0, none⟩) x5_1.length co6) x5_2) ∧ Aside0 (Kd.Q (Kd.int .i64) 3 w' w.heap.size (fun k_ => some k_ ≠ ((.slice (some ⟨go6, 0, none⟩) x5_1.length co6) : Value).ownBlock) v6 x6_2) ∧ Aside0 (w'.heap[gb101]? = some (.cells #[.int .i64 a0_0, (.slice (some ad116) l0_1.length c0_1)] 42 (0, 0))) ∧ Aside0 (Below w.heap.size w w'))
          case atStart => exact ⟨(x5_1), (y113), (0), v12_, H', ⟨Nat.le_refl _⟩, ⟨by (try simp only [hl5_1]); (with_reducible repeat (first | apply Kd.R_alloc | apply Kd.R_drewN | apply Kd.R_drew)); exact HO_5.out⟩, ⟨by (try simp only [hl5_1]); (with_reducible repeat (first | apply Kd.Q_alloc | apply Kd.Q_drewN | apply Kd.Q_drew)); exact HO115.out⟩, ⟨by (try simp only [hl5_1]); (with_reducible repeat (first | refine blk_drewN ?_ _ | refine blk_drew ?_ | refine blk_alloc ?_ _)); exact BK101.out⟩, ⟨v9_⟩⟩
          case round => as_aux_lemma =>
           clear H'
           try clear c1
           try clear p1
           try clear q1
           try clear hx1
           try clear qi1
           try clear c2
           try clear p2
           try clear q2
           try clear c4
           try clear c4b0
           try clear c5
           try clear c5b0
           try clear p6
           try clear q6
           try clear hx6
           try clear hf6
           try clear c8
           try clear c11
           try clear p11
           try clear q11
           try clear hx11
           try clear qi11
           try clear c17
           try clear c17b0
           try clear c17b1
           try clear c18
           try clear c18b0
           try clear c18b1
           try clear c19
           try clear c19b0
           try clear c19b1
           try clear c20
           try clear c20b0
           try clear c21
           try clear c21b0
           try clear c23
           try clear q23
           try clear hcz10_0
           try clear hcz10_1
           try clear hcz24_0
           try clear hcz24_1
           try clear hfz10_0
           try clear hfz10_1
           try clear hfz24_0
           try clear hfz24_1
           try clear hx112_0
           try clear hx116_0
           try clear hx6_0
           try clear p112
           try clear p116
           try clear p2
           try clear p6
           try clear q112
           try clear q116
           try clear q23
           try clear q6
           obtain ⟨x5_2, x6_2, x33_2, rfl, HA, HK2, HO_5, HO_6, BK101, HB⟩ := hrel
           have hl5_2 := (Kd.R_reads' HO_5.out).1
           rw [hl5_2] at HO_5
           (try simp only [hl5_2])
           (try simp only [hl5_2] at BK101)
           (try simp only [hl5_2] at HO_6)
           cases gk with
           | zero => exact absurd HA.out (by simp [q16.l1])
           | succ k2 =>
            have H := HA.out
            clear HA
            simp only [q16.l1] at H
            by_cases c25 : x33_2 < ((rd_L1 l0_1 (rd x6_1 0)).length : Int)
            ·rw [if_pos c25] at H
             have c25b0 : decide (x33_2 < ((rd_L1 l0_1 (rd x6_1 0)).length : Int)) = true := decide_eq_true c25
             clear c25
             by_cases c26 : 0 ≤ x33_2
             ·rw [if_pos c26] at H
              have c26b0 : decide (0 ≤ x33_2) = true := decide_eq_true c26
              clear c26
              by_cases c27 : x33_2 < ((rd_L1 l0_1 (rd x6_1 0)).length : Int)
              ·rw [if_pos c27] at H
               have c27b0 : decide (x33_2 < ((rd_L1 l0_1 (rd x6_1 0)).length : Int)) = true := decide_eq_true c27
               clear c27
               by_cases c28 : 0 ≤ (rd (rd_L1 l0_1 (rd x6_1 0)) x33_2)
               ·rw [if_pos c28] at H
                have c28b0 : decide (0 ≤ (rd (rd_L1 l0_1 (rd x6_1 0)) x33_2)) = true := decide_eq_true c28
                clear c28
                by_cases c29 : (rd (rd_L1 l0_1 (rd x6_1 0)) x33_2) < (x5_2.length : Int)
                ·rw [if_pos c29] at H
                 have c29b0 : decide ((rd (rd_L1 l0_1 (rd x6_1 0)) x33_2) < (x5_2.length : Int)) = true := decide_eq_true c29
                 clear c29
                 by_cases c30 : (rd x5_2 (rd (rd_L1 l0_1 (rd x6_1 0)) x33_2)) < 0
                 ·rw [if_pos c30] at H
                  have c30b0 : decide ((rd x5_2 (rd (rd_L1 l0_1 (rd x6_1 0)) x33_2)) < 0) = true := decide_eq_true c30
                  clear c30
                  by_cases c31 : 0 ≤ (rd x6_1 0)
                  ·rw [if_pos c31] at H
                   have c31b0 : decide (0 ≤ (rd x6_1 0)) = true := decide_eq_true c31
                   clear c31
                   by_cases c32 : (rd x6_1 0) < (x5_2.length : Int)
                   ·rw [if_pos c32] at H
                    have c32b0 : decide ((rd x6_1 0) < (x5_2.length : Int)) = true := decide_eq_true c32
                    clear c32
                    obtain ⟨y120, hy120⟩ : ∃ y_ : List Int, y_ = (x5_2.set ((rd (rd_L1 l0_1 (rd x6_1 0)) x33_2) : Int).toNat (wrap64 ((rd x5_2 (rd x6_1 0)) + 1))) := ⟨_, rfl⟩
                    replace H : (if x6_2.length < 17592186044416 then (q16.l1 k2 y120 (x6_2 ++ [rd (rd_L1 l0_1 (rd x6_1 0)) x33_2]) (rd x6_1 0) (rd_L1 l0_1 (rd x6_1 0)) ((rd_L1 l0_1 (rd x6_1 0)).length : Int) (wrap64 (x33_2 + 1)) a0_0 l0_1) else (none)) = some r := by first | (rw [hy120]; with_reducible exact H) | (have H2_ := (Option.bind_some _ _).symm.trans H; rw [hy120]; with_reducible exact H2_) | (have H2_ := (Option.bind_some _ _).symm.trans H; with_reducible exact H2_) | with_reducible exact H | (rw [hy120]; exact H) | exact H
                    have Ny120 := Aside0.mk hy120
                    clear hy120
                    by_cases c34 : x6_2.length < 17592186044416
                    ·rw [if_pos c34] at H
                     have LMc34 := Aside0.mk c34
                     clear c34
                     obtain ⟨y121, hy121⟩ : ∃ y_ : List Int, y_ = (x6_2 ++ [rd (rd_L1 l0_1 (rd x6_1 0)) x33_2]) := ⟨_, rfl⟩
                     replace H : (q16.l1 k2 y120 y121 (rd x6_1 0) (rd_L1 l0_1 (rd x6_1 0)) ((rd_L1 l0_1 (rd x6_1 0)).length : Int) (wrap64 (x33_2 + 1)) a0_0 l0_1) = some r := by first | (rw [hy121]; with_reducible exact H) | (have H2_ := (Option.bind_some _ _).symm.trans H; rw [hy121]; with_reducible exact H2_) | (have H2_ := (Option.bind_some _ _).symm.trans H; with_reducible exact H2_) | with_reducible exact H | (rw [hy121]; exact H) | exact H
                     have Ny121 := Aside0.mk hy121
                     clear hy121
                     have H' := Aside0.mk H
                     clear H
                     have p117 : 0 ≤ (x33_2 : Int) := of_decide_eq_true v3_
                     have q117 : x33_2 < ((rd_L1 l0_1 (rd x6_1 0)).length : Int) := of_decide_eq_true v3_
                     obtain ⟨ad117, e117, hx117_0⟩ := Kd.at_int HR116_0.out x33_2 p117 q117
                     cases e117
                     replace hx117_0 := (HB.out.cell (World.block_lt_of_cell? w _ hx117_0)).trans hx117_0
                     replace p117 := eq_true p117
                     replace q117 := eq_true q117
                     have p118 : 0 ≤ ((rd (rd_L1 l0_1 (rd x6_1 0)) x33_2) : Int) := of_decide_eq_true v3_
                     have q118 : (rd (rd_L1 l0_1 (rd x6_1 0)) x33_2) < (x5_2.length : Int) := of_decide_eq_true v3_
                     obtain ⟨ad118, e118, hx118_0⟩ := Kd.at_int (Kd.R_reads' HO_5.out).2.2 (rd (rd_L1 l0_1 (rd x6_1 0)) x33_2) p118 q118
                     obtain rfl : (⟨go6, 0, none⟩ : Addr) = ad118 := (by injection e118)
                     (first | simp only [add_plain] at hx118_0 | simp only [add_at] at hx118_0 | simp only [Addr.add, Nat.zero_add] at hx118_0 | skip)
                     replace p118 := eq_true p118
                     replace q118 := eq_true q118
                     have p119 : 0 ≤ ((rd x6_1 0) : Int) := of_decide_eq_true v3_
                     have q119 : (rd x6_1 0) < (x5_2.length : Int) := of_decide_eq_true v3_
                     obtain ⟨ad119, e119, hx119_0⟩ := Kd.at_int (Kd.R_reads' HO_5.out).2.2 (rd x6_1 0) p119 q119
                     obtain rfl : (⟨go6, 0, none⟩ : Addr) = ad119 := (by injection e119)
                     (first | simp only [add_plain] at hx119_0 | simp only [add_at] at hx119_0 | simp only [Addr.add, Nat.zero_add] at hx119_0 | skip)
                     replace p119 := eq_true p119
                     replace q119 := eq_true q119
                     have p33 : 0 ≤ ((rd (rd_L1 l0_1 (rd x6_1 0)) x33_2) : Int) := of_decide_eq_true v3_
                     have q33 : ((rd (rd_L1 l0_1 (rd x6_1 0)) x33_2) : Int) < ((x5_2.length : Int) : Int) := of_decide_eq_true v3_
                     obtain ⟨hx33_0, hf33_0⟩ := Kd.R_celln 0 HO_5.out ((rd (rd_L1 l0_1 (rd x6_1 0)) x33_2) : Int) p33 q33
                     (try simp only [Int.toNat_natCast] at hx33_0 hf33_0)
                     replace p33 := eq_true p33
                     replace q33 := eq_true q33
                     have HP35 := Kd.R_putg HO_5.out ((rd (rd_L1 l0_1 (rd x6_1 0)) x33_2) : Int) (wrap64 ((rd x5_2 (rd x6_1 0)) + 1))
                     go_wp2_with (first | ((with_reducible refine gate_store (t := 3) (p := 49) rfl ?_); refine store_event (t := 3) (p := 49) (v := ?vo_w36) (w1 := (wr.setCell ⟨go6, ((rd (rd_L1 l0_1 (rd x6_1 0)) x33_2) : Int).toNat, none⟩ (.int .i64 (wrap64 ((rd x5_2 (rd x6_1 0)) + 1))))) ?hg ?ho ?hn ?hr ?_; (case ho => rfl); (case hg => rfl); (case hn => rfl); (case hr => first | (go_simp; done) | (go_simp; rfl)); intro w36 hw; have hg : wr.grownBy w36 (some go6) := (by rw [hw]; exact HP35.2); have hp_ : Kd.R (Kd.int .i64) 3 w36 w.heap.size (fun k_ => some k_ ≠ (u6 : Value).ownBlock) (.slice (some ⟨go6, 0, none⟩) x5_2.length co6) y120 := (by rw [hw, Ny120.out]; exact HP35.1); clear HP35; have n0_ := Aside0.mk (hp_); have n1_ := Aside0.mk (Kd.Q_after (v := (.slice (some ⟨go6, 0, none⟩) x5_2.length co6)) (v1 := (.slice (some ⟨go6, 0, none⟩) x5_2.length co6)) (ok := (fun _ => True)) (by (with_reducible repeat (first | apply Kd.Q_alloc | apply Kd.Q_drewN | apply Kd.Q_drew)); exact Kd.Q_mono HO_6.out (fun _ hk => ⟨trivial, hk⟩)) hg (.inl rfl)); have n2_ := Aside0.mk (blk_grown (g := gb101) (o := .cells #[.int .i64 a0_0, .slice (some ad116) l0_1.length c0_1] 42 (0, 0)) v2_ hg (Kd.R_ne HO_5.out BK101.out v55_)); have n3_ := Aside0.mk ((by rw [hw]; exact below_set (HB.out) GB6.out : Below w.heap.size w w36)); clear HO_5; clear HO_6; clear BK101; clear HB; have HO_5 := n0_; have HO_6 := n1_; have BK101 := n2_; have HB := n3_; clear n0_ n1_ n2_ n3_; clear hg hw hp_) | ((with_reducible refine gate_builtin (b := .append) (xs := #[.tmp 50, .tmp 52]) rfl ?_); at_builtin; refine Kd.Q_append (Kd.int .i64) (w0 := w) w.heap.size rfl (.tmp 50) (.tmp 52) 45 3 (.int .i64 0) 8 rfl Try.underlying45 info3 rfl v55_ v93_ u6 x6_2 (rd (rd_L1 l0_1 (rd x6_1 0)) x33_2) [.int .i64 (rd (rd_L1 l0_1 (rd x6_1 0)) x33_2)] (fun k_ => some k_ ≠ (.slice (some ⟨go6, 0, none⟩) x5_2.length co6 : Value).ownBlock) (fun _ => False) rfl rfl ?aP (fun _ hk => hk.elim) ?aF ?aO ?aB ?aS ?aL ?_; (case aP => exact rfl); (case aB => exact v0_); (case aF => exact (fun k_ hk => Kd.fresh' (Kd.R_lt (by (with_reducible repeat (first | apply Kd.R_alloc | apply Kd.R_drewN | apply Kd.R_drew)); exact HO_5.out)) k_ hk)); (case aO => exact (by (with_reducible repeat (first | apply Kd.Q_alloc | apply Kd.Q_drewN | apply Kd.Q_drew)); exact Kd.Q_mono HO_6.out (fun _ hk => hk.2))); (case aS => exact (below_size v0_)); (case aL => have := LMc34.out; omega); intro v122 w37 ho hb hg hat; rw [← Ny121.out] at ho; have n0_ := Aside0.mk (Kd.R_after (ok := (fun _ => True)) (by (with_reducible repeat (first | apply Kd.R_alloc | apply Kd.R_drewN | apply Kd.R_drew)); exact Kd.R_mono HO_5.out (fun _ hk => ⟨trivial, hk⟩)) hg hat); have n1_ := Aside0.mk (blk_grown (g := gb101) (o := .cells #[.int .i64 a0_0, .slice (some ad116) l0_1.length c0_1] 42 (0, 0)) v2_ hg (Kd.Q_ne HO_6.out BK101.out v55_)); have n2_ := Aside0.mk (hb); have n3_ := Aside0.mk (ho); clear HO_5; clear BK101; clear HB; clear HO_6; have HO_5 := n0_; have BK101 := n1_; have HB := n2_; have HO123 := n3_; clear n0_ n1_ n2_ n3_; clear ho hb hg hat))
                     (try simp only [← hl5_2])
                     go_roundg k2
                     case measure => have := HK1.out; have := HK2.out; omega
                     case rel => exact ⟨(y120), (y121), (wrap64 (x33_2 + 1)), v12_, H', ⟨v86_⟩, ⟨by (try simp only [hl5_1]); (try simp only [hl5_2]); (with_reducible repeat (first | apply Kd.R_alloc | apply Kd.R_drewN | apply Kd.R_drew)); exact Kd.R_mono HO_5.out (fun _ hk => hk.2)⟩, ⟨by (try simp only [hl5_1]); (try simp only [hl5_2]); (with_reducible repeat (first | apply Kd.Q_alloc | apply Kd.Q_drewN | apply Kd.Q_drew)); exact HO123.out⟩, ⟨v63_⟩, ⟨v9_⟩⟩
                    ·rw [if_neg c34] at H
                     exact absurd H v58_
                   ·rw [if_neg c32] at H
                    exact absurd H v58_
                  ·rw [if_neg c31] at H
                   exact absurd H v58_
                 ·rw [if_neg c30] at H
                  have c30b0 : decide ((rd x5_2 (rd (rd_L1 l0_1 (rd x6_1 0)) x33_2)) < 0) = false := decide_eq_false c30
                  clear c30
                  have H' := Aside0.mk H
                  clear H
                  have p117 : 0 ≤ (x33_2 : Int) := of_decide_eq_true v3_
                  have q117 : x33_2 < ((rd_L1 l0_1 (rd x6_1 0)).length : Int) := of_decide_eq_true v3_
                  obtain ⟨ad117, e117, hx117_0⟩ := Kd.at_int HR116_0.out x33_2 p117 q117
                  cases e117
                  replace hx117_0 := (HB.out.cell (World.block_lt_of_cell? w _ hx117_0)).trans hx117_0
                  replace p117 := eq_true p117
                  replace q117 := eq_true q117
                  have p118 : 0 ≤ ((rd (rd_L1 l0_1 (rd x6_1 0)) x33_2) : Int) := of_decide_eq_true v3_
                  have q118 : (rd (rd_L1 l0_1 (rd x6_1 0)) x33_2) < (x5_2.length : Int) := of_decide_eq_true v3_
                  obtain ⟨ad118, e118, hx118_0⟩ := Kd.at_int (Kd.R_reads' HO_5.out).2.2 (rd (rd_L1 l0_1 (rd x6_1 0)) x33_2) p118 q118
                  obtain rfl : (⟨go6, 0, none⟩ : Addr) = ad118 := (by injection e118)
                  (first | simp only [add_plain] at hx118_0 | simp only [add_at] at hx118_0 | simp only [Addr.add, Nat.zero_add] at hx118_0 | skip)
                  replace p118 := eq_true p118
                  replace q118 := eq_true q118
                  go_wp2
                  (try simp only [← hl5_2])
                  go_roundg k2
                  case measure => have := HK1.out; have := HK2.out; omega
                  case rel => exact ⟨(x5_2), (x6_2), (wrap64 (x33_2 + 1)), v12_, H', ⟨v86_⟩, ⟨v94_⟩, ⟨v95_⟩, ⟨v63_⟩, ⟨v9_⟩⟩
                ·rw [if_neg c29] at H
                 exact absurd H v58_
               ·rw [if_neg c28] at H
                exact absurd H v58_
              ·rw [if_neg c27] at H
               exact absurd H v58_
             ·rw [if_neg c26] at H
              exact absurd H v58_
            ·rw [if_neg c25] at H
             have c25b0 : decide (x33_2 < ((rd_L1 l0_1 (rd x6_1 0)).length : Int)) = false := decide_eq_false c25
             (try simp only [hl5_1, hl5_2] at c25b0)
             clear c25
             have H' := Aside0.mk H
             clear H
             go_wp2
             (try simp only [← hl5_1, ← hl5_2])
             go_roundg k2
             case measure => have := HK1.out; have := HK2.out; omega
             case rel => exact ⟨(x5_2), (x6_2), H', ⟨v86_⟩, ⟨v94_⟩, ⟨v95_⟩, ⟨v63_⟩, ⟨v9_⟩⟩
         ·rw [if_neg c21] at H
          exact absurd H v58_
        ·rw [if_neg c20] at H
         exact absurd H v58_
       ·rw [if_neg c19] at H
        exact absurd H v58_
      ·rw [if_neg c18] at H
       exact absurd H v58_
     ·rw [if_neg c17] at H
      have c17b0 : decide (0 < (x6_1.length : Int)) = false := decide_eq_false c17
      (try simp only [hl5_1] at c17b0)
      have c17b1 : decide (0 < x6_1.length) = false := decide_eq_false v93_
      (try simp only [hl5_1] at c17b1)
      clear c17
      obtain rfl := Option.some.inj H
      obtain ⟨Ao38, co38, eo38, _⟩ := Kd.Q_slice HO_6.out
      subst eo38
      go_wp2
      go_ret
      exact ⟨_, by first | rfl | (simp [errW_none, errW_some] <;> rfl) | (simp [*, errW_none, errW_some] <;> rfl), by (with_reducible repeat (first | apply Kd.R_alloc | apply Kd.R_drewN | apply Kd.R_drew)); exact Kd.R_mono HO_5.out (fun _ hk => trivial), by repeat (first | (with_reducible first | exact HB.out | apply below_alloc | apply pw_below_drewN | apply below_drew1 | refine below_set ?_ GE101.out) | exact HB.out)⟩
  ·rw [if_neg c5] at H
   exact absurd H v58_
 ·rw [if_neg c4] at H
  exact absurd H v58_
end Go.Proofs.Ytcfhffhmpalkbaa.P
