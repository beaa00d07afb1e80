import Derived.Test.YtcfhffhmpalkbaaKc1
import Derived.Test.YtcfhffhmpalkbaaKc2
namespace Go.Proofs.Ytcfhffhmpalkbaa.P
open Go.RowKit Go.Proofs.YtcfhffhmpalkbaaM Go.Proofs.YtcfhffhmpalkbaaW.PrintWords Go.Proofs.YtcfhffhmpalkbaaW.PrintLast Go.Proofs.YtcfhffhmpalkbaaW.PrintMore
attribute [local go_sem] Go.Instr.field Go.asAgg max2_int min2_int max_two min_two max_three min_three max_four min_four
set_option linter.unusedVariables false
set_option linter.unusedSimpArgs false
set_option maxHeartbeats 8000000 in
set_option maxRecDepth 100000 in
theorem q7.calls (k : Nat) (a0_0 : Int) (A0_1 : Option Addr) (c0_1 : Nat) (l0_1 : List (List Int)) (r : List Int) (w : World) (hr0_1 : Kd.C (Kd.slice 3 (Kd.int .i64)) w A0_1 l0_1.length l0_1) (hc0_1 : l0_1.length ≤ c0_1) (h : q7.f k a0_0 l0_1 = some r) :
 Calls Try.prog 58 #[.agg #[.int .i64 a0_0, .slice A0_1 l0_1.length c0_1]] w fun e w' => ∃ v0_ : Value, e = .returned (v0_) ∧ Kd.R (Kd.int .i64) 3 w' w.heap.size (fun _ => True) v0_ r ∧ Below w.heap.size w w' := by
 have hu42 := Try.underlying42
 have hu78 := Try.underlying78
 have HR0_1 := Aside0.mk hr0_1
 have HC0_1 := Aside0.mk hc0_1
 clear hr0_1 hc0_1
 have HB := Aside0.mk (Below.refl w.heap.size w)
 have H : (if 0 ≤ a0_0 then (if (a0_0 : Int).toNat ≤ 35184372088832 then ((some (List.replicate (a0_0 : Int).toNat 0 : List Int)).bind fun y102 => (q7.l0 k y102 (y102.length : Int) 0 a0_0 l0_1)) else (none)) else (none)) = some r := h
 clear h
 by_cases c2 : 0 ≤ a0_0
 ·rw [if_pos c2] at H
  have c2b0 := eq_true c2
  have c2b1 : decide (0 ≤ a0_0) = true := decide_eq_true c2
  clear c2
  by_cases c3 : (a0_0 : Int).toNat ≤ 35184372088832
  ·rw [if_pos c3] at H
   have c3b0 := eq_true c3
   have c3b1 : decide ((a0_0 : Int).toNat ≤ 35184372088832) = true := decide_eq_true c3
   clear c3
   obtain ⟨y102, hy102⟩ : ∃ y_ : List Int, y_ = (List.replicate (a0_0 : Int).toNat 0) := ⟨_, rfl⟩
   replace H : (q7.l0 k y102 (y102.length : Int) 0 a0_0 l0_1) = some r := by first | (rw [hy102]; with_reducible exact H) | (have H2_ := (Option.bind_some _ _).symm.trans H; rw [hy102]; with_reducible exact H2_) | (have H2_ := (Option.bind_some _ _).symm.trans H; with_reducible exact H2_) | with_reducible exact H | (rw [hy102]; exact H) | exact H
   have Ny102 := Aside0.mk hy102
   clear hy102
   have H' := Aside0.mk H
   clear H
   go_enter Try.func58, Try.ntmps58
   go_wp2_with (first | ((with_reducible refine gate_dst (N := 1) rfl ?_); refine box_event ?hg (N := 1) ?hd (cs := #[.int .i64 a0_0, .slice A0_1 l0_1.length c0_1]) (t := 42) ?hr ?_; (case hd => rfl); (case hg => rfl); (case hr => first | (go_simp; done) | (go_simp; rfl)); intro gb101 hg w4 hbox hb; have n0_ := Aside0.mk (below_step v1_ hb); have n1_ := Aside0.mk (hbox); have n2_ := Aside0.mk (v10_); have n3_ := Aside0.mk (v10_); clear HB; have HB := n0_; have BK101 := n1_; have GW101 := n2_; have GE101 := n3_; clear n0_ n1_ n2_ n3_; clear hb hbox hg; have hcz5_0 : w4.cell? ⟨gb101, 0, none⟩ = some (.int .i64 a0_0) := (blk_cell BK101.out 0).trans rfl; have hcz5_1 : w4.cell? ⟨gb101, 1, none⟩ = some (.slice A0_1 l0_1.length c0_1) := (blk_cell BK101.out 1).trans rfl; have hfz5_0 := blk_frozen BK101.out 0; have hfz5_1 := blk_frozen BK101.out 1) | ((with_reducible refine gate_dst (N := 12) rfl ?_); refine Kd.R_make (Kd.int .i64) _ 3 rfl (N := 12) rfl 45 _ _ rfl a0_0 rfl rfl Try.underlying45 (.int .i64 0) 8 info3 rfl v55_ v93_ 0 (ok := fun _ => True) (okp := fun _ => True) rfl (fun _ hk => hk) trivial (of_decide_eq_true v3_) (Nat.le_trans (Nat.mul_le_mul_right _ (of_decide_eq_true v3_ : a0_0.toNat ≤ 35184372088832)) v93_) (Below.refl _ _) (Nat.le_refl _) ?_; intro v103 w6 ho7 hb hg_ hnew_; clear hg_ hnew_; (first | rw [← Ny102.out] at ho7 | (simp only [Int.reduceToNat] at ho7; rw [← Ny102.out] at ho7)); have n0_ := Aside0.mk (Kd.R_lower ho7 (below_size v0_)); have n1_ := Aside0.mk (blk_below (g := gb101) (o := .cells #[.int .i64 a0_0, .slice A0_1 l0_1.length c0_1] 42 (0, 0)) v2_ hb); have n2_ := Aside0.mk (below_step v0_ hb); clear BK101; clear HB; have HO104 := n0_; have BK101 := n1_; have HB := n2_; clear n0_ n1_ n2_; clear hb ho7; obtain ⟨Ao8, co8, eo8⟩ := Kd.R_slice HO104.out; subst eo8))
   repeat (go_quiet (first | ((with_reducible refine gate_dst (N := 1) rfl ?_); refine box_event ?hg (N := 1) ?hd (cs := #[.int .i64 a0_0, .slice A0_1 l0_1.length c0_1]) (t := 42) ?hr ?_; (case hd => rfl); (case hg => rfl); (case hr => first | (go_simp; done) | (go_simp; rfl)); intro gb101 hg w4 hbox hb; have n0_ := Aside0.mk (below_step v1_ hb); have n1_ := Aside0.mk (hbox); have n2_ := Aside0.mk (v10_); have n3_ := Aside0.mk (v10_); clear HB; have HB := n0_; have BK101 := n1_; have GW101 := n2_; have GE101 := n3_; clear n0_ n1_ n2_ n3_; clear hb hbox hg; have hcz5_0 : w4.cell? ⟨gb101, 0, none⟩ = some (.int .i64 a0_0) := (blk_cell BK101.out 0).trans rfl; have hcz5_1 : w4.cell? ⟨gb101, 1, none⟩ = some (.slice A0_1 l0_1.length c0_1) := (blk_cell BK101.out 1).trans rfl; have hfz5_0 := blk_frozen BK101.out 0; have hfz5_1 := blk_frozen BK101.out 1) | ((with_reducible refine gate_dst (N := 12) rfl ?_); refine Kd.R_make (Kd.int .i64) _ 3 rfl (N := 12) rfl 45 _ _ rfl a0_0 rfl rfl Try.underlying45 (.int .i64 0) 8 info3 rfl v55_ v93_ 0 (ok := fun _ => True) (okp := fun _ => True) rfl (fun _ hk => hk) trivial (of_decide_eq_true v3_) (Nat.le_trans (Nat.mul_le_mul_right _ (of_decide_eq_true v3_ : a0_0.toNat ≤ 35184372088832)) v93_) (Below.refl _ _) (Nat.le_refl _) ?_; intro v103 w6 ho7 hb hg_ hnew_; clear hg_ hnew_; (first | rw [← Ny102.out] at ho7 | (simp only [Int.reduceToNat] at ho7; rw [← Ny102.out] at ho7)); have n0_ := Aside0.mk (Kd.R_lower ho7 (below_size v0_)); have n1_ := Aside0.mk (blk_below (g := gb101) (o := .cells #[.int .i64 a0_0, .slice A0_1 l0_1.length c0_1] 42 (0, 0)) v2_ hb); have n2_ := Aside0.mk (below_step v0_ hb); clear BK101; clear HB; have HO104 := n0_; have BK101 := n1_; have HB := n2_; clear n0_ n1_ n2_; clear hb ho7; obtain ⟨Ao8, co8, eo8⟩ := Kd.R_slice HO104.out; subst eo8)); try go_wp2_with (first | ((with_reducible refine gate_dst (N := 1) rfl ?_); refine box_event ?hg (N := 1) ?hd (cs := #[.int .i64 a0_0, .slice A0_1 l0_1.length c0_1]) (t := 42) ?hr ?_; (case hd => rfl); (case hg => rfl); (case hr => first | (go_simp; done) | (go_simp; rfl)); intro gb101 hg w4 hbox hb; have n0_ := Aside0.mk (below_step v1_ hb); have n1_ := Aside0.mk (hbox); have n2_ := Aside0.mk (v10_); have n3_ := Aside0.mk (v10_); clear HB; have HB := n0_; have BK101 := n1_; have GW101 := n2_; have GE101 := n3_; clear n0_ n1_ n2_ n3_; clear hb hbox hg; have hcz5_0 : w4.cell? ⟨gb101, 0, none⟩ = some (.int .i64 a0_0) := (blk_cell BK101.out 0).trans rfl; have hcz5_1 : w4.cell? ⟨gb101, 1, none⟩ = some (.slice A0_1 l0_1.length c0_1) := (blk_cell BK101.out 1).trans rfl; have hfz5_0 := blk_frozen BK101.out 0; have hfz5_1 := blk_frozen BK101.out 1) | ((with_reducible refine gate_dst (N := 12) rfl ?_); refine Kd.R_make (Kd.int .i64) _ 3 rfl (N := 12) rfl 45 _ _ rfl a0_0 rfl rfl Try.underlying45 (.int .i64 0) 8 info3 rfl v55_ v93_ 0 (ok := fun _ => True) (okp := fun _ => True) rfl (fun _ hk => hk) trivial (of_decide_eq_true v3_) (Nat.le_trans (Nat.mul_le_mul_right _ (of_decide_eq_true v3_ : a0_0.toNat ≤ 35184372088832)) v93_) (Below.refl _ _) (Nat.le_refl _) ?_; intro v103 w6 ho7 hb hg_ hnew_; clear hg_ hnew_; (first | rw [← Ny102.out] at ho7 | (simp only [Int.reduceToNat] at ho7; rw [← Ny102.out] at ho7)); have n0_ := Aside0.mk (Kd.R_lower ho7 (below_size v0_)); have n1_ := Aside0.mk (blk_below (g := gb101) (o := .cells #[.int .i64 a0_0, .slice A0_1 l0_1.length c0_1] 42 (0, 0)) v2_ hb); have n2_ := Aside0.mk (below_step v0_ hb); clear BK101; clear HB; have HO104 := n0_; have BK101 := n1_; have HB := n2_; clear n0_ n1_ n2_; clear hb ho7; obtain ⟨Ao8, co8, eo8⟩ := Kd.R_slice HO104.out; subst eo8)))
   go_loopg [15] k (fun kq v15 w' => ∃ (x3_1 : List Int) (x15_1 : Int), v15 = .int .i64 x15_1 ∧ Aside0 (q7.l0 kq x3_1 (y102.length : Int) x15_1 a0_0 l0_1 = some r) ∧ Aside0 (kq ≤ k) ∧ Aside0 (Kd.R (Kd.int .i64) 3 w' w.heap.size (fun _ => True) (.slice Ao8 y102.length co8) x3_1) ∧ Aside0 (w'.heap[gb101]? = some (.cells #[.int .i64 a0_0, (.slice A0_1 l0_1.length c0_1)] 42 (0, 0))) ∧ Aside0 (Below w.heap.size w w'))
   case atStart => exact ⟨(y102), (0), v12_, H', ⟨Nat.le_refl _⟩, ⟨v104_⟩, ⟨v6_⟩, ⟨v9_⟩⟩
   case round => as_aux_lemma =>
    clear H'
    try clear c2
    try clear c2b0
    try clear c2b1
    try clear p2
    try clear c3
    try clear c3b0
    try clear c3b1
    try clear c5
    try clear hcz5_0
    try clear hcz5_1
    try clear hfz5_0
    try clear hfz5_1
    obtain ⟨x3_1, x15_1, rfl, HA, HK1, HO_3, BK101, HB⟩ := hrel
    have hl3_1 := (Kd.R_reads' HO_3.out).1
    rw [hl3_1] at HO_3
    (try simp only [hl3_1])
    (try simp only [hl3_1] at BK101)
    cases gk with
    | zero => exact absurd HA.out (by simp [q7.l0])
    | succ k1 =>
     have H := HA.out
     clear HA
     simp only [q7.l0] at H
     by_cases c9 : x15_1 < (y102.length : Int)
     ·rw [if_pos c9] at H
      have c9b0 : decide (x15_1 < (y102.length : Int)) = true := decide_eq_true c9
      clear c9
      by_cases c10 : 0 ≤ x15_1
      ·rw [if_pos c10] at H
       have c10b0 : decide (0 ≤ x15_1) = true := decide_eq_true c10
       clear c10
       by_cases c11 : x15_1 < (x3_1.length : Int)
       ·rw [if_pos c11] at H
        have c11b0 : decide (x15_1 < (x3_1.length : Int)) = true := decide_eq_true c11
        clear c11
        obtain ⟨y105, hy105⟩ : ∃ y_ : List Int, y_ = (x3_1.set (x15_1 : Int).toNat x15_1) := ⟨_, rfl⟩
        replace H : (q7.l0 k1 y105 (y102.length : Int) (wrap64 (x15_1 + 1)) a0_0 l0_1) = some r := by first | (rw [hy105]; with_reducible exact H) | (have H2_ := (Option.bind_some _ _).symm.trans H; rw [hy105]; with_reducible exact H2_) | (have H2_ := (Option.bind_some _ _).symm.trans H; with_reducible exact H2_) | with_reducible exact H | (rw [hy105]; exact H) | exact H
        have Ny105 := Aside0.mk hy105
        clear hy105
        have H' := Aside0.mk H
        clear H
        have p12 : 0 ≤ (x15_1 : Int) := of_decide_eq_true v3_
        have q12 : (x15_1 : Int) < ((x3_1.length : Int) : Int) := of_decide_eq_true v3_
        obtain ⟨go12, co12, eo12, gb12, gl12, cl12, HG12⟩ := Kd.R_form HO_3.out v93_
        (first | cases eo12 | (injection eo12 with ea_ en_ ec_; (first | subst ea_ | (injection ea_ with ea_; subst ea_)); subst ec_; clear en_))
        (try simp only [add_plain] at *)
        have GB12 := Aside0.mk gb12
        have GG12 := Aside0.mk HG12
        clear gb12 gl12 HG12
        obtain ⟨hx12_0, hf12_0⟩ := Kd.R_celln 0 HO_3.out (x15_1 : Int) p12 q12
        (try simp only [Int.toNat_natCast] at hx12_0 hf12_0)
        replace p12 := eq_true p12
        replace q12 := eq_true q12
        have HP13 := Kd.R_putg HO_3.out (x15_1 : Int) x15_1
        go_wp2_with (first | ((with_reducible refine gate_store (t := 3) (p := 21) rfl ?_); (try (rw [drewN_self wr]; generalize hq_ : World.drewN wr _ = wr; have n0_ := Aside0.mk (Kd.R_at hq_ HO_3.out); have n1_ := Aside0.mk (blk_at hq_ BK101.out); have n2_ := Aside0.mk (below_at hq_ HB.out); clear hq_ HO_3 BK101 HB; have HO_3 := n0_; have BK101 := n1_; have HB := n2_; clear n0_ n1_ n2_; (try (obtain ⟨hy13_, hz13_⟩ := Kd.R_celln 0 HO_3.out (x15_1 : Int) (of_decide_eq_true v3_) (of_decide_eq_true v3_))); (try (have HP13 := Kd.R_putg HO_3.out (x15_1 : Int) x15_1)))); refine store_event (t := 3) (p := 21) (v := ?vo_w14) (w1 := (wr.setCell ⟨go12, (x15_1 : Int).toNat, none⟩ (.int .i64 x15_1))) ?hg ?ho ?hn ?hr ?_; (case ho => rfl); (case hg => rfl); (case hn => rfl); (case hr => first | (go_simp; done) | (go_simp; rfl)); intro w14 hw; have hg : wr.grownBy w14 (some go12) := (by rw [hw]; exact HP13.2); have hp_ : Kd.R (Kd.int .i64) 3 w14 w.heap.size (fun _ => True) (.slice (some ⟨go12, 0, none⟩) x3_1.length co8) y105 := (by rw [hw, Ny105.out]; exact HP13.1); clear HP13; have n0_ := Aside0.mk (hp_); have n1_ := Aside0.mk (blk_grown (g := gb101) (o := .cells #[.int .i64 a0_0, .slice A0_1 l0_1.length c0_1] 42 (0, 0)) v2_ hg (Kd.R_ne HO_3.out BK101.out v55_)); have n2_ := Aside0.mk (v99_); clear HO_3; clear BK101; clear HB; have HO_3 := n0_; have BK101 := n1_; have HB := n2_; clear n0_ n1_ n2_; clear hg hw hp_))
        repeat (go_quiet (first | ((with_reducible refine gate_store (t := 3) (p := 21) rfl ?_); (try (rw [drewN_self wr]; generalize hq_ : World.drewN wr _ = wr; have n0_ := Aside0.mk (Kd.R_at hq_ HO_3.out); have n1_ := Aside0.mk (blk_at hq_ BK101.out); have n2_ := Aside0.mk (below_at hq_ HB.out); clear hq_ HO_3 BK101 HB; have HO_3 := n0_; have BK101 := n1_; have HB := n2_; clear n0_ n1_ n2_; (try (obtain ⟨hy13_, hz13_⟩ := Kd.R_celln 0 HO_3.out (x15_1 : Int) (of_decide_eq_true v3_) (of_decide_eq_true v3_))); (try (have HP13 := Kd.R_putg HO_3.out (x15_1 : Int) x15_1)))); refine store_event (t := 3) (p := 21) (v := ?vo_w14) (w1 := (wr.setCell ⟨go12, (x15_1 : Int).toNat, none⟩ (.int .i64 x15_1))) ?hg ?ho ?hn ?hr ?_; (case ho => rfl); (case hg => rfl); (case hn => rfl); (case hr => first | (go_simp; done) | (go_simp; rfl)); intro w14 hw; have hg : wr.grownBy w14 (some go12) := (by rw [hw]; exact HP13.2); have hp_ : Kd.R (Kd.int .i64) 3 w14 w.heap.size (fun _ => True) (.slice (some ⟨go12, 0, none⟩) x3_1.length co8) y105 := (by rw [hw, Ny105.out]; exact HP13.1); clear HP13; have n0_ := Aside0.mk (hp_); have n1_ := Aside0.mk (blk_grown (g := gb101) (o := .cells #[.int .i64 a0_0, .slice A0_1 l0_1.length c0_1] 42 (0, 0)) v2_ hg (Kd.R_ne HO_3.out BK101.out v55_)); have n2_ := Aside0.mk (v99_); clear HO_3; clear BK101; clear HB; have HO_3 := n0_; have BK101 := n1_; have HB := n2_; clear n0_ n1_ n2_; clear hg hw hp_)); try go_wp2_with (first | ((with_reducible refine gate_store (t := 3) (p := 21) rfl ?_); (try (rw [drewN_self wr]; generalize hq_ : World.drewN wr _ = wr; have n0_ := Aside0.mk (Kd.R_at hq_ HO_3.out); have n1_ := Aside0.mk (blk_at hq_ BK101.out); have n2_ := Aside0.mk (below_at hq_ HB.out); clear hq_ HO_3 BK101 HB; have HO_3 := n0_; have BK101 := n1_; have HB := n2_; clear n0_ n1_ n2_; (try (obtain ⟨hy13_, hz13_⟩ := Kd.R_celln 0 HO_3.out (x15_1 : Int) (of_decide_eq_true v3_) (of_decide_eq_true v3_))); (try (have HP13 := Kd.R_putg HO_3.out (x15_1 : Int) x15_1)))); refine store_event (t := 3) (p := 21) (v := ?vo_w14) (w1 := (wr.setCell ⟨go12, (x15_1 : Int).toNat, none⟩ (.int .i64 x15_1))) ?hg ?ho ?hn ?hr ?_; (case ho => rfl); (case hg => rfl); (case hn => rfl); (case hr => first | (go_simp; done) | (go_simp; rfl)); intro w14 hw; have hg : wr.grownBy w14 (some go12) := (by rw [hw]; exact HP13.2); have hp_ : Kd.R (Kd.int .i64) 3 w14 w.heap.size (fun _ => True) (.slice (some ⟨go12, 0, none⟩) x3_1.length co8) y105 := (by rw [hw, Ny105.out]; exact HP13.1); clear HP13; have n0_ := Aside0.mk (hp_); have n1_ := Aside0.mk (blk_grown (g := gb101) (o := .cells #[.int .i64 a0_0, .slice A0_1 l0_1.length c0_1] 42 (0, 0)) v2_ hg (Kd.R_ne HO_3.out BK101.out v55_)); have n2_ := Aside0.mk (v99_); clear HO_3; clear BK101; clear HB; have HO_3 := n0_; have BK101 := n1_; have HB := n2_; clear n0_ n1_ n2_; clear hg hw hp_)))
        (try simp only [← hl3_1])
        go_roundg k1
        case measure => have := HK1.out; omega
        case rel => exact ⟨(y105), (wrap64 (x15_1 + 1)), v12_, H', ⟨v91_⟩, ⟨v101_⟩, ⟨v96_⟩, ⟨v9_⟩⟩
       ·rw [if_neg c11] at H
        exact absurd H v58_
      ·rw [if_neg c10] at H
       exact absurd H v58_
     ·rw [if_neg c9] at H
      have c9b0 : decide (x15_1 < (y102.length : Int)) = false := decide_eq_false c9
      (try simp only [hl3_1] at c9b0)
      clear c9
      replace H := Option.bind_eq_some_iff.mp H
      obtain ⟨t106, A150, H⟩ := H
      replace H : (q7.l1 k1 x3_1 t106 (t106.length : Int) 0) = some r := H
      have A15 := Aside0.mk A150
      clear A150
      have H' := Aside0.mk H
      clear H
      have hcz16_0 : wr.cell? ⟨gb101, 0, none⟩ = some (.int .i64 a0_0) := (blk_cell BK101.out 0).trans rfl
      have hcz16_1 : wr.cell? ⟨gb101, 1, none⟩ = some (.slice A0_1 l0_1.length c0_1) := (blk_cell BK101.out 1).trans rfl
      have hfz16_0 := blk_frozen BK101.out 0
      have hfz16_1 := blk_frozen BK101.out 1
      go_wp2_with (first | (go_at_call 81; (with_reducible refine (q9.calls k1 a0_0 _ _ l0_1 t106 _ ?side1 ?side2 A15.out).mono ?_); (case side1 => repeat (first | exact (Kd.C_below HR0_1.out HB.out) | (with_reducible refine Kd.C_alloc ?_ _) | (with_reducible refine Kd.C_drewN ?_ _) | (with_reducible refine Kd.C_drew ?_))); (case side2 => exact HC0_1.out); rintro e w17 ⟨v107, rfl, ho0, hb⟩; have n0_ := Aside0.mk (Kd.R_below v54_ hb); have n1_ := Aside0.mk (Kd.R_lower ho0 (below_size v0_)); have n2_ := Aside0.mk (blk_below (g := gb101) (o := .cells #[.int .i64 a0_0, .slice A0_1 l0_1.length c0_1] 42 (0, 0)) v2_ hb); have n3_ := Aside0.mk (below_step v0_ hb); clear HO_3; clear BK101; clear HB; have HO_3 := n0_; have HO108 := n1_; have BK101 := n2_; have HB := n3_; clear n0_ n1_ n2_ n3_; (try clear hb); (try clear hb2); (try clear hk); (try clear hi); (try clear ho0); obtain ⟨Ao18, co18, eo18⟩ := Kd.R_slice HO108.out; subst eo18))
      repeat (go_quiet (first | (go_at_call 81; (with_reducible refine (q9.calls k1 a0_0 _ _ l0_1 t106 _ ?side1 ?side2 A15.out).mono ?_); (case side1 => repeat (first | exact (Kd.C_below HR0_1.out HB.out) | (with_reducible refine Kd.C_alloc ?_ _) | (with_reducible refine Kd.C_drewN ?_ _) | (with_reducible refine Kd.C_drew ?_))); (case side2 => exact HC0_1.out); rintro e w17 ⟨v107, rfl, ho0, hb⟩; have n0_ := Aside0.mk (Kd.R_below v54_ hb); have n1_ := Aside0.mk (Kd.R_lower ho0 (below_size v0_)); have n2_ := Aside0.mk (blk_below (g := gb101) (o := .cells #[.int .i64 a0_0, .slice A0_1 l0_1.length c0_1] 42 (0, 0)) v2_ hb); have n3_ := Aside0.mk (below_step v0_ hb); clear HO_3; clear BK101; clear HB; have HO_3 := n0_; have HO108 := n1_; have BK101 := n2_; have HB := n3_; clear n0_ n1_ n2_ n3_; (try clear hb); (try clear hb2); (try clear hk); (try clear hi); (try clear ho0); obtain ⟨Ao18, co18, eo18⟩ := Kd.R_slice HO108.out; subst eo18)); try go_wp2_with (first | (go_at_call 81; (with_reducible refine (q9.calls k1 a0_0 _ _ l0_1 t106 _ ?side1 ?side2 A15.out).mono ?_); (case side1 => repeat (first | exact (Kd.C_below HR0_1.out HB.out) | (with_reducible refine Kd.C_alloc ?_ _) | (with_reducible refine Kd.C_drewN ?_ _) | (with_reducible refine Kd.C_drew ?_))); (case side2 => exact HC0_1.out); rintro e w17 ⟨v107, rfl, ho0, hb⟩; have n0_ := Aside0.mk (Kd.R_below v54_ hb); have n1_ := Aside0.mk (Kd.R_lower ho0 (below_size v0_)); have n2_ := Aside0.mk (blk_below (g := gb101) (o := .cells #[.int .i64 a0_0, .slice A0_1 l0_1.length c0_1] 42 (0, 0)) v2_ hb); have n3_ := Aside0.mk (below_step v0_ hb); clear HO_3; clear BK101; clear HB; have HO_3 := n0_; have HO108 := n1_; have BK101 := n2_; have HB := n3_; clear n0_ n1_ n2_ n3_; (try clear hb); (try clear hb2); (try clear hk); (try clear hi); (try clear ho0); obtain ⟨Ao18, co18, eo18⟩ := Kd.R_slice HO108.out; subst eo18)))
      go_loopg [26] k1 (fun kq v26 w' => ∃ (x3_2 : List Int) (x26_2 : Int), v26 = .int .i64 x26_2 ∧ Aside0 (q7.l1 kq x3_2 t106 (t106.length : Int) x26_2 = some r) ∧ Aside0 (kq ≤ k1) ∧ Aside0 (Kd.R (Kd.int .i64) 3 w' w.heap.size (fun _ => True) (.slice Ao8 x3_1.length co8) x3_2) ∧ Aside0 (Kd.R k78 78 w' w.heap.size (fun _ => True) (.slice Ao18 t106.length co18) t106) ∧ Aside0 (w'.heap[gb101]? = some (.cells #[.int .i64 a0_0, (.slice A0_1 l0_1.length c0_1)] 42 (0, 0))) ∧ Aside0 (Below w.heap.size w w'))
      case atStart => exact ⟨(x3_1), (0), v12_, H', ⟨Nat.le_refl _⟩, ⟨v101_⟩, ⟨by (try simp only [hl3_1]); (with_reducible repeat (first | apply Kd.R_alloc | apply Kd.R_drewN | apply Kd.R_drew)); exact HO108.out⟩, ⟨v96_⟩, ⟨v9_⟩⟩
      case round => as_aux_lemma =>
       clear H'
       try clear c1
       try clear p1
       try clear q1
       try clear hx1
       try clear hf1
       try clear c2
       try clear c2b0
       try clear c2b1
       try clear p2
       try clear c3
       try clear c3b0
       try clear c3b1
       try clear c5
       try clear p6
       try clear c9
       try clear c9b0
       try clear c10
       try clear c10b0
       try clear c11
       try clear c11b0
       try clear p12
       try clear q12
       try clear hx12
       try clear hf12
       try clear hcz16_0
       try clear hcz16_1
       try clear hcz5_0
       try clear hcz5_1
       try clear hfz16_0
       try clear hfz16_1
       try clear hfz5_0
       try clear hfz5_1
       try clear hx12_0
       try clear p12
       try clear p2
       try clear q12
       obtain ⟨x3_2, x26_2, rfl, HA, HK2, HO_3, HO_24, BK101, HB⟩ := hrel
       have hl3_2 := (Kd.R_reads' HO_3.out).1
       rw [hl3_2] at HO_3
       (try simp only [hl3_2])
       (try simp only [hl3_2] at BK101)
       (try simp only [hl3_2] at HO_24)
       cases gk with
       | zero => exact absurd HA.out (by simp [q7.l1])
       | succ k2 =>
        have H := HA.out
        clear HA
        simp only [q7.l1] at H
        by_cases c19 : x26_2 < (t106.length : Int)
        ·rw [if_pos c19] at H
         have c19b0 : decide (x26_2 < (t106.length : Int)) = true := decide_eq_true c19
         clear c19
         by_cases c20 : 0 ≤ x26_2
         ·rw [if_pos c20] at H
          have c20b0 : decide (0 ≤ x26_2) = true := decide_eq_true c20
          clear c20
          by_cases c21 : x26_2 < (t106.length : Int)
          ·rw [if_pos c21] at H
           have c21b0 : decide (x26_2 < (t106.length : Int)) = true := decide_eq_true c21
           clear c21
           by_cases c22 : 0 ≤ ((rd_T78 t106 x26_2).f0)
           ·rw [if_pos c22] at H
            have c22b0 : decide (0 ≤ ((rd_T78 t106 x26_2).f0)) = true := decide_eq_true c22
            clear c22
            by_cases c23 : ((rd_T78 t106 x26_2).f0) < (x3_2.length : Int)
            ·rw [if_pos c23] at H
             have c23b0 : decide (((rd_T78 t106 x26_2).f0) < (x3_2.length : Int)) = true := decide_eq_true c23
             clear c23
             by_cases c24 : 0 ≤ ((rd_T78 t106 x26_2).f1)
             ·rw [if_pos c24] at H
              have c24b0 : decide (0 ≤ ((rd_T78 t106 x26_2).f1)) = true := decide_eq_true c24
              clear c24
              by_cases c25 : ((rd_T78 t106 x26_2).f1) < (x3_2.length : Int)
              ·rw [if_pos c25] at H
               have c25b0 : decide (((rd_T78 t106 x26_2).f1) < (x3_2.length : Int)) = true := decide_eq_true c25
               clear c25
               obtain ⟨ji26, hji26⟩ : ∃ j_ : Int, (mn (rd x3_2 ((rd_T78 t106 x26_2).f0)) (rd x3_2 ((rd_T78 t106 x26_2).f1))) = j_ := ⟨_, rfl⟩
               replace H : (q7.l2 k2 x3_2 ji26 (mx (rd x3_2 ((rd_T78 t106 x26_2).f0)) (rd x3_2 ((rd_T78 t106 x26_2).f1))) t106 (t106.length : Int) x26_2 (x3_2.length : Int) 0) = some r := by first | (rw [hji26] at H; exact H) | (simp only [hji26] at H ⊢; exact H)
               have hji26_ : (if (rd x3_2 ((rd_T78 t106 x26_2).f1)) < (rd x3_2 ((rd_T78 t106 x26_2).f0)) then (rd x3_2 ((rd_T78 t106 x26_2).f1)) else (rd x3_2 ((rd_T78 t106 x26_2).f0))) = ji26 := hji26
               obtain ⟨ji27, hji27⟩ : ∃ j_ : Int, (mx (rd x3_2 ((rd_T78 t106 x26_2).f0)) (rd x3_2 ((rd_T78 t106 x26_2).f1))) = j_ := ⟨_, rfl⟩
               replace H : (q7.l2 k2 x3_2 ji26 ji27 t106 (t106.length : Int) x26_2 (x3_2.length : Int) 0) = some r := by first | (rw [hji27] at H; exact H) | (simp only [hji27] at H ⊢; exact H)
               have hji27_ : (if (rd x3_2 ((rd_T78 t106 x26_2).f0)) < (rd x3_2 ((rd_T78 t106 x26_2).f1)) then (rd x3_2 ((rd_T78 t106 x26_2).f1)) else (rd x3_2 ((rd_T78 t106 x26_2).f0))) = ji27 := hji27
               have H' := Aside0.mk H
               clear H
               have p109 : 0 ≤ (x26_2 : Int) := of_decide_eq_true v3_
               have q109 : x26_2 < (t106.length : Int) := of_decide_eq_true v3_
               obtain ⟨ad109, e109, hx109_0, hx109_1⟩ := at_T78 (Kd.R_reads' HO_24.out).2.2 x26_2 p109 q109
               cases e109
               replace p109 := eq_true p109
               replace q109 := eq_true q109
               go_wp2_with (first | ((with_reducible refine gate_dst (N := 6) rfl ?_); refine box_event ?hg (N := 6) ?hd (cs := #[.int .i64 0, .int .i64 0]) (t := 78) ?hr ?_; (case hd => rfl); (case hg => rfl); (case hr => first | (go_simp; done) | (go_simp; rfl)); intro gb110 hg w28 hbox hb; have n0_ := Aside0.mk (Kd.R_below v54_ hb); have n1_ := Aside0.mk (Kd.R_below (Kd.R_elderB v51_ gb110 (Nat.le_of_eq hg.symm)) hb); have n2_ := Aside0.mk (blk_below (g := gb101) (o := .cells #[.int .i64 a0_0, .slice A0_1 l0_1.length c0_1] 42 (0, 0)) v2_ hb); have n3_ := Aside0.mk (below_step v0_ hb); have n4_ := Aside0.mk (hbox); have n5_ := Aside0.mk (v74_); have n6_ := Aside0.mk (v74_); have n7_ := Aside0.mk (v68_); have n8_ := Aside0.mk (v70_); clear HO_3; clear HO_24; clear BK101; clear HB; have HO_3 := n0_; have HO_24 := n1_; have BK101 := n2_; have HB := n3_; have BK110 := n4_; have GW110 := n5_; have GE110 := n6_; have NB101_110 := n7_; have NB110_101 := n8_; clear n0_ n1_ n2_ n3_ n4_ n5_ n6_ n7_ n8_; clear hb hbox hg; have hnb29 := NB110_101.out; have hnc29 := NB101_110.out; have hcz30_0 : w28.cell? ⟨gb110, 0, none⟩ = some (.int .i64 0) := (blk_cell BK110.out 0).trans rfl; have hcz30_1 : w28.cell? ⟨gb110, 1, none⟩ = some (.int .i64 0) := (blk_cell BK110.out 1).trans rfl; have hfz30_0 := blk_frozen BK110.out 0; have hfz30_1 := blk_frozen BK110.out 1; have p111 : 0 ≤ (((rd_T78 t106 x26_2).f0) : Int) := of_decide_eq_true v3_; have q111 : ((rd_T78 t106 x26_2).f0) < (x3_2.length : Int) := of_decide_eq_true v3_; obtain ⟨ad111, e111, hx111_0⟩ := Kd.at_int (Kd.R_reads' HO_3.out).2.2 ((rd_T78 t106 x26_2).f0) p111 q111; cases e111; have hn111_0 : ad111.block ≠ gb110 := Kd.own_blk (Kd.R_ne HO_3.out BK110.out v55_); have hn111_1 : ad111.block ≠ gb110 := Kd.own_blk (Kd.R_ne HO_3.out BK110.out v55_); replace hx111_0 := (cell_far (p := ⟨gb110, 0, none⟩) v84_ (.int .i64 ((rd_T78 t106 x26_2).f0))).trans hx111_0; replace hx111_0 := (cell_far (p := ⟨gb110, 1, none⟩) v83_ (.int .i64 ((rd_T78 t106 x26_2).f1))).trans hx111_0; (try have hy111_0 := fun (n_ : Nat) => (show ((((w28.drewN n_).setCell ⟨gb110, 0, none⟩ (.int .i64 ((rd_T78 t106 x26_2).f0))).setCell ⟨gb110, 1, none⟩ (.int .i64 ((rd_T78 t106 x26_2).f1)))).cell? _ = some _ from hx111_0)); clear hn111_0; clear hn111_1; replace p111 := eq_true p111; replace q111 := eq_true q111; have p112 : 0 ≤ (((rd_T78 t106 x26_2).f1) : Int) := of_decide_eq_true v3_; have q112 : ((rd_T78 t106 x26_2).f1) < (x3_2.length : Int) := of_decide_eq_true v3_; obtain ⟨ad112, e112, hx112_0⟩ := Kd.at_int (Kd.R_reads' HO_3.out).2.2 ((rd_T78 t106 x26_2).f1) p112 q112; obtain rfl : ad111 = ad112 := (by injection e112); have hn112_0 : ad111.block ≠ gb110 := Kd.own_blk (Kd.R_ne HO_3.out BK110.out v55_); have hn112_1 : ad111.block ≠ gb110 := Kd.own_blk (Kd.R_ne HO_3.out BK110.out v55_); replace hx112_0 := (cell_far (p := ⟨gb110, 0, none⟩) v82_ (.int .i64 ((rd_T78 t106 x26_2).f0))).trans hx112_0; replace hx112_0 := (cell_far (p := ⟨gb110, 1, none⟩) v81_ (.int .i64 ((rd_T78 t106 x26_2).f1))).trans hx112_0; (try have hy112_0 := fun (n_ : Nat) => (show ((((w28.drewN n_).setCell ⟨gb110, 0, none⟩ (.int .i64 ((rd_T78 t106 x26_2).f0))).setCell ⟨gb110, 1, none⟩ (.int .i64 ((rd_T78 t106 x26_2).f1)))).cell? _ = some _ from hx112_0)); clear hn112_0; clear hn112_1; replace p112 := eq_true p112; replace q112 := eq_true q112; have p113 : 0 ≤ (((rd_T78 t106 x26_2).f0) : Int) := of_decide_eq_true v3_; have q113 : ((rd_T78 t106 x26_2).f0) < (x3_2.length : Int) := of_decide_eq_true v3_; obtain ⟨ad113, e113, hx113_0⟩ := Kd.at_int (Kd.R_reads' HO_3.out).2.2 ((rd_T78 t106 x26_2).f0) p113 q113; obtain rfl : ad111 = ad113 := (by injection e113); have hn113_0 : ad111.block ≠ gb110 := Kd.own_blk (Kd.R_ne HO_3.out BK110.out v55_); have hn113_1 : ad111.block ≠ gb110 := Kd.own_blk (Kd.R_ne HO_3.out BK110.out v55_); replace hx113_0 := (cell_far (p := ⟨gb110, 0, none⟩) v80_ (.int .i64 ((rd_T78 t106 x26_2).f0))).trans hx113_0; replace hx113_0 := (cell_far (p := ⟨gb110, 1, none⟩) v79_ (.int .i64 ((rd_T78 t106 x26_2).f1))).trans hx113_0; (try have hy113_0 := fun (n_ : Nat) => (show ((((w28.drewN n_).setCell ⟨gb110, 0, none⟩ (.int .i64 ((rd_T78 t106 x26_2).f0))).setCell ⟨gb110, 1, none⟩ (.int .i64 ((rd_T78 t106 x26_2).f1)))).cell? _ = some _ from hx113_0)); clear hn113_0; clear hn113_1; replace p113 := eq_true p113; replace q113 := eq_true q113; have p114 : 0 ≤ (((rd_T78 t106 x26_2).f1) : Int) := of_decide_eq_true v3_; have q114 : ((rd_T78 t106 x26_2).f1) < (x3_2.length : Int) := of_decide_eq_true v3_; obtain ⟨ad114, e114, hx114_0⟩ := Kd.at_int (Kd.R_reads' HO_3.out).2.2 ((rd_T78 t106 x26_2).f1) p114 q114; obtain rfl : ad111 = ad114 := (by injection e114); have hn114_0 : ad111.block ≠ gb110 := Kd.own_blk (Kd.R_ne HO_3.out BK110.out v55_); have hn114_1 : ad111.block ≠ gb110 := Kd.own_blk (Kd.R_ne HO_3.out BK110.out v55_); replace hx114_0 := (cell_far (p := ⟨gb110, 0, none⟩) v78_ (.int .i64 ((rd_T78 t106 x26_2).f0))).trans hx114_0; replace hx114_0 := (cell_far (p := ⟨gb110, 1, none⟩) v77_ (.int .i64 ((rd_T78 t106 x26_2).f1))).trans hx114_0; (try have hy114_0 := fun (n_ : Nat) => (show ((((w28.drewN n_).setCell ⟨gb110, 0, none⟩ (.int .i64 ((rd_T78 t106 x26_2).f0))).setCell ⟨gb110, 1, none⟩ (.int .i64 ((rd_T78 t106 x26_2).f1)))).cell? _ = some _ from hx114_0)); clear hn114_0; clear hn114_1; replace p114 := eq_true p114; replace q114 := eq_true q114))
               repeat (go_quiet (first | ((with_reducible refine gate_dst (N := 6) rfl ?_); refine box_event ?hg (N := 6) ?hd (cs := #[.int .i64 0, .int .i64 0]) (t := 78) ?hr ?_; (case hd => rfl); (case hg => rfl); (case hr => first | (go_simp; done) | (go_simp; rfl)); intro gb110 hg w28 hbox hb; have n0_ := Aside0.mk (Kd.R_below v54_ hb); have n1_ := Aside0.mk (Kd.R_below (Kd.R_elderB v51_ gb110 (Nat.le_of_eq hg.symm)) hb); have n2_ := Aside0.mk (blk_below (g := gb101) (o := .cells #[.int .i64 a0_0, .slice A0_1 l0_1.length c0_1] 42 (0, 0)) v2_ hb); have n3_ := Aside0.mk (below_step v0_ hb); have n4_ := Aside0.mk (hbox); have n5_ := Aside0.mk (v74_); have n6_ := Aside0.mk (v74_); have n7_ := Aside0.mk (v68_); have n8_ := Aside0.mk (v70_); clear HO_3; clear HO_24; clear BK101; clear HB; have HO_3 := n0_; have HO_24 := n1_; have BK101 := n2_; have HB := n3_; have BK110 := n4_; have GW110 := n5_; have GE110 := n6_; have NB101_110 := n7_; have NB110_101 := n8_; clear n0_ n1_ n2_ n3_ n4_ n5_ n6_ n7_ n8_; clear hb hbox hg; have hnb29 := NB110_101.out; have hnc29 := NB101_110.out; have hcz30_0 : w28.cell? ⟨gb110, 0, none⟩ = some (.int .i64 0) := (blk_cell BK110.out 0).trans rfl; have hcz30_1 : w28.cell? ⟨gb110, 1, none⟩ = some (.int .i64 0) := (blk_cell BK110.out 1).trans rfl; have hfz30_0 := blk_frozen BK110.out 0; have hfz30_1 := blk_frozen BK110.out 1; have p111 : 0 ≤ (((rd_T78 t106 x26_2).f0) : Int) := of_decide_eq_true v3_; have q111 : ((rd_T78 t106 x26_2).f0) < (x3_2.length : Int) := of_decide_eq_true v3_; obtain ⟨ad111, e111, hx111_0⟩ := Kd.at_int (Kd.R_reads' HO_3.out).2.2 ((rd_T78 t106 x26_2).f0) p111 q111; cases e111; have hn111_0 : ad111.block ≠ gb110 := Kd.own_blk (Kd.R_ne HO_3.out BK110.out v55_); have hn111_1 : ad111.block ≠ gb110 := Kd.own_blk (Kd.R_ne HO_3.out BK110.out v55_); replace hx111_0 := (cell_far (p := ⟨gb110, 0, none⟩) v84_ (.int .i64 ((rd_T78 t106 x26_2).f0))).trans hx111_0; replace hx111_0 := (cell_far (p := ⟨gb110, 1, none⟩) v83_ (.int .i64 ((rd_T78 t106 x26_2).f1))).trans hx111_0; (try have hy111_0 := fun (n_ : Nat) => (show ((((w28.drewN n_).setCell ⟨gb110, 0, none⟩ (.int .i64 ((rd_T78 t106 x26_2).f0))).setCell ⟨gb110, 1, none⟩ (.int .i64 ((rd_T78 t106 x26_2).f1)))).cell? _ = some _ from hx111_0)); clear hn111_0; clear hn111_1; replace p111 := eq_true p111; replace q111 := eq_true q111; have p112 : 0 ≤ (((rd_T78 t106 x26_2).f1) : Int) := of_decide_eq_true v3_; have q112 : ((rd_T78 t106 x26_2).f1) < (x3_2.length : Int) := of_decide_eq_true v3_; obtain ⟨ad112, e112, hx112_0⟩ := Kd.at_int (Kd.R_reads' HO_3.out).2.2 ((rd_T78 t106 x26_2).f1) p112 q112; obtain rfl : ad111 = ad112 := (by injection e112); have hn112_0 : ad111.block ≠ gb110 := Kd.own_blk (Kd.R_ne HO_3.out BK110.out v55_); have hn112_1 : ad111.block ≠ gb110 := Kd.own_blk (Kd.R_ne HO_3.out BK110.out v55_); replace hx112_0 := (cell_far (p := ⟨gb110, 0, none⟩) v82_ (.int .i64 ((rd_T78 t106 x26_2).f0))).trans hx112_0; replace hx112_0 := (cell_far (p := ⟨gb110, 1, none⟩) v81_ (.int .i64 ((rd_T78 t106 x26_2).f1))).trans hx112_0; (try have hy112_0 := fun (n_ : Nat) => (show ((((w28.drewN n_).setCell ⟨gb110, 0, none⟩ (.int .i64 ((rd_T78 t106 x26_2).f0))).setCell ⟨gb110, 1, none⟩ (.int .i64 ((rd_T78 t106 x26_2).f1)))).cell? _ = some _ from hx112_0)); clear hn112_0; clear hn112_1; replace p112 := eq_true p112; replace q112 := eq_true q112; have p113 : 0 ≤ (((rd_T78 t106 x26_2).f0) : Int) := of_decide_eq_true v3_; have q113 : ((rd_T78 t106 x26_2).f0) < (x3_2.length : Int) := of_decide_eq_true v3_; obtain ⟨ad113, e113, hx113_0⟩ := Kd.at_int (Kd.R_reads' HO_3.out).2.2 ((rd_T78 t106 x26_2).f0) p113 q113; obtain rfl : ad111 = ad113 := (by injection e113); have hn113_0 : ad111.block ≠ gb110 := Kd.own_blk (Kd.R_ne HO_3.out BK110.out v55_); have hn113_1 : ad111.block ≠ gb110 := Kd.own_blk (Kd.R_ne HO_3.out BK110.out v55_); replace hx113_0 := (cell_far (p := ⟨gb110, 0, none⟩) v80_ (.int .i64 ((rd_T78 t106 x26_2).f0))).trans hx113_0; replace hx113_0 := (cell_far (p := ⟨gb110, 1, none⟩) v79_ (.int .i64 ((rd_T78 t106 x26_2).f1))).trans hx113_0; (try have hy113_0 := fun (n_ : Nat) => (show ((((w28.drewN n_).setCell ⟨gb110, 0, none⟩ (.int .i64 ((rd_T78 t106 x26_2).f0))).setCell ⟨gb110, 1, none⟩ (.int .i64 ((rd_T78 t106 x26_2).f1)))).cell? _ = some _ from hx113_0)); clear hn113_0; clear hn113_1; replace p113 := eq_true p113; replace q113 := eq_true q113; have p114 : 0 ≤ (((rd_T78 t106 x26_2).f1) : Int) := of_decide_eq_true v3_; have q114 : ((rd_T78 t106 x26_2).f1) < (x3_2.length : Int) := of_decide_eq_true v3_; obtain ⟨ad114, e114, hx114_0⟩ := Kd.at_int (Kd.R_reads' HO_3.out).2.2 ((rd_T78 t106 x26_2).f1) p114 q114; obtain rfl : ad111 = ad114 := (by injection e114); have hn114_0 : ad111.block ≠ gb110 := Kd.own_blk (Kd.R_ne HO_3.out BK110.out v55_); have hn114_1 : ad111.block ≠ gb110 := Kd.own_blk (Kd.R_ne HO_3.out BK110.out v55_); replace hx114_0 := (cell_far (p := ⟨gb110, 0, none⟩) v78_ (.int .i64 ((rd_T78 t106 x26_2).f0))).trans hx114_0; replace hx114_0 := (cell_far (p := ⟨gb110, 1, none⟩) v77_ (.int .i64 ((rd_T78 t106 x26_2).f1))).trans hx114_0; (try have hy114_0 := fun (n_ : Nat) => (show ((((w28.drewN n_).setCell ⟨gb110, 0, none⟩ (.int .i64 ((rd_T78 t106 x26_2).f0))).setCell ⟨gb110, 1, none⟩ (.int .i64 ((rd_T78 t106 x26_2).f1)))).cell? _ = some _ from hx114_0)); clear hn114_0; clear hn114_1; replace p114 := eq_true p114; replace q114 := eq_true q114)); try go_wp2_with (first | ((with_reducible refine gate_dst (N := 6) rfl ?_); refine box_event ?hg (N := 6) ?hd (cs := #[.int .i64 0, .int .i64 0]) (t := 78) ?hr ?_; (case hd => rfl); (case hg => rfl); (case hr => first | (go_simp; done) | (go_simp; rfl)); intro gb110 hg w28 hbox hb; have n0_ := Aside0.mk (Kd.R_below v54_ hb); have n1_ := Aside0.mk (Kd.R_below (Kd.R_elderB v51_ gb110 (Nat.le_of_eq hg.symm)) hb); have n2_ := Aside0.mk (blk_below (g := gb101) (o := .cells #[.int .i64 a0_0, .slice A0_1 l0_1.length c0_1] 42 (0, 0)) v2_ hb); have n3_ := Aside0.mk (below_step v0_ hb); have n4_ := Aside0.mk (hbox); have n5_ := Aside0.mk (v74_); have n6_ := Aside0.mk (v74_); have n7_ := Aside0.mk (v68_); have n8_ := Aside0.mk (v70_); clear HO_3; clear HO_24; clear BK101; clear HB; have HO_3 := n0_; have HO_24 := n1_; have BK101 := n2_; have HB := n3_; have BK110 := n4_; have GW110 := n5_; have GE110 := n6_; have NB101_110 := n7_; have NB110_101 := n8_; clear n0_ n1_ n2_ n3_ n4_ n5_ n6_ n7_ n8_; clear hb hbox hg; have hnb29 := NB110_101.out; have hnc29 := NB101_110.out; have hcz30_0 : w28.cell? ⟨gb110, 0, none⟩ = some (.int .i64 0) := (blk_cell BK110.out 0).trans rfl; have hcz30_1 : w28.cell? ⟨gb110, 1, none⟩ = some (.int .i64 0) := (blk_cell BK110.out 1).trans rfl; have hfz30_0 := blk_frozen BK110.out 0; have hfz30_1 := blk_frozen BK110.out 1; have p111 : 0 ≤ (((rd_T78 t106 x26_2).f0) : Int) := of_decide_eq_true v3_; have q111 : ((rd_T78 t106 x26_2).f0) < (x3_2.length : Int) := of_decide_eq_true v3_; obtain ⟨ad111, e111, hx111_0⟩ := Kd.at_int (Kd.R_reads' HO_3.out).2.2 ((rd_T78 t106 x26_2).f0) p111 q111; cases e111; have hn111_0 : ad111.block ≠ gb110 := Kd.own_blk (Kd.R_ne HO_3.out BK110.out v55_); have hn111_1 : ad111.block ≠ gb110 := Kd.own_blk (Kd.R_ne HO_3.out BK110.out v55_); replace hx111_0 := (cell_far (p := ⟨gb110, 0, none⟩) v84_ (.int .i64 ((rd_T78 t106 x26_2).f0))).trans hx111_0; replace hx111_0 := (cell_far (p := ⟨gb110, 1, none⟩) v83_ (.int .i64 ((rd_T78 t106 x26_2).f1))).trans hx111_0; (try have hy111_0 := fun (n_ : Nat) => (show ((((w28.drewN n_).setCell ⟨gb110, 0, none⟩ (.int .i64 ((rd_T78 t106 x26_2).f0))).setCell ⟨gb110, 1, none⟩ (.int .i64 ((rd_T78 t106 x26_2).f1)))).cell? _ = some _ from hx111_0)); clear hn111_0; clear hn111_1; replace p111 := eq_true p111; replace q111 := eq_true q111; have p112 : 0 ≤ (((rd_T78 t106 x26_2).f1) : Int) := of_decide_eq_true v3_; have q112 : ((rd_T78 t106 x26_2).f1) < (x3_2.length : Int) := of_decide_eq_true v3_; obtain ⟨ad112, e112, hx112_0⟩ := Kd.at_int (Kd.R_reads' HO_3.out).2.2 ((rd_T78 t106 x26_2).f1) p112 q112; obtain rfl : ad111 = ad112 := (by injection e112); have hn112_0 : ad111.block ≠ gb110 := Kd.own_blk (Kd.R_ne HO_3.out BK110.out v55_); have hn112_1 : ad111.block ≠ gb110 := Kd.own_blk (Kd.R_ne HO_3.out BK110.out v55_); replace hx112_0 := (cell_far (p := ⟨gb110, 0, none⟩) v82_ (.int .i64 ((rd_T78 t106 x26_2).f0))).trans hx112_0; replace hx112_0 := (cell_far (p := ⟨gb110, 1, none⟩) v81_ (.int .i64 ((rd_T78 t106 x26_2).f1))).trans hx112_0; (try have hy112_0 := fun (n_ : Nat) => (show ((((w28.drewN n_).setCell ⟨gb110, 0, none⟩ (.int .i64 ((rd_T78 t106 x26_2).f0))).setCell ⟨gb110, 1, none⟩ (.int .i64 ((rd_T78 t106 x26_2).f1)))).cell? _ = some _ from hx112_0)); clear hn112_0; clear hn112_1; replace p112 := eq_true p112; replace q112 := eq_true q112; have p113 : 0 ≤ (((rd_T78 t106 x26_2).f0) : Int) := of_decide_eq_true v3_; have q113 : ((rd_T78 t106 x26_2).f0) < (x3_2.length : Int) := of_decide_eq_true v3_; obtain ⟨ad113, e113, hx113_0⟩ := Kd.at_int (Kd.R_reads' HO_3.out).2.2 ((rd_T78 t106 x26_2).f0) p113 q113; obtain rfl : ad111 = ad113 := (by injection e113); have hn113_0 : ad111.block ≠ gb110 := Kd.own_blk (Kd.R_ne HO_3.out BK110.out v55_); have hn113_1 : ad111.block ≠ gb110 := Kd.own_blk (Kd.R_ne HO_3.out BK110.out v55_); replace hx113_0 := (cell_far (p := ⟨gb110, 0, none⟩) v80_ (.int .i64 ((rd_T78 t106 x26_2).f0))).trans hx113_0; replace hx113_0 := (cell_far (p := ⟨gb110, 1, none⟩) v79_ (.int .i64 ((rd_T78 t106 x26_2).f1))).trans hx113_0; (try have hy113_0 := fun (n_ : Nat) => (show ((((w28.drewN n_).setCell ⟨gb110, 0, none⟩ (.int .i64 ((rd_T78 t106 x26_2).f0))).setCell ⟨gb110, 1, none⟩ (.int .i64 ((rd_T78 t106 x26_2).f1)))).cell? _ = some _ from hx113_0)); clear hn113_0; clear hn113_1; replace p113 := eq_true p113; replace q113 := eq_true q113; have p114 : 0 ≤ (((rd_T78 t106 x26_2).f1) : Int) := of_decide_eq_true v3_; have q114 : ((rd_T78 t106 x26_2).f1) < (x3_2.length : Int) := of_decide_eq_true v3_; obtain ⟨ad114, e114, hx114_0⟩ := Kd.at_int (Kd.R_reads' HO_3.out).2.2 ((rd_T78 t106 x26_2).f1) p114 q114; obtain rfl : ad111 = ad114 := (by injection e114); have hn114_0 : ad111.block ≠ gb110 := Kd.own_blk (Kd.R_ne HO_3.out BK110.out v55_); have hn114_1 : ad111.block ≠ gb110 := Kd.own_blk (Kd.R_ne HO_3.out BK110.out v55_); replace hx114_0 := (cell_far (p := ⟨gb110, 0, none⟩) v78_ (.int .i64 ((rd_T78 t106 x26_2).f0))).trans hx114_0; replace hx114_0 := (cell_far (p := ⟨gb110, 1, none⟩) v77_ (.int .i64 ((rd_T78 t106 x26_2).f1))).trans hx114_0; (try have hy114_0 := fun (n_ : Nat) => (show ((((w28.drewN n_).setCell ⟨gb110, 0, none⟩ (.int .i64 ((rd_T78 t106 x26_2).f0))).setCell ⟨gb110, 1, none⟩ (.int .i64 ((rd_T78 t106 x26_2).f1)))).cell? _ = some _ from hx114_0)); clear hn114_0; clear hn114_1; replace p114 := eq_true p114; replace q114 := eq_true q114)))
               go_loopg [54] k2 (fun kq v54 w' => ∃ (x3_3 : List Int) (x54_3 : Int), v54 = .int .i64 x54_3 ∧ Aside0 (q7.l2 kq x3_3 ji26 ji27 t106 (t106.length : Int) x26_2 (x3_2.length : Int) x54_3 = some r) ∧ Aside0 (kq ≤ k2) ∧ Aside0 (Kd.R (Kd.int .i64) 3 w' w.heap.size (fun _ => True) (.slice (some ad111) x3_2.length co8) x3_3) ∧ Aside0 (Kd.R k78 78 w' w.heap.size (fun k_ => k_ ≠ gb110) (.slice (some ad109) t106.length co18) t106) ∧ Aside0 (w'.heap[gb101]? = some (.cells #[.int .i64 a0_0, (.slice A0_1 l0_1.length c0_1)] 42 (0, 0))) ∧ Aside0 (w'.heap[gb110]? = some (.cells #[.int .i64 ((rd_T78 t106 x26_2).f0), .int .i64 ((rd_T78 t106 x26_2).f1)] 78 (0, 0))) ∧ Aside0 (Below w.heap.size w w'))
               case atStart => exact ⟨(x3_2), (0), v12_, H', ⟨Nat.le_refl _⟩, ⟨by (try simp only [hl3_1]); (try simp only [hl3_2]); (with_reducible repeat (first | apply Kd.R_alloc | apply Kd.R_drewN | apply Kd.R_drew)); exact Kd.R_mono (Kd.R_far (p := ⟨gb110, 1, none⟩) (Kd.R_far (p := ⟨gb110, 0, none⟩) (Kd.R_types HO_3.out BK110.out v55_) (fun _ hk => hk.2) (.int .i64 ((rd_T78 t106 x26_2).f0))) (fun _ hk => hk.2) (.int .i64 ((rd_T78 t106 x26_2).f1))) (fun _ hk => trivial)⟩, ⟨by (try simp only [hl3_1]); (try simp only [hl3_2]); (with_reducible repeat (first | apply Kd.R_alloc | apply Kd.R_drewN | apply Kd.R_drew)); exact Kd.R_mono (Kd.R_far (p := ⟨gb110, 1, none⟩) (Kd.R_far (p := ⟨gb110, 0, none⟩) (Kd.R_mono HO_24.out (fun k_ hk => (⟨hk, hk.2⟩ : _ ∧ k_ ≠ gb110))) (fun _ hk => hk.2) (.int .i64 ((rd_T78 t106 x26_2).f0))) (fun _ hk => hk.2) (.int .i64 ((rd_T78 t106 x26_2).f1))) (fun _ hk => hk.1.2)⟩, ⟨by (try simp only [hl3_1]); (try simp only [hl3_2]); (with_reducible repeat (first | refine blk_drewN ?_ _ | refine blk_drew ?_ | refine blk_alloc ?_ _)); refine blk_far ?_ NB101_110.out _; (with_reducible repeat (first | refine blk_drewN ?_ _ | refine blk_drew ?_ | refine blk_alloc ?_ _)); refine blk_far ?_ NB101_110.out _; (with_reducible repeat (first | refine blk_drewN ?_ _ | refine blk_drew ?_ | refine blk_alloc ?_ _)); exact BK101.out⟩, ⟨by (try simp only [hl3_1]); (try simp only [hl3_2]); (with_reducible repeat (first | refine blk_drewN ?_ _ | refine blk_drew ?_ | refine blk_alloc ?_ _)); refine blk_put (cs := #[.int .i64 ((rd_T78 t106 x26_2).f0), .int .i64 0]) ?_ 1 _ rfl; (with_reducible repeat (first | refine blk_drewN ?_ _ | refine blk_drew ?_ | refine blk_alloc ?_ _)); refine blk_put (cs := #[.int .i64 0, .int .i64 0]) ?_ 0 _ rfl; (with_reducible repeat (first | refine blk_drewN ?_ _ | refine blk_drew ?_ | refine blk_alloc ?_ _)); exact BK110.out⟩, ⟨v44_⟩⟩
               case round => as_aux_lemma =>
                clear H'
                try clear c1
                try clear p1
                try clear q1
                try clear hx1
                try clear hf1
                try clear c2
                try clear c2b0
                try clear c2b1
                try clear p2
                try clear c3
                try clear c3b0
                try clear c3b1
                try clear c5
                try clear p6
                try clear c9
                try clear c9b0
                try clear c10
                try clear c10b0
                try clear p10
                try clear q10
                try clear hx10
                try clear c11
                try clear c11b0
                try clear p11
                try clear q11
                try clear hx11
                try clear p12
                try clear q12
                try clear hx12
                try clear hf12
                try clear c19
                try clear c19b0
                try clear c20
                try clear c20b0
                try clear c21
                try clear c21b0
                try clear c22
                try clear c22b0
                try clear c23
                try clear c23b0
                try clear c24
                try clear c24b0
                try clear c25
                try clear c25b0
                try clear c29
                try clear hcz16_0
                try clear hcz16_1
                try clear hcz30_0
                try clear hcz30_1
                try clear hcz5_0
                try clear hcz5_1
                try clear hfz16_0
                try clear hfz16_1
                try clear hfz30_0
                try clear hfz30_1
                try clear hfz5_0
                try clear hfz5_1
                try clear hx109_0
                try clear hx109_1
                try clear hx111_0
                try clear hx112_0
                try clear hx113_0
                try clear hx114_0
                try clear hx12_0
                try clear p1
                try clear p109
                try clear p111
                try clear p112
                try clear p113
                try clear p114
                try clear p12
                try clear p2
                try clear p6
                try clear q1
                try clear q109
                try clear q111
                try clear q112
                try clear q113
                try clear q114
                try clear q12
                obtain ⟨x3_3, x54_3, rfl, HA, HK3, HO_3, HO_24, BK101, BK110, HB⟩ := hrel
                have hl3_3 := (Kd.R_reads' HO_3.out).1
                rw [hl3_3] at HO_3
                (try simp only [hl3_3])
                (try simp only [hl3_3] at BK101)
                (try simp only [hl3_3] at BK110)
                (try simp only [hl3_3] at HO_24)
                cases gk with
                | zero => exact absurd HA.out (by simp [q7.l2])
                | succ k3 =>
                 have H := HA.out
                 clear HA
                 simp only [q7.l2] at H
                 by_cases c31 : x54_3 < (x3_2.length : Int)
                 ·rw [if_pos c31] at H
                  have c31b0 : decide (x54_3 < (x3_2.length : Int)) = true := decide_eq_true c31
                  clear c31
                  by_cases c32 : 0 ≤ x54_3
                  ·rw [if_pos c32] at H
                   have c32b0 : decide (0 ≤ x54_3) = true := decide_eq_true c32
                   clear c32
                   by_cases c33 : x54_3 < (x3_3.length : Int)
                   ·rw [if_pos c33] at H
                    have c33b0 : decide (x54_3 < (x3_3.length : Int)) = true := decide_eq_true c33
                    clear c33
                    by_cases c34 : (rd x3_3 x54_3) = ji27
                    ·rw [if_pos c34] at H
                     have c34b0 : ((rd x3_3 x54_3) == ji27) = true := beq_iff_eq.mpr c34
                     have c34b1 : ((rd x3_3 x54_3) != ji27) = false := bne_eq_false_iff_eq.mpr c34
                     clear c34
                     obtain ⟨y116, hy116⟩ : ∃ y_ : List Int, y_ = (x3_3.set (x54_3 : Int).toNat ji26) := ⟨_, rfl⟩
                     replace H : (q7.l2 k3 y116 ji26 ji27 t106 (t106.length : Int) x26_2 (x3_2.length : Int) (wrap64 (x54_3 + 1))) = some r := by first | (rw [hy116]; with_reducible exact H) | (have H2_ := (Option.bind_some _ _).symm.trans H; rw [hy116]; with_reducible exact H2_) | (have H2_ := (Option.bind_some _ _).symm.trans H; with_reducible exact H2_) | with_reducible exact H | (rw [hy116]; exact H) | exact H
                     have Ny116 := Aside0.mk hy116
                     clear hy116
                     have H' := Aside0.mk H
                     clear H
                     have p115 : 0 ≤ (x54_3 : Int) := of_decide_eq_true v3_
                     have q115 : x54_3 < (x3_3.length : Int) := of_decide_eq_true v3_
                     obtain ⟨ad115, e115, hx115_0⟩ := Kd.at_int (Kd.R_reads' HO_3.out).2.2 x54_3 p115 q115
                     obtain rfl : ad111 = ad115 := (by injection e115)
                     replace p115 := eq_true p115
                     replace q115 := eq_true q115
                     have p35 : 0 ≤ (x54_3 : Int) := of_decide_eq_true v3_
                     have q35 : (x54_3 : Int) < ((x3_3.length : Int) : Int) := of_decide_eq_true v3_
                     obtain ⟨go35, co35, eo35, gb35, gl35, cl35, HG35⟩ := Kd.R_form HO_3.out v93_
                     (first | cases eo35 | (injection eo35 with ea_ en_ ec_; (first | subst ea_ | (injection ea_ with ea_; subst ea_)); subst ec_; clear en_))
                     (try simp only [add_plain] at *)
                     have GB35 := Aside0.mk gb35
                     have GG35 := Aside0.mk HG35
                     clear gb35 gl35 HG35
                     (first | simp only [add_plain] at hx111_0 | skip)
                     (first | simp only [add_plain] at hx112_0 | skip)
                     (first | simp only [add_plain] at hx113_0 | skip)
                     (first | simp only [add_plain] at hx114_0 | skip)
                     (first | simp only [add_plain] at hx115_0 | skip)
                     obtain ⟨hx35_0, hf35_0⟩ := Kd.R_celln 0 HO_3.out (x54_3 : Int) p35 q35
                     (try simp only [Int.toNat_natCast] at hx35_0 hf35_0)
                     replace p35 := eq_true p35
                     replace q35 := eq_true q35
                     have HP36 := Kd.R_putg HO_3.out (x54_3 : Int) ji26
                     go_wp2_with (first | ((with_reducible refine gate_store (t := 3) (p := 66) rfl ?_); (try (rw [drewN_self wr]; generalize hq_ : World.drewN wr _ = wr; have n0_ := Aside0.mk (Kd.R_at hq_ HO_3.out); have n1_ := Aside0.mk (Kd.R_at hq_ HO_24.out); have n2_ := Aside0.mk (blk_at hq_ BK101.out); have n3_ := Aside0.mk (blk_at hq_ BK110.out); have n4_ := Aside0.mk (below_at hq_ HB.out); clear hq_ HO_3 HO_24 BK101 BK110 HB; have HO_3 := n0_; have HO_24 := n1_; have BK101 := n2_; have BK110 := n3_; have HB := n4_; clear n0_ n1_ n2_ n3_ n4_; (try (obtain ⟨hy36_, hz36_⟩ := Kd.R_celln 0 HO_3.out (x54_3 : Int) (of_decide_eq_true v3_) (of_decide_eq_true v3_))); (try (have HP36 := Kd.R_putg HO_3.out (x54_3 : Int) ji26)))); refine store_event (t := 3) (p := 66) (v := ?vo_w37) (w1 := (wr.setCell ⟨go35, (x54_3 : Int).toNat, none⟩ (.int .i64 ji26))) ?hg ?ho ?hn ?hr ?_; (case ho => rfl); (case hg => rfl); (case hn => rfl); (case hr => first | (go_simp; done) | (go_simp; rfl)); intro w37 hw; have hg : wr.grownBy w37 (some go35) := (by rw [hw]; exact HP36.2); have hp_ : Kd.R (Kd.int .i64) 3 w37 w.heap.size (fun _ => True) (.slice (some ⟨go35, 0, none⟩) x3_3.length co8) y116 := (by rw [hw, Ny116.out]; exact HP36.1); clear HP36; have n0_ := Aside0.mk (hp_); have n1_ := Aside0.mk (Kd.R_over' (v := (.slice (some ⟨go35, 0, none⟩) x3_3.length co8)) v51_ (Kd.R_typed HO_3.out) v55_ hg); have n2_ := Aside0.mk (blk_grown (g := gb101) (o := .cells #[.int .i64 a0_0, .slice A0_1 l0_1.length c0_1] 42 (0, 0)) v2_ hg (Kd.R_ne HO_3.out BK101.out v55_)); have n3_ := Aside0.mk (blk_grown (g := gb110) (o := .cells #[.int .i64 ((rd_T78 t106 x26_2).f0), .int .i64 ((rd_T78 t106 x26_2).f1)] 78 (0, 0)) v87_ hg (Kd.R_ne HO_3.out BK110.out v55_)); have n4_ := Aside0.mk (v98_); clear HO_3; clear HO_24; clear BK101; clear BK110; clear HB; have HO_3 := n0_; have HO_24 := n1_; have BK101 := n2_; have BK110 := n3_; have HB := n4_; clear n0_ n1_ n2_ n3_ n4_; clear hg hw hp_))
                     repeat (go_quiet (first | ((with_reducible refine gate_store (t := 3) (p := 66) rfl ?_); (try (rw [drewN_self wr]; generalize hq_ : World.drewN wr _ = wr; have n0_ := Aside0.mk (Kd.R_at hq_ HO_3.out); have n1_ := Aside0.mk (Kd.R_at hq_ HO_24.out); have n2_ := Aside0.mk (blk_at hq_ BK101.out); have n3_ := Aside0.mk (blk_at hq_ BK110.out); have n4_ := Aside0.mk (below_at hq_ HB.out); clear hq_ HO_3 HO_24 BK101 BK110 HB; have HO_3 := n0_; have HO_24 := n1_; have BK101 := n2_; have BK110 := n3_; have HB := n4_; clear n0_ n1_ n2_ n3_ n4_; (try (obtain ⟨hy36_, hz36_⟩ := Kd.R_celln 0 HO_3.out (x54_3 : Int) (of_decide_eq_true v3_) (of_decide_eq_true v3_))); (try (have HP36 := Kd.R_putg HO_3.out (x54_3 : Int) ji26)))); refine store_event (t := 3) (p := 66) (v := ?vo_w37) (w1 := (wr.setCell ⟨go35, (x54_3 : Int).toNat, none⟩ (.int .i64 ji26))) ?hg ?ho ?hn ?hr ?_; (case ho => rfl); (case hg => rfl); (case hn => rfl); (case hr => first | (go_simp; done) | (go_simp; rfl)); intro w37 hw; have hg : wr.grownBy w37 (some go35) := (by rw [hw]; exact HP36.2); have hp_ : Kd.R (Kd.int .i64) 3 w37 w.heap.size (fun _ => True) (.slice (some ⟨go35, 0, none⟩) x3_3.length co8) y116 := (by rw [hw, Ny116.out]; exact HP36.1); clear HP36; have n0_ := Aside0.mk (hp_); have n1_ := Aside0.mk (Kd.R_over' (v := (.slice (some ⟨go35, 0, none⟩) x3_3.length co8)) v51_ (Kd.R_typed HO_3.out) v55_ hg); have n2_ := Aside0.mk (blk_grown (g := gb101) (o := .cells #[.int .i64 a0_0, .slice A0_1 l0_1.length c0_1] 42 (0, 0)) v2_ hg (Kd.R_ne HO_3.out BK101.out v55_)); have n3_ := Aside0.mk (blk_grown (g := gb110) (o := .cells #[.int .i64 ((rd_T78 t106 x26_2).f0), .int .i64 ((rd_T78 t106 x26_2).f1)] 78 (0, 0)) v87_ hg (Kd.R_ne HO_3.out BK110.out v55_)); have n4_ := Aside0.mk (v98_); clear HO_3; clear HO_24; clear BK101; clear BK110; clear HB; have HO_3 := n0_; have HO_24 := n1_; have BK101 := n2_; have BK110 := n3_; have HB := n4_; clear n0_ n1_ n2_ n3_ n4_; clear hg hw hp_)); try go_wp2_with (first | ((with_reducible refine gate_store (t := 3) (p := 66) rfl ?_); (try (rw [drewN_self wr]; generalize hq_ : World.drewN wr _ = wr; have n0_ := Aside0.mk (Kd.R_at hq_ HO_3.out); have n1_ := Aside0.mk (Kd.R_at hq_ HO_24.out); have n2_ := Aside0.mk (blk_at hq_ BK101.out); have n3_ := Aside0.mk (blk_at hq_ BK110.out); have n4_ := Aside0.mk (below_at hq_ HB.out); clear hq_ HO_3 HO_24 BK101 BK110 HB; have HO_3 := n0_; have HO_24 := n1_; have BK101 := n2_; have BK110 := n3_; have HB := n4_; clear n0_ n1_ n2_ n3_ n4_; (try (obtain ⟨hy36_, hz36_⟩ := Kd.R_celln 0 HO_3.out (x54_3 : Int) (of_decide_eq_true v3_) (of_decide_eq_true v3_))); (try (have HP36 := Kd.R_putg HO_3.out (x54_3 : Int) ji26)))); refine store_event (t := 3) (p := 66) (v := ?vo_w37) (w1 := (wr.setCell ⟨go35, (x54_3 : Int).toNat, none⟩ (.int .i64 ji26))) ?hg ?ho ?hn ?hr ?_; (case ho => rfl); (case hg => rfl); (case hn => rfl); (case hr => first | (go_simp; done) | (go_simp; rfl)); intro w37 hw; have hg : wr.grownBy w37 (some go35) := (by rw [hw]; exact HP36.2); have hp_ : Kd.R (Kd.int .i64) 3 w37 w.heap.size (fun _ => True) (.slice (some ⟨go35, 0, none⟩) x3_3.length co8) y116 := (by rw [hw, Ny116.out]; exact HP36.1); clear HP36; have n0_ := Aside0.mk (hp_); have n1_ := Aside0.mk (Kd.R_over' (v := (.slice (some ⟨go35, 0, none⟩) x3_3.length co8)) v51_ (Kd.R_typed HO_3.out) v55_ hg); have n2_ := Aside0.mk (blk_grown (g := gb101) (o := .cells #[.int .i64 a0_0, .slice A0_1 l0_1.length c0_1] 42 (0, 0)) v2_ hg (Kd.R_ne HO_3.out BK101.out v55_)); have n3_ := Aside0.mk (blk_grown (g := gb110) (o := .cells #[.int .i64 ((rd_T78 t106 x26_2).f0), .int .i64 ((rd_T78 t106 x26_2).f1)] 78 (0, 0)) v87_ hg (Kd.R_ne HO_3.out BK110.out v55_)); have n4_ := Aside0.mk (v98_); clear HO_3; clear HO_24; clear BK101; clear BK110; clear HB; have HO_3 := n0_; have HO_24 := n1_; have BK101 := n2_; have BK110 := n3_; have HB := n4_; clear n0_ n1_ n2_ n3_ n4_; clear hg hw hp_)))
                     (try simp only [← hl3_3])
                     go_roundg k3
                     case measure => have := HK1.out; have := HK2.out; have := HK3.out; omega
                     case rel => exact ⟨(y116), (wrap64 (x54_3 + 1)), v12_, H', ⟨v102_⟩, ⟨v59_⟩, ⟨v90_⟩, ⟨v57_⟩, ⟨v89_⟩, ⟨v44_⟩⟩
                    ·rw [if_neg c34] at H
                     have c34b0 : ((rd x3_3 x54_3) == ji27) = false := beq_eq_false_iff_ne.mpr c34
                     have c34b1 : ((rd x3_3 x54_3) != ji27) = true := bne_iff_ne.mpr c34
                     have H' := Aside0.mk H
                     clear H
                     have p115 : 0 ≤ (x54_3 : Int) := of_decide_eq_true v3_
                     have q115 : x54_3 < (x3_3.length : Int) := of_decide_eq_true v3_
                     obtain ⟨ad115, e115, hx115_0⟩ := Kd.at_int (Kd.R_reads' HO_3.out).2.2 x54_3 p115 q115
                     obtain rfl : ad111 = ad115 := (by injection e115)
                     replace p115 := eq_true p115
                     replace q115 := eq_true q115
                     go_wp2
                     repeat (go_quiet (fail); try go_wp2)
                     (try simp only [← hl3_3])
                     go_roundg k3
                     case measure => have := HK1.out; have := HK2.out; have := HK3.out; omega
                     case rel => exact ⟨(x3_3), (wrap64 (x54_3 + 1)), v12_, H', ⟨v102_⟩, ⟨v59_⟩, ⟨v90_⟩, ⟨v57_⟩, ⟨v89_⟩, ⟨v44_⟩⟩
                   ·rw [if_neg c33] at H
                    exact absurd H v58_
                  ·rw [if_neg c32] at H
                   exact absurd H v58_
                 ·rw [if_neg c31] at H
                  have c31b0 : decide (x54_3 < (x3_2.length : Int)) = false := decide_eq_false c31
                  (try simp only [hl3_1, hl3_2, hl3_3] at c31b0)
                  clear c31
                  have H' := Aside0.mk H
                  clear H
                  go_wp2
                  repeat (go_quiet (fail); try go_wp2)
                  (try simp only [← hl3_2, ← hl3_3])
                  go_roundg k3
                  case measure => have := HK1.out; have := HK2.out; have := HK3.out; omega
                  case rel => exact ⟨(x3_3), (wrap64 (x26_2 + 1)), v12_, H', ⟨v102_⟩, ⟨v59_⟩, ⟨by (try simp only [hl3_1]); (try simp only [hl3_2]); (try simp only [hl3_3]); (with_reducible repeat (first | apply Kd.R_alloc | apply Kd.R_drewN | apply Kd.R_drew)); exact Kd.R_mono HO_24.out (fun _ hk => trivial)⟩, ⟨v57_⟩, ⟨v44_⟩⟩
              ·rw [if_neg c25] at H
               exact absurd H v58_
             ·rw [if_neg c24] at H
              exact absurd H v58_
            ·rw [if_neg c23] at H
             exact absurd H v58_
           ·rw [if_neg c22] at H
            exact absurd H v58_
          ·rw [if_neg c21] at H
           exact absurd H v58_
         ·rw [if_neg c20] at H
          exact absurd H v58_
        ·rw [if_neg c19] at H
         have c19b0 : decide (x26_2 < (t106.length : Int)) = false := decide_eq_false c19
         (try simp only [hl3_1, hl3_2] at c19b0)
         clear c19
         obtain rfl := Option.some.inj H
         go_wp2
         repeat (go_quiet (fail); try go_wp2)
         go_ret
         exact ⟨_, by first | rfl | (simp [errW_none, errW_some] <;> rfl) | (simp [*, errW_none, errW_some] <;> rfl), by (with_reducible repeat (first | apply Kd.R_alloc | apply Kd.R_drewN | apply Kd.R_drew)); exact HO_3.out, by repeat (first | (with_reducible first | exact HB.out | apply below_alloc | apply pw_below_drewN | apply below_drew1 | refine below_set ?_ GE101.out) | exact HB.out)⟩
  ·rw [if_neg c3] at H
   exact absurd H v58_
 ·rw [if_neg c2] at H
  exact absurd H v58_
set_option maxHeartbeats 8000000 in
set_option maxRecDepth 100000 in
theorem q21.calls (k : Nat) (a0_0 : Int) (A0_1 : Option Addr) (c0_1 : Nat) (l0_1 : List (List Int)) (r : List Int) (w : World) (hr0_1 : Kd.C (Kd.slice 3 (Kd.int .i64)) w A0_1 l0_1.length l0_1) (hc0_1 : l0_1.length ≤ c0_1) (h : q21.f k a0_0 l0_1 = some r) :
 Calls Try.prog 59 #[.agg #[.int .i64 a0_0, .slice A0_1 l0_1.length c0_1]] w fun e w' => ∃ v0_ : Value, e = .returned (v0_) ∧ Kd.R (Kd.int .i64) 3 w' w.heap.size (fun _ => True) v0_ r ∧ Below w.heap.size w w' := by
 have hu42 := Try.underlying42
 have hu78 := Try.underlying78
 have HR0_1 := Aside0.mk hr0_1
 have HC0_1 := Aside0.mk hc0_1
 clear hr0_1 hc0_1
 have HB := Aside0.mk (Below.refl w.heap.size w)
 have H : ((q9.f k a0_0 l0_1).bind fun t102 => (q21.l0 k ([] : List Int) t102 (t102.length : Int) 0)) = some r := h
 clear h
 replace H := Option.bind_eq_some_iff.mp H
 obtain ⟨t102, A20, H⟩ := H
 replace H : (q21.l0 k ([] : List Int) t102 (t102.length : Int) 0) = some r := H
 have A2 := Aside0.mk A20
 clear A20
 have H' := Aside0.mk H
 clear H
 go_enter Try.func59, Try.ntmps59
 go_wp2_with (first | ((with_reducible refine gate_dst (N := 1) rfl ?_); refine box_event ?hg (N := 1) ?hd (cs := #[.int .i64 a0_0, .slice A0_1 l0_1.length c0_1]) (t := 42) ?hr ?_; (case hd => rfl); (case hg => rfl); (case hr => first | (go_simp; done) | (go_simp; rfl)); intro gb101 hg w3 hbox hb; have n0_ := Aside0.mk (below_step v1_ hb); have n1_ := Aside0.mk (hbox); have n2_ := Aside0.mk (v10_); have n3_ := Aside0.mk (v10_); clear HB; have HB := n0_; have BK101 := n1_; have GW101 := n2_; have GE101 := n3_; clear n0_ n1_ n2_ n3_; clear hb hbox hg; have hcz4_0 : w3.cell? ⟨gb101, 0, none⟩ = some (.int .i64 a0_0) := (blk_cell BK101.out 0).trans rfl; have hcz4_1 : w3.cell? ⟨gb101, 1, none⟩ = some (.slice A0_1 l0_1.length c0_1) := (blk_cell BK101.out 1).trans rfl; have hfz4_0 := blk_frozen BK101.out 0; have hfz4_1 := blk_frozen BK101.out 1) | ((with_reducible refine gate_callee (f := 81) rfl ?_); refine goesL_ (some 6) rfl rfl Try.func81 v42_ rfl #[.agg #[.int .i64 a0_0, .slice A0_1 l0_1.length c0_1]] rfl v7_ ?_; (with_reducible refine (q9.calls k a0_0 _ _ l0_1 t102 _ ?side1 ?side2 A2.out).mono ?_); (case side1 => repeat (first | exact (Kd.C_below HR0_1.out HB.out) | (with_reducible refine Kd.C_alloc ?_ _) | (with_reducible refine Kd.C_drewN ?_ _) | (with_reducible refine Kd.C_drew ?_))); (case side2 => exact HC0_1.out); rintro e w5 ⟨v103, rfl, ho0, hb⟩; refine ⟨_, rfl, ?_⟩; have n0_ := Aside0.mk (Kd.R_lower ho0 (below_size v0_)); have n1_ := Aside0.mk (blk_below (g := gb101) (o := .cells #[.int .i64 a0_0, .slice A0_1 l0_1.length c0_1] 42 (0, 0)) v2_ hb); have n2_ := Aside0.mk (below_step v0_ hb); clear BK101; clear HB; have HO104 := n0_; have BK101 := n1_; have HB := n2_; clear n0_ n1_ n2_; (try clear hb); (try clear hb2); (try clear hk); (try clear hi); (try clear ho0); obtain ⟨Ao6, co6, eo6⟩ := Kd.R_slice HO104.out; subst eo6))
 go_loopg [2, 8] k (fun kq v2 v8 w' => ∃ (x2_1 : List Int) (x8_1 : Int), v8 = .int .i64 x8_1 ∧ Aside0 (q21.l0 kq x2_1 t102 (t102.length : Int) x8_1 = some r) ∧ Aside0 (kq ≤ k) ∧ Aside0 (Kd.R (Kd.int .i64) 3 w' w.heap.size (fun _ => True) v2 x2_1) ∧ Aside0 (Kd.R k78 78 w' w.heap.size (fun _ => True) (.slice Ao6 t102.length co6) t102) ∧ Aside0 (w'.heap[gb101]? = some (.cells #[.int .i64 a0_0, (.slice A0_1 l0_1.length c0_1)] 42 (0, 0))) ∧ Aside0 (Below w.heap.size w w'))
 case atStart => exact ⟨(([] : List Int)), (0), v12_, H', ⟨Nat.le_refl _⟩, ⟨v72_⟩, ⟨v104_⟩, ⟨v6_⟩, ⟨v9_⟩⟩
 case round => as_aux_lemma =>
  clear H'
  try clear p2
  try clear c5
  try clear hcz4_0
  try clear hcz4_1
  try clear hfz4_0
  try clear hfz4_1
  obtain ⟨x2_1, x8_1, rfl, HA, HK1, HO_2, HO_6, BK101, HB⟩ := hrel
  cases gk with
  | zero => exact absurd HA.out (by simp [q21.l0])
  | succ k1 =>
   have H := HA.out
   clear HA
   simp only [q21.l0] at H
   by_cases c7 : x8_1 < (t102.length : Int)
   ·rw [if_pos c7] at H
    have c7b0 : decide (x8_1 < (t102.length : Int)) = true := decide_eq_true c7
    clear c7
    by_cases c8 : 0 ≤ x8_1
    ·rw [if_pos c8] at H
     have c8b0 : decide (0 ≤ x8_1) = true := decide_eq_true c8
     clear c8
     by_cases c9 : x8_1 < (t102.length : Int)
     ·rw [if_pos c9] at H
      have c9b0 : decide (x8_1 < (t102.length : Int)) = true := decide_eq_true c9
      clear c9
      obtain ⟨y107, hy107⟩ : ∃ y_ : List Int, y_ = (([(rd_T78 t102 x8_1).f0, (rd_T78 t102 x8_1).f1] : List Int)) := ⟨_, rfl⟩
      replace H : (if x2_1.length + y107.length < 17592186044416 then (q21.l0 k1 (x2_1 ++ y107) t102 (t102.length : Int) (wrap64 (x8_1 + 1))) else (none)) = some r := by first | (rw [hy107]; with_reducible exact H) | (have H2_ := (Option.bind_some _ _).symm.trans H; rw [hy107]; with_reducible exact H2_) | (have H2_ := (Option.bind_some _ _).symm.trans H; with_reducible exact H2_) | with_reducible exact H | (rw [hy107]; exact H) | exact H
      have Ny107 := Aside0.mk hy107
      clear hy107
      by_cases c10 : x2_1.length + y107.length < 17592186044416
      ·rw [if_pos c10] at H
       have LMc10 := Aside0.mk c10
       clear c10
       obtain ⟨y110, hy110⟩ : ∃ y_ : List Int, y_ = (x2_1 ++ y107) := ⟨_, rfl⟩
       replace H : (q21.l0 k1 y110 t102 (t102.length : Int) (wrap64 (x8_1 + 1))) = some r := by first | (rw [hy110]; with_reducible exact H) | (have H2_ := (Option.bind_some _ _).symm.trans H; rw [hy110]; with_reducible exact H2_) | (have H2_ := (Option.bind_some _ _).symm.trans H; with_reducible exact H2_) | with_reducible exact H | (rw [hy110]; exact H) | exact H
       have Ny110 := Aside0.mk hy110
       clear hy110
       have H' := Aside0.mk H
       clear H
       have p105 : 0 ≤ (x8_1 : Int) := of_decide_eq_true v3_
       have q105 : x8_1 < (t102.length : Int) := of_decide_eq_true v3_
       obtain ⟨ad105, e105, hx105_0, hx105_1⟩ := at_T78 (Kd.R_reads' HO_6.out).2.2 x8_1 p105 q105
       cases e105
       replace p105 := eq_true p105
       replace q105 := eq_true q105
       go_wp2_with (first | ((with_reducible refine gate_dst (N := 4) rfl ?_); refine box_event ?hg (N := 4) ?hd (cs := #[.int .i64 0, .int .i64 0]) (t := 78) ?hr ?_; (case hd => rfl); (case hg => rfl); (case hr => first | (go_simp; done) | (go_simp; rfl)); intro gb106 hg w11 hbox hb; have n0_ := Aside0.mk (Kd.R_below v67_ hb); have n1_ := Aside0.mk (Kd.R_below (Kd.R_elderB v109_ gb106 (Nat.le_of_eq hg.symm)) hb); have n2_ := Aside0.mk (blk_below (g := gb101) (o := .cells #[.int .i64 a0_0, .slice A0_1 l0_1.length c0_1] 42 (0, 0)) v2_ hb); have n3_ := Aside0.mk (below_step v0_ hb); have n4_ := Aside0.mk (hbox); have n5_ := Aside0.mk ((by rw [hg]; exact (below_size v0_) : w.heap.size ≤ gb106)); have n6_ := Aside0.mk ((by rw [hg]; exact (below_size v0_) : w.heap.size ≤ gb106)); have n7_ := Aside0.mk ((by rw [hg]; exact Nat.ne_of_lt (blk_lt (g := gb101) (o := .cells #[.int .i64 a0_0, .slice A0_1 l0_1.length c0_1] 42 (0, 0)) v2_) : gb101 ≠ gb106)); have n8_ := Aside0.mk ((by rw [hg]; exact Nat.ne_of_gt (blk_lt (g := gb101) (o := .cells #[.int .i64 a0_0, .slice A0_1 l0_1.length c0_1] 42 (0, 0)) v2_) : gb106 ≠ gb101)); clear HO_2; clear HO_6; clear BK101; clear HB; have HO_2 := n0_; have HO_6 := n1_; have BK101 := n2_; have HB := n3_; have BK106 := n4_; have GW106 := n5_; have GE106 := n6_; have NB101_106 := n7_; have NB106_101 := n8_; clear n0_ n1_ n2_ n3_ n4_ n5_ n6_ n7_ n8_; clear hb hbox hg; have hnb12 := NB106_101.out; have hnc12 := NB101_106.out; have hcz13_0 : w11.cell? ⟨gb106, 0, none⟩ = some (.int .i64 0) := (blk_cell BK106.out 0).trans rfl; have hcz13_1 : w11.cell? ⟨gb106, 1, none⟩ = some (.int .i64 0) := (blk_cell BK106.out 1).trans rfl; have hfz13_0 := blk_frozen BK106.out 0; have hfz13_1 := blk_frozen BK106.out 1) | ((with_reducible refine gate_dst (N := 17) rfl ?_); refine Kd.R_lit (Kd.int .i64) _ 3 ?hg (N := 17) ?hd (xs := ([(rd_T78 t102 x8_1).f0, (rd_T78 t102 x8_1).f1] : List Int)) (inner := [.int .i64 ((rd_T78 t102 x8_1).f0), .int .i64 ((rd_T78 t102 x8_1).f1)]) (ok := fun _ => True) (okp := fun _ => True) ?hr ?hp (fun _ hk => hk) trivial (Below.refl _ _) (Nat.le_refl _) v58_ ?_; (case hd => rfl); (case hg => rfl); (case hr => first | (go_simp; done) | (go_simp; rfl)); (case hp => exact (Reps.one (show Kd.M (Kd.int .i64) _ _ _ ((rd_T78 t102 x8_1).f0) [.int .i64 ((rd_T78 t102 x8_1).f0)] from rfl) (Reps.one (show Kd.M (Kd.int .i64) _ _ _ ((rd_T78 t102 x8_1).f1) [.int .i64 ((rd_T78 t102 x8_1).f1)] from rfl) (Reps.none _ _)))); intro v108 w14 ho15 hb hg_ hnew_; clear hg_ hnew_; (first | rw [← Ny107.out] at ho15 | (simp only [Int.reduceToNat] at ho15; rw [← Ny107.out] at ho15)); have n0_ := Aside0.mk (Kd.R_elder' v61_ (Kd.R_base ho15) hb); have n1_ := Aside0.mk (Kd.R_below (by (with_reducible repeat (first | apply Kd.R_alloc | apply Kd.R_drewN | apply Kd.R_drew)); exact (Kd.R_mono (Kd.R_far (p := ⟨gb106, 1, none⟩) (Kd.R_far (p := ⟨gb106, 0, none⟩) (Kd.R_mono HO_6.out (fun k_ hk => (⟨hk, hk.2⟩ : _ ∧ k_ ≠ gb106))) (fun _ hk => hk.2) (.int .i64 ((rd_T78 t102 x8_1).f0))) (fun _ hk => hk.2) (.int .i64 ((rd_T78 t102 x8_1).f1))) (fun _ h_ => h_.1))) hb); have n2_ := Aside0.mk (Kd.R_lower (Kd.R_new' ho15 (Kd.R_lt v61_)) (below_size v45_)); have n3_ := Aside0.mk (blk_below (g := gb101) (o := .cells #[.int .i64 a0_0, .slice A0_1 l0_1.length c0_1] 42 (0, 0)) (by (with_reducible repeat (first | refine blk_drewN ?_ _ | refine blk_drew ?_ | refine blk_alloc ?_ _)); refine blk_far ?_ NB101_106.out _; (with_reducible repeat (first | refine blk_drewN ?_ _ | refine blk_drew ?_ | refine blk_alloc ?_ _)); refine blk_far ?_ NB101_106.out _; (with_reducible repeat (first | refine blk_drewN ?_ _ | refine blk_drew ?_ | refine blk_alloc ?_ _)); exact BK101.out) hb); have n4_ := Aside0.mk (blk_below (g := gb106) (o := .cells #[.int .i64 ((rd_T78 t102 x8_1).f0), .int .i64 ((rd_T78 t102 x8_1).f1)] 78 (0, 0)) (by (with_reducible repeat (first | refine blk_drewN ?_ _ | refine blk_drew ?_ | refine blk_alloc ?_ _)); refine blk_put (cs := #[.int .i64 ((rd_T78 t102 x8_1).f0), .int .i64 0]) ?_ 1 _ rfl; (with_reducible repeat (first | refine blk_drewN ?_ _ | refine blk_drew ?_ | refine blk_alloc ?_ _)); refine blk_put (cs := #[.int .i64 0, .int .i64 0]) ?_ 0 _ rfl; (with_reducible repeat (first | refine blk_drewN ?_ _ | refine blk_drew ?_ | refine blk_alloc ?_ _)); exact BK106.out) hb); have n5_ := Aside0.mk (below_step v45_ hb); clear HO_2; clear HO_6; clear BK101; clear BK106; clear HB; have HO_2 := n0_; have HO_6 := n1_; have HO109 := n2_; have BK101 := n3_; have BK106 := n4_; have HB := n5_; clear n0_ n1_ n2_ n3_ n4_ n5_; clear hb ho15; obtain ⟨Ao17, co17, eo17⟩ := Kd.R_slice HO109.out; subst eo17) | ((with_reducible refine gate_builtin (b := .append) (xs := #[.tmp 12, .tmp 17]) rfl ?_); at_builtin; refine Kd.R_append_rows (Kd.int .i64) (w0 := w) w.heap.size rfl (.tmp 12) (.tmp 17) 45 3 (.int .i64 0) 8 rfl Try.underlying45 info3 rfl v55_ v93_ u2 x2_1 y107 _ _ _ (fun k_ => some k_ ≠ (.slice Ao17 y107.length co17 : Value).ownBlock) (fun _ => False) rfl rfl ?aO ?aR (fun _ _ h => h) (fun _ h => h.elim) ?aF ?aB ?aS ?aL ?_; (case aR => repeat (first | exact (Kd.R_reads' HO109.out).2.2 | (with_reducible refine Kd.C_alloc ?_ _) | (with_reducible refine Kd.C_drewN ?_ _) | (with_reducible refine Kd.C_drew ?_))); (case aB => exact v45_); (case aF => exact (fun k_ hk => Kd.fresh' (Kd.R_lt v106_) k_ hk)); (case aO => exact (by (with_reducible repeat (first | apply Kd.R_alloc | apply Kd.R_drewN | apply Kd.R_drew)); exact Kd.R_mono HO_2.out (fun _ hk => hk.2))); (case aS => exact (below_size v45_)); (case aL => have := LMc10.out; omega); intro v111 w16 ho hb hg hat; rw [← Ny110.out] at ho; have n0_ := Aside0.mk (Kd.R_over' v109_ (Kd.R_typed v67_) v55_ hg); have n1_ := Aside0.mk (blk_grown (g := gb101) (o := .cells #[.int .i64 a0_0, .slice A0_1 l0_1.length c0_1] 42 (0, 0)) v2_ hg (Kd.R_ne HO_2.out BK101.out v55_)); have n2_ := Aside0.mk (blk_grown (g := gb106) (o := .cells #[.int .i64 ((rd_T78 t102 x8_1).f0), .int .i64 ((rd_T78 t102 x8_1).f1)] 78 (0, 0)) (by (with_reducible repeat (first | refine blk_drewN ?_ _ | refine blk_drew ?_ | refine blk_alloc ?_ _)); exact BK106.out) hg (Kd.R_ne HO_2.out BK106.out v55_)); have n3_ := Aside0.mk (Kd.R_after (ok := (fun _ => True)) v106_ hg hat); have n4_ := Aside0.mk (hb); have n5_ := Aside0.mk (ho); clear HO_6; clear BK101; clear BK106; clear HO109; clear HB; clear HO_2; have HO_6 := n0_; have BK101 := n1_; have BK106 := n2_; have HO109 := n3_; have HB := n4_; have HO112 := n5_; clear n0_ n1_ n2_ n3_ n4_ n5_; clear ho hb hg hat))
       go_roundg k1
       case measure => have := HK1.out; omega
       case rel => exact ⟨(y110), (wrap64 (x8_1 + 1)), v12_, H', ⟨v91_⟩, ⟨by (with_reducible repeat (first | apply Kd.R_alloc | apply Kd.R_drewN | apply Kd.R_drew)); exact Kd.R_mono HO112.out (fun _ hk => trivial)⟩, ⟨by (with_reducible repeat (first | apply Kd.R_alloc | apply Kd.R_drewN | apply Kd.R_drew)); exact Kd.R_mono HO_6.out (fun _ hk => trivial)⟩, ⟨v6_⟩, ⟨by repeat (first | (with_reducible first | exact HB.out | apply below_alloc | apply pw_below_drewN | apply below_drew1 | refine below_set ?_ GE101.out | refine below_set ?_ GE106.out) | exact HB.out)⟩⟩
      ·rw [if_neg c10] at H
       exact absurd H v58_
     ·rw [if_neg c9] at H
      exact absurd H v58_
    ·rw [if_neg c8] at H
     exact absurd H v58_
   ·rw [if_neg c7] at H
    have c7b0 : decide (x8_1 < (t102.length : Int)) = false := decide_eq_false c7
    clear c7
    obtain rfl := Option.some.inj H
    go_wp2
    go_ret
    exact ⟨_, by first | rfl | (simp [errW_none, errW_some] <;> rfl) | (simp [*, errW_none, errW_some] <;> rfl), by (with_reducible repeat (first | apply Kd.R_alloc | apply Kd.R_drewN | apply Kd.R_drew)); exact HO_2.out, by repeat (first | (with_reducible first | exact HB.out | apply below_alloc | apply pw_below_drewN | apply below_drew1 | refine below_set ?_ GE101.out) | exact HB.out)⟩
end Go.Proofs.Ytcfhffhmpalkbaa.P
