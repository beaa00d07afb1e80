import Derived.Test.YtcfhffhmpalkbaaKb1
import Derived.Test.YtcfhffhmpalkbaaKb3
import Derived.Test.YtcfhffhmpalkbaaKb11
import Derived.Test.YtcfhffhmpalkbaaKb12
import Derived.Test.YtcfhffhmpalkbaaKb15
import Derived.Test.YtcfhffhmpalkbaaKb17
import Derived.Test.YtcfhffhmpalkbaaKb10
import Derived.Test.YtcfhffhmpalkbaaKb2
namespace Go.Proofs.Ytcfhffhmpalkbaa.P
open Go.RowKit Go.Proofs.YtcfhffhmpalkbaaM Go.Proofs.YtcfhffhmpalkbaaW.PrintWords Go.Proofs.YtcfhffhmpalkbaaW.PrintLast Go.Proofs.YtcfhffhmpalkbaaW.PrintMore
attribute [local go_sem] Go.Instr.field Go.asAgg max2_int min2_int max_two min_two max_three min_three max_four min_four
set_option linter.unusedVariables false
set_option linter.unusedSimpArgs false
def q3.T38 : Bool × List (List Nat × List Nat) := (true, [([], []), ([0], [0]), ([], []), ([1, 2], [1, 2]), ([3, 1], [3]), ([4], [4]), ([4], [4]), ([5, 6, 4, 4], [4, 5, 6]), ([7, 4], [4, 7]), ([4, 8], [4, 8]), ([9, 7], [9]), ([10], [10]), ([10], [10]), ([12, 10], [10, 12]), ([10], [10]), ([13, 14, 10], [10, 13, 14]), ([15, 10], [10, 15]), ([11, 16, 10, 10], [10, 11, 16]), ([17, 10], [10, 17]), ([10, 18], [10, 18])])
def q3.B38 : List Nat := [0, 1, 0, 7, 15, 31, 31, 127, 255, 511, 1023, 2047, 2047, 6143, 2047, 30719, 63487, 131071, 262143, 524287]
theorem q3.tab38 : rtab .any (opsOf Try.f12 38) = q3.T38 := by kernel_rfl
theorem q3.bits38 : waitsOk q3.T38.2 q3.B38 = true := by kernel_rfl
def q3.T41 : Bool × List (List Nat × List Nat) := (true, [([], []), ([], []), ([1], [1]), ([], []), ([2, 3], [2, 3]), ([4], [4]), ([0, 5], [0, 5]), ([6], [6])])
def q3.B41 : List Nat := [0, 0, 2, 0, 14, 30, 63, 127]
theorem q3.tab41 : rtab .any (opsOf Try.f12 41) = q3.T41 := by kernel_rfl
theorem q3.bits41 : waitsOk q3.T41.2 q3.B41 = true := by kernel_rfl
set_option maxHeartbeats 8000000 in
set_option maxRecDepth 100000 in
theorem q3.calls (k : Nat) (A0_0 : Option Addr) (c0_0 : Nat) (l0_0 : List (S42)) (A0_1 : Option Addr) (c0_1 : Nat) (l0_1 : List (S119)) (r : Bool) (w : World) (hr0_0 : Kd.C k42 w A0_0 l0_0.length l0_0) (hc0_0 : l0_0.length ≤ c0_0) (hr0_1 : Kd.C k119 w A0_1 l0_1.length l0_1) (hc0_1 : l0_1.length ≤ c0_1) (h : q3.f k l0_0 l0_1 = some r) :
 Calls Try.prog 12 #[.agg #[.slice A0_0 l0_0.length c0_0, .slice A0_1 l0_1.length c0_1]] w fun e w' => e = .returned (.bool r) ∧ Below w.heap.size w w' := by
 have hu37 := Try.underlying37
 have hu42 := Try.underlying42
 have HR0_0 := Aside0.mk hr0_0
 have HC0_0 := Aside0.mk hc0_0
 clear hr0_0 hc0_0
 have HR0_1 := Aside0.mk hr0_1
 have HC0_1 := Aside0.mk hc0_1
 clear hr0_1 hc0_1
 have HB := Aside0.mk (Below.refl w.heap.size w)
 have H : ((q61.f k l0_0 l0_1).bind fun t102 => (if t102 = true then (some true) else (q3.l0 k 0 l0_0 l0_1))) = some r := h
 clear h
 replace H := Option.bind_eq_some_iff.mp H
 obtain ⟨t102, A20, H⟩ := H
 replace H : (if t102 = true then (some true) else (q3.l0 k 0 l0_0 l0_1)) = some r := H
 have A2 := Aside0.mk A20
 clear A20
 by_cases c3 : t102 = true
 ·subst c3
  have H1 : (some true) = some r := by rw [if_pos rfl] at H; exact H
  clear H
  have H := H1
  clear H1
  obtain rfl := Option.some.inj H
  go_enter Try.func12, Try.ntmps12
  go_wp2_with (first | ((with_reducible refine gate_dst (N := 1) rfl ?_); refine box_event ?hg (N := 1) ?hd (cs := #[.slice A0_0 l0_0.length c0_0, .slice A0_1 l0_1.length c0_1]) (t := 37) ?hr ?_; (case hd => rfl); (case hg => rfl); (case hr => first | (go_simp; done) | (go_simp; rfl)); intro gb101 hg w4 hbox hb; have n0_ := Aside0.mk (below_step v0_ hb); have n1_ := Aside0.mk (hbox); have n2_ := Aside0.mk (v5_); have n3_ := Aside0.mk (v5_); clear HB; have HB := n0_; have BK101 := n1_; have GW101 := n2_; have GE101 := n3_; clear n0_ n1_ n2_ n3_; clear hb hbox hg; have hcz5_0 : w4.cell? ⟨gb101, 0, none⟩ = some (.slice A0_0 l0_0.length c0_0) := (blk_cell BK101.out 0).trans rfl; have hcz5_1 : w4.cell? ⟨gb101, 1, none⟩ = some (.slice A0_1 l0_1.length c0_1) := (blk_cell BK101.out 1).trans rfl; have hfz5_0 := blk_frozen BK101.out 0; have hfz5_1 := blk_frozen BK101.out 1) | ((with_reducible refine gate_callee (f := 24) rfl ?_); refine goesL_ (some 15) rfl rfl Try.func24 v9_ rfl #[.agg #[.slice A0_0 l0_0.length c0_0, .slice A0_1 l0_1.length c0_1]] rfl v4_ ?_; (with_reducible refine (q61.calls k _ _ l0_0 _ _ l0_1 true _ ?side1 ?side2 ?side3 ?side4 A2.out).mono ?_); (case side1 => repeat (first | exact (Kd.C_below HR0_0.out HB.out) | (with_reducible refine Kd.C_alloc ?_ _) | (with_reducible refine Kd.C_drewN ?_ _) | (with_reducible refine Kd.C_drew ?_))); (case side2 => exact HC0_0.out); (case side3 => repeat (first | exact (Kd.C_below HR0_1.out HB.out) | (with_reducible refine Kd.C_alloc ?_ _) | (with_reducible refine Kd.C_drewN ?_ _) | (with_reducible refine Kd.C_drew ?_))); (case side4 => exact HC0_1.out); rintro e w6 ⟨rfl, hb⟩; refine ⟨_, rfl, ?_⟩; have n0_ := Aside0.mk (blk_below (g := gb101) (o := .cells #[.slice A0_0 l0_0.length c0_0, .slice A0_1 l0_1.length c0_1] 37 (0, 0)) v3_ hb); have n1_ := Aside0.mk (below_step v1_ hb); clear BK101; clear HB; have BK101 := n0_; have HB := n1_; clear n0_ n1_; (try clear hb); (try clear hb2); (try clear hk); (try clear hi)))
  go_ret
  exact ⟨by first | rfl | (simp [errW_none, errW_some] <;> rfl) | (simp [*, errW_none, errW_some] <;> rfl), by repeat (first | (with_reducible first | exact HB.out | apply below_alloc | apply pw_below_drewN | apply below_drew1 | refine below_set ?_ GE101.out) | exact HB.out)⟩
 ·replace c3 := Bool.eq_false_iff.mpr c3
  subst c3
  have H1 : (q3.l0 k 0 l0_0 l0_1) = some r := by rw [if_neg (show ¬ (false = true) by decide)] at H; exact H
  clear H
  have H := H1
  clear H1
  have H' := Aside0.mk H
  clear H
  go_enter Try.func12, Try.ntmps12
  go_wp2_with (first | ((with_reducible refine gate_dst (N := 1) rfl ?_); refine box_event ?hg (N := 1) ?hd (cs := #[.slice A0_0 l0_0.length c0_0, .slice A0_1 l0_1.length c0_1]) (t := 37) ?hr ?_; (case hd => rfl); (case hg => rfl); (case hr => first | (go_simp; done) | (go_simp; rfl)); intro gb101 hg w7 hbox hb; have n0_ := Aside0.mk (below_step v0_ hb); have n1_ := Aside0.mk (hbox); have n2_ := Aside0.mk (v5_); have n3_ := Aside0.mk (v5_); clear HB; have HB := n0_; have BK101 := n1_; have GW101 := n2_; have GE101 := n3_; clear n0_ n1_ n2_ n3_; clear hb hbox hg; have hcz8_0 : w7.cell? ⟨gb101, 0, none⟩ = some (.slice A0_0 l0_0.length c0_0) := (blk_cell BK101.out 0).trans rfl; have hcz8_1 : w7.cell? ⟨gb101, 1, none⟩ = some (.slice A0_1 l0_1.length c0_1) := (blk_cell BK101.out 1).trans rfl; have hfz8_0 := blk_frozen BK101.out 0; have hfz8_1 := blk_frozen BK101.out 1) | ((with_reducible refine gate_callee (f := 24) rfl ?_); refine goesL_ (some 15) rfl rfl Try.func24 v9_ rfl #[.agg #[.slice A0_0 l0_0.length c0_0, .slice A0_1 l0_1.length c0_1]] rfl v4_ ?_; (with_reducible refine (q61.calls k _ _ l0_0 _ _ l0_1 false _ ?side1 ?side2 ?side3 ?side4 A2.out).mono ?_); (case side1 => repeat (first | exact (Kd.C_below HR0_0.out HB.out) | (with_reducible refine Kd.C_alloc ?_ _) | (with_reducible refine Kd.C_drewN ?_ _) | (with_reducible refine Kd.C_drew ?_))); (case side2 => exact HC0_0.out); (case side3 => repeat (first | exact (Kd.C_below HR0_1.out HB.out) | (with_reducible refine Kd.C_alloc ?_ _) | (with_reducible refine Kd.C_drewN ?_ _) | (with_reducible refine Kd.C_drew ?_))); (case side4 => exact HC0_1.out); rintro e w9 ⟨rfl, hb⟩; refine ⟨_, rfl, ?_⟩; have n0_ := Aside0.mk (blk_below (g := gb101) (o := .cells #[.slice A0_0 l0_0.length c0_0, .slice A0_1 l0_1.length c0_1] 37 (0, 0)) v3_ hb); have n1_ := Aside0.mk (below_step v1_ hb); clear BK101; clear HB; have BK101 := n0_; have HB := n1_; clear n0_ n1_; (try clear hb); (try clear hb2); (try clear hk); (try clear hi)))
  go_loopg [3] k (fun kq v3 w' => ∃ (x3_1 : Int), v3 = .int .i64 x3_1 ∧ Aside0 (q3.l0 kq x3_1 l0_0 l0_1 = some r) ∧ Aside0 (kq ≤ k) ∧ Aside0 (w'.heap[gb101]? = some (.cells #[(.slice A0_0 l0_0.length c0_0), (.slice A0_1 l0_1.length c0_1)] 37 (0, 0))) ∧ Aside0 (Below w.heap.size w w'))
  case atStart => exact ⟨(0), v6_, H', ⟨Nat.le_refl _⟩, ⟨by (with_reducible repeat (first | refine blk_drewN ?_ _ | refine blk_drew ?_ | refine blk_alloc ?_ _)); exact BK101.out⟩, ⟨by repeat (first | (with_reducible first | exact HB.out | apply below_alloc | apply pw_below_drewN | apply below_drew1 | refine below_set ?_ GE101.out) | exact HB.out)⟩⟩
  case round =>
   clear H'
   try clear c1
   try clear c2
   try clear p2
   try clear c3
   try clear hcz5_0
   try clear hcz5_1
   try clear hcz8_0
   try clear hcz8_1
   try clear hfz5_0
   try clear hfz5_1
   try clear hfz8_0
   try clear hfz8_1
   obtain ⟨x3_1, rfl, HA, HK1, BK101, HB⟩ := hrel
   cases gk with
   | zero => exact absurd HA.out (by simp [q3.l0])
   | succ k1 =>
    have H := HA.out
    clear HA
    simp only [q3.l0] at H
    have HC10 := Aside0.mk H
    clear H
    go_upto_region 4 with (fail)
    go_cut [24] (fun v24 wc => ∃ (kq : Nat) (x24_9 : Bool), v24 = .bool x24_9 ∧ Aside0 (q3.j1 kq x3_1 x24_9 l0_0 l0_1 = some r) ∧ Aside0 (kq ≤ k1) ∧ Aside0 (wc.heap[gb101]? = some (.cells #[(.slice A0_0 l0_0.length c0_0), (.slice A0_1 l0_1.length c0_1)] 37 (0, 0))) ∧ Aside0 (Below w.heap.size w wc))
    case first =>
     have H := HC10.out
     clear HC10
     by_cases c11 : x3_1 < (l0_0.length : Int)
     ·rw [if_pos c11] at H
      have c11b0 : decide (x3_1 < (l0_0.length : Int)) = true := decide_eq_true c11
      clear c11
      (first | rw [c11b0] | (simp only [i64_w, i32_w]; rw [c11b0]) | skip)
      have H' := Aside0.mk H
      clear H
      have hcz12_0 : wr.cell? ⟨gb101, 0, none⟩ = some (.slice A0_0 l0_0.length c0_0) := (blk_cell BK101.out 0).trans rfl
      have hcz12_1 : wr.cell? ⟨gb101, 1, none⟩ = some (.slice A0_1 l0_1.length c0_1) := (blk_cell BK101.out 1).trans rfl
      have hfz12_0 := blk_frozen BK101.out 0
      have hfz12_1 := blk_frozen BK101.out 1
      go_wp2
      go_meet
      case rel => exact ⟨_, (decide (x3_1 < 4)), v6_, H', ⟨by have := HK1.out; first | omega | exact Nat.le_refl _⟩, ⟨by (with_reducible repeat (first | refine blk_drewN ?_ _ | refine blk_drew ?_ | refine blk_alloc ?_ _)); exact BK101.out⟩, ⟨by repeat (first | (with_reducible first | exact HB.out | apply below_alloc | apply pw_below_drewN | apply below_drew1 | refine below_set ?_ GE101.out) | exact HB.out)⟩⟩
     ·rw [if_neg c11] at H
      have c11b0 : decide (x3_1 < (l0_0.length : Int)) = false := decide_eq_false c11
      clear c11
      (first | rw [c11b0] | (simp only [i64_w, i32_w]; rw [c11b0]) | skip)
      have H' := Aside0.mk H
      clear H
      have hcz13_0 : wr.cell? ⟨gb101, 0, none⟩ = some (.slice A0_0 l0_0.length c0_0) := (blk_cell BK101.out 0).trans rfl
      have hcz13_1 : wr.cell? ⟨gb101, 1, none⟩ = some (.slice A0_1 l0_1.length c0_1) := (blk_cell BK101.out 1).trans rfl
      have hfz13_0 := blk_frozen BK101.out 0
      have hfz13_1 := blk_frozen BK101.out 1
      go_wp2
      go_meet
      case rel => exact ⟨_, (false), v6_, H', ⟨by have := HK1.out; first | omega | exact Nat.le_refl _⟩, ⟨by (with_reducible repeat (first | refine blk_drewN ?_ _ | refine blk_drew ?_ | refine blk_alloc ?_ _)); exact BK101.out⟩, ⟨by repeat (first | (with_reducible first | exact HB.out | apply below_alloc | apply pw_below_drewN | apply below_drew1 | refine below_set ?_ GE101.out) | exact HB.out)⟩⟩
    case rest =>
     clear HC10
     try clear c1
     try clear c2
     try clear p2
     try clear c3
     try clear c11
     try clear c11b0
     try clear c12
     try clear hcz12_0
     try clear hcz12_1
     try clear hcz13_0
     try clear hcz13_1
     try clear hcz5_0
     try clear hcz5_1
     try clear hcz8_0
     try clear hcz8_1
     try clear hfz12_0
     try clear hfz12_1
     try clear hfz13_0
     try clear hfz13_1
     try clear hfz5_0
     try clear hfz5_1
     try clear hfz8_0
     try clear hfz8_1
     try clear p2
     obtain ⟨kq, x24_9, rfl, HA, HJ9, BK101, HB⟩ := hcut
     cases kq with
     | zero => exact absurd HA.out (by simp [q3.j1])
     | succ kj9 =>
      have H := HA.out
      clear HA
      simp only [q3.j1] at H
      by_cases c14 : x24_9 = true
      ·subst c14
       have H1 : (if 0 ≤ x3_1 then (if x3_1 < (l0_0.length : Int) then ((q66.f kj9 ((rd_T42 l0_0 x3_1).f0) ((rd_T42 l0_0 x3_1).f1)).bind fun bt105 => ((q25.f kj9 ((rd_T42 l0_0 x3_1).f0) ((rd_T42 l0_0 x3_1).f1)).bind fun t111 => (q3.l1 kj9 x3_1 t111 (-1) l0_0 l0_1 bt105.1 bt105.2))) else (none)) else (none)) = some r := by rw [if_pos rfl] at H; exact H
       clear H
       have H := H1
       clear H1
       by_cases c15 : 0 ≤ x3_1
       ·rw [if_pos c15] at H
        have c15b0 : decide (0 ≤ x3_1) = true := decide_eq_true c15
        clear c15
        by_cases c16 : x3_1 < (l0_0.length : Int)
        ·rw [if_pos c16] at H
         have c16b0 : decide (x3_1 < (l0_0.length : Int)) = true := decide_eq_true c16
         clear c16
         replace H := Option.bind_eq_some_iff.mp H
         obtain ⟨⟨t105, t106⟩, A170, H⟩ := H
         replace H : ((q25.f kj9 ((rd_T42 l0_0 x3_1).f0) ((rd_T42 l0_0 x3_1).f1)).bind fun t111 => (q3.l1 kj9 x3_1 t111 (-1) l0_0 l0_1 t105 t106)) = some r := H
         have A17 := Aside0.mk A170
         clear A170
         replace H := Option.bind_eq_some_iff.mp H
         obtain ⟨t111, A180, H⟩ := H
         replace H : (q3.l1 kj9 x3_1 t111 (-1) l0_0 l0_1 t105 t106) = some r := H
         have A18 := Aside0.mk A180
         clear A180
         have H' := Aside0.mk H
         clear H
         have hcz19_0 : wc.cell? ⟨gb101, 0, none⟩ = some (.slice A0_0 l0_0.length c0_0) := (blk_cell BK101.out 0).trans rfl
         have hcz19_1 : wc.cell? ⟨gb101, 1, none⟩ = some (.slice A0_1 l0_1.length c0_1) := (blk_cell BK101.out 1).trans rfl
         have hfz19_0 := blk_frozen BK101.out 0
         have hfz19_1 := blk_frozen BK101.out 1
         have p104 : 0 ≤ (x3_1 : Int) := of_decide_eq_true v2_
         have q104 : x3_1 < (l0_0.length : Int) := of_decide_eq_true v2_
         obtain ⟨ad104, A104_1, c104_1, e104, hx104_0, hx104_1, hl104_1, hi104_1⟩ := at_T42 HR0_0.out x3_1 p104 q104
         cases e104
         replace hx104_0 := (HB.out.cell (World.block_lt_of_cell? w _ hx104_0)).trans hx104_0
         replace hx104_1 := (HB.out.cell (World.block_lt_of_cell? w _ hx104_1)).trans hx104_1
         have HR104_1 := Aside0.mk hi104_1
         have HC104_1 := Aside0.mk hl104_1
         clear hi104_1 hl104_1
         replace p104 := eq_true p104
         replace q104 := eq_true q104
         go_wp2_with (first | ((with_reducible refine gate_callee (f := 25) rfl ?_); refine goesL_ (some 32) rfl rfl Try.func25 v9_ rfl #[.agg #[.int .i64 ((rd_T42 l0_0 x3_1).f0), .slice A104_1 ((rd_T42 l0_0 x3_1).f1).length c104_1]] rfl v4_ ?_; (with_reducible refine (q66.calls kj9 ((rd_T42 l0_0 x3_1).f0) _ _ ((rd_T42 l0_0 x3_1).f1) t105 t106 _ ?side1 ?side2 A17.out).mono ?_); (case side1 => repeat (first | exact (Kd.C_below HR104_1.out HB.out) | (with_reducible refine Kd.C_alloc ?_ _) | (with_reducible refine Kd.C_drewN ?_ _) | (with_reducible refine Kd.C_drew ?_))); (case side2 => exact HC104_1.out); rintro e w20 ⟨v107, rfl, ho0, hb⟩; refine ⟨_, rfl, ?_⟩; have n0_ := Aside0.mk (Kd.S_lower ho0 (below_size v1_)); have n1_ := Aside0.mk (blk_below (g := gb101) (o := .cells #[.slice (some ad104) l0_0.length c0_0, .slice A0_1 l0_1.length c0_1] 37 (0, 0)) v3_ hb); have n2_ := Aside0.mk (below_step v1_ hb); clear BK101; clear HB; have HO108 := n0_; have BK101 := n1_; have HB := n2_; clear n0_ n1_ n2_; (try clear hb); (try clear hb2); (try clear hk); (try clear hi); (try clear ho0)) | ((with_reducible refine gate_dst (N := 4) rfl ?_); refine box_event ?hg (N := 4) ?hd (cs := #[.int .i64 0, .slice none 0 0]) (t := 42) ?hr ?_; (case hd => rfl); (case hg => rfl); (case hr => first | (go_simp; done) | (go_simp; rfl)); intro gb109 hg w21 hbox hb; have n0_ := Aside0.mk (Kd.S_below (by (with_reducible repeat (first | apply Kd.S_alloc | apply Kd.S_drewN | apply Kd.S_drew)); exact HO108.out) hb); have n1_ := Aside0.mk (blk_below (g := gb101) (o := .cells #[.slice (some ad104) l0_0.length c0_0, .slice A0_1 l0_1.length c0_1] 37 (0, 0)) v3_ hb); have n2_ := Aside0.mk (below_step v1_ hb); have n3_ := Aside0.mk (hbox); have n4_ := Aside0.mk ((by rw [hg]; exact (below_size v1_) : w.heap.size ≤ gb109)); have n5_ := Aside0.mk ((by rw [hg]; exact (below_size v1_) : w.heap.size ≤ gb109)); have n6_ := Aside0.mk ((by rw [hg]; exact Nat.ne_of_lt (blk_lt (g := gb101) (o := .cells #[.slice (some ad104) l0_0.length c0_0, .slice A0_1 l0_1.length c0_1] 37 (0, 0)) v3_) : gb101 ≠ gb109)); have n7_ := Aside0.mk ((by rw [hg]; exact Nat.ne_of_gt (blk_lt (g := gb101) (o := .cells #[.slice (some ad104) l0_0.length c0_0, .slice A0_1 l0_1.length c0_1] 37 (0, 0)) v3_) : gb109 ≠ gb101)); clear HO108; clear BK101; clear HB; have HO108 := n0_; have BK101 := n1_; have HB := n2_; have BK109 := n3_; have GW109 := n4_; have GE109 := n5_; have NB101_109 := n6_; have NB109_101 := n7_; clear n0_ n1_ n2_ n3_ n4_ n5_ n6_ n7_; clear hb hbox hg; have hnb22 := NB109_101.out; have hnc22 := NB101_109.out; have hcz23_0 : w21.cell? ⟨gb109, 0, none⟩ = some (.int .i64 0) := (blk_cell BK109.out 0).trans rfl; have hcz23_1 : w21.cell? ⟨gb109, 1, none⟩ = some (.slice none 0 0) := (blk_cell BK109.out 1).trans rfl; have hfz23_0 := blk_frozen BK109.out 0; have hfz23_1 := blk_frozen BK109.out 1; obtain ⟨Ao24, co24, eo24⟩ := Kd.S_slice HO108.out; subst eo24; have hcz25_0 : w21.cell? ⟨gb101, 0, none⟩ = some (.slice (some ad104) l0_0.length c0_0) := (blk_cell BK101.out 0).trans rfl; have hcz25_1 : w21.cell? ⟨gb101, 1, none⟩ = some (.slice A0_1 l0_1.length c0_1) := (blk_cell BK101.out 1).trans rfl; have hfz25_0 := blk_frozen BK101.out 0; have hfz25_1 := blk_frozen BK101.out 1; have p110 : 0 ≤ (x3_1 : Int) := of_decide_eq_true v2_; have q110 : x3_1 < (l0_0.length : Int) := of_decide_eq_true v2_; obtain ⟨ad110, A110_1, c110_1, e110, hx110_0, hx110_1, hl110_1, hi110_1⟩ := at_T42 HR0_0.out x3_1 p110 q110; obtain rfl : ad104 = ad110 := (by injection e110); have hn110_0 : ad104.block ≠ gb109 := Nat.ne_of_lt (Nat.lt_of_lt_of_le (by have := World.block_lt_of_cell? _ _ hx110_0; first | rwa [add_block] at this | exact this) GW109.out); have hn110_1 : ad104.block ≠ gb109 := Nat.ne_of_lt (Nat.lt_of_lt_of_le (by have := World.block_lt_of_cell? _ _ hx110_0; first | rwa [add_block] at this | exact this) GW109.out); replace hx110_0 := (HB.out.cell (World.block_lt_of_cell? w _ hx110_0)).trans hx110_0; replace hx110_1 := (HB.out.cell (World.block_lt_of_cell? w _ hx110_1)).trans hx110_1; have HR110_1 := Aside0.mk hi110_1; have HC110_1 := Aside0.mk hl110_1; clear hi110_1 hl110_1; replace hx110_0 := (cell_far (p := ⟨gb109, 0, none⟩) (by first | (rw [add_block]; exact hn110_0) | (show (Addr.add _ _).block ≠ _; rw [add_block]; exact hn110_0) | exact hn110_0) (.int .i64 t105)).trans hx110_0; replace hx110_1 := (cell_far (p := ⟨gb109, 0, none⟩) (by first | (rw [add_block]; exact hn110_0) | (show (Addr.add _ _).block ≠ _; rw [add_block]; exact hn110_0) | exact hn110_0) (.int .i64 t105)).trans hx110_1; replace hx110_0 := (cell_far (p := ⟨gb109, 1, none⟩) (by first | (rw [add_block]; exact hn110_1) | (show (Addr.add _ _).block ≠ _; rw [add_block]; exact hn110_1) | exact hn110_1) (.slice Ao24 t106.length co24)).trans hx110_0; replace hx110_1 := (cell_far (p := ⟨gb109, 1, none⟩) (by first | (rw [add_block]; exact hn110_1) | (show (Addr.add _ _).block ≠ _; rw [add_block]; exact hn110_1) | exact hn110_1) (.slice Ao24 t106.length co24)).trans hx110_1; clear hn110_0; clear hn110_1; replace p110 := eq_true p110; replace q110 := eq_true q110) | ((with_reducible refine gate_callee (f := 26) rfl ?_); refine goesL_ (some 38) rfl rfl Try.func26 v9_ rfl #[.agg #[.int .i64 ((rd_T42 l0_0 x3_1).f0), .slice A110_1 ((rd_T42 l0_0 x3_1).f1).length c110_1]] rfl v4_ ?_; (with_reducible refine (q25.calls kj9 ((rd_T42 l0_0 x3_1).f0) _ _ ((rd_T42 l0_0 x3_1).f1) t111 _ ?side1 ?side2 A18.out).mono ?_); (case side1 => exact Kd.C_below HR110_1.out v7_); (case side2 => exact HC110_1.out); rintro e w26 ⟨rfl, hb⟩; refine ⟨_, rfl, ?_⟩; have n0_ := Aside0.mk (Kd.S_below (by (with_reducible repeat (first | apply Kd.S_alloc | apply Kd.S_drewN | apply Kd.S_drew)); exact (Kd.S_mono (Kd.S_far (p := ⟨gb109, 1, none⟩) (Kd.S_far (p := ⟨gb109, 0, none⟩) (Kd.S_types HO108.out BK109.out v17_) (fun _ hk => hk.2) (.int .i64 t105)) (fun _ hk => hk.2) (.slice Ao24 t106.length co24)) (fun _ h_ => h_.1))) hb); have n1_ := Aside0.mk (blk_below (g := gb101) (o := .cells #[.slice (some ad104) l0_0.length c0_0, .slice A0_1 l0_1.length c0_1] 37 (0, 0)) (by (with_reducible repeat (first | refine blk_drewN ?_ _ | refine blk_drew ?_ | refine blk_alloc ?_ _)); refine blk_far ?_ NB101_109.out _; (with_reducible repeat (first | refine blk_drewN ?_ _ | refine blk_drew ?_ | refine blk_alloc ?_ _)); refine blk_far ?_ NB101_109.out _; (with_reducible repeat (first | refine blk_drewN ?_ _ | refine blk_drew ?_ | refine blk_alloc ?_ _)); exact BK101.out) hb); have n2_ := Aside0.mk (blk_below (g := gb109) (o := .cells #[.int .i64 t105, .slice Ao24 t106.length co24] 42 (0, 0)) (by (with_reducible repeat (first | refine blk_drewN ?_ _ | refine blk_drew ?_ | refine blk_alloc ?_ _)); refine blk_put (cs := #[.int .i64 t105, .slice none 0 0]) ?_ 1 _ rfl; (with_reducible repeat (first | refine blk_drewN ?_ _ | refine blk_drew ?_ | refine blk_alloc ?_ _)); refine blk_put (cs := #[.int .i64 0, .slice none 0 0]) ?_ 0 _ rfl; (with_reducible repeat (first | refine blk_drewN ?_ _ | refine blk_drew ?_ | refine blk_alloc ?_ _)); exact BK109.out) hb); have n3_ := Aside0.mk (below_step v7_ hb); clear HO108; clear BK101; clear BK109; clear HB; have HO108 := n0_; have BK101 := n1_; have BK109 := n2_; have HB := n3_; clear n0_ n1_ n2_ n3_; (try clear hb); (try clear hb2); (try clear hk); (try clear hi)))
         go_loopg [6] kj9 (fun kq v6 w' => ∃ (x6_3 : Int), v6 = .int .i64 x6_3 ∧ Aside0 (q3.l1 kq x3_1 t111 x6_3 l0_0 l0_1 t105 t106 = some r) ∧ Aside0 (kq ≤ kj9) ∧ Aside0 (Kd.S (Kd.slice 3 (Kd.int .i64)) 45 w' w.heap.size (fun _ => True) (.slice Ao24 t106.length co24) t106) ∧ Aside0 (w'.heap[gb101]? = some (.cells #[(.slice (some ad104) l0_0.length c0_0), (.slice A0_1 l0_1.length c0_1)] 37 (0, 0))) ∧ Aside0 (w'.heap[gb109]? = some (.cells #[.int .i64 t105, (.slice Ao24 t106.length co24)] 42 (0, 0))) ∧ Aside0 (Below w.heap.size w w'))
         case atStart => exact ⟨((-1)), v6_, H', ⟨Nat.le_refl _⟩, ⟨by (with_reducible repeat (first | apply Kd.S_alloc | apply Kd.S_drewN | apply Kd.S_drew)); exact HO108.out⟩, ⟨by (with_reducible repeat (first | refine blk_drewN ?_ _ | refine blk_drew ?_ | refine blk_alloc ?_ _)); exact BK101.out⟩, ⟨by (with_reducible repeat (first | refine blk_drewN ?_ _ | refine blk_drew ?_ | refine blk_alloc ?_ _)); exact BK109.out⟩, ⟨by repeat (first | (with_reducible first | exact HB.out | apply below_alloc | apply pw_below_drewN | apply below_drew1 | refine below_set ?_ GE101.out | refine below_set ?_ GE109.out) | exact HB.out)⟩⟩
         case round =>
          clear H'
          try clear c1
          try clear p1
          try clear q1
          try clear hx1
          try clear c2
          try clear p2
          try clear c3
          try clear c10
          try clear p10
          try clear q10
          try clear hx10
          try clear c11
          try clear c11b0
          try clear p11
          try clear q11
          try clear hx11
          try clear c12
          try clear c14
          try clear c15
          try clear c15b0
          try clear c16
          try clear c16b0
          try clear c22
          try clear c24
          try clear c25
          try clear c26
          try clear hcz12_0
          try clear hcz12_1
          try clear hcz13_0
          try clear hcz13_1
          try clear hcz19_0
          try clear hcz19_1
          try clear hcz23_0
          try clear hcz23_1
          try clear hcz25_0
          try clear hcz25_1
          try clear hcz5_0
          try clear hcz5_1
          try clear hcz8_0
          try clear hcz8_1
          try clear hfz12_0
          try clear hfz12_1
          try clear hfz13_0
          try clear hfz13_1
          try clear hfz19_0
          try clear hfz19_1
          try clear hfz23_0
          try clear hfz23_1
          try clear hfz25_0
          try clear hfz25_1
          try clear hfz5_0
          try clear hfz5_1
          try clear hfz8_0
          try clear hfz8_1
          try clear hx104_0
          try clear hx104_1
          try clear hx110_0
          try clear hx110_1
          try clear p104
          try clear p110
          try clear p2
          try clear q104
          try clear q110
          obtain ⟨x6_3, rfl, HA, HK3, HO_110001, BK101, BK109, HB⟩ := hrel
          cases gk with
          | zero => exact absurd HA.out (by simp [q3.l1])
          | succ k3 =>
           have H := HA.out
           clear HA
           simp only [q3.l1] at H
           by_cases c27 : x6_3 ≤ 16
           ·rw [if_pos c27] at H
            have c27b0 : decide (x6_3 ≤ 16) = true := decide_eq_true c27
            clear c27
            have H' := Aside0.mk H
            clear H
            go_wp2
            go_loopg [7] k3 (fun kq v7 w' => ∃ (x7_4 : Int), v7 = .int .i64 x7_4 ∧ Aside0 (q3.l2 kq x3_1 t111 x6_3 x7_4 l0_0 l0_1 t105 t106 = some r) ∧ Aside0 (kq ≤ k3) ∧ Aside0 (Kd.S (Kd.slice 3 (Kd.int .i64)) 45 w' w.heap.size (fun _ => True) (.slice Ao24 t106.length co24) t106) ∧ Aside0 (w'.heap[gb101]? = some (.cells #[(.slice (some ad104) l0_0.length c0_0), (.slice A0_1 l0_1.length c0_1)] 37 (0, 0))) ∧ Aside0 (w'.heap[gb109]? = some (.cells #[.int .i64 t105, (.slice Ao24 t106.length co24)] 42 (0, 0))) ∧ Aside0 (Below w.heap.size w w'))
            case atStart => exact ⟨((-1)), v6_, H', ⟨Nat.le_refl _⟩, ⟨by (with_reducible repeat (first | apply Kd.S_alloc | apply Kd.S_drewN | apply Kd.S_drew)); exact HO_110001.out⟩, ⟨by (with_reducible repeat (first | refine blk_drewN ?_ _ | refine blk_drew ?_ | refine blk_alloc ?_ _)); exact BK101.out⟩, ⟨by (with_reducible repeat (first | refine blk_drewN ?_ _ | refine blk_drew ?_ | refine blk_alloc ?_ _)); exact BK109.out⟩, ⟨by repeat (first | (with_reducible first | exact HB.out | apply below_alloc | apply pw_below_drewN | apply below_drew1 | refine below_set ?_ GE101.out | refine below_set ?_ GE109.out) | exact HB.out)⟩⟩
            case round =>
             clear H'
             try clear c1
             try clear p1
             try clear q1
             try clear hx1
             try clear c2
             try clear p2
             try clear c3
             try clear c10
             try clear p10
             try clear q10
             try clear hx10
             try clear c11
             try clear c11b0
             try clear p11
             try clear q11
             try clear hx11
             try clear c12
             try clear c14
             try clear c15
             try clear c15b0
             try clear c16
             try clear c16b0
             try clear c22
             try clear c24
             try clear c25
             try clear c26
             try clear c27
             try clear c27b0
             try clear hcz12_0
             try clear hcz12_1
             try clear hcz13_0
             try clear hcz13_1
             try clear hcz19_0
             try clear hcz19_1
             try clear hcz23_0
             try clear hcz23_1
             try clear hcz25_0
             try clear hcz25_1
             try clear hcz5_0
             try clear hcz5_1
             try clear hcz8_0
             try clear hcz8_1
             try clear hfz12_0
             try clear hfz12_1
             try clear hfz13_0
             try clear hfz13_1
             try clear hfz19_0
             try clear hfz19_1
             try clear hfz23_0
             try clear hfz23_1
             try clear hfz25_0
             try clear hfz25_1
             try clear hfz5_0
             try clear hfz5_1
             try clear hfz8_0
             try clear hfz8_1
             try clear hx104_0
             try clear hx104_1
             try clear hx110_0
             try clear hx110_1
             try clear p1
             try clear p10
             try clear p104
             try clear p11
             try clear p110
             try clear p2
             try clear q1
             try clear q10
             try clear q104
             try clear q11
             try clear q110
             obtain ⟨x7_4, rfl, HA, HK4, HO_110001, BK101, BK109, HB⟩ := hrel
             cases gk with
             | zero => exact absurd HA.out (by simp [q3.l2])
             | succ k4 =>
              have H := HA.out
              clear HA
              simp only [q3.l2] at H
              by_cases c28 : x7_4 ≤ 7
              ·rw [if_pos c28] at H
               have c28b0 : decide (x7_4 ≤ 7) = true := decide_eq_true c28
               clear c28
               replace H := Option.bind_eq_some_iff.mp H
               obtain ⟨⟨t112, t115⟩, A290, H⟩ := H
               replace H : (if t111 = true then (if 0 ≤ x3_1 then (if x3_1 < (l0_0.length : Int) then ((q60.f ((rd_T42 l0_0 x3_1).f0) ((rd_T42 l0_0 x3_1).f1) x7_4 x6_3).bind fun t117 => (if t117 = 0 then ((q39.f k4 ((rd_T42 l0_0 x3_1).f0) ((rd_T42 l0_0 x3_1).f1) x7_4 x6_3).bind fun t119 => (q3.j4 k4 x3_1 t111 x6_3 x7_4 t112 t115 t117 t119 l0_0 l0_1 t105 t106)) else (q3.j4 k4 x3_1 t111 x6_3 x7_4 t112 t115 t117 ([] : List Int) l0_0 l0_1 t105 t106))) else (none)) else (none)) else (q3.j4 k4 x3_1 t111 x6_3 x7_4 t112 t115 1 ([] : List Int) l0_0 l0_1 t105 t106)) = some r := H
               have A29 := Aside0.mk A290
               clear A290
               have HC30 := Aside0.mk H
               clear H
               have hnb31 := NB109_101.out
               have hnc31 := NB101_109.out
               have hcz32_0 : wr.cell? ⟨gb109, 0, none⟩ = some (.int .i64 t105) := (blk_cell BK109.out 0).trans rfl
               have hcz32_1 : wr.cell? ⟨gb109, 1, none⟩ = some (.slice Ao24 t106.length co24) := (blk_cell BK109.out 1).trans rfl
               have hfz32_0 := blk_frozen BK109.out 0
               have hfz32_1 := blk_frozen BK109.out 1
               go_upto_if 54 with (first | ((with_reducible refine gate_callee (f := 27) rfl ?_); refine goesL_ (some 51) rfl rfl Try.func27 v9_ rfl #[.agg #[.int .i64 t105, .slice Ao24 t106.length co24], .int .i64 x7_4, .int .i64 x6_3] rfl v4_ ?_; (with_reducible refine (q27.calls k4 t105 _ _ t106 x7_4 x6_3 t112 t115 _ ?side1 ?side2 A29.out).mono ?_); (case side1 => repeat (first | exact (Kd.S_reads' HO_110001.out).2.2 | (with_reducible refine Kd.C_alloc ?_ _) | (with_reducible refine Kd.C_drewN ?_ _) | (with_reducible refine Kd.C_drew ?_))); (case side2 => exact (Kd.S_reads' HO_110001.out).2.1); rintro e w33 ⟨v113, rfl, ho0, hb⟩; refine ⟨_, rfl, ?_⟩; have n0_ := Aside0.mk (Kd.S_elder' v14_ (Kd.R_base ho0) hb); have n1_ := Aside0.mk (Kd.R_lower ho0 (below_size v7_)); have n2_ := Aside0.mk (blk_below (g := gb101) (o := .cells #[.slice (some ad104) l0_0.length c0_0, .slice A0_1 l0_1.length c0_1] 37 (0, 0)) v3_ hb); have n3_ := Aside0.mk (blk_below (g := gb109) (o := .cells #[.int .i64 t105, .slice Ao24 t106.length co24] 42 (0, 0)) v13_ hb); have n4_ := Aside0.mk (below_step v7_ hb); clear HO_110001; clear BK101; clear BK109; clear HB; have HO_110001 := n0_; have HO114 := n1_; have BK101 := n2_; have BK109 := n3_; have HB := n4_; clear n0_ n1_ n2_ n3_ n4_; (try clear hb); (try clear hb2); (try clear hk); (try clear hi); (try clear ho0)))
               (try simp only [Act.put, List.setIfInBounds_toArray, List.set_cons_zero, List.set_cons_succ])
               go_cut [10, 11] (fun v10 v11 wc => ∃ (kq : Nat) (x10_29 : Int) (x11_29 : List Int), v10 = .int .i64 x10_29 ∧ Aside0 (q3.j4 kq x3_1 t111 x6_3 x7_4 t112 t115 x10_29 x11_29 l0_0 l0_1 t105 t106 = some r) ∧ Aside0 (kq ≤ k4) ∧ Aside0 (Kd.R (Kd.int .i64) 3 wc w.heap.size (fun k_ => some k_ ≠ (v11 : Value).ownBlock) v113 t112) ∧ Aside0 (Kd.R (Kd.int .i64) 3 wc w.heap.size (fun k_ => some k_ ≠ (v113 : Value).ownBlock) v11 x11_29) ∧ Aside0 (Kd.S (Kd.slice 3 (Kd.int .i64)) 45 wc w.heap.size (fun k_ => some k_ ≠ (v113 : Value).ownBlock ∧ some k_ ≠ (v11 : Value).ownBlock) (.slice Ao24 t106.length co24) t106) ∧ Aside0 (wc.heap[gb101]? = some (.cells #[(.slice (some ad104) l0_0.length c0_0), (.slice A0_1 l0_1.length c0_1)] 37 (0, 0))) ∧ Aside0 (wc.heap[gb109]? = some (.cells #[.int .i64 t105, (.slice Ao24 t106.length co24)] 42 (0, 0))) ∧ Aside0 (Below w.heap.size w wc))
               case first =>
                have H := HC30.out
                clear HC30
                by_cases c34 : t111 = true
                ·subst c34
                 have H1 : (if 0 ≤ x3_1 then (if x3_1 < (l0_0.length : Int) then ((q60.f ((rd_T42 l0_0 x3_1).f0) ((rd_T42 l0_0 x3_1).f1) x7_4 x6_3).bind fun t117 => (if t117 = 0 then ((q39.f k4 ((rd_T42 l0_0 x3_1).f0) ((rd_T42 l0_0 x3_1).f1) x7_4 x6_3).bind fun t119 => (q3.j4 k4 x3_1 true x6_3 x7_4 t112 t115 t117 t119 l0_0 l0_1 t105 t106)) else (q3.j4 k4 x3_1 true x6_3 x7_4 t112 t115 t117 ([] : List Int) l0_0 l0_1 t105 t106))) else (none)) else (none)) = some r := by rw [if_pos rfl] at H; exact H
                 clear H
                 have H := H1
                 clear H1
                 by_cases c35 : 0 ≤ x3_1
                 ·rw [if_pos c35] at H
                  have c35b0 : decide (0 ≤ x3_1) = true := decide_eq_true c35
                  clear c35
                  (first | rw [c35b0] | (simp only [i64_w, i32_w]; rw [c35b0]) | skip)
                  by_cases c36 : x3_1 < (l0_0.length : Int)
                  ·rw [if_pos c36] at H
                   have c36b0 : decide (x3_1 < (l0_0.length : Int)) = true := decide_eq_true c36
                   clear c36
                   replace H := Option.bind_eq_some_iff.mp H
                   obtain ⟨t117, A370, H⟩ := H
                   replace H : (if t117 = 0 then ((q39.f k4 ((rd_T42 l0_0 x3_1).f0) ((rd_T42 l0_0 x3_1).f1) x7_4 x6_3).bind fun t119 => (q3.j4 k4 x3_1 true x6_3 x7_4 t112 t115 t117 t119 l0_0 l0_1 t105 t106)) else (q3.j4 k4 x3_1 true x6_3 x7_4 t112 t115 t117 ([] : List Int) l0_0 l0_1 t105 t106)) = some r := H
                   have A37 := Aside0.mk A370
                   clear A370
                   by_cases c38 : t117 = 0
                   ·rw [if_pos c38] at H
                    have c38b0 : (t117 == 0) = true := beq_iff_eq.mpr c38
                    have c38b1 : (t117 != 0) = false := bne_eq_false_iff_eq.mpr c38
                    clear c38
                    replace H := Option.bind_eq_some_iff.mp H
                    obtain ⟨t119, A390, H⟩ := H
                    replace H : (q3.j4 k4 x3_1 true x6_3 x7_4 t112 t115 t117 t119 l0_0 l0_1 t105 t106) = some r := H
                    have A39 := Aside0.mk A390
                    clear A390
                    have H' := Aside0.mk H
                    clear H
                    have hnb40 := NB101_109.out
                    have hnc40 := NB109_101.out
                    have hcz41_0 : w33.cell? ⟨gb101, 0, none⟩ = some (.slice (some ad104) l0_0.length c0_0) := (blk_cell BK101.out 0).trans rfl
                    have hcz41_1 : w33.cell? ⟨gb101, 1, none⟩ = some (.slice A0_1 l0_1.length c0_1) := (blk_cell BK101.out 1).trans rfl
                    have hfz41_0 := blk_frozen BK101.out 0
                    have hfz41_1 := blk_frozen BK101.out 1
                    have p116 : 0 ≤ (x3_1 : Int) := of_decide_eq_true v2_
                    have q116 : x3_1 < (l0_0.length : Int) := of_decide_eq_true v2_
                    obtain ⟨ad116, A116_1, c116_1, e116, hx116_0, hx116_1, hl116_1, hi116_1⟩ := at_T42 HR0_0.out x3_1 p116 q116
                    obtain rfl : ad104 = ad116 := (by injection e116)
                    replace hx116_0 := (HB.out.cell (World.block_lt_of_cell? w _ hx116_0)).trans hx116_0
                    replace hx116_1 := (HB.out.cell (World.block_lt_of_cell? w _ hx116_1)).trans hx116_1
                    have HR116_1 := Aside0.mk hi116_1
                    have HC116_1 := Aside0.mk hl116_1
                    clear hi116_1 hl116_1
                    replace p116 := eq_true p116
                    replace q116 := eq_true q116
                    go_wp2_with (first | ((with_reducible refine gate_callee (f := 28) rfl ?_); refine goesL_ (some 62) rfl rfl Try.func28 v9_ rfl #[.agg #[.int .i64 ((rd_T42 l0_0 x3_1).f0), .slice A116_1 ((rd_T42 l0_0 x3_1).f1).length c116_1], .int .i64 x7_4, .int .i64 x6_3] rfl v4_ ?_; (with_reducible refine (q60.calls ((rd_T42 l0_0 x3_1).f0) _ _ ((rd_T42 l0_0 x3_1).f1) x7_4 x6_3 t117 _ ?side1 ?side2 A37.out).mono ?_); (case side1 => repeat (first | exact (Kd.C_below HR116_1.out HB.out) | (with_reducible refine Kd.C_alloc ?_ _) | (with_reducible refine Kd.C_drewN ?_ _) | (with_reducible refine Kd.C_drew ?_))); (case side2 => exact HC116_1.out); rintro e w42 ⟨rfl, hb⟩; refine ⟨_, rfl, ?_⟩; have n0_ := Aside0.mk (Kd.S_below v14_ hb); have n1_ := Aside0.mk (Kd.R_below v31_ hb); have n2_ := Aside0.mk (blk_below (g := gb101) (o := .cells #[.slice (some ad104) l0_0.length c0_0, .slice A0_1 l0_1.length c0_1] 37 (0, 0)) v3_ hb); have n3_ := Aside0.mk (blk_below (g := gb109) (o := .cells #[.int .i64 t105, .slice Ao24 t106.length co24] 42 (0, 0)) v13_ hb); have n4_ := Aside0.mk (below_step v7_ hb); clear HO_110001; clear HO114; clear BK101; clear BK109; clear HB; have HO_110001 := n0_; have HO114 := n1_; have BK101 := n2_; have BK109 := n3_; have HB := n4_; clear n0_ n1_ n2_ n3_ n4_; (try clear hb); (try clear hb2); (try clear hk); (try clear hi); have hcz43_0 : w42.cell? ⟨gb101, 0, none⟩ = some (.slice (some ad104) l0_0.length c0_0) := (blk_cell BK101.out 0).trans rfl; have hcz43_1 : w42.cell? ⟨gb101, 1, none⟩ = some (.slice A0_1 l0_1.length c0_1) := (blk_cell BK101.out 1).trans rfl; have hfz43_0 := blk_frozen BK101.out 0; have hfz43_1 := blk_frozen BK101.out 1; have p118 : 0 ≤ (x3_1 : Int) := of_decide_eq_true v2_; have q118 : x3_1 < (l0_0.length : Int) := of_decide_eq_true v2_; obtain ⟨ad118, A118_1, c118_1, e118, hx118_0, hx118_1, hl118_1, hi118_1⟩ := at_T42 HR0_0.out x3_1 p118 q118; obtain rfl : ad104 = ad118 := (by injection e118); replace hx118_0 := (HB.out.cell (World.block_lt_of_cell? w _ hx118_0)).trans hx118_0; replace hx118_1 := (HB.out.cell (World.block_lt_of_cell? w _ hx118_1)).trans hx118_1; have HR118_1 := Aside0.mk hi118_1; have HC118_1 := Aside0.mk hl118_1; clear hi118_1 hl118_1; replace p118 := eq_true p118; replace q118 := eq_true q118) | ((with_reducible refine gate_callee (f := 29) rfl ?_); refine goesL_ (some 72) rfl rfl Try.func29 v9_ rfl #[.agg #[.int .i64 ((rd_T42 l0_0 x3_1).f0), .slice A118_1 ((rd_T42 l0_0 x3_1).f1).length c118_1], .int .i64 x7_4, .int .i64 x6_3] rfl v4_ ?_; (with_reducible refine (q39.calls k4 ((rd_T42 l0_0 x3_1).f0) _ _ ((rd_T42 l0_0 x3_1).f1) x7_4 x6_3 t119 _ ?side1 ?side2 A39.out).mono ?_); (case side1 => repeat (first | exact (Kd.C_below HR118_1.out HB.out) | (with_reducible refine Kd.C_alloc ?_ _) | (with_reducible refine Kd.C_drewN ?_ _) | (with_reducible refine Kd.C_drew ?_))); (case side2 => exact HC118_1.out); rintro e w44 ⟨v120, rfl, ho0, hb⟩; refine ⟨_, rfl, ?_⟩; have n0_ := Aside0.mk (Kd.S_elder' v14_ (Kd.R_base ho0) hb); have n1_ := Aside0.mk (Kd.R_elder' v31_ (Kd.R_base ho0) hb); have n2_ := Aside0.mk (Kd.R_lower (Kd.R_new' ho0 (Kd.R_lt v31_)) (below_size v7_)); have n3_ := Aside0.mk (blk_below (g := gb101) (o := .cells #[.slice (some ad104) l0_0.length c0_0, .slice A0_1 l0_1.length c0_1] 37 (0, 0)) v3_ hb); have n4_ := Aside0.mk (blk_below (g := gb109) (o := .cells #[.int .i64 t105, .slice Ao24 t106.length co24] 42 (0, 0)) v13_ hb); have n5_ := Aside0.mk (below_step v7_ hb); clear HO_110001; clear HO114; clear BK101; clear BK109; clear HB; have HO_110001 := n0_; have HO114 := n1_; have HO121 := n2_; have BK101 := n3_; have BK109 := n4_; have HB := n5_; clear n0_ n1_ n2_ n3_ n4_ n5_; (try clear hb); (try clear hb2); (try clear hk); (try clear hi); (try clear ho0)))
                    go_meet
                    case rel => exact ⟨_, (t117), (t119), v6_, H', ⟨by have := HK1.out; have := HJ9.out; have := HK3.out; have := HK4.out; first | omega | exact Nat.le_refl _⟩, ⟨by (with_reducible repeat (first | apply Kd.R_alloc | apply Kd.R_drewN | apply Kd.R_drew)); exact Kd.R_mono HO114.out (fun _ hk => hk.2)⟩, ⟨by (with_reducible repeat (first | apply Kd.R_alloc | apply Kd.R_drewN | apply Kd.R_drew)); exact Kd.R_mono HO121.out (fun _ hk => hk.2)⟩, ⟨by (with_reducible repeat (first | apply Kd.S_alloc | apply Kd.S_drewN | apply Kd.S_drew)); exact Kd.S_mono HO_110001.out (fun _ hk => ⟨hk.1.2, hk.2⟩)⟩, ⟨by (with_reducible repeat (first | refine blk_drewN ?_ _ | refine blk_drew ?_ | refine blk_alloc ?_ _)); exact BK101.out⟩, ⟨by (with_reducible repeat (first | refine blk_drewN ?_ _ | refine blk_drew ?_ | refine blk_alloc ?_ _)); exact BK109.out⟩, ⟨by repeat (first | (with_reducible first | exact HB.out | apply below_alloc | apply pw_below_drewN | apply below_drew1 | refine below_set ?_ GE101.out | refine below_set ?_ GE109.out) | exact HB.out)⟩⟩
                   ·rw [if_neg c38] at H
                    have c38b0 : (t117 == 0) = false := beq_eq_false_iff_ne.mpr c38
                    have c38b1 : (t117 != 0) = true := bne_iff_ne.mpr c38
                    have H' := Aside0.mk H
                    clear H
                    have hnb45 := NB101_109.out
                    have hnc45 := NB109_101.out
                    have hcz46_0 : w33.cell? ⟨gb101, 0, none⟩ = some (.slice (some ad104) l0_0.length c0_0) := (blk_cell BK101.out 0).trans rfl
                    have hcz46_1 : w33.cell? ⟨gb101, 1, none⟩ = some (.slice A0_1 l0_1.length c0_1) := (blk_cell BK101.out 1).trans rfl
                    have hfz46_0 := blk_frozen BK101.out 0
                    have hfz46_1 := blk_frozen BK101.out 1
                    have p116 : 0 ≤ (x3_1 : Int) := of_decide_eq_true v2_
                    have q116 : x3_1 < (l0_0.length : Int) := of_decide_eq_true v2_
                    obtain ⟨ad116, A116_1, c116_1, e116, hx116_0, hx116_1, hl116_1, hi116_1⟩ := at_T42 HR0_0.out x3_1 p116 q116
                    obtain rfl : ad104 = ad116 := (by injection e116)
                    replace hx116_0 := (HB.out.cell (World.block_lt_of_cell? w _ hx116_0)).trans hx116_0
                    replace hx116_1 := (HB.out.cell (World.block_lt_of_cell? w _ hx116_1)).trans hx116_1
                    have HR116_1 := Aside0.mk hi116_1
                    have HC116_1 := Aside0.mk hl116_1
                    clear hi116_1 hl116_1
                    replace p116 := eq_true p116
                    replace q116 := eq_true q116
                    go_wp2_with (first | ((with_reducible refine gate_callee (f := 28) rfl ?_); refine goesL_ (some 62) rfl rfl Try.func28 v9_ rfl #[.agg #[.int .i64 ((rd_T42 l0_0 x3_1).f0), .slice A116_1 ((rd_T42 l0_0 x3_1).f1).length c116_1], .int .i64 x7_4, .int .i64 x6_3] rfl v4_ ?_; (with_reducible refine (q60.calls ((rd_T42 l0_0 x3_1).f0) _ _ ((rd_T42 l0_0 x3_1).f1) x7_4 x6_3 t117 _ ?side1 ?side2 A37.out).mono ?_); (case side1 => repeat (first | exact (Kd.C_below HR116_1.out HB.out) | (with_reducible refine Kd.C_alloc ?_ _) | (with_reducible refine Kd.C_drewN ?_ _) | (with_reducible refine Kd.C_drew ?_))); (case side2 => exact HC116_1.out); rintro e w47 ⟨rfl, hb⟩; refine ⟨_, rfl, ?_⟩; have n0_ := Aside0.mk (Kd.S_below v14_ hb); have n1_ := Aside0.mk (Kd.R_below v31_ hb); have n2_ := Aside0.mk (blk_below (g := gb101) (o := .cells #[.slice (some ad104) l0_0.length c0_0, .slice A0_1 l0_1.length c0_1] 37 (0, 0)) v3_ hb); have n3_ := Aside0.mk (blk_below (g := gb109) (o := .cells #[.int .i64 t105, .slice Ao24 t106.length co24] 42 (0, 0)) v13_ hb); have n4_ := Aside0.mk (below_step v7_ hb); clear HO_110001; clear HO114; clear BK101; clear BK109; clear HB; have HO_110001 := n0_; have HO114 := n1_; have BK101 := n2_; have BK109 := n3_; have HB := n4_; clear n0_ n1_ n2_ n3_ n4_; (try clear hb); (try clear hb2); (try clear hk); (try clear hi)))
                    go_meet
                    case rel => exact ⟨_, (t117), (([] : List Int)), v6_, H', ⟨by have := HK1.out; have := HJ9.out; have := HK3.out; have := HK4.out; first | omega | exact Nat.le_refl _⟩, ⟨by (with_reducible repeat (first | apply Kd.R_alloc | apply Kd.R_drewN | apply Kd.R_drew)); exact Kd.R_mono HO114.out (fun _ hk => (by simp [Value.ownBlock]))⟩, ⟨by first | exact Kd.R_nil _ _ _ _ _ | exact Kd.N_nil _ _ _ _ _ | exact Kd.V_nil _ _ _ _ _ | exact Kd.Q_nil _ _ _ _ _ | exact Kd.S_nil _ _ _ _ _⟩, ⟨by (with_reducible repeat (first | apply Kd.S_alloc | apply Kd.S_drewN | apply Kd.S_drew)); exact Kd.S_mono HO_110001.out (fun _ hk => ⟨hk.2, (by simp [Value.ownBlock])⟩)⟩, ⟨by (with_reducible repeat (first | refine blk_drewN ?_ _ | refine blk_drew ?_ | refine blk_alloc ?_ _)); exact BK101.out⟩, ⟨by (with_reducible repeat (first | refine blk_drewN ?_ _ | refine blk_drew ?_ | refine blk_alloc ?_ _)); exact BK109.out⟩, ⟨by repeat (first | (with_reducible first | exact HB.out | apply below_alloc | apply pw_below_drewN | apply below_drew1 | refine below_set ?_ GE101.out | refine below_set ?_ GE109.out) | exact HB.out)⟩⟩
                  ·rw [if_neg c36] at H
                   exact absurd H v21_
                 ·rw [if_neg c35] at H
                  exact absurd H v21_
                ·replace c34 := Bool.eq_false_iff.mpr c34
                 subst c34
                 have H1 : (q3.j4 k4 x3_1 false x6_3 x7_4 t112 t115 1 ([] : List Int) l0_0 l0_1 t105 t106) = some r := by rw [if_neg (show ¬ (false = true) by decide)] at H; exact H
                 clear H
                 have H := H1
                 clear H1
                 have H' := Aside0.mk H
                 clear H
                 go_wp2
                 go_meet
                 case rel => exact ⟨_, (1), (([] : List Int)), v6_, H', ⟨by have := HK1.out; have := HJ9.out; have := HK3.out; have := HK4.out; first | omega | exact Nat.le_refl _⟩, ⟨by (with_reducible repeat (first | apply Kd.R_alloc | apply Kd.R_drewN | apply Kd.R_drew)); exact Kd.R_mono HO114.out (fun _ hk => (by simp [Value.ownBlock]))⟩, ⟨by first | exact Kd.R_nil _ _ _ _ _ | exact Kd.N_nil _ _ _ _ _ | exact Kd.V_nil _ _ _ _ _ | exact Kd.Q_nil _ _ _ _ _ | exact Kd.S_nil _ _ _ _ _⟩, ⟨by (with_reducible repeat (first | apply Kd.S_alloc | apply Kd.S_drewN | apply Kd.S_drew)); exact Kd.S_mono HO_110001.out (fun _ hk => ⟨hk.2, (by simp [Value.ownBlock])⟩)⟩, ⟨by (with_reducible repeat (first | refine blk_drewN ?_ _ | refine blk_drew ?_ | refine blk_alloc ?_ _)); exact BK101.out⟩, ⟨by (with_reducible repeat (first | refine blk_drewN ?_ _ | refine blk_drew ?_ | refine blk_alloc ?_ _)); exact BK109.out⟩, ⟨by repeat (first | (with_reducible first | exact HB.out | apply below_alloc | apply pw_below_drewN | apply below_drew1 | refine below_set ?_ GE101.out | refine below_set ?_ GE109.out) | exact HB.out)⟩⟩
               case rest =>
                clear HC30
                try clear c1
                try clear p1
                try clear q1
                try clear hx1
                try clear c2
                try clear p2
                try clear c3
                try clear c4
                try clear c10
                try clear p10
                try clear q10
                try clear hx10
                try clear c11
                try clear c11b0
                try clear p11
                try clear q11
                try clear hx11
                try clear c12
                try clear c14
                try clear c15
                try clear c15b0
                try clear c16
                try clear c16b0
                try clear c22
                try clear c24
                try clear c25
                try clear c26
                try clear c27
                try clear c27b0
                try clear c28
                try clear c28b0
                try clear c29
                try clear c31
                try clear c34
                try clear c35
                try clear c35b0
                try clear c36
                try clear c36b0
                try clear c38
                try clear c38b0
                try clear c38b1
                try clear c40
                try clear c45
                try clear hcz12_0
                try clear hcz12_1
                try clear hcz13_0
                try clear hcz13_1
                try clear hcz19_0
                try clear hcz19_1
                try clear hcz23_0
                try clear hcz23_1
                try clear hcz25_0
                try clear hcz25_1
                try clear hcz32_0
                try clear hcz32_1
                try clear hcz41_0
                try clear hcz41_1
                try clear hcz43_0
                try clear hcz43_1
                try clear hcz46_0
                try clear hcz46_1
                try clear hcz5_0
                try clear hcz5_1
                try clear hcz8_0
                try clear hcz8_1
                try clear hfz12_0
                try clear hfz12_1
                try clear hfz13_0
                try clear hfz13_1
                try clear hfz19_0
                try clear hfz19_1
                try clear hfz23_0
                try clear hfz23_1
                try clear hfz25_0
                try clear hfz25_1
                try clear hfz32_0
                try clear hfz32_1
                try clear hfz41_0
                try clear hfz41_1
                try clear hfz43_0
                try clear hfz43_1
                try clear hfz46_0
                try clear hfz46_1
                try clear hfz5_0
                try clear hfz5_1
                try clear hfz8_0
                try clear hfz8_1
                try clear hx104_0
                try clear hx104_1
                try clear hx110_0
                try clear hx110_1
                try clear hx116_0
                try clear hx116_1
                try clear hx118_0
                try clear hx118_1
                try clear p1
                try clear p10
                try clear p104
                try clear p11
                try clear p110
                try clear p116
                try clear p118
                try clear p2
                try clear q1
                try clear q10
                try clear q104
                try clear q11
                try clear q110
                try clear q116
                try clear q118
                obtain ⟨kq, x10_29, x11_29, rfl, HA, HJ29, HO_8, HO_11, HO_110001, BK101, BK109, HB⟩ := hcut
                cases kq with
                | zero => exact absurd HA.out (by simp [q3.j4])
                | succ kj29 =>
                 have H := HA.out
                 clear HA
                 simp only [q3.j4] at H
                 have HC48 := Aside0.mk H
                 clear H
                 go_upto_region 21 with (fail)
                 go_cut [82] (fun v82 wc => ∃ (kq : Nat) (x82_47 : Bool), v82 = .bool x82_47 ∧ Aside0 (q3.j5 kq x3_1 t111 x6_3 x7_4 x10_29 x11_29 x82_47 l0_0 l0_1 t105 t106 = some r) ∧ Aside0 (kq ≤ kj29) ∧ Aside0 (Kd.R (Kd.int .i64) 3 wc w.heap.size (fun _ => True) u11 x11_29) ∧ Aside0 (Kd.S (Kd.slice 3 (Kd.int .i64)) 45 wc w.heap.size (fun k_ => some k_ ≠ (u11 : Value).ownBlock) (.slice Ao24 t106.length co24) t106) ∧ Aside0 (wc.heap[gb101]? = some (.cells #[(.slice (some ad104) l0_0.length c0_0), (.slice A0_1 l0_1.length c0_1)] 37 (0, 0))) ∧ Aside0 (wc.heap[gb109]? = some (.cells #[.int .i64 t105, (.slice Ao24 t106.length co24)] 42 (0, 0))) ∧ Aside0 (Below w.heap.size w wc))
                 case first =>
                  have H := HC48.out
                  clear HC48
                  replace H := Option.bind_eq_some_iff.mp H
                  obtain ⟨t122, A490, H⟩ := H
                  replace H : (if t122 = x10_29 then ((q17.f kj29 t112 x11_29).bind fun t123 => (q3.j5 kj29 x3_1 t111 x6_3 x7_4 x10_29 x11_29 (!t123) l0_0 l0_1 t105 t106)) else (q3.j5 kj29 x3_1 t111 x6_3 x7_4 x10_29 x11_29 true l0_0 l0_1 t105 t106)) = some r := H
                  have A49 := Aside0.mk A490
                  clear A490
                  by_cases c50 : t122 = x10_29
                  ·rw [if_pos c50] at H
                   have c50b0 : (t122 == x10_29) = true := beq_iff_eq.mpr c50
                   have c50b1 : (t122 != x10_29) = false := bne_eq_false_iff_eq.mpr c50
                   clear c50
                   (first | rw [c50b0] | (simp only [i64_w, i32_w]; rw [c50b0]) | skip)
                   replace H := Option.bind_eq_some_iff.mp H
                   obtain ⟨t123, A510, H⟩ := H
                   replace H : (q3.j5 kj29 x3_1 t111 x6_3 x7_4 x10_29 x11_29 (!t123) l0_0 l0_1 t105 t106) = some r := H
                   have A51 := Aside0.mk A510
                   clear A510
                   have H' := Aside0.mk H
                   clear H
                   go_wp2_with (first | ((with_reducible refine gate_callee (f := 30) rfl ?_); refine goesL_ (some 74) rfl rfl Try.func30 v9_ rfl #[.int .i64 t115] rfl v4_ ?_; (with_reducible refine (q44.calls t115 t122 _ A49.out).mono ?_); rintro e w' ⟨rfl, ⟨nd, rfl⟩⟩; refine ⟨_, rfl, ?_⟩; obtain ⟨Ao52, co52, eo52⟩ := Kd.R_slice HO_8.out; subst eo52; obtain ⟨Ao53, co53, eo53⟩ := Kd.R_slice HO_11.out; subst eo53) | (go_at_call 31; (with_reducible refine (q17.calls kj29 _ _ t112 _ _ x11_29 t123 _ ?side1 ?side2 ?side3 ?side4 A51.out).mono ?_); (case side1 => repeat (first | exact (Kd.R_reads' HO_8.out).2.2 | (with_reducible refine Kd.C_alloc ?_ _) | (with_reducible refine Kd.C_drewN ?_ _) | (with_reducible refine Kd.C_drew ?_))); (case side2 => exact (Kd.R_reads' HO_8.out).2.1); (case side3 => repeat (first | exact (Kd.R_reads' HO_11.out).2.2 | (with_reducible refine Kd.C_alloc ?_ _) | (with_reducible refine Kd.C_drewN ?_ _) | (with_reducible refine Kd.C_drew ?_))); (case side4 => exact (Kd.R_reads' HO_11.out).2.1); rintro e w' ⟨rfl, ⟨nd, rfl⟩⟩))
                   go_meet
                   case rel => exact ⟨_, (!t123), v6_, H', ⟨by have := HK1.out; have := HJ9.out; have := HK3.out; have := HK4.out; have := HJ29.out; first | omega | exact Nat.le_refl _⟩, ⟨by (with_reducible repeat (first | apply Kd.R_alloc | apply Kd.R_drewN | apply Kd.R_drew)); exact Kd.R_mono HO_11.out (fun _ hk => trivial)⟩, ⟨by (with_reducible repeat (first | apply Kd.S_alloc | apply Kd.S_drewN | apply Kd.S_drew)); exact Kd.S_mono HO_110001.out (fun _ hk => hk.2)⟩, ⟨by (with_reducible repeat (first | refine blk_drewN ?_ _ | refine blk_drew ?_ | refine blk_alloc ?_ _)); exact BK101.out⟩, ⟨by (with_reducible repeat (first | refine blk_drewN ?_ _ | refine blk_drew ?_ | refine blk_alloc ?_ _)); exact BK109.out⟩, ⟨by repeat (first | (with_reducible first | exact HB.out | apply below_alloc | apply pw_below_drewN | apply below_drew1 | refine below_set ?_ GE101.out | refine below_set ?_ GE109.out) | exact HB.out)⟩⟩
                  ·rw [if_neg c50] at H
                   have c50b0 : (t122 == x10_29) = false := beq_eq_false_iff_ne.mpr c50
                   have c50b1 : (t122 != x10_29) = true := bne_iff_ne.mpr c50
                   (first | rw [c50b0] | (simp only [i64_w, i32_w]; rw [c50b0]) | skip)
                   have H' := Aside0.mk H
                   clear H
                   go_wp2_with (first | ((with_reducible refine gate_callee (f := 30) rfl ?_); refine goesL_ (some 74) rfl rfl Try.func30 v9_ rfl #[.int .i64 t115] rfl v4_ ?_; (with_reducible refine (q44.calls t115 t122 _ A49.out).mono ?_); rintro e w' ⟨rfl, ⟨nd, rfl⟩⟩; refine ⟨_, rfl, ?_⟩))
                   go_meet
                   case rel => exact ⟨_, (true), v6_, H', ⟨by have := HK1.out; have := HJ9.out; have := HK3.out; have := HK4.out; have := HJ29.out; first | omega | exact Nat.le_refl _⟩, ⟨by (with_reducible repeat (first | apply Kd.R_alloc | apply Kd.R_drewN | apply Kd.R_drew)); exact Kd.R_mono HO_11.out (fun _ hk => trivial)⟩, ⟨by (with_reducible repeat (first | apply Kd.S_alloc | apply Kd.S_drewN | apply Kd.S_drew)); exact Kd.S_mono HO_110001.out (fun _ hk => hk.2)⟩, ⟨by (with_reducible repeat (first | refine blk_drewN ?_ _ | refine blk_drew ?_ | refine blk_alloc ?_ _)); exact BK101.out⟩, ⟨by (with_reducible repeat (first | refine blk_drewN ?_ _ | refine blk_drew ?_ | refine blk_alloc ?_ _)); exact BK109.out⟩, ⟨by repeat (first | (with_reducible first | exact HB.out | apply below_alloc | apply pw_below_drewN | apply below_drew1 | refine below_set ?_ GE101.out | refine below_set ?_ GE109.out) | exact HB.out)⟩⟩
                 case rest =>
                  clear HC48
                  try clear c1
                  try clear p1
                  try clear q1
                  try clear hx1
                  try clear c2
                  try clear p2
                  try clear c3
                  try clear c4
                  try clear c5
                  try clear c10
                  try clear p10
                  try clear q10
                  try clear hx10
                  try clear c11
                  try clear c11b0
                  try clear p11
                  try clear q11
                  try clear hx11
                  try clear c12
                  try clear c14
                  try clear c15
                  try clear c15b0
                  try clear c16
                  try clear c16b0
                  try clear c22
                  try clear c24
                  try clear c25
                  try clear c26
                  try clear c27
                  try clear c27b0
                  try clear c28
                  try clear c28b0
                  try clear c29
                  try clear c30
                  try clear c31
                  try clear c34
                  try clear c35
                  try clear c35b0
                  try clear c36
                  try clear c36b0
                  try clear c38
                  try clear c38b0
                  try clear c38b1
                  try clear c40
                  try clear c45
                  try clear c50
                  try clear c50b0
                  try clear c50b1
                  try clear hcz12_0
                  try clear hcz12_1
                  try clear hcz13_0
                  try clear hcz13_1
                  try clear hcz19_0
                  try clear hcz19_1
                  try clear hcz23_0
                  try clear hcz23_1
                  try clear hcz25_0
                  try clear hcz25_1
                  try clear hcz32_0
                  try clear hcz32_1
                  try clear hcz41_0
                  try clear hcz41_1
                  try clear hcz43_0
                  try clear hcz43_1
                  try clear hcz46_0
                  try clear hcz46_1
                  try clear hcz5_0
                  try clear hcz5_1
                  try clear hcz8_0
                  try clear hcz8_1
                  try clear hfz12_0
                  try clear hfz12_1
                  try clear hfz13_0
                  try clear hfz13_1
                  try clear hfz19_0
                  try clear hfz19_1
                  try clear hfz23_0
                  try clear hfz23_1
                  try clear hfz25_0
                  try clear hfz25_1
                  try clear hfz32_0
                  try clear hfz32_1
                  try clear hfz41_0
                  try clear hfz41_1
                  try clear hfz43_0
                  try clear hfz43_1
                  try clear hfz46_0
                  try clear hfz46_1
                  try clear hfz5_0
                  try clear hfz5_1
                  try clear hfz8_0
                  try clear hfz8_1
                  try clear hx104_0
                  try clear hx104_1
                  try clear hx110_0
                  try clear hx110_1
                  try clear hx116_0
                  try clear hx116_1
                  try clear hx118_0
                  try clear hx118_1
                  try clear p1
                  try clear p10
                  try clear p104
                  try clear p11
                  try clear p110
                  try clear p116
                  try clear p118
                  try clear p2
                  try clear q1
                  try clear q10
                  try clear q104
                  try clear q11
                  try clear q110
                  try clear q116
                  try clear q118
                  obtain ⟨kq, x82_47, rfl, HA, HJ47, HO_11, HO_110001, BK101, BK109, HB⟩ := hcut
                  cases kq with
                  | zero => exact absurd HA.out (by simp [q3.j5])
                  | succ kj47 =>
                   have H := HA.out
                   clear HA
                   simp only [q3.j5] at H
                   by_cases c54 : x82_47 = true
                   ·subst c54
                    have H1 : (some false) = some r := by rw [if_pos rfl] at H; exact H
                    clear H
                    have H := H1
                    clear H1
                    obtain rfl := Option.some.inj H
                    go_wp2
                    go_ret
                    exact ⟨by first | rfl | (simp [errW_none, errW_some] <;> rfl) | (simp [*, errW_none, errW_some] <;> rfl), by repeat (first | (with_reducible first | exact HB.out | apply below_alloc | apply pw_below_drewN | apply below_drew1 | refine below_set ?_ GE101.out | refine below_set ?_ GE109.out) | exact HB.out)⟩
                   ·replace c54 := Bool.eq_false_iff.mpr c54
                    subst c54
                    have H1 : (if x7_4 = 1 then ((q67.f kj47 t105 t106 x6_3).bind fun bt124 => (q3.j6 kj47 x3_1 t111 x6_3 x7_4 x10_29 x11_29 bt124.1 bt124.2 l0_0 l0_1 t105 t106)) else (if x7_4 = 2 then ((q68.f kj47 t105 t106 x6_3).bind fun bt128 => (q3.j6 kj47 x3_1 t111 x6_3 x7_4 x10_29 x11_29 bt128.1 bt128.2 l0_0 l0_1 t105 t106)) else (if x7_4 = 3 then ((q69.f kj47 t105 t106).bind fun bt132 => (q3.j6 kj47 x3_1 t111 x6_3 x7_4 x10_29 x11_29 bt132.1 bt132.2 l0_0 l0_1 t105 t106)) else (if x7_4 = 4 then ((q48.f kj47 t105 t106 x6_3).bind fun bt136 => (q3.j6 kj47 x3_1 t111 x6_3 x7_4 x10_29 x11_29 bt136.1 bt136.2 l0_0 l0_1 t105 t106)) else (if x7_4 = 5 then ((q70.f kj47 t105 t106).bind fun bt140 => (q3.j6 kj47 x3_1 t111 x6_3 x7_4 x10_29 x11_29 bt140.1 bt140.2 l0_0 l0_1 t105 t106)) else (if x7_4 = 6 then ((q71.f kj47 t105 t106).bind fun bt144 => (q3.j6 kj47 x3_1 t111 x6_3 x7_4 x10_29 x11_29 bt144.1 bt144.2 l0_0 l0_1 t105 t106)) else (q3.l2 kj47 x3_1 t111 x6_3 (wrap64 (x7_4 + 1)) l0_0 l0_1 t105 t106))))))) = some r := by rw [if_neg (show ¬ (false = true) by decide)] at H; exact H
                    clear H
                    have H := H1
                    clear H1
                    have HC55 := Aside0.mk H
                    clear H
                    go_upto_block 6 with (fail)
                    go_cut [12, 13] (fun v12 v13 wc => ∃ (kq : Nat) (x12_54 : List Int) (x13_54 : Int), v13 = .int .i64 x13_54 ∧ Aside0 (q3.j6 kq x3_1 t111 x6_3 x7_4 x10_29 x11_29 x12_54 x13_54 l0_0 l0_1 t105 t106 = some r) ∧ Aside0 (kq ≤ kj47) ∧ Aside0 (Kd.R (Kd.int .i64) 3 wc w.heap.size (fun k_ => some k_ ≠ (v12 : Value).ownBlock) u11 x11_29) ∧ Aside0 (Kd.R (Kd.int .i64) 3 wc w.heap.size (fun k_ => some k_ ≠ (u11 : Value).ownBlock) v12 x12_54) ∧ Aside0 (Kd.S (Kd.slice 3 (Kd.int .i64)) 45 wc w.heap.size (fun k_ => some k_ ≠ (u11 : Value).ownBlock ∧ some k_ ≠ (v12 : Value).ownBlock) (.slice Ao24 t106.length co24) t106) ∧ Aside0 (wc.heap[gb101]? = some (.cells #[(.slice (some ad104) l0_0.length c0_0), (.slice A0_1 l0_1.length c0_1)] 37 (0, 0))) ∧ Aside0 (wc.heap[gb109]? = some (.cells #[.int .i64 t105, (.slice Ao24 t106.length co24)] 42 (0, 0))) ∧ Aside0 (Below w.heap.size w wc))
                    case first =>
                     have H := HC55.out
                     clear HC55
                     by_cases c56 : x7_4 = 1
                     ·rw [if_pos c56] at H
                      have c56b0 : (x7_4 == 1) = true := beq_iff_eq.mpr c56
                      have c56b1 : (x7_4 != 1) = false := bne_eq_false_iff_eq.mpr c56
                      clear c56
                      (first | rw [c56b0] | (simp only [i64_w, i32_w]; rw [c56b0]) | skip)
                      replace H := Option.bind_eq_some_iff.mp H
                      obtain ⟨⟨t124, t127⟩, A570, H⟩ := H
                      replace H : (q3.j6 kj47 x3_1 t111 x6_3 x7_4 x10_29 x11_29 t124 t127 l0_0 l0_1 t105 t106) = some r := H
                      have A57 := Aside0.mk A570
                      clear A570
                      have H' := Aside0.mk H
                      clear H
                      have hnb58 := NB109_101.out
                      have hnc58 := NB101_109.out
                      have hcz59_0 : wc.cell? ⟨gb109, 0, none⟩ = some (.int .i64 t105) := (blk_cell BK109.out 0).trans rfl
                      have hcz59_1 : wc.cell? ⟨gb109, 1, none⟩ = some (.slice Ao24 t106.length co24) := (blk_cell BK109.out 1).trans rfl
                      have hfz59_0 := blk_frozen BK109.out 0
                      have hfz59_1 := blk_frozen BK109.out 1
                      go_wp2_with (first | ((with_reducible refine gate_callee (f := 32) rfl ?_); refine goesL_ (some 89) rfl rfl Try.func32 v9_ rfl #[.agg #[.int .i64 t105, .slice Ao24 t106.length co24], .int .i64 x6_3] rfl v4_ ?_; (with_reducible refine (q67.calls kj47 t105 _ _ t106 x6_3 t124 t127 _ ?side1 ?side2 A57.out).mono ?_); (case side1 => repeat (first | exact (Kd.S_reads' HO_110001.out).2.2 | (with_reducible refine Kd.C_alloc ?_ _) | (with_reducible refine Kd.C_drewN ?_ _) | (with_reducible refine Kd.C_drew ?_))); (case side2 => exact (Kd.S_reads' HO_110001.out).2.1); rintro e w60 ⟨v125, rfl, ho0, hb⟩; refine ⟨_, rfl, ?_⟩; have n0_ := Aside0.mk (Kd.R_elder' v15_ (Kd.R_base ho0) hb); have n1_ := Aside0.mk (Kd.S_elder' v14_ (Kd.R_base ho0) hb); have n2_ := Aside0.mk (Kd.R_lower (Kd.R_new' ho0 (Kd.R_lt v15_)) (below_size v7_)); have n3_ := Aside0.mk (blk_below (g := gb101) (o := .cells #[.slice (some ad104) l0_0.length c0_0, .slice A0_1 l0_1.length c0_1] 37 (0, 0)) v3_ hb); have n4_ := Aside0.mk (blk_below (g := gb109) (o := .cells #[.int .i64 t105, .slice Ao24 t106.length co24] 42 (0, 0)) v13_ hb); have n5_ := Aside0.mk (below_step v7_ hb); clear HO_11; clear HO_110001; clear BK101; clear BK109; clear HB; have HO_11 := n0_; have HO_110001 := n1_; have HO126 := n2_; have BK101 := n3_; have BK109 := n4_; have HB := n5_; clear n0_ n1_ n2_ n3_ n4_ n5_; (try clear hb); (try clear hb2); (try clear hk); (try clear hi); (try clear ho0)))
                      go_meet
                      case rel => exact ⟨_, (t124), (t127), v6_, H', ⟨by have := HK1.out; have := HJ9.out; have := HK3.out; have := HK4.out; have := HJ29.out; have := HJ47.out; first | omega | exact Nat.le_refl _⟩, ⟨by (with_reducible repeat (first | apply Kd.R_alloc | apply Kd.R_drewN | apply Kd.R_drew)); exact Kd.R_mono HO_11.out (fun _ hk => hk.2)⟩, ⟨by (with_reducible repeat (first | apply Kd.R_alloc | apply Kd.R_drewN | apply Kd.R_drew)); exact Kd.R_mono HO126.out (fun _ hk => hk.2)⟩, ⟨by (with_reducible repeat (first | apply Kd.S_alloc | apply Kd.S_drewN | apply Kd.S_drew)); exact HO_110001.out⟩, ⟨by (with_reducible repeat (first | refine blk_drewN ?_ _ | refine blk_drew ?_ | refine blk_alloc ?_ _)); exact BK101.out⟩, ⟨by (with_reducible repeat (first | refine blk_drewN ?_ _ | refine blk_drew ?_ | refine blk_alloc ?_ _)); exact BK109.out⟩, ⟨by repeat (first | (with_reducible first | exact HB.out | apply below_alloc | apply pw_below_drewN | apply below_drew1 | refine below_set ?_ GE101.out | refine below_set ?_ GE109.out) | exact HB.out)⟩⟩
                     ·rw [if_neg c56] at H
                      have c56b0 : (x7_4 == 1) = false := beq_eq_false_iff_ne.mpr c56
                      have c56b1 : (x7_4 != 1) = true := bne_iff_ne.mpr c56
                      (first | rw [c56b0] | (simp only [i64_w, i32_w]; rw [c56b0]) | skip)
                      by_cases c61 : x7_4 = 2
                      ·rw [if_pos c61] at H
                       have c61b0 : (x7_4 == 2) = true := beq_iff_eq.mpr c61
                       have c61b1 : (x7_4 != 2) = false := bne_eq_false_iff_eq.mpr c61
                       clear c61
                       replace H := Option.bind_eq_some_iff.mp H
                       obtain ⟨⟨t128, t131⟩, A620, H⟩ := H
                       replace H : (q3.j6 kj47 x3_1 t111 x6_3 x7_4 x10_29 x11_29 t128 t131 l0_0 l0_1 t105 t106) = some r := H
                       have A62 := Aside0.mk A620
                       clear A620
                       have H' := Aside0.mk H
                       clear H
                       have hnb63 := NB109_101.out
                       have hnc63 := NB101_109.out
                       have hcz64_0 : wc.cell? ⟨gb109, 0, none⟩ = some (.int .i64 t105) := (blk_cell BK109.out 0).trans rfl
                       have hcz64_1 : wc.cell? ⟨gb109, 1, none⟩ = some (.slice Ao24 t106.length co24) := (blk_cell BK109.out 1).trans rfl
                       have hfz64_0 := blk_frozen BK109.out 0
                       have hfz64_1 := blk_frozen BK109.out 1
                       go_wp2_with (first | ((with_reducible refine gate_callee (f := 33) rfl ?_); refine goesL_ (some 97) rfl rfl Try.func33 v9_ rfl #[.agg #[.int .i64 t105, .slice Ao24 t106.length co24], .int .i64 x6_3] rfl v4_ ?_; (with_reducible refine (q68.calls kj47 t105 _ _ t106 x6_3 t128 t131 _ ?side1 ?side2 A62.out).mono ?_); (case side1 => repeat (first | exact (Kd.S_reads' HO_110001.out).2.2 | (with_reducible refine Kd.C_alloc ?_ _) | (with_reducible refine Kd.C_drewN ?_ _) | (with_reducible refine Kd.C_drew ?_))); (case side2 => exact (Kd.S_reads' HO_110001.out).2.1); rintro e w65 ⟨v129, rfl, ho0, hb⟩; refine ⟨_, rfl, ?_⟩; have n0_ := Aside0.mk (Kd.R_elder' v15_ (Kd.R_base ho0) hb); have n1_ := Aside0.mk (Kd.S_elder' v14_ (Kd.R_base ho0) hb); have n2_ := Aside0.mk (Kd.R_lower (Kd.R_new' ho0 (Kd.R_lt v15_)) (below_size v7_)); have n3_ := Aside0.mk (blk_below (g := gb101) (o := .cells #[.slice (some ad104) l0_0.length c0_0, .slice A0_1 l0_1.length c0_1] 37 (0, 0)) v3_ hb); have n4_ := Aside0.mk (blk_below (g := gb109) (o := .cells #[.int .i64 t105, .slice Ao24 t106.length co24] 42 (0, 0)) v13_ hb); have n5_ := Aside0.mk (below_step v7_ hb); clear HO_11; clear HO_110001; clear BK101; clear BK109; clear HB; have HO_11 := n0_; have HO_110001 := n1_; have HO130 := n2_; have BK101 := n3_; have BK109 := n4_; have HB := n5_; clear n0_ n1_ n2_ n3_ n4_ n5_; (try clear hb); (try clear hb2); (try clear hk); (try clear hi); (try clear ho0)))
                       go_meet
                       case rel => exact ⟨_, (t128), (t131), v6_, H', ⟨by have := HK1.out; have := HJ9.out; have := HK3.out; have := HK4.out; have := HJ29.out; have := HJ47.out; first | omega | exact Nat.le_refl _⟩, ⟨by (with_reducible repeat (first | apply Kd.R_alloc | apply Kd.R_drewN | apply Kd.R_drew)); exact Kd.R_mono HO_11.out (fun _ hk => hk.2)⟩, ⟨by (with_reducible repeat (first | apply Kd.R_alloc | apply Kd.R_drewN | apply Kd.R_drew)); exact Kd.R_mono HO130.out (fun _ hk => hk.2)⟩, ⟨by (with_reducible repeat (first | apply Kd.S_alloc | apply Kd.S_drewN | apply Kd.S_drew)); exact HO_110001.out⟩, ⟨by (with_reducible repeat (first | refine blk_drewN ?_ _ | refine blk_drew ?_ | refine blk_alloc ?_ _)); exact BK101.out⟩, ⟨by (with_reducible repeat (first | refine blk_drewN ?_ _ | refine blk_drew ?_ | refine blk_alloc ?_ _)); exact BK109.out⟩, ⟨by repeat (first | (with_reducible first | exact HB.out | apply below_alloc | apply pw_below_drewN | apply below_drew1 | refine below_set ?_ GE101.out | refine below_set ?_ GE109.out) | exact HB.out)⟩⟩
                      ·rw [if_neg c61] at H
                       have c61b0 : (x7_4 == 2) = false := beq_eq_false_iff_ne.mpr c61
                       have c61b1 : (x7_4 != 2) = true := bne_iff_ne.mpr c61
                       by_cases c66 : x7_4 = 3
                       ·rw [if_pos c66] at H
                        have c66b0 : (x7_4 == 3) = true := beq_iff_eq.mpr c66
                        have c66b1 : (x7_4 != 3) = false := bne_eq_false_iff_eq.mpr c66
                        clear c66
                        replace H := Option.bind_eq_some_iff.mp H
                        obtain ⟨⟨t132, t135⟩, A670, H⟩ := H
                        replace H : (q3.j6 kj47 x3_1 t111 x6_3 x7_4 x10_29 x11_29 t132 t135 l0_0 l0_1 t105 t106) = some r := H
                        have A67 := Aside0.mk A670
                        clear A670
                        have H' := Aside0.mk H
                        clear H
                        have hnb68 := NB109_101.out
                        have hnc68 := NB101_109.out
                        have hcz69_0 : wc.cell? ⟨gb109, 0, none⟩ = some (.int .i64 t105) := (blk_cell BK109.out 0).trans rfl
                        have hcz69_1 : wc.cell? ⟨gb109, 1, none⟩ = some (.slice Ao24 t106.length co24) := (blk_cell BK109.out 1).trans rfl
                        have hfz69_0 := blk_frozen BK109.out 0
                        have hfz69_1 := blk_frozen BK109.out 1
                        go_wp2_with (first | ((with_reducible refine gate_callee (f := 34) rfl ?_); refine goesL_ (some 104) rfl rfl Try.func34 v9_ rfl #[.agg #[.int .i64 t105, .slice Ao24 t106.length co24]] rfl v4_ ?_; (with_reducible refine (q69.calls kj47 t105 _ _ t106 t132 t135 _ ?side1 ?side2 A67.out).mono ?_); (case side1 => repeat (first | exact (Kd.S_reads' HO_110001.out).2.2 | (with_reducible refine Kd.C_alloc ?_ _) | (with_reducible refine Kd.C_drewN ?_ _) | (with_reducible refine Kd.C_drew ?_))); (case side2 => exact (Kd.S_reads' HO_110001.out).2.1); rintro e w70 ⟨v133, rfl, ho0, hb⟩; refine ⟨_, rfl, ?_⟩; have n0_ := Aside0.mk (Kd.R_elder' v15_ (Kd.R_base ho0) hb); have n1_ := Aside0.mk (Kd.S_elder' v14_ (Kd.R_base ho0) hb); have n2_ := Aside0.mk (Kd.R_lower (Kd.R_new' ho0 (Kd.R_lt v15_)) (below_size v7_)); have n3_ := Aside0.mk (blk_below (g := gb101) (o := .cells #[.slice (some ad104) l0_0.length c0_0, .slice A0_1 l0_1.length c0_1] 37 (0, 0)) v3_ hb); have n4_ := Aside0.mk (blk_below (g := gb109) (o := .cells #[.int .i64 t105, .slice Ao24 t106.length co24] 42 (0, 0)) v13_ hb); have n5_ := Aside0.mk (below_step v7_ hb); clear HO_11; clear HO_110001; clear BK101; clear BK109; clear HB; have HO_11 := n0_; have HO_110001 := n1_; have HO134 := n2_; have BK101 := n3_; have BK109 := n4_; have HB := n5_; clear n0_ n1_ n2_ n3_ n4_ n5_; (try clear hb); (try clear hb2); (try clear hk); (try clear hi); (try clear ho0)))
                        go_meet
                        case rel => exact ⟨_, (t132), (t135), v6_, H', ⟨by have := HK1.out; have := HJ9.out; have := HK3.out; have := HK4.out; have := HJ29.out; have := HJ47.out; first | omega | exact Nat.le_refl _⟩, ⟨by (with_reducible repeat (first | apply Kd.R_alloc | apply Kd.R_drewN | apply Kd.R_drew)); exact Kd.R_mono HO_11.out (fun _ hk => hk.2)⟩, ⟨by (with_reducible repeat (first | apply Kd.R_alloc | apply Kd.R_drewN | apply Kd.R_drew)); exact Kd.R_mono HO134.out (fun _ hk => hk.2)⟩, ⟨by (with_reducible repeat (first | apply Kd.S_alloc | apply Kd.S_drewN | apply Kd.S_drew)); exact HO_110001.out⟩, ⟨by (with_reducible repeat (first | refine blk_drewN ?_ _ | refine blk_drew ?_ | refine blk_alloc ?_ _)); exact BK101.out⟩, ⟨by (with_reducible repeat (first | refine blk_drewN ?_ _ | refine blk_drew ?_ | refine blk_alloc ?_ _)); exact BK109.out⟩, ⟨by repeat (first | (with_reducible first | exact HB.out | apply below_alloc | apply pw_below_drewN | apply below_drew1 | refine below_set ?_ GE101.out | refine below_set ?_ GE109.out) | exact HB.out)⟩⟩
                       ·rw [if_neg c66] at H
                        have c66b0 : (x7_4 == 3) = false := beq_eq_false_iff_ne.mpr c66
                        have c66b1 : (x7_4 != 3) = true := bne_iff_ne.mpr c66
                        by_cases c71 : x7_4 = 4
                        ·rw [if_pos c71] at H
                         have c71b0 : (x7_4 == 4) = true := beq_iff_eq.mpr c71
                         have c71b1 : (x7_4 != 4) = false := bne_eq_false_iff_eq.mpr c71
                         clear c71
                         replace H := Option.bind_eq_some_iff.mp H
                         obtain ⟨⟨t136, t139⟩, A720, H⟩ := H
                         replace H : (q3.j6 kj47 x3_1 t111 x6_3 x7_4 x10_29 x11_29 t136 t139 l0_0 l0_1 t105 t106) = some r := H
                         have A72 := Aside0.mk A720
                         clear A720
                         have H' := Aside0.mk H
                         clear H
                         have hnb73 := NB109_101.out
                         have hnc73 := NB101_109.out
                         have hcz74_0 : wc.cell? ⟨gb109, 0, none⟩ = some (.int .i64 t105) := (blk_cell BK109.out 0).trans rfl
                         have hcz74_1 : wc.cell? ⟨gb109, 1, none⟩ = some (.slice Ao24 t106.length co24) := (blk_cell BK109.out 1).trans rfl
                         have hfz74_0 := blk_frozen BK109.out 0
                         have hfz74_1 := blk_frozen BK109.out 1
                         go_wp2_with (first | ((with_reducible refine gate_callee (f := 35) rfl ?_); refine goesL_ (some 112) rfl rfl Try.func35 v9_ rfl #[.agg #[.int .i64 t105, .slice Ao24 t106.length co24], .int .i64 x6_3] rfl v4_ ?_; (with_reducible refine (q48.calls kj47 t105 _ _ t106 x6_3 t136 t139 _ ?side1 ?side2 A72.out).mono ?_); (case side1 => repeat (first | exact (Kd.S_reads' HO_110001.out).2.2 | (with_reducible refine Kd.C_alloc ?_ _) | (with_reducible refine Kd.C_drewN ?_ _) | (with_reducible refine Kd.C_drew ?_))); (case side2 => exact (Kd.S_reads' HO_110001.out).2.1); rintro e w75 ⟨v137, rfl, ho0, hb⟩; refine ⟨_, rfl, ?_⟩; have n0_ := Aside0.mk (Kd.R_elder' v15_ (Kd.R_base ho0) hb); have n1_ := Aside0.mk (Kd.S_elder' v14_ (Kd.R_base ho0) hb); have n2_ := Aside0.mk (Kd.R_lower (Kd.R_new' ho0 (Kd.R_lt v15_)) (below_size v7_)); have n3_ := Aside0.mk (blk_below (g := gb101) (o := .cells #[.slice (some ad104) l0_0.length c0_0, .slice A0_1 l0_1.length c0_1] 37 (0, 0)) v3_ hb); have n4_ := Aside0.mk (blk_below (g := gb109) (o := .cells #[.int .i64 t105, .slice Ao24 t106.length co24] 42 (0, 0)) v13_ hb); have n5_ := Aside0.mk (below_step v7_ hb); clear HO_11; clear HO_110001; clear BK101; clear BK109; clear HB; have HO_11 := n0_; have HO_110001 := n1_; have HO138 := n2_; have BK101 := n3_; have BK109 := n4_; have HB := n5_; clear n0_ n1_ n2_ n3_ n4_ n5_; (try clear hb); (try clear hb2); (try clear hk); (try clear hi); (try clear ho0)))
                         go_meet
                         case rel => exact ⟨_, (t136), (t139), v6_, H', ⟨by have := HK1.out; have := HJ9.out; have := HK3.out; have := HK4.out; have := HJ29.out; have := HJ47.out; first | omega | exact Nat.le_refl _⟩, ⟨by (with_reducible repeat (first | apply Kd.R_alloc | apply Kd.R_drewN | apply Kd.R_drew)); exact Kd.R_mono HO_11.out (fun _ hk => hk.2)⟩, ⟨by (with_reducible repeat (first | apply Kd.R_alloc | apply Kd.R_drewN | apply Kd.R_drew)); exact Kd.R_mono HO138.out (fun _ hk => hk.2)⟩, ⟨by (with_reducible repeat (first | apply Kd.S_alloc | apply Kd.S_drewN | apply Kd.S_drew)); exact HO_110001.out⟩, ⟨by (with_reducible repeat (first | refine blk_drewN ?_ _ | refine blk_drew ?_ | refine blk_alloc ?_ _)); exact BK101.out⟩, ⟨by (with_reducible repeat (first | refine blk_drewN ?_ _ | refine blk_drew ?_ | refine blk_alloc ?_ _)); exact BK109.out⟩, ⟨by repeat (first | (with_reducible first | exact HB.out | apply below_alloc | apply pw_below_drewN | apply below_drew1 | refine below_set ?_ GE101.out | refine below_set ?_ GE109.out) | exact HB.out)⟩⟩
                        ·rw [if_neg c71] at H
                         have c71b0 : (x7_4 == 4) = false := beq_eq_false_iff_ne.mpr c71
                         have c71b1 : (x7_4 != 4) = true := bne_iff_ne.mpr c71
                         by_cases c76 : x7_4 = 5
                         ·rw [if_pos c76] at H
                          have c76b0 : (x7_4 == 5) = true := beq_iff_eq.mpr c76
                          have c76b1 : (x7_4 != 5) = false := bne_eq_false_iff_eq.mpr c76
                          clear c76
                          replace H := Option.bind_eq_some_iff.mp H
                          obtain ⟨⟨t140, t143⟩, A770, H⟩ := H
                          replace H : (q3.j6 kj47 x3_1 t111 x6_3 x7_4 x10_29 x11_29 t140 t143 l0_0 l0_1 t105 t106) = some r := H
                          have A77 := Aside0.mk A770
                          clear A770
                          have H' := Aside0.mk H
                          clear H
                          have hnb78 := NB109_101.out
                          have hnc78 := NB101_109.out
                          have hcz79_0 : wc.cell? ⟨gb109, 0, none⟩ = some (.int .i64 t105) := (blk_cell BK109.out 0).trans rfl
                          have hcz79_1 : wc.cell? ⟨gb109, 1, none⟩ = some (.slice Ao24 t106.length co24) := (blk_cell BK109.out 1).trans rfl
                          have hfz79_0 := blk_frozen BK109.out 0
                          have hfz79_1 := blk_frozen BK109.out 1
                          go_wp2_with (first | ((with_reducible refine gate_callee (f := 36) rfl ?_); refine goesL_ (some 119) rfl rfl Try.func36 v9_ rfl #[.agg #[.int .i64 t105, .slice Ao24 t106.length co24]] rfl v4_ ?_; (with_reducible refine (q70.calls kj47 t105 _ _ t106 t140 t143 _ ?side1 ?side2 A77.out).mono ?_); (case side1 => repeat (first | exact (Kd.S_reads' HO_110001.out).2.2 | (with_reducible refine Kd.C_alloc ?_ _) | (with_reducible refine Kd.C_drewN ?_ _) | (with_reducible refine Kd.C_drew ?_))); (case side2 => exact (Kd.S_reads' HO_110001.out).2.1); rintro e w80 ⟨v141, rfl, ho0, hb⟩; refine ⟨_, rfl, ?_⟩; have n0_ := Aside0.mk (Kd.R_elder' v15_ (Kd.R_base ho0) hb); have n1_ := Aside0.mk (Kd.S_elder' v14_ (Kd.R_base ho0) hb); have n2_ := Aside0.mk (Kd.R_lower (Kd.R_new' ho0 (Kd.R_lt v15_)) (below_size v7_)); have n3_ := Aside0.mk (blk_below (g := gb101) (o := .cells #[.slice (some ad104) l0_0.length c0_0, .slice A0_1 l0_1.length c0_1] 37 (0, 0)) v3_ hb); have n4_ := Aside0.mk (blk_below (g := gb109) (o := .cells #[.int .i64 t105, .slice Ao24 t106.length co24] 42 (0, 0)) v13_ hb); have n5_ := Aside0.mk (below_step v7_ hb); clear HO_11; clear HO_110001; clear BK101; clear BK109; clear HB; have HO_11 := n0_; have HO_110001 := n1_; have HO142 := n2_; have BK101 := n3_; have BK109 := n4_; have HB := n5_; clear n0_ n1_ n2_ n3_ n4_ n5_; (try clear hb); (try clear hb2); (try clear hk); (try clear hi); (try clear ho0)))
                          go_meet
                          case rel => exact ⟨_, (t140), (t143), v6_, H', ⟨by have := HK1.out; have := HJ9.out; have := HK3.out; have := HK4.out; have := HJ29.out; have := HJ47.out; first | omega | exact Nat.le_refl _⟩, ⟨by (with_reducible repeat (first | apply Kd.R_alloc | apply Kd.R_drewN | apply Kd.R_drew)); exact Kd.R_mono HO_11.out (fun _ hk => hk.2)⟩, ⟨by (with_reducible repeat (first | apply Kd.R_alloc | apply Kd.R_drewN | apply Kd.R_drew)); exact Kd.R_mono HO142.out (fun _ hk => hk.2)⟩, ⟨by (with_reducible repeat (first | apply Kd.S_alloc | apply Kd.S_drewN | apply Kd.S_drew)); exact HO_110001.out⟩, ⟨by (with_reducible repeat (first | refine blk_drewN ?_ _ | refine blk_drew ?_ | refine blk_alloc ?_ _)); exact BK101.out⟩, ⟨by (with_reducible repeat (first | refine blk_drewN ?_ _ | refine blk_drew ?_ | refine blk_alloc ?_ _)); exact BK109.out⟩, ⟨by repeat (first | (with_reducible first | exact HB.out | apply below_alloc | apply pw_below_drewN | apply below_drew1 | refine below_set ?_ GE101.out | refine below_set ?_ GE109.out) | exact HB.out)⟩⟩
                         ·rw [if_neg c76] at H
                          have c76b0 : (x7_4 == 5) = false := beq_eq_false_iff_ne.mpr c76
                          have c76b1 : (x7_4 != 5) = true := bne_iff_ne.mpr c76
                          by_cases c81 : x7_4 = 6
                          ·rw [if_pos c81] at H
                           have c81b0 : (x7_4 == 6) = true := beq_iff_eq.mpr c81
                           have c81b1 : (x7_4 != 6) = false := bne_eq_false_iff_eq.mpr c81
                           clear c81
                           replace H := Option.bind_eq_some_iff.mp H
                           obtain ⟨⟨t144, t147⟩, A820, H⟩ := H
                           replace H : (q3.j6 kj47 x3_1 t111 x6_3 x7_4 x10_29 x11_29 t144 t147 l0_0 l0_1 t105 t106) = some r := H
                           have A82 := Aside0.mk A820
                           clear A820
                           have H' := Aside0.mk H
                           clear H
                           have hnb83 := NB109_101.out
                           have hnc83 := NB101_109.out
                           have hcz84_0 : wc.cell? ⟨gb109, 0, none⟩ = some (.int .i64 t105) := (blk_cell BK109.out 0).trans rfl
                           have hcz84_1 : wc.cell? ⟨gb109, 1, none⟩ = some (.slice Ao24 t106.length co24) := (blk_cell BK109.out 1).trans rfl
                           have hfz84_0 := blk_frozen BK109.out 0
                           have hfz84_1 := blk_frozen BK109.out 1
                           go_wp2_with (first | ((with_reducible refine gate_callee (f := 37) rfl ?_); refine goesL_ (some 126) rfl rfl Try.func37 v9_ rfl #[.agg #[.int .i64 t105, .slice Ao24 t106.length co24]] rfl v4_ ?_; (with_reducible refine (q71.calls kj47 t105 _ _ t106 t144 t147 _ ?side1 ?side2 A82.out).mono ?_); (case side1 => repeat (first | exact (Kd.S_reads' HO_110001.out).2.2 | (with_reducible refine Kd.C_alloc ?_ _) | (with_reducible refine Kd.C_drewN ?_ _) | (with_reducible refine Kd.C_drew ?_))); (case side2 => exact (Kd.S_reads' HO_110001.out).2.1); rintro e w85 ⟨v145, rfl, ho0, hb⟩; refine ⟨_, rfl, ?_⟩; have n0_ := Aside0.mk (Kd.R_elder' v15_ (Kd.R_base ho0) hb); have n1_ := Aside0.mk (Kd.S_elder' v14_ (Kd.R_base ho0) hb); have n2_ := Aside0.mk (Kd.R_lower (Kd.R_new' ho0 (Kd.R_lt v15_)) (below_size v7_)); have n3_ := Aside0.mk (blk_below (g := gb101) (o := .cells #[.slice (some ad104) l0_0.length c0_0, .slice A0_1 l0_1.length c0_1] 37 (0, 0)) v3_ hb); have n4_ := Aside0.mk (blk_below (g := gb109) (o := .cells #[.int .i64 t105, .slice Ao24 t106.length co24] 42 (0, 0)) v13_ hb); have n5_ := Aside0.mk (below_step v7_ hb); clear HO_11; clear HO_110001; clear BK101; clear BK109; clear HB; have HO_11 := n0_; have HO_110001 := n1_; have HO146 := n2_; have BK101 := n3_; have BK109 := n4_; have HB := n5_; clear n0_ n1_ n2_ n3_ n4_ n5_; (try clear hb); (try clear hb2); (try clear hk); (try clear hi); (try clear ho0)))
                           go_meet
                           case rel => exact ⟨_, (t144), (t147), v6_, H', ⟨by have := HK1.out; have := HJ9.out; have := HK3.out; have := HK4.out; have := HJ29.out; have := HJ47.out; first | omega | exact Nat.le_refl _⟩, ⟨by (with_reducible repeat (first | apply Kd.R_alloc | apply Kd.R_drewN | apply Kd.R_drew)); exact Kd.R_mono HO_11.out (fun _ hk => hk.2)⟩, ⟨by (with_reducible repeat (first | apply Kd.R_alloc | apply Kd.R_drewN | apply Kd.R_drew)); exact Kd.R_mono HO146.out (fun _ hk => hk.2)⟩, ⟨by (with_reducible repeat (first | apply Kd.S_alloc | apply Kd.S_drewN | apply Kd.S_drew)); exact HO_110001.out⟩, ⟨by (with_reducible repeat (first | refine blk_drewN ?_ _ | refine blk_drew ?_ | refine blk_alloc ?_ _)); exact BK101.out⟩, ⟨by (with_reducible repeat (first | refine blk_drewN ?_ _ | refine blk_drew ?_ | refine blk_alloc ?_ _)); exact BK109.out⟩, ⟨by repeat (first | (with_reducible first | exact HB.out | apply below_alloc | apply pw_below_drewN | apply below_drew1 | refine below_set ?_ GE101.out | refine below_set ?_ GE109.out) | exact HB.out)⟩⟩
                          ·rw [if_neg c81] at H
                           have c81b0 : (x7_4 == 6) = false := beq_eq_false_iff_ne.mpr c81
                           have c81b1 : (x7_4 != 6) = true := bne_iff_ne.mpr c81
                           have H' := Aside0.mk H
                           clear H
                           go_wp2
                           go_roundg kj47
                           case measure => have := HK1.out; have := HJ9.out; have := HK3.out; have := HK4.out; have := HJ29.out; have := HJ47.out; omega
                           case rel => exact ⟨(wrap64 (x7_4 + 1)), v6_, H', ⟨by have := HK1.out; have := HJ9.out; have := HK3.out; have := HK4.out; have := HJ29.out; have := HJ47.out; omega⟩, ⟨by (with_reducible repeat (first | apply Kd.S_alloc | apply Kd.S_drewN | apply Kd.S_drew)); exact Kd.S_mono HO_110001.out (fun _ hk => trivial)⟩, ⟨by (with_reducible repeat (first | refine blk_drewN ?_ _ | refine blk_drew ?_ | refine blk_alloc ?_ _)); exact BK101.out⟩, ⟨by (with_reducible repeat (first | refine blk_drewN ?_ _ | refine blk_drew ?_ | refine blk_alloc ?_ _)); exact BK109.out⟩, ⟨by repeat (first | (with_reducible first | exact HB.out | apply below_alloc | apply pw_below_drewN | apply below_drew1 | refine below_set ?_ GE101.out | refine below_set ?_ GE109.out) | exact HB.out)⟩⟩
                    case rest =>
                     clear HC55
                     try clear c1
                     try clear p1
                     try clear q1
                     try clear hx1
                     try clear c2
                     try clear p2
                     try clear c3
                     try clear c4
                     try clear c5
                     try clear c6
                     try clear p6
                     try clear c7
                     try clear c8
                     try clear c10
                     try clear p10
                     try clear q10
                     try clear hx10
                     try clear c11
                     try clear c11b0
                     try clear p11
                     try clear q11
                     try clear hx11
                     try clear c12
                     try clear c14
                     try clear c15
                     try clear c15b0
                     try clear c16
                     try clear c16b0
                     try clear c22
                     try clear c24
                     try clear c25
                     try clear c26
                     try clear c27
                     try clear c27b0
                     try clear c28
                     try clear c28b0
                     try clear c29
                     try clear c30
                     try clear c31
                     try clear c32
                     try clear c33
                     try clear c34
                     try clear c35
                     try clear c35b0
                     try clear c36
                     try clear c36b0
                     try clear c37
                     try clear c38
                     try clear c38b0
                     try clear c38b1
                     try clear c40
                     try clear c45
                     try clear c50
                     try clear c50b0
                     try clear c50b1
                     try clear c54
                     try clear c56
                     try clear c56b0
                     try clear c56b1
                     try clear c58
                     try clear c61
                     try clear c61b0
                     try clear c61b1
                     try clear c63
                     try clear p64
                     try clear c66
                     try clear c66b0
                     try clear c66b1
                     try clear c68
                     try clear c71
                     try clear c71b0
                     try clear c71b1
                     try clear c73
                     try clear c76
                     try clear c76b0
                     try clear c76b1
                     try clear c78
                     try clear c81
                     try clear c81b0
                     try clear c81b1
                     try clear c83
                     try clear hcz12_0
                     try clear hcz12_1
                     try clear hcz13_0
                     try clear hcz13_1
                     try clear hcz19_0
                     try clear hcz19_1
                     try clear hcz23_0
                     try clear hcz23_1
                     try clear hcz25_0
                     try clear hcz25_1
                     try clear hcz32_0
                     try clear hcz32_1
                     try clear hcz41_0
                     try clear hcz41_1
                     try clear hcz43_0
                     try clear hcz43_1
                     try clear hcz46_0
                     try clear hcz46_1
                     try clear hcz59_0
                     try clear hcz59_1
                     try clear hcz5_0
                     try clear hcz5_1
                     try clear hcz64_0
                     try clear hcz64_1
                     try clear hcz69_0
                     try clear hcz69_1
                     try clear hcz74_0
                     try clear hcz74_1
                     try clear hcz79_0
                     try clear hcz79_1
                     try clear hcz84_0
                     try clear hcz84_1
                     try clear hcz8_0
                     try clear hcz8_1
                     try clear hfz12_0
                     try clear hfz12_1
                     try clear hfz13_0
                     try clear hfz13_1
                     try clear hfz19_0
                     try clear hfz19_1
                     try clear hfz23_0
                     try clear hfz23_1
                     try clear hfz25_0
                     try clear hfz25_1
                     try clear hfz32_0
                     try clear hfz32_1
                     try clear hfz41_0
                     try clear hfz41_1
                     try clear hfz43_0
                     try clear hfz43_1
                     try clear hfz46_0
                     try clear hfz46_1
                     try clear hfz59_0
                     try clear hfz59_1
                     try clear hfz5_0
                     try clear hfz5_1
                     try clear hfz64_0
                     try clear hfz64_1
                     try clear hfz69_0
                     try clear hfz69_1
                     try clear hfz74_0
                     try clear hfz74_1
                     try clear hfz79_0
                     try clear hfz79_1
                     try clear hfz84_0
                     try clear hfz84_1
                     try clear hfz8_0
                     try clear hfz8_1
                     try clear hx104_0
                     try clear hx104_1
                     try clear hx110_0
                     try clear hx110_1
                     try clear hx116_0
                     try clear hx116_1
                     try clear hx118_0
                     try clear hx118_1
                     try clear p1
                     try clear p10
                     try clear p104
                     try clear p11
                     try clear p110
                     try clear p116
                     try clear p118
                     try clear p2
                     try clear q1
                     try clear q10
                     try clear q104
                     try clear q11
                     try clear q110
                     try clear q116
                     try clear q118
                     obtain ⟨kq, x12_54, x13_54, rfl, HA, HJ54, HO_11, HO_12, HO_110001, BK101, BK109, HB⟩ := hcut
                     cases kq with
                     | zero => exact absurd HA.out (by simp [q3.j6])
                     | succ kj54 =>
                      have H := HA.out
                      clear HA
                      simp only [q3.j6] at H
                      have HC86 := Aside0.mk H
                      clear H
                      go_upto_region 38 with (fail)
                      go_cut [148] (fun v148 wc => ∃ (kq : Nat) (x148_85 : Bool), v148 = .bool x148_85 ∧ Aside0 (q3.j7 kq x3_1 t111 x6_3 x7_4 x12_54 x148_85 l0_0 l0_1 t105 t106 = some r) ∧ Aside0 (kq ≤ kj54) ∧ Aside0 (Kd.R (Kd.int .i64) 3 wc w.heap.size (fun _ => True) u12 x12_54) ∧ Aside0 (Kd.S (Kd.slice 3 (Kd.int .i64)) 45 wc w.heap.size (fun k_ => some k_ ≠ (u12 : Value).ownBlock) (.slice Ao24 t106.length co24) t106) ∧ Aside0 (wc.heap[gb101]? = some (.cells #[(.slice (some ad104) l0_0.length c0_0), (.slice A0_1 l0_1.length c0_1)] 37 (0, 0))) ∧ Aside0 (wc.heap[gb109]? = some (.cells #[.int .i64 t105, (.slice Ao24 t106.length co24)] 42 (0, 0))) ∧ Aside0 (Below w.heap.size w wc))
                      case first =>
                       have H := HC86.out
                       clear HC86
                       replace H := Option.bind_eq_some_iff.mp H
                       obtain ⟨t148, A870, H⟩ := H
                       replace H : (if t148 = x10_29 then ((q17.f kj54 x12_54 x11_29).bind fun t149 => (if t149 = true then (if 0 ≤ x3_1 then (if x3_1 < (l0_0.length : Int) then ((q49.f kj54 t105 t106 ((rd_T42 l0_0 x3_1).f0) ((rd_T42 l0_0 x3_1).f1)).bind fun t151 => (q3.j7 kj54 x3_1 t111 x6_3 x7_4 x12_54 (!t151) l0_0 l0_1 t105 t106)) else (none)) else (none)) else (q3.j7 kj54 x3_1 t111 x6_3 x7_4 x12_54 true l0_0 l0_1 t105 t106))) else (q3.j7 kj54 x3_1 t111 x6_3 x7_4 x12_54 true l0_0 l0_1 t105 t106)) = some r := H
                       have A87 := Aside0.mk A870
                       clear A870
                       by_cases c88 : t148 = x10_29
                       ·rw [if_pos c88] at H
                        have c88b0 : (t148 == x10_29) = true := beq_iff_eq.mpr c88
                        have c88b1 : (t148 != x10_29) = false := bne_eq_false_iff_eq.mpr c88
                        clear c88
                        (first | rw [c88b0] | (simp only [i64_w, i32_w]; rw [c88b0]) | skip)
                        replace H := Option.bind_eq_some_iff.mp H
                        obtain ⟨t149, A890, H⟩ := H
                        replace H : (if t149 = true then (if 0 ≤ x3_1 then (if x3_1 < (l0_0.length : Int) then ((q49.f kj54 t105 t106 ((rd_T42 l0_0 x3_1).f0) ((rd_T42 l0_0 x3_1).f1)).bind fun t151 => (q3.j7 kj54 x3_1 t111 x6_3 x7_4 x12_54 (!t151) l0_0 l0_1 t105 t106)) else (none)) else (none)) else (q3.j7 kj54 x3_1 t111 x6_3 x7_4 x12_54 true l0_0 l0_1 t105 t106)) = some r := H
                        have A89 := Aside0.mk A890
                        clear A890
                        by_cases c90 : t149 = true
                        ·subst c90
                         have H1 : (if 0 ≤ x3_1 then (if x3_1 < (l0_0.length : Int) then ((q49.f kj54 t105 t106 ((rd_T42 l0_0 x3_1).f0) ((rd_T42 l0_0 x3_1).f1)).bind fun t151 => (q3.j7 kj54 x3_1 t111 x6_3 x7_4 x12_54 (!t151) l0_0 l0_1 t105 t106)) else (none)) else (none)) = some r := by rw [if_pos rfl] at H; exact H
                         clear H
                         have H := H1
                         clear H1
                         by_cases c91 : 0 ≤ x3_1
                         ·rw [if_pos c91] at H
                          have c91b0 : decide (0 ≤ x3_1) = true := decide_eq_true c91
                          clear c91
                          by_cases c92 : x3_1 < (l0_0.length : Int)
                          ·rw [if_pos c92] at H
                           have c92b0 : decide (x3_1 < (l0_0.length : Int)) = true := decide_eq_true c92
                           clear c92
                           replace H := Option.bind_eq_some_iff.mp H
                           obtain ⟨t151, A930, H⟩ := H
                           replace H : (q3.j7 kj54 x3_1 t111 x6_3 x7_4 x12_54 (!t151) l0_0 l0_1 t105 t106) = some r := H
                           have A93 := Aside0.mk A930
                           clear A930
                           have H' := Aside0.mk H
                           clear H
                           try go_wp2
                           have n0_ := Aside0.mk (Kd.R_drew HO_11.out)
                           have n1_ := Aside0.mk (Kd.R_drew HO_12.out)
                           have n2_ := Aside0.mk (Kd.S_drew HO_110001.out)
                           have n3_ := Aside0.mk (blk_drew BK101.out)
                           have n4_ := Aside0.mk (blk_drew BK109.out)
                           have n5_ := Aside0.mk (below_drew1 HB.out)
                           clear HO_11
                           clear HO_12
                           clear HO_110001
                           clear BK101
                           clear BK109
                           clear HB
                           have HO_11 := n0_
                           have HO_12 := n1_
                           have HO_110001 := n2_
                           have BK101 := n3_
                           have BK109 := n4_
                           have HB := n5_
                           clear n0_ n1_ n2_ n3_ n4_ n5_
                           have p150 : 0 ≤ (x3_1 : Int) := of_decide_eq_true v2_
                           have q150 : x3_1 < (l0_0.length : Int) := of_decide_eq_true v2_
                           obtain ⟨ad150, A150_1, c150_1, e150, hx150_0, hx150_1, hl150_1, hi150_1⟩ := at_T42 HR0_0.out x3_1 p150 q150
                           have hw150_1 := hx150_1
                           have hw150_0 := hx150_0
                           obtain rfl : ad104 = ad150 := (by injection e150)
                           replace hx150_0 := (HB.out.cell (World.block_lt_of_cell? w _ hx150_0)).trans hx150_0
                           replace hx150_1 := (HB.out.cell (World.block_lt_of_cell? w _ hx150_1)).trans hx150_1
                           have HR150_1 := Aside0.mk hi150_1
                           have HC150_1 := Aside0.mk hl150_1
                           clear hi150_1 hl150_1
                           replace p150 := eq_true p150
                           replace q150 := eq_true q150
                           refine start_ (n := 20) (S := fun w' => w'.cell? ⟨gb109, 0, none⟩ = some (.int .i64 t105) ∧ w'.cell? ⟨gb109, 1, none⟩ = some (.slice Ao24 t106.length co24) ∧ w'.cell? ⟨gb101, 0, none⟩ = some (.slice (some ad104) l0_0.length c0_0) ∧ w'.cell? ⟨gb101, 1, none⟩ = some (.slice A0_1 l0_1.length c0_1) ∧ w'.cell? (ad104.add ((x3_1).toNat * 2)) = some (.int .i64 ((rd_T42 l0_0 x3_1).f0)) ∧ w'.cell? ⟨(ad104.add ((x3_1).toNat * 2)).block, (ad104.add ((x3_1).toNat * 2)).off + 1, none⟩ = some (.slice A150_1 ((rd_T42 l0_0 x3_1).f1).length c150_1)) (ds := []) #[false, false, false, false, false, false, false, false, false, false, false, false, false, false, false, false, false, false, false, false] v9_ rfl rfl ⟨(blk_cell BK109.out 0).trans rfl, (blk_cell BK109.out 1).trans rfl, (blk_cell BK101.out 0).trans rfl, (blk_cell BK101.out 1).trans rfl, ((HB.out.cell (World.block_lt_of_cell? w _ hw150_0)).trans hw150_0), ((HB.out.cell (World.block_lt_of_cell? w _ hw150_1)).trans hw150_1)⟩ (fun hHeld => ?_); refine with_tabW q3.tab38 q3.bits38 (fun HT_ HW_ => ?_)
                           generalize wc.drew = w94 at HO_11 HO_12 HO_110001 BK101 BK109 HB HR150_1 hx150_0 hx150_1 hHeld ⊢
                           refine pure_ (i := 0) (N := some 129) (v := ?_) (a' := ?_) #[true, false, false, false, false, false, false, false, false, false, false, false, false, false, false, false, false, false, false, false] rfl rfl (any_of HT_.out v9_) (fun _ _ _ h => h) (Or.inl ⟨by rfl, ?_⟩) ?_ ?_
                           rotate_left
                           ·intro w'
                            go_simp
                            with_reducible rfl
                           rotate_left
                           ·simp only [Act.put, List.setIfInBounds_toArray, List.set_cons_zero, List.set_cons_succ, i64_w, i32_w]
                            rfl
                           refine pure_ (i := 2) (N := some 131) (v := ?_) (a' := ?_) #[true, false, true, false, false, false, false, false, false, false, false, false, false, false, false, false, false, false, false, false] rfl rfl (any_of HT_.out v9_) (fun _ _ _ h => h) (Or.inl ⟨by rfl, ?_⟩) ?_ ?_
                           rotate_left
                           ·intro w'
                            go_simp
                            with_reducible rfl
                           rotate_left
                           ·simp only [Act.put, List.setIfInBounds_toArray, List.set_cons_zero, List.set_cons_succ, i64_w, i32_w]
                            rfl
                           refine one_ (i := 1) (N := some 130) #[true, true, true, false, false, false, false, false, false, false, false, false, false, false, false, false, false, false, false, false] rfl rfl (one_of HT_.out v9_) v17_ (fun K hK => ?_)
                           refine goes_ Try.func30 v9_ rfl #[.int .i64 x13_54] (by rfl) rfl rfl v4_ ?_
                           with_reducible refine (q44.calls x13_54 t148 _ A87.out).mono ?_
                           rintro e w' ⟨rfl, ⟨nd, rfl⟩⟩
                           refine ⟨_, rfl, ?_⟩
                           obtain ⟨Ao95, co95, eo95⟩ := Kd.R_slice HO_12.out
                           (first | subst eo95 | (injection eo95 with f1_ f2_ f3_; have f4_ := f1_.symm; have f5_ := f3_.symm; clear f1_ f2_ f3_; subst f4_; subst f5_))
                           obtain ⟨Ao96, co96, eo96⟩ := Kd.R_slice HO_11.out
                           (first | subst eo96 | (injection eo96 with f1_ f2_ f3_; have f4_ := f1_.symm; have f5_ := f3_.symm; clear f1_ f2_ f3_; subst f4_; subst f5_))
                           refine hK.out _ _ ⟨(blk_cell BK109.out 0).trans rfl, (blk_cell BK109.out 1).trans rfl, (blk_cell BK101.out 0).trans rfl, (blk_cell BK101.out 1).trans rfl, ((HB.out.cell (World.block_lt_of_cell? w _ hw150_0)).trans hw150_0), ((HB.out.cell (World.block_lt_of_cell? w _ hw150_1)).trans hw150_1)⟩ (fun hHeld => ?_)
                           clear hK K
                           refine norm_ (a' := ?_) ?_ ?_
                           rotate_left
                           ·show Act.put _ (some 130) _ = _
                            simp only [Act.put, List.setIfInBounds_toArray, List.set_cons_zero, List.set_cons_succ, i64_w, i32_w]
                            rfl
                           refine pure_ (i := 3) (N := some 132) (v := ?_) (a' := ?_) #[true, true, true, true, false, false, false, false, false, false, false, false, false, false, false, false, false, false, false, false] rfl rfl (any_of HT_.out v9_) (fun _ _ _ h => h) (Or.inl ⟨by rfl, ?_⟩) ?_ ?_
                           rotate_left
                           ·intro w'
                            go_simp
                            with_reducible rfl
                           rotate_left
                           ·simp only [Act.put, List.setIfInBounds_toArray, List.set_cons_zero, List.set_cons_succ, i64_w, i32_w]
                            rfl
                           refine pure_ (i := 4) (N := some 133) (v := ?_) (a' := ?_) #[true, true, true, true, true, false, false, false, false, false, false, false, false, false, false, false, false, false, false, false] rfl rfl (any_of HT_.out v9_) (fun _ _ _ h => h) (Or.inl ⟨by rfl, ?_⟩) ?_ ?_
                           rotate_left
                           ·intro w'
                            go_simp
                            with_reducible rfl
                           rotate_left
                           ·simp only [Act.put, List.setIfInBounds_toArray, List.set_cons_zero, List.set_cons_succ, i64_w, i32_w]
                            rfl
                           refine pure_ (i := 5) (N := some 134) (v := ?_) (a' := ?_) #[true, true, true, true, true, true, false, false, false, false, false, false, false, false, false, false, false, false, false, false] rfl rfl (any_of HT_.out v9_) (fun _ _ _ h => h) (Or.inl ⟨by rfl, ?_⟩) ?_ ?_
                           rotate_left
                           ·intro w'
                            go_simp
                            with_reducible rfl
                           rotate_left
                           ·simp only [Act.put, List.setIfInBounds_toArray, List.set_cons_zero, List.set_cons_succ, i64_w, i32_w]
                            rfl
                           refine pure_ (i := 6) (N := some 135) (v := ?_) (a' := ?_) #[true, true, true, true, true, true, true, false, false, false, false, false, false, false, false, false, false, false, false, false] rfl rfl (any_of HT_.out v9_) (fun _ _ _ h => h) (Or.inl ⟨by rfl, ?_⟩) ?_ ?_
                           rotate_left
                           ·intro w'
                            go_simp
                            with_reducible rfl
                           rotate_left
                           ·simp only [Act.put, List.setIfInBounds_toArray, List.set_cons_zero, List.set_cons_succ, i64_w, i32_w]
                            rfl
                           refine one_ (i := 7) (N := some 136) #[true, true, true, true, true, true, true, true, false, false, false, false, false, false, false, false, false, false, false, false] rfl rfl (one_of HT_.out v9_) v17_ (fun K hK => ?_)
                           refine goes_ Try.func31 v9_ rfl #[.slice Ao95 x12_54.length co95, .slice Ao96 x11_29.length co96] (by rfl) rfl rfl v4_ ?_
                           with_reducible refine (q17.calls kj54 _ _ x12_54 _ _ x11_29 true _ ?side1 ?side2 ?side3 ?side4 A89.out).mono ?_
                           (case side1 => repeat (first | exact (Kd.R_reads' HO_12.out).2.2 | (with_reducible refine Kd.C_alloc ?_ _) | (with_reducible refine Kd.C_drewN ?_ _) | (with_reducible refine Kd.C_drew ?_)))
                           (case side2 => exact (Kd.R_reads' HO_12.out).2.1)
                           (case side3 => repeat (first | exact (Kd.R_reads' HO_11.out).2.2 | (with_reducible refine Kd.C_alloc ?_ _) | (with_reducible refine Kd.C_drewN ?_ _) | (with_reducible refine Kd.C_drew ?_)))
                           (case side4 => exact (Kd.R_reads' HO_11.out).2.1)
                           rintro e w' ⟨rfl, ⟨nd, rfl⟩⟩
                           refine ⟨_, rfl, ?_⟩
                           refine hK.out _ _ ⟨(blk_cell BK109.out 0).trans rfl, (blk_cell BK109.out 1).trans rfl, (blk_cell BK101.out 0).trans rfl, (blk_cell BK101.out 1).trans rfl, ((HB.out.cell (World.block_lt_of_cell? w _ hw150_0)).trans hw150_0), ((HB.out.cell (World.block_lt_of_cell? w _ hw150_1)).trans hw150_1)⟩ (fun hHeld => ?_)
                           clear hK K
                           refine norm_ (a' := ?_) ?_ ?_
                           rotate_left
                           ·show Act.put _ (some 136) _ = _
                            simp only [Act.put, List.setIfInBounds_toArray, List.set_cons_zero, List.set_cons_succ, i64_w, i32_w]
                            rfl
                           refine pure_ (i := 8) (N := some 137) (v := ?_) (a' := ?_) #[true, true, true, true, true, true, true, true, true, false, false, false, false, false, false, false, false, false, false, false] rfl rfl (any_of HT_.out v9_) (fun _ _ _ h => h) (Or.inl ⟨by rfl, ?_⟩) ?_ ?_
                           rotate_left
                           ·intro w'
                            go_simp
                            with_reducible rfl
                           rotate_left
                           ·simp only [Act.put, List.setIfInBounds_toArray, List.set_cons_zero, List.set_cons_succ, i64_w, i32_w]
                            rfl
                           refine pure_ (i := 9) (N := some 138) (v := ?_) (a' := ?_) #[true, true, true, true, true, true, true, true, true, true, false, false, false, false, false, false, false, false, false, false] rfl rfl (any_of HT_.out v9_) (fun _ _ _ h => h) (Or.inl ⟨by rfl, ?_⟩) ?_ ?_
                           rotate_left
                           ·intro w'
                            go_simp
                            with_reducible rfl
                           rotate_left
                           ·simp only [Act.put, List.setIfInBounds_toArray, List.set_cons_zero, List.set_cons_succ, i64_w, i32_w]
                            rfl
                           refine pure_ (i := 10) (N := some 139) (v := ?_) (a' := ?_) #[true, true, true, true, true, true, true, true, true, true, true, false, false, false, false, false, false, false, false, false] rfl rfl (any_of HT_.out v9_) (fun _ _ _ h => h) (Or.inl ⟨by rfl, ?_⟩) ?_ ?_
                           rotate_left
                           ·intro w'
                            go_simp
                            with_reducible rfl
                           rotate_left
                           ·simp only [Act.put, List.setIfInBounds_toArray, List.set_cons_zero, List.set_cons_succ, i64_w, i32_w]
                            rfl
                           refine pure_ (i := 12) (N := some 141) (v := ?_) (a' := ?_) #[true, true, true, true, true, true, true, true, true, true, true, false, true, false, false, false, false, false, false, false] rfl rfl (any_of HT_.out v9_) (fun _ _ _ h => h) (Or.inl ⟨by rfl, ?_⟩) ?_ ?_
                           rotate_left
                           ·intro w'
                            go_simp
                            with_reducible rfl
                           rotate_left
                           ·simp only [Act.put, List.setIfInBounds_toArray, List.set_cons_zero, List.set_cons_succ, i64_w, i32_w]
                            rfl
                           refine pure_ (i := 14) (N := some 143) (v := ?_) (a' := ?_) #[true, true, true, true, true, true, true, true, true, true, true, false, true, false, true, false, false, false, false, false] rfl rfl (any_of HT_.out v9_) (fun _ _ _ h => h) (Or.inl ⟨by rfl, ?_⟩) ?_ ?_
                           rotate_left
                           ·intro w'
                            go_simp
                            with_reducible rfl
                           rotate_left
                           ·simp only [Act.put, List.setIfInBounds_toArray, List.set_cons_zero, List.set_cons_succ, i64_w, i32_w]
                            rfl
                           refine take_ (i := 11) (N := some 140) (v := ?_) (a' := ?_) #[true, true, true, true, true, true, true, true, true, true, true, true, true, false, true, false, false, false, false, false] rfl rfl (take_ofW HT_.out HW_.out v9_) (fun _ _ _ h => h) (Or.inl ⟨by rfl, ?_⟩) hHeld ?_ ?_
                           rotate_left
                           ·rintro w' ⟨s0, s1, s2, s3, s4, s5⟩
                            go_simp
                            with_reducible rfl
                           rotate_left
                           ·simp only [Act.put, List.setIfInBounds_toArray, List.set_cons_zero, List.set_cons_succ, i64_w, i32_w]
                            rfl
                           refine take_ (i := 13) (N := some 142) (v := ?_) (a' := ?_) #[true, true, true, true, true, true, true, true, true, true, true, true, true, true, true, false, false, false, false, false] rfl rfl (take_ofW HT_.out HW_.out v9_) (fun _ _ _ h => h) (Or.inl ⟨by rfl, ?_⟩) hHeld ?_ ?_
                           rotate_left
                           ·rintro w' ⟨s0, s1, s2, s3, s4, s5⟩
                            go_simp
                            with_reducible rfl
                           rotate_left
                           ·simp only [Act.put, List.setIfInBounds_toArray, List.set_cons_zero, List.set_cons_succ, i64_w, i32_w]
                            rfl
                           refine pure_ (i := 15) (N := some 144) (v := ?_) (a' := ?_) #[true, true, true, true, true, true, true, true, true, true, true, true, true, true, true, true, false, false, false, false] rfl rfl (any_of HT_.out v9_) (fun _ _ _ h => h) (Or.inl ⟨by rfl, ?_⟩) ?_ ?_
                           rotate_left
                           ·intro w'
                            go_simp
                            with_reducible rfl
                           rotate_left
                           ·simp only [Act.put, List.setIfInBounds_toArray, List.set_cons_zero, List.set_cons_succ, i64_w, i32_w]
                            rfl
                           refine take_ (i := 16) (N := some 145) (v := ?_) (a' := ?_) #[true, true, true, true, true, true, true, true, true, true, true, true, true, true, true, true, true, false, false, false] rfl rfl (take_ofW HT_.out HW_.out v9_) (fun _ _ _ h => h) (Or.inl ⟨by rfl, ?_⟩) hHeld ?_ ?_
                           rotate_left
                           ·rintro w' ⟨s0, s1, s2, s3, s4, s5⟩
                            go_simp
                            with_reducible rfl
                           rotate_left
                           ·simp only [Act.put, List.setIfInBounds_toArray, List.set_cons_zero, List.set_cons_succ, i64_w, i32_w]
                            rfl
                           refine one_ (i := 17) (N := some 146) #[true, true, true, true, true, true, true, true, true, true, true, true, true, true, true, true, true, true, false, false] rfl rfl (one_of HT_.out v9_) v17_ (fun K hK => ?_)
                           refine goes_ Try.func38 v9_ rfl #[.agg #[.int .i64 t105, .slice Ao24 t106.length co24], .agg #[.int .i64 ((rd_T42 l0_0 x3_1).f0), .slice A150_1 ((rd_T42 l0_0 x3_1).f1).length c150_1]] (by rfl) rfl rfl v4_ ?_
                           with_reducible refine (q49.calls kj54 t105 _ _ t106 ((rd_T42 l0_0 x3_1).f0) _ _ ((rd_T42 l0_0 x3_1).f1) t151 _ ?side1 ?side2 ?side3 ?side4 A93.out).mono ?_
                           (case side1 => repeat (first | exact (Kd.S_reads' HO_110001.out).2.2 | (with_reducible refine Kd.C_alloc ?_ _) | (with_reducible refine Kd.C_drewN ?_ _) | (with_reducible refine Kd.C_drew ?_)))
                           (case side2 => exact (Kd.S_reads' HO_110001.out).2.1)
                           (case side3 => repeat (first | exact (Kd.C_below HR150_1.out v7_) | (with_reducible refine Kd.C_alloc ?_ _) | (with_reducible refine Kd.C_drewN ?_ _) | (with_reducible refine Kd.C_drew ?_)))
                           (case side4 => exact HC150_1.out)
                           rintro e w97 ⟨rfl, hb⟩
                           refine ⟨_, rfl, ?_⟩
                           have n0_ := Aside0.mk (Kd.R_below v15_ hb)
                           have n1_ := Aside0.mk (Kd.R_below v47_ hb)
                           have n2_ := Aside0.mk (Kd.S_below v14_ hb)
                           have n3_ := Aside0.mk (blk_below (g := gb101) (o := .cells #[.slice (some ad104) l0_0.length c0_0, .slice A0_1 l0_1.length c0_1] 37 (0, 0)) v3_ hb)
                           have n4_ := Aside0.mk (blk_below (g := gb109) (o := .cells #[.int .i64 t105, .slice Ao24 t106.length co24] 42 (0, 0)) v13_ hb)
                           have n5_ := Aside0.mk (below_step v7_ hb)
                           clear HO_11
                           clear HO_12
                           clear HO_110001
                           clear BK101
                           clear BK109
                           clear HB
                           have HO_11 := n0_
                           have HO_12 := n1_
                           have HO_110001 := n2_
                           have BK101 := n3_
                           have BK109 := n4_
                           have HB := n5_
                           clear n0_ n1_ n2_ n3_ n4_ n5_
                           (try clear hb)
                           (try clear hb2)
                           (try clear hk)
                           (try clear hi)
                           refine hK.out _ _ ⟨(blk_cell BK109.out 0).trans rfl, (blk_cell BK109.out 1).trans rfl, (blk_cell BK101.out 0).trans rfl, (blk_cell BK101.out 1).trans rfl, ((HB.out.cell (World.block_lt_of_cell? w _ hw150_0)).trans hw150_0), ((HB.out.cell (World.block_lt_of_cell? w _ hw150_1)).trans hw150_1)⟩ (fun hHeld => ?_)
                           clear hK K
                           refine norm_ (a' := ?_) ?_ ?_
                           rotate_left
                           ·show Act.put _ (some 146) _ = _
                            simp only [Act.put, List.setIfInBounds_toArray, List.set_cons_zero, List.set_cons_succ, i64_w, i32_w]
                            rfl
                           refine pure_ (i := 18) (N := some 147) (v := ?_) (a' := ?_) #[true, true, true, true, true, true, true, true, true, true, true, true, true, true, true, true, true, true, true, false] rfl rfl (any_of HT_.out v9_) (fun _ _ _ h => h) (Or.inl ⟨by rfl, ?_⟩) ?_ ?_
                           rotate_left
                           ·intro w'
                            go_simp
                            with_reducible rfl
                           rotate_left
                           ·simp only [Act.put, List.setIfInBounds_toArray, List.set_cons_zero, List.set_cons_succ, i64_w, i32_w]
                            rfl
                           refine pure_ (i := 19) (N := some 148) (v := ?_) (a' := ?_) #[true, true, true, true, true, true, true, true, true, true, true, true, true, true, true, true, true, true, true, true] rfl rfl (any_of HT_.out v9_) (fun _ _ _ h => h) (Or.inl ⟨by rfl, ?_⟩) ?_ ?_
                           rotate_left
                           ·intro w'
                            go_simp
                            with_reducible rfl
                           rotate_left
                           ·simp only [Act.put, List.setIfInBounds_toArray, List.set_cons_zero, List.set_cons_succ, i64_w, i32_w]
                            rfl
                           refine done_ (done_of HT_.out v9_) ?_
                           try go_wp2
                           go_meet
                           case rel => exact ⟨_, (!t151), v6_, H', ⟨by have := HK1.out; have := HJ9.out; have := HK3.out; have := HK4.out; have := HJ29.out; have := HJ47.out; have := HJ54.out; first | omega | exact Nat.le_refl _⟩, ⟨by (with_reducible repeat (first | apply Kd.R_alloc | apply Kd.R_drewN | apply Kd.R_drew)); exact Kd.R_mono HO_12.out (fun _ hk => trivial)⟩, ⟨by (with_reducible repeat (first | apply Kd.S_alloc | apply Kd.S_drewN | apply Kd.S_drew)); exact Kd.S_mono HO_110001.out (fun _ hk => hk.2)⟩, ⟨by (with_reducible repeat (first | refine blk_drewN ?_ _ | refine blk_drew ?_ | refine blk_alloc ?_ _)); exact BK101.out⟩, ⟨by (with_reducible repeat (first | refine blk_drewN ?_ _ | refine blk_drew ?_ | refine blk_alloc ?_ _)); exact BK109.out⟩, ⟨by repeat (first | (with_reducible first | exact HB.out | apply below_alloc | apply pw_below_drewN | apply below_drew1 | refine below_set ?_ GE101.out | refine below_set ?_ GE109.out) | exact HB.out)⟩⟩
                          ·rw [if_neg c92] at H
                           exact absurd H v21_
                         ·rw [if_neg c91] at H
                          exact absurd H v21_
                        ·replace c90 := Bool.eq_false_iff.mpr c90
                         subst c90
                         have H1 : (q3.j7 kj54 x3_1 t111 x6_3 x7_4 x12_54 true l0_0 l0_1 t105 t106) = some r := by rw [if_neg (show ¬ (false = true) by decide)] at H; exact H
                         clear H
                         have H := H1
                         clear H1
                         have H' := Aside0.mk H
                         clear H
                         try go_wp2
                         have n0_ := Aside0.mk (Kd.R_drew HO_11.out)
                         have n1_ := Aside0.mk (Kd.R_drew HO_12.out)
                         have n2_ := Aside0.mk (Kd.S_drew HO_110001.out)
                         have n3_ := Aside0.mk (blk_drew BK101.out)
                         have n4_ := Aside0.mk (blk_drew BK109.out)
                         have n5_ := Aside0.mk (below_drew1 HB.out)
                         clear HO_11
                         clear HO_12
                         clear HO_110001
                         clear BK101
                         clear BK109
                         clear HB
                         have HO_11 := n0_
                         have HO_12 := n1_
                         have HO_110001 := n2_
                         have BK101 := n3_
                         have BK109 := n4_
                         have HB := n5_
                         clear n0_ n1_ n2_ n3_ n4_ n5_
                         refine start_ (n := 20) (S := fun w' => True) (ds := []) #[false, false, false, false, false, false, false, false, false, false, false, false, false, false, false, false, false, false, false, false] v9_ rfl rfl trivial (fun hHeld => ?_); refine with_tabW q3.tab38 q3.bits38 (fun HT_ HW_ => ?_)
                         generalize wc.drew = w98 at HO_11 HO_12 HO_110001 BK101 BK109 HB hHeld ⊢
                         refine pure_ (i := 0) (N := some 129) (v := ?_) (a' := ?_) #[true, false, false, false, false, false, false, false, false, false, false, false, false, false, false, false, false, false, false, false] rfl rfl (any_of HT_.out v9_) (fun _ _ _ h => h) (Or.inl ⟨by rfl, ?_⟩) ?_ ?_
                         rotate_left
                         ·intro w'
                          go_simp
                          with_reducible rfl
                         rotate_left
                         ·simp only [Act.put, List.setIfInBounds_toArray, List.set_cons_zero, List.set_cons_succ, i64_w, i32_w]
                          rfl
                         refine pure_ (i := 2) (N := some 131) (v := ?_) (a' := ?_) #[true, false, true, false, false, false, false, false, false, false, false, false, false, false, false, false, false, false, false, false] rfl rfl (any_of HT_.out v9_) (fun _ _ _ h => h) (Or.inl ⟨by rfl, ?_⟩) ?_ ?_
                         rotate_left
                         ·intro w'
                          go_simp
                          with_reducible rfl
                         rotate_left
                         ·simp only [Act.put, List.setIfInBounds_toArray, List.set_cons_zero, List.set_cons_succ, i64_w, i32_w]
                          rfl
                         refine one_ (i := 1) (N := some 130) #[true, true, true, false, false, false, false, false, false, false, false, false, false, false, false, false, false, false, false, false] rfl rfl (one_of HT_.out v9_) v17_ (fun K hK => ?_)
                         refine goes_ Try.func30 v9_ rfl #[.int .i64 x13_54] (by rfl) rfl rfl v4_ ?_
                         with_reducible refine (q44.calls x13_54 t148 _ A87.out).mono ?_
                         rintro e w' ⟨rfl, ⟨nd, rfl⟩⟩
                         refine ⟨_, rfl, ?_⟩
                         obtain ⟨Ao99, co99, eo99⟩ := Kd.R_slice HO_12.out
                         (first | subst eo99 | (injection eo99 with f1_ f2_ f3_; have f4_ := f1_.symm; have f5_ := f3_.symm; clear f1_ f2_ f3_; subst f4_; subst f5_))
                         obtain ⟨Ao100, co100, eo100⟩ := Kd.R_slice HO_11.out
                         (first | subst eo100 | (injection eo100 with f1_ f2_ f3_; have f4_ := f1_.symm; have f5_ := f3_.symm; clear f1_ f2_ f3_; subst f4_; subst f5_))
                         refine hK.out _ _ trivial (fun hHeld => ?_)
                         clear hK K
                         refine norm_ (a' := ?_) ?_ ?_
                         rotate_left
                         ·show Act.put _ (some 130) _ = _
                          simp only [Act.put, List.setIfInBounds_toArray, List.set_cons_zero, List.set_cons_succ, i64_w, i32_w]
                          rfl
                         refine pure_ (i := 3) (N := some 132) (v := ?_) (a' := ?_) #[true, true, true, true, false, false, false, false, false, false, false, false, false, false, false, false, false, false, false, false] rfl rfl (any_of HT_.out v9_) (fun _ _ _ h => h) (Or.inl ⟨by rfl, ?_⟩) ?_ ?_
                         rotate_left
                         ·intro w'
                          go_simp
                          with_reducible rfl
                         rotate_left
                         ·simp only [Act.put, List.setIfInBounds_toArray, List.set_cons_zero, List.set_cons_succ, i64_w, i32_w]
                          rfl
                         refine pure_ (i := 4) (N := some 133) (v := ?_) (a' := ?_) #[true, true, true, true, true, false, false, false, false, false, false, false, false, false, false, false, false, false, false, false] rfl rfl (any_of HT_.out v9_) (fun _ _ _ h => h) (Or.inl ⟨by rfl, ?_⟩) ?_ ?_
                         rotate_left
                         ·intro w'
                          go_simp
                          with_reducible rfl
                         rotate_left
                         ·simp only [Act.put, List.setIfInBounds_toArray, List.set_cons_zero, List.set_cons_succ, i64_w, i32_w]
                          rfl
                         refine pure_ (i := 5) (N := some 134) (v := ?_) (a' := ?_) #[true, true, true, true, true, true, false, false, false, false, false, false, false, false, false, false, false, false, false, false] rfl rfl (any_of HT_.out v9_) (fun _ _ _ h => h) (Or.inl ⟨by rfl, ?_⟩) ?_ ?_
                         rotate_left
                         ·intro w'
                          go_simp
                          with_reducible rfl
                         rotate_left
                         ·simp only [Act.put, List.setIfInBounds_toArray, List.set_cons_zero, List.set_cons_succ, i64_w, i32_w]
                          rfl
                         refine pure_ (i := 6) (N := some 135) (v := ?_) (a' := ?_) #[true, true, true, true, true, true, true, false, false, false, false, false, false, false, false, false, false, false, false, false] rfl rfl (any_of HT_.out v9_) (fun _ _ _ h => h) (Or.inl ⟨by rfl, ?_⟩) ?_ ?_
                         rotate_left
                         ·intro w'
                          go_simp
                          with_reducible rfl
                         rotate_left
                         ·simp only [Act.put, List.setIfInBounds_toArray, List.set_cons_zero, List.set_cons_succ, i64_w, i32_w]
                          rfl
                         refine one_ (i := 7) (N := some 136) #[true, true, true, true, true, true, true, true, false, false, false, false, false, false, false, false, false, false, false, false] rfl rfl (one_of HT_.out v9_) v17_ (fun K hK => ?_)
                         refine goes_ Try.func31 v9_ rfl #[.slice Ao99 x12_54.length co99, .slice Ao100 x11_29.length co100] (by rfl) rfl rfl v4_ ?_
                         with_reducible refine (q17.calls kj54 _ _ x12_54 _ _ x11_29 false _ ?side1 ?side2 ?side3 ?side4 A89.out).mono ?_
                         (case side1 => repeat (first | exact (Kd.R_reads' HO_12.out).2.2 | (with_reducible refine Kd.C_alloc ?_ _) | (with_reducible refine Kd.C_drewN ?_ _) | (with_reducible refine Kd.C_drew ?_)))
                         (case side2 => exact (Kd.R_reads' HO_12.out).2.1)
                         (case side3 => repeat (first | exact (Kd.R_reads' HO_11.out).2.2 | (with_reducible refine Kd.C_alloc ?_ _) | (with_reducible refine Kd.C_drewN ?_ _) | (with_reducible refine Kd.C_drew ?_)))
                         (case side4 => exact (Kd.R_reads' HO_11.out).2.1)
                         rintro e w' ⟨rfl, ⟨nd, rfl⟩⟩
                         refine ⟨_, rfl, ?_⟩
                         refine hK.out _ _ trivial (fun hHeld => ?_)
                         clear hK K
                         refine norm_ (a' := ?_) ?_ ?_
                         rotate_left
                         ·show Act.put _ (some 136) _ = _
                          simp only [Act.put, List.setIfInBounds_toArray, List.set_cons_zero, List.set_cons_succ, i64_w, i32_w]
                          rfl
                         refine pure_ (i := 8) (N := some 137) (v := ?_) (a' := ?_) #[true, true, true, true, true, true, true, true, true, false, false, false, false, false, false, false, false, false, false, false] rfl rfl (any_of HT_.out v9_) (fun _ _ _ h => h) (Or.inl ⟨by rfl, ?_⟩) ?_ ?_
                         rotate_left
                         ·intro w'
                          go_simp
                          with_reducible rfl
                         rotate_left
                         ·simp only [Act.put, List.setIfInBounds_toArray, List.set_cons_zero, List.set_cons_succ, i64_w, i32_w]
                          rfl
                         refine pure_ (i := 9) (N := some 138) (v := ?_) (a' := ?_) #[true, true, true, true, true, true, true, true, true, true, false, false, false, false, false, false, false, false, false, false] rfl rfl (any_of HT_.out v9_) (fun _ _ _ h => h) (Or.inl ⟨by rfl, ?_⟩) ?_ ?_
                         rotate_left
                         ·intro w'
                          go_simp
                          with_reducible rfl
                         rotate_left
                         ·simp only [Act.put, List.setIfInBounds_toArray, List.set_cons_zero, List.set_cons_succ, i64_w, i32_w]
                          rfl
                         refine pure_ (i := 10) (N := some 139) (v := ?_) (a' := ?_) #[true, true, true, true, true, true, true, true, true, true, true, false, false, false, false, false, false, false, false, false] rfl rfl (any_of HT_.out v9_) (fun _ _ _ h => h) (Or.inl ⟨by rfl, ?_⟩) ?_ ?_
                         rotate_left
                         ·intro w'
                          go_simp
                          with_reducible rfl
                         rotate_left
                         ·simp only [Act.put, List.setIfInBounds_toArray, List.set_cons_zero, List.set_cons_succ, i64_w, i32_w]
                          rfl
                         refine pure_ (i := 11) (N := some 140) (v := undef) (a' := ?_) #[true, true, true, true, true, true, true, true, true, true, true, true, false, false, false, false, false, false, false, false] rfl rfl (any_of HT_.out v9_) (fun _ _ _ h => h) (Or.inr ⟨by rfl, rfl⟩) ?_ ?_
                         rotate_left
                         ·simp only [Act.put, List.setIfInBounds_toArray, List.set_cons_zero, List.set_cons_succ, i64_w, i32_w]
                          rfl
                         refine pure_ (i := 12) (N := some 141) (v := undef) (a' := ?_) #[true, true, true, true, true, true, true, true, true, true, true, true, true, false, false, false, false, false, false, false] rfl rfl (any_of HT_.out v9_) (fun _ _ _ h => h) (Or.inr ⟨by rfl, rfl⟩) ?_ ?_
                         rotate_left
                         ·simp only [Act.put, List.setIfInBounds_toArray, List.set_cons_zero, List.set_cons_succ, i64_w, i32_w]
                          rfl
                         refine pure_ (i := 13) (N := some 142) (v := undef) (a' := ?_) #[true, true, true, true, true, true, true, true, true, true, true, true, true, true, false, false, false, false, false, false] rfl rfl (any_of HT_.out v9_) (fun _ _ _ h => h) (Or.inr ⟨by rfl, rfl⟩) ?_ ?_
                         rotate_left
                         ·simp only [Act.put, List.setIfInBounds_toArray, List.set_cons_zero, List.set_cons_succ, i64_w, i32_w]
                          rfl
                         refine pure_ (i := 14) (N := some 143) (v := undef) (a' := ?_) #[true, true, true, true, true, true, true, true, true, true, true, true, true, true, true, false, false, false, false, false] rfl rfl (any_of HT_.out v9_) (fun _ _ _ h => h) (Or.inr ⟨by rfl, rfl⟩) ?_ ?_
                         rotate_left
                         ·simp only [Act.put, List.setIfInBounds_toArray, List.set_cons_zero, List.set_cons_succ, i64_w, i32_w]
                          rfl
                         refine pure_ (i := 15) (N := some 144) (v := undef) (a' := ?_) #[true, true, true, true, true, true, true, true, true, true, true, true, true, true, true, true, false, false, false, false] rfl rfl (any_of HT_.out v9_) (fun _ _ _ h => h) (Or.inr ⟨by rfl, rfl⟩) ?_ ?_
                         rotate_left
                         ·simp only [Act.put, List.setIfInBounds_toArray, List.set_cons_zero, List.set_cons_succ, i64_w, i32_w]
                          rfl
                         refine pure_ (i := 16) (N := some 145) (v := undef) (a' := ?_) #[true, true, true, true, true, true, true, true, true, true, true, true, true, true, true, true, true, false, false, false] rfl rfl (any_of HT_.out v9_) (fun _ _ _ h => h) (Or.inr ⟨by rfl, rfl⟩) ?_ ?_
                         rotate_left
                         ·simp only [Act.put, List.setIfInBounds_toArray, List.set_cons_zero, List.set_cons_succ, i64_w, i32_w]
                          rfl
                         refine pure_ (i := 17) (N := some 146) (v := undef) (a' := ?_) #[true, true, true, true, true, true, true, true, true, true, true, true, true, true, true, true, true, true, false, false] rfl rfl (any_of HT_.out v9_) (fun _ _ _ h => h) (Or.inr ⟨by rfl, rfl⟩) ?_ ?_
                         rotate_left
                         ·simp only [Act.put, List.setIfInBounds_toArray, List.set_cons_zero, List.set_cons_succ, i64_w, i32_w]
                          rfl
                         refine pure_ (i := 18) (N := some 147) (v := undef) (a' := ?_) #[true, true, true, true, true, true, true, true, true, true, true, true, true, true, true, true, true, true, true, false] rfl rfl (any_of HT_.out v9_) (fun _ _ _ h => h) (Or.inr ⟨by rfl, rfl⟩) ?_ ?_
                         rotate_left
                         ·simp only [Act.put, List.setIfInBounds_toArray, List.set_cons_zero, List.set_cons_succ, i64_w, i32_w]
                          rfl
                         refine pure_ (i := 19) (N := some 148) (v := ?_) (a' := ?_) #[true, true, true, true, true, true, true, true, true, true, true, true, true, true, true, true, true, true, true, true] rfl rfl (any_of HT_.out v9_) (fun _ _ _ h => h) (Or.inl ⟨by rfl, ?_⟩) ?_ ?_
                         rotate_left
                         ·intro w'
                          go_simp
                          with_reducible rfl
                         rotate_left
                         ·simp only [Act.put, List.setIfInBounds_toArray, List.set_cons_zero, List.set_cons_succ, i64_w, i32_w]
                          rfl
                         refine done_ (done_of HT_.out v9_) ?_
                         try go_wp2
                         go_meet
                         case rel => exact ⟨_, (true), v6_, H', ⟨by have := HK1.out; have := HJ9.out; have := HK3.out; have := HK4.out; have := HJ29.out; have := HJ47.out; have := HJ54.out; first | omega | exact Nat.le_refl _⟩, ⟨by (with_reducible repeat (first | apply Kd.R_alloc | apply Kd.R_drewN | apply Kd.R_drew)); exact Kd.R_mono HO_12.out (fun _ hk => trivial)⟩, ⟨by (with_reducible repeat (first | apply Kd.S_alloc | apply Kd.S_drewN | apply Kd.S_drew)); exact Kd.S_mono HO_110001.out (fun _ hk => hk.2)⟩, ⟨by (with_reducible repeat (first | refine blk_drewN ?_ _ | refine blk_drew ?_ | refine blk_alloc ?_ _)); exact BK101.out⟩, ⟨by (with_reducible repeat (first | refine blk_drewN ?_ _ | refine blk_drew ?_ | refine blk_alloc ?_ _)); exact BK109.out⟩, ⟨by repeat (first | (with_reducible first | exact HB.out | apply below_alloc | apply pw_below_drewN | apply below_drew1 | refine below_set ?_ GE101.out | refine below_set ?_ GE109.out) | exact HB.out)⟩⟩
                       ·rw [if_neg c88] at H
                        have c88b0 : (t148 == x10_29) = false := beq_eq_false_iff_ne.mpr c88
                        have c88b1 : (t148 != x10_29) = true := bne_iff_ne.mpr c88
                        (first | rw [c88b0] | (simp only [i64_w, i32_w]; rw [c88b0]) | skip)
                        have H' := Aside0.mk H
                        clear H
                        try go_wp2
                        have n0_ := Aside0.mk (Kd.R_drew HO_11.out)
                        have n1_ := Aside0.mk (Kd.R_drew HO_12.out)
                        have n2_ := Aside0.mk (Kd.S_drew HO_110001.out)
                        have n3_ := Aside0.mk (blk_drew BK101.out)
                        have n4_ := Aside0.mk (blk_drew BK109.out)
                        have n5_ := Aside0.mk (below_drew1 HB.out)
                        clear HO_11
                        clear HO_12
                        clear HO_110001
                        clear BK101
                        clear BK109
                        clear HB
                        have HO_11 := n0_
                        have HO_12 := n1_
                        have HO_110001 := n2_
                        have BK101 := n3_
                        have BK109 := n4_
                        have HB := n5_
                        clear n0_ n1_ n2_ n3_ n4_ n5_
                        refine start_ (n := 20) (S := fun w' => True) (ds := []) #[false, false, false, false, false, false, false, false, false, false, false, false, false, false, false, false, false, false, false, false] v9_ rfl rfl trivial (fun hHeld => ?_); refine with_tabW q3.tab38 q3.bits38 (fun HT_ HW_ => ?_)
                        generalize wc.drew = w101 at HO_11 HO_12 HO_110001 BK101 BK109 HB hHeld ⊢
                        refine pure_ (i := 0) (N := some 129) (v := ?_) (a' := ?_) #[true, false, false, false, false, false, false, false, false, false, false, false, false, false, false, false, false, false, false, false] rfl rfl (any_of HT_.out v9_) (fun _ _ _ h => h) (Or.inl ⟨by rfl, ?_⟩) ?_ ?_
                        rotate_left
                        ·intro w'
                         go_simp
                         with_reducible rfl
                        rotate_left
                        ·simp only [Act.put, List.setIfInBounds_toArray, List.set_cons_zero, List.set_cons_succ, i64_w, i32_w]
                         rfl
                        refine pure_ (i := 2) (N := some 131) (v := ?_) (a' := ?_) #[true, false, true, false, false, false, false, false, false, false, false, false, false, false, false, false, false, false, false, false] rfl rfl (any_of HT_.out v9_) (fun _ _ _ h => h) (Or.inl ⟨by rfl, ?_⟩) ?_ ?_
                        rotate_left
                        ·intro w'
                         go_simp
                         with_reducible rfl
                        rotate_left
                        ·simp only [Act.put, List.setIfInBounds_toArray, List.set_cons_zero, List.set_cons_succ, i64_w, i32_w]
                         rfl
                        refine one_ (i := 1) (N := some 130) #[true, true, true, false, false, false, false, false, false, false, false, false, false, false, false, false, false, false, false, false] rfl rfl (one_of HT_.out v9_) v17_ (fun K hK => ?_)
                        refine goes_ Try.func30 v9_ rfl #[.int .i64 x13_54] (by rfl) rfl rfl v4_ ?_
                        with_reducible refine (q44.calls x13_54 t148 _ A87.out).mono ?_
                        rintro e w' ⟨rfl, ⟨nd, rfl⟩⟩
                        refine ⟨_, rfl, ?_⟩
                        refine hK.out _ _ trivial (fun hHeld => ?_)
                        clear hK K
                        refine norm_ (a' := ?_) ?_ ?_
                        rotate_left
                        ·show Act.put _ (some 130) _ = _
                         simp only [Act.put, List.setIfInBounds_toArray, List.set_cons_zero, List.set_cons_succ, i64_w, i32_w]
                         rfl
                        refine pure_ (i := 3) (N := some 132) (v := ?_) (a' := ?_) #[true, true, true, true, false, false, false, false, false, false, false, false, false, false, false, false, false, false, false, false] rfl rfl (any_of HT_.out v9_) (fun _ _ _ h => h) (Or.inl ⟨by rfl, ?_⟩) ?_ ?_
                        rotate_left
                        ·intro w'
                         go_simp
                         with_reducible rfl
                        rotate_left
                        ·simp only [Act.put, List.setIfInBounds_toArray, List.set_cons_zero, List.set_cons_succ, i64_w, i32_w]
                         rfl
                        refine pure_ (i := 4) (N := some 133) (v := ?_) (a' := ?_) #[true, true, true, true, true, false, false, false, false, false, false, false, false, false, false, false, false, false, false, false] rfl rfl (any_of HT_.out v9_) (fun _ _ _ h => h) (Or.inl ⟨by rfl, ?_⟩) ?_ ?_
                        rotate_left
                        ·intro w'
                         go_simp
                         with_reducible rfl
                        rotate_left
                        ·simp only [Act.put, List.setIfInBounds_toArray, List.set_cons_zero, List.set_cons_succ, i64_w, i32_w]
                         rfl
                        refine pure_ (i := 5) (N := some 134) (v := undef) (a' := ?_) #[true, true, true, true, true, true, false, false, false, false, false, false, false, false, false, false, false, false, false, false] rfl rfl (any_of HT_.out v9_) (fun _ _ _ h => h) (Or.inr ⟨by rfl, rfl⟩) ?_ ?_
                        rotate_left
                        ·simp only [Act.put, List.setIfInBounds_toArray, List.set_cons_zero, List.set_cons_succ, i64_w, i32_w]
                         rfl
                        refine pure_ (i := 6) (N := some 135) (v := undef) (a' := ?_) #[true, true, true, true, true, true, true, false, false, false, false, false, false, false, false, false, false, false, false, false] rfl rfl (any_of HT_.out v9_) (fun _ _ _ h => h) (Or.inr ⟨by rfl, rfl⟩) ?_ ?_
                        rotate_left
                        ·simp only [Act.put, List.setIfInBounds_toArray, List.set_cons_zero, List.set_cons_succ, i64_w, i32_w]
                         rfl
                        refine pure_ (i := 7) (N := some 136) (v := undef) (a' := ?_) #[true, true, true, true, true, true, true, true, false, false, false, false, false, false, false, false, false, false, false, false] rfl rfl (any_of HT_.out v9_) (fun _ _ _ h => h) (Or.inr ⟨by rfl, rfl⟩) ?_ ?_
                        rotate_left
                        ·simp only [Act.put, List.setIfInBounds_toArray, List.set_cons_zero, List.set_cons_succ, i64_w, i32_w]
                         rfl
                        refine pure_ (i := 8) (N := some 137) (v := undef) (a' := ?_) #[true, true, true, true, true, true, true, true, true, false, false, false, false, false, false, false, false, false, false, false] rfl rfl (any_of HT_.out v9_) (fun _ _ _ h => h) (Or.inr ⟨by rfl, rfl⟩) ?_ ?_
                        rotate_left
                        ·simp only [Act.put, List.setIfInBounds_toArray, List.set_cons_zero, List.set_cons_succ, i64_w, i32_w]
                         rfl
                        refine pure_ (i := 9) (N := some 138) (v := ?_) (a' := ?_) #[true, true, true, true, true, true, true, true, true, true, false, false, false, false, false, false, false, false, false, false] rfl rfl (any_of HT_.out v9_) (fun _ _ _ h => h) (Or.inl ⟨by rfl, ?_⟩) ?_ ?_
                        rotate_left
                        ·intro w'
                         go_simp
                         with_reducible rfl
                        rotate_left
                        ·simp only [Act.put, List.setIfInBounds_toArray, List.set_cons_zero, List.set_cons_succ, i64_w, i32_w]
                         rfl
                        refine pure_ (i := 10) (N := some 139) (v := ?_) (a' := ?_) #[true, true, true, true, true, true, true, true, true, true, true, false, false, false, false, false, false, false, false, false] rfl rfl (any_of HT_.out v9_) (fun _ _ _ h => h) (Or.inl ⟨by rfl, ?_⟩) ?_ ?_
                        rotate_left
                        ·intro w'
                         go_simp
                         with_reducible rfl
                        rotate_left
                        ·simp only [Act.put, List.setIfInBounds_toArray, List.set_cons_zero, List.set_cons_succ, i64_w, i32_w]
                         rfl
                        refine pure_ (i := 11) (N := some 140) (v := undef) (a' := ?_) #[true, true, true, true, true, true, true, true, true, true, true, true, false, false, false, false, false, false, false, false] rfl rfl (any_of HT_.out v9_) (fun _ _ _ h => h) (Or.inr ⟨by rfl, rfl⟩) ?_ ?_
                        rotate_left
                        ·simp only [Act.put, List.setIfInBounds_toArray, List.set_cons_zero, List.set_cons_succ, i64_w, i32_w]
                         rfl
                        refine pure_ (i := 12) (N := some 141) (v := undef) (a' := ?_) #[true, true, true, true, true, true, true, true, true, true, true, true, true, false, false, false, false, false, false, false] rfl rfl (any_of HT_.out v9_) (fun _ _ _ h => h) (Or.inr ⟨by rfl, rfl⟩) ?_ ?_
                        rotate_left
                        ·simp only [Act.put, List.setIfInBounds_toArray, List.set_cons_zero, List.set_cons_succ, i64_w, i32_w]
                         rfl
                        refine pure_ (i := 13) (N := some 142) (v := undef) (a' := ?_) #[true, true, true, true, true, true, true, true, true, true, true, true, true, true, false, false, false, false, false, false] rfl rfl (any_of HT_.out v9_) (fun _ _ _ h => h) (Or.inr ⟨by rfl, rfl⟩) ?_ ?_
                        rotate_left
                        ·simp only [Act.put, List.setIfInBounds_toArray, List.set_cons_zero, List.set_cons_succ, i64_w, i32_w]
                         rfl
                        refine pure_ (i := 14) (N := some 143) (v := undef) (a' := ?_) #[true, true, true, true, true, true, true, true, true, true, true, true, true, true, true, false, false, false, false, false] rfl rfl (any_of HT_.out v9_) (fun _ _ _ h => h) (Or.inr ⟨by rfl, rfl⟩) ?_ ?_
                        rotate_left
                        ·simp only [Act.put, List.setIfInBounds_toArray, List.set_cons_zero, List.set_cons_succ, i64_w, i32_w]
                         rfl
                        refine pure_ (i := 15) (N := some 144) (v := undef) (a' := ?_) #[true, true, true, true, true, true, true, true, true, true, true, true, true, true, true, true, false, false, false, false] rfl rfl (any_of HT_.out v9_) (fun _ _ _ h => h) (Or.inr ⟨by rfl, rfl⟩) ?_ ?_
                        rotate_left
                        ·simp only [Act.put, List.setIfInBounds_toArray, List.set_cons_zero, List.set_cons_succ, i64_w, i32_w]
                         rfl
                        refine pure_ (i := 16) (N := some 145) (v := undef) (a' := ?_) #[true, true, true, true, true, true, true, true, true, true, true, true, true, true, true, true, true, false, false, false] rfl rfl (any_of HT_.out v9_) (fun _ _ _ h => h) (Or.inr ⟨by rfl, rfl⟩) ?_ ?_
                        rotate_left
                        ·simp only [Act.put, List.setIfInBounds_toArray, List.set_cons_zero, List.set_cons_succ, i64_w, i32_w]
                         rfl
                        refine pure_ (i := 17) (N := some 146) (v := undef) (a' := ?_) #[true, true, true, true, true, true, true, true, true, true, true, true, true, true, true, true, true, true, false, false] rfl rfl (any_of HT_.out v9_) (fun _ _ _ h => h) (Or.inr ⟨by rfl, rfl⟩) ?_ ?_
                        rotate_left
                        ·simp only [Act.put, List.setIfInBounds_toArray, List.set_cons_zero, List.set_cons_succ, i64_w, i32_w]
                         rfl
                        refine pure_ (i := 18) (N := some 147) (v := undef) (a' := ?_) #[true, true, true, true, true, true, true, true, true, true, true, true, true, true, true, true, true, true, true, false] rfl rfl (any_of HT_.out v9_) (fun _ _ _ h => h) (Or.inr ⟨by rfl, rfl⟩) ?_ ?_
                        rotate_left
                        ·simp only [Act.put, List.setIfInBounds_toArray, List.set_cons_zero, List.set_cons_succ, i64_w, i32_w]
                         rfl
                        refine pure_ (i := 19) (N := some 148) (v := ?_) (a' := ?_) #[true, true, true, true, true, true, true, true, true, true, true, true, true, true, true, true, true, true, true, true] rfl rfl (any_of HT_.out v9_) (fun _ _ _ h => h) (Or.inl ⟨by rfl, ?_⟩) ?_ ?_
                        rotate_left
                        ·intro w'
                         go_simp
                         with_reducible rfl
                        rotate_left
                        ·simp only [Act.put, List.setIfInBounds_toArray, List.set_cons_zero, List.set_cons_succ, i64_w, i32_w]
                         rfl
                        refine done_ (done_of HT_.out v9_) ?_
                        try go_wp2
                        go_meet
                        case rel => exact ⟨_, (true), v6_, H', ⟨by have := HK1.out; have := HJ9.out; have := HK3.out; have := HK4.out; have := HJ29.out; have := HJ47.out; have := HJ54.out; first | omega | exact Nat.le_refl _⟩, ⟨by (with_reducible repeat (first | apply Kd.R_alloc | apply Kd.R_drewN | apply Kd.R_drew)); exact Kd.R_mono HO_12.out (fun _ hk => trivial)⟩, ⟨by (with_reducible repeat (first | apply Kd.S_alloc | apply Kd.S_drewN | apply Kd.S_drew)); exact Kd.S_mono HO_110001.out (fun _ hk => hk.2)⟩, ⟨by (with_reducible repeat (first | refine blk_drewN ?_ _ | refine blk_drew ?_ | refine blk_alloc ?_ _)); exact BK101.out⟩, ⟨by (with_reducible repeat (first | refine blk_drewN ?_ _ | refine blk_drew ?_ | refine blk_alloc ?_ _)); exact BK109.out⟩, ⟨by repeat (first | (with_reducible first | exact HB.out | apply below_alloc | apply pw_below_drewN | apply below_drew1 | refine below_set ?_ GE101.out | refine below_set ?_ GE109.out) | exact HB.out)⟩⟩
                      case rest =>
                       clear HC86
                       try clear c1
                       try clear p1
                       try clear q1
                       try clear hx1
                       try clear p2
                       try clear c3
                       try clear c8
                       try clear c9
                       try clear c15
                       try clear p15
                       try clear q15
                       try clear hx15
                       try clear c30
                       try clear c31
                       try clear c38
                       try clear c88
                       try clear c88b0
                       try clear c88b1
                       try clear c90
                       try clear c91
                       try clear c91b0
                       try clear c92
                       try clear c92b0
                       try clear hx150_0
                       try clear hx150_1
                       try clear p150
                       try clear q150
                       obtain ⟨kq, x148_85, rfl, HA, HJ85, HO_12, HO_110001, BK101, BK109, HB⟩ := hcut
                       cases kq with
                       | zero => exact absurd HA.out (by simp [q3.j7])
                       | succ kj85 =>
                        have H := HA.out
                        clear HA
                        simp only [q3.j7] at H
                        by_cases c102 : x148_85 = true
                        ·subst c102
                         have H1 : (some false) = some r := by rw [if_pos rfl] at H; exact H
                         clear H
                         have H := H1
                         clear H1
                         obtain rfl := Option.some.inj H
                         go_wp2
                         go_ret
                         exact ⟨by first | rfl | (simp [errW_none, errW_some] <;> rfl) | (simp [*, errW_none, errW_some] <;> rfl), by repeat (first | (with_reducible first | exact HB.out | apply below_alloc | apply pw_below_drewN | apply below_drew1 | refine below_set ?_ GE101.out | refine below_set ?_ GE109.out) | exact HB.out)⟩
                        ·replace c102 := Bool.eq_false_iff.mpr c102
                         subst c102
                         have H1 : ((q47.f kj85 x12_54).bind fun t152 => (if 0 ≤ x3_1 then (if x3_1 < (l0_0.length : Int) then ((q49.f kj85 t105 t106 ((rd_T42 l0_0 x3_1).f0) ((rd_T42 l0_0 x3_1).f1)).bind fun t154 => (if t154 = true then (q3.l2 kj85 x3_1 t111 x6_3 (wrap64 (x7_4 + 1)) l0_0 l0_1 t105 t106) else (some false))) else (none)) else (none))) = some r := by rw [if_neg (show ¬ (false = true) by decide)] at H; exact H
                         clear H
                         have H := H1
                         clear H1
                         replace H := Option.bind_eq_some_iff.mp H
                         obtain ⟨t152, A1030, H⟩ := H
                         replace H : (if 0 ≤ x3_1 then (if x3_1 < (l0_0.length : Int) then ((q49.f kj85 t105 t106 ((rd_T42 l0_0 x3_1).f0) ((rd_T42 l0_0 x3_1).f1)).bind fun t154 => (if t154 = true then (q3.l2 kj85 x3_1 t111 x6_3 (wrap64 (x7_4 + 1)) l0_0 l0_1 t105 t106) else (some false))) else (none)) else (none)) = some r := H
                         have A103 := Aside0.mk A1030
                         clear A1030
                         by_cases c104 : 0 ≤ x3_1
                         ·rw [if_pos c104] at H
                          have c104b0 : decide (0 ≤ x3_1) = true := decide_eq_true c104
                          clear c104
                          by_cases c105 : x3_1 < (l0_0.length : Int)
                          ·rw [if_pos c105] at H
                           have c105b0 : decide (x3_1 < (l0_0.length : Int)) = true := decide_eq_true c105
                           clear c105
                           replace H := Option.bind_eq_some_iff.mp H
                           obtain ⟨t154, A1060, H⟩ := H
                           replace H : (if t154 = true then (q3.l2 kj85 x3_1 t111 x6_3 (wrap64 (x7_4 + 1)) l0_0 l0_1 t105 t106) else (some false)) = some r := H
                           have A106 := Aside0.mk A1060
                           clear A1060
                           by_cases c107 : t154 = true
                           ·subst c107
                            have H1 : (q3.l2 kj85 x3_1 t111 x6_3 (wrap64 (x7_4 + 1)) l0_0 l0_1 t105 t106) = some r := by rw [if_pos rfl] at H; exact H
                            clear H
                            have H := H1
                            clear H1
                            have H' := Aside0.mk H
                            clear H
                            obtain ⟨Ao108, co108, eo108⟩ := Kd.R_slice HO_12.out
                            subst eo108
                            try go_wp2_with (first | ((with_reducible refine gate_callee (f := 39) rfl ?_); refine goesL_ (some 150) rfl rfl Try.func39 v9_ rfl #[.slice Ao108 x12_54.length co108] rfl v4_ ?_; (with_reducible refine (q47.calls kj85 (fun k_ => some k_ = (.slice Ao108 x12_54.length co108 : Value).ownBlock) (.slice Ao108 x12_54.length co108) x12_54 t152 w _ ?side1 ?side2 A103.out).mono ?_); (case side1 => repeat (first | (with_reducible first | exact HB.out | apply below_alloc | apply pw_below_drewN | apply below_drew1 | refine below_set ?_ GE101.out | refine below_set ?_ GE109.out) | exact HB.out)); (case side2 => exact Kd.R_tight rfl HO_12.out); rintro e w109 ⟨rfl, hy0, hb, hkp⟩; refine ⟨_, rfl, ?_⟩; have n0_ := Aside0.mk (Kd.R_reok rfl hy0 (fun k_ e_ => HO_12.out.1 k_ e_)); have n1_ := Aside0.mk (Kd.S_mono (ok' := fun k_ => some k_ ≠ (.slice Ao108 x12_54.length co108 : Value).ownBlock) (Kd.S_keptB (HO_110001.out) hkp (fun k_ hk_ hs_ => (hk_) hs_)) (fun k_ hk_ => hk_.1)); have n2_ := Aside0.mk (blk_kept v3_ hkp (fun hs_ => (fun e_ => (Kd.R_ne HO_12.out BK101.out v17_) e_) hs_)); have n3_ := Aside0.mk (blk_kept v13_ hkp (fun hs_ => (fun e_ => (Kd.R_ne HO_12.out BK109.out v17_) e_) hs_)); have n4_ := Aside0.mk (hb); clear HO_12; clear HO_110001; clear BK101; clear BK109; clear HB; have HO_12 := n0_; have HO_110001 := n1_; have BK101 := n2_; have BK109 := n3_; have HB := n4_; clear n0_ n1_ n2_ n3_ n4_; (try clear hb); (try clear hkp); (try clear hy0)))
                            have n0_ := Aside0.mk (Kd.R_drew HO_12.out)
                            have n1_ := Aside0.mk (Kd.S_drew HO_110001.out)
                            have n2_ := Aside0.mk (blk_drew BK101.out)
                            have n3_ := Aside0.mk (blk_drew BK109.out)
                            have n4_ := Aside0.mk (below_drew1 HB.out)
                            clear HO_12
                            clear HO_110001
                            clear BK101
                            clear BK109
                            clear HB
                            have HO_12 := n0_
                            have HO_110001 := n1_
                            have BK101 := n2_
                            have BK109 := n3_
                            have HB := n4_
                            clear n0_ n1_ n2_ n3_ n4_
                            have p153 : 0 ≤ (x3_1 : Int) := of_decide_eq_true v2_
                            have q153 : x3_1 < (l0_0.length : Int) := of_decide_eq_true v2_
                            obtain ⟨ad153, A153_1, c153_1, e153, hx153_0, hx153_1, hl153_1, hi153_1⟩ := at_T42 HR0_0.out x3_1 p153 q153
                            have hw153_1 := hx153_1
                            have hw153_0 := hx153_0
                            obtain rfl : ad104 = ad153 := (by injection e153)
                            replace hx153_0 := (HB.out.cell (World.block_lt_of_cell? w _ hx153_0)).trans hx153_0
                            replace hx153_1 := (HB.out.cell (World.block_lt_of_cell? w _ hx153_1)).trans hx153_1
                            have HR153_1 := Aside0.mk hi153_1
                            have HC153_1 := Aside0.mk hl153_1
                            clear hi153_1 hl153_1
                            replace p153 := eq_true p153
                            replace q153 := eq_true q153
                            refine start_ (n := 8) (S := fun w' => w'.cell? ⟨gb109, 0, none⟩ = some (.int .i64 t105) ∧ w'.cell? ⟨gb109, 1, none⟩ = some (.slice Ao24 t106.length co24) ∧ w'.cell? ⟨gb101, 0, none⟩ = some (.slice (some ad104) l0_0.length c0_0) ∧ w'.cell? ⟨gb101, 1, none⟩ = some (.slice A0_1 l0_1.length c0_1) ∧ w'.cell? (ad104.add ((x3_1).toNat * 2)) = some (.int .i64 ((rd_T42 l0_0 x3_1).f0)) ∧ w'.cell? ⟨(ad104.add ((x3_1).toNat * 2)).block, (ad104.add ((x3_1).toNat * 2)).off + 1, none⟩ = some (.slice A153_1 ((rd_T42 l0_0 x3_1).f1).length c153_1)) (ds := []) #[false, false, false, false, false, false, false, false] v9_ rfl rfl ⟨(blk_cell BK109.out 0).trans rfl, (blk_cell BK109.out 1).trans rfl, (blk_cell BK101.out 0).trans rfl, (blk_cell BK101.out 1).trans rfl, ((HB.out.cell (World.block_lt_of_cell? w _ hw153_0)).trans hw153_0), ((HB.out.cell (World.block_lt_of_cell? w _ hw153_1)).trans hw153_1)⟩ (fun hHeld => ?_); refine with_tabW q3.tab41 q3.bits41 (fun HT_ HW_ => ?_)
                            generalize w109.drew = w110 at HO_12 HO_110001 BK101 BK109 HB HR153_1 hx153_0 hx153_1 hHeld ⊢
                            refine pure_ (i := 1) (N := some 152) (v := ?_) (a' := ?_) #[false, true, false, false, false, false, false, false] rfl rfl (any_of HT_.out v9_) (fun _ _ _ h => h) (Or.inl ⟨by rfl, ?_⟩) ?_ ?_
                            rotate_left
                            ·intro w'
                             go_simp
                             with_reducible rfl
                            rotate_left
                            ·simp only [Act.put, List.setIfInBounds_toArray, List.set_cons_zero, List.set_cons_succ, i64_w, i32_w]
                             rfl
                            refine pure_ (i := 3) (N := some 154) (v := ?_) (a' := ?_) #[false, true, false, true, false, false, false, false] rfl rfl (any_of HT_.out v9_) (fun _ _ _ h => h) (Or.inl ⟨by rfl, ?_⟩) ?_ ?_
                            rotate_left
                            ·intro w'
                             go_simp
                             with_reducible rfl
                            rotate_left
                            ·simp only [Act.put, List.setIfInBounds_toArray, List.set_cons_zero, List.set_cons_succ, i64_w, i32_w]
                             rfl
                            refine take_ (i := 0) (N := some 151) (v := ?_) (a' := ?_) #[true, true, false, true, false, false, false, false] rfl rfl (take_ofW HT_.out HW_.out v9_) (fun _ _ _ h => h) (Or.inl ⟨by rfl, ?_⟩) hHeld ?_ ?_
                            rotate_left
                            ·rintro w' ⟨s0, s1, s2, s3, s4, s5⟩
                             go_simp
                             with_reducible rfl
                            rotate_left
                            ·simp only [Act.put, List.setIfInBounds_toArray, List.set_cons_zero, List.set_cons_succ, i64_w, i32_w]
                             rfl
                            refine take_ (i := 2) (N := some 153) (v := ?_) (a' := ?_) #[true, true, true, true, false, false, false, false] rfl rfl (take_ofW HT_.out HW_.out v9_) (fun _ _ _ h => h) (Or.inl ⟨by rfl, ?_⟩) hHeld ?_ ?_
                            rotate_left
                            ·rintro w' ⟨s0, s1, s2, s3, s4, s5⟩
                             go_simp
                             with_reducible rfl
                            rotate_left
                            ·simp only [Act.put, List.setIfInBounds_toArray, List.set_cons_zero, List.set_cons_succ, i64_w, i32_w]
                             rfl
                            refine pure_ (i := 4) (N := some 155) (v := ?_) (a' := ?_) #[true, true, true, true, true, false, false, false] rfl rfl (any_of HT_.out v9_) (fun _ _ _ h => h) (Or.inl ⟨by rfl, ?_⟩) ?_ ?_
                            rotate_left
                            ·intro w'
                             go_simp
                             with_reducible rfl
                            rotate_left
                            ·simp only [Act.put, List.setIfInBounds_toArray, List.set_cons_zero, List.set_cons_succ, i64_w, i32_w]
                             rfl
                            refine take_ (i := 5) (N := some 156) (v := ?_) (a' := ?_) #[true, true, true, true, true, true, false, false] rfl rfl (take_ofW HT_.out HW_.out v9_) (fun _ _ _ h => h) (Or.inl ⟨by rfl, ?_⟩) hHeld ?_ ?_
                            rotate_left
                            ·rintro w' ⟨s0, s1, s2, s3, s4, s5⟩
                             go_simp
                             with_reducible rfl
                            rotate_left
                            ·simp only [Act.put, List.setIfInBounds_toArray, List.set_cons_zero, List.set_cons_succ, i64_w, i32_w]
                             rfl
                            refine one_ (i := 6) (N := some 157) #[true, true, true, true, true, true, true, false] rfl rfl (one_of HT_.out v9_) v17_ (fun K hK => ?_)
                            refine goes_ Try.func38 v9_ rfl #[.agg #[.int .i64 t105, .slice Ao24 t106.length co24], .agg #[.int .i64 ((rd_T42 l0_0 x3_1).f0), .slice A153_1 ((rd_T42 l0_0 x3_1).f1).length c153_1]] (by rfl) rfl rfl v4_ ?_
                            with_reducible refine (q49.calls kj85 t105 _ _ t106 ((rd_T42 l0_0 x3_1).f0) _ _ ((rd_T42 l0_0 x3_1).f1) true _ ?side1 ?side2 ?side3 ?side4 A106.out).mono ?_
                            (case side1 => repeat (first | exact (Kd.S_reads' HO_110001.out).2.2 | (with_reducible refine Kd.C_alloc ?_ _) | (with_reducible refine Kd.C_drewN ?_ _) | (with_reducible refine Kd.C_drew ?_)))
                            (case side2 => exact (Kd.S_reads' HO_110001.out).2.1)
                            (case side3 => repeat (first | exact (Kd.C_below HR153_1.out HB.out) | (with_reducible refine Kd.C_alloc ?_ _) | (with_reducible refine Kd.C_drewN ?_ _) | (with_reducible refine Kd.C_drew ?_)))
                            (case side4 => exact HC153_1.out)
                            rintro e w111 ⟨rfl, hb⟩
                            refine ⟨_, rfl, ?_⟩
                            have n0_ := Aside0.mk (Kd.R_below v47_ hb)
                            have n1_ := Aside0.mk (Kd.S_below v14_ hb)
                            have n2_ := Aside0.mk (blk_below (g := gb101) (o := .cells #[.slice (some ad104) l0_0.length c0_0, .slice A0_1 l0_1.length c0_1] 37 (0, 0)) v3_ hb)
                            have n3_ := Aside0.mk (blk_below (g := gb109) (o := .cells #[.int .i64 t105, .slice Ao24 t106.length co24] 42 (0, 0)) v13_ hb)
                            have n4_ := Aside0.mk (below_step v7_ hb)
                            clear HO_12
                            clear HO_110001
                            clear BK101
                            clear BK109
                            clear HB
                            have HO_12 := n0_
                            have HO_110001 := n1_
                            have BK101 := n2_
                            have BK109 := n3_
                            have HB := n4_
                            clear n0_ n1_ n2_ n3_ n4_
                            (try clear hb)
                            (try clear hb2)
                            (try clear hk)
                            (try clear hi)
                            refine hK.out _ _ ⟨(blk_cell BK109.out 0).trans rfl, (blk_cell BK109.out 1).trans rfl, (blk_cell BK101.out 0).trans rfl, (blk_cell BK101.out 1).trans rfl, ((HB.out.cell (World.block_lt_of_cell? w _ hw153_0)).trans hw153_0), ((HB.out.cell (World.block_lt_of_cell? w _ hw153_1)).trans hw153_1)⟩ (fun hHeld => ?_)
                            clear hK K
                            refine norm_ (a' := ?_) ?_ ?_
                            rotate_left
                            ·show Act.put _ (some 157) _ = _
                             simp only [Act.put, List.setIfInBounds_toArray, List.set_cons_zero, List.set_cons_succ, i64_w, i32_w]
                             rfl
                            refine pure_ (i := 7) (N := some 158) (v := ?_) (a' := ?_) #[true, true, true, true, true, true, true, true] rfl rfl (any_of HT_.out v9_) (fun _ _ _ h => h) (Or.inl ⟨by rfl, ?_⟩) ?_ ?_
                            rotate_left
                            ·intro w'
                             go_simp
                             with_reducible rfl
                            rotate_left
                            ·simp only [Act.put, List.setIfInBounds_toArray, List.set_cons_zero, List.set_cons_succ, i64_w, i32_w]
                             rfl
                            refine done_ (done_of HT_.out v9_) ?_
                            try go_wp2
                            go_roundg kj85
                            case measure => have := HK1.out; have := HJ9.out; have := HK3.out; have := HK4.out; have := HJ29.out; have := HJ47.out; have := HJ54.out; have := HJ85.out; omega
                            case rel => exact ⟨(wrap64 (x7_4 + 1)), v6_, H', ⟨by have := HK1.out; have := HJ9.out; have := HK3.out; have := HK4.out; have := HJ29.out; have := HJ47.out; have := HJ54.out; have := HJ85.out; omega⟩, ⟨by (with_reducible repeat (first | apply Kd.S_alloc | apply Kd.S_drewN | apply Kd.S_drew)); exact Kd.S_mono HO_110001.out (fun _ hk => trivial)⟩, ⟨by (with_reducible repeat (first | refine blk_drewN ?_ _ | refine blk_drew ?_ | refine blk_alloc ?_ _)); exact BK101.out⟩, ⟨by (with_reducible repeat (first | refine blk_drewN ?_ _ | refine blk_drew ?_ | refine blk_alloc ?_ _)); exact BK109.out⟩, ⟨by repeat (first | (with_reducible first | exact HB.out | apply below_alloc | apply pw_below_drewN | apply below_drew1 | refine below_set ?_ GE101.out | refine below_set ?_ GE109.out) | exact HB.out)⟩⟩
                           ·replace c107 := Bool.eq_false_iff.mpr c107
                            subst c107
                            have H1 : (some false) = some r := by rw [if_neg (show ¬ (false = true) by decide)] at H; exact H
                            clear H
                            have H := H1
                            clear H1
                            obtain rfl := Option.some.inj H
                            obtain ⟨Ao112, co112, eo112⟩ := Kd.R_slice HO_12.out
                            subst eo112
                            try go_wp2_with (first | ((with_reducible refine gate_callee (f := 39) rfl ?_); refine goesL_ (some 150) rfl rfl Try.func39 v9_ rfl #[.slice Ao112 x12_54.length co112] rfl v4_ ?_; (with_reducible refine (q47.calls kj85 (fun k_ => some k_ = (.slice Ao112 x12_54.length co112 : Value).ownBlock) (.slice Ao112 x12_54.length co112) x12_54 t152 w _ ?side1 ?side2 A103.out).mono ?_); (case side1 => repeat (first | (with_reducible first | exact HB.out | apply below_alloc | apply pw_below_drewN | apply below_drew1 | refine below_set ?_ GE101.out | refine below_set ?_ GE109.out) | exact HB.out)); (case side2 => exact Kd.R_tight rfl HO_12.out); rintro e w113 ⟨rfl, hy0, hb, hkp⟩; refine ⟨_, rfl, ?_⟩; have n0_ := Aside0.mk (Kd.R_reok rfl hy0 (fun k_ e_ => HO_12.out.1 k_ e_)); have n1_ := Aside0.mk (Kd.S_mono (ok' := fun k_ => some k_ ≠ (.slice Ao112 x12_54.length co112 : Value).ownBlock) (Kd.S_keptB (HO_110001.out) hkp (fun k_ hk_ hs_ => (hk_) hs_)) (fun k_ hk_ => hk_.1)); have n2_ := Aside0.mk (blk_kept v3_ hkp (fun hs_ => (fun e_ => (Kd.R_ne HO_12.out BK101.out v17_) e_) hs_)); have n3_ := Aside0.mk (blk_kept v13_ hkp (fun hs_ => (fun e_ => (Kd.R_ne HO_12.out BK109.out v17_) e_) hs_)); have n4_ := Aside0.mk (hb); clear HO_12; clear HO_110001; clear BK101; clear BK109; clear HB; have HO_12 := n0_; have HO_110001 := n1_; have BK101 := n2_; have BK109 := n3_; have HB := n4_; clear n0_ n1_ n2_ n3_ n4_; (try clear hb); (try clear hkp); (try clear hy0)))
                            have n0_ := Aside0.mk (Kd.R_drew HO_12.out)
                            have n1_ := Aside0.mk (Kd.S_drew HO_110001.out)
                            have n2_ := Aside0.mk (blk_drew BK101.out)
                            have n3_ := Aside0.mk (blk_drew BK109.out)
                            have n4_ := Aside0.mk (below_drew1 HB.out)
                            clear HO_12
                            clear HO_110001
                            clear BK101
                            clear BK109
                            clear HB
                            have HO_12 := n0_
                            have HO_110001 := n1_
                            have BK101 := n2_
                            have BK109 := n3_
                            have HB := n4_
                            clear n0_ n1_ n2_ n3_ n4_
                            have p153 : 0 ≤ (x3_1 : Int) := of_decide_eq_true v2_
                            have q153 : x3_1 < (l0_0.length : Int) := of_decide_eq_true v2_
                            obtain ⟨ad153, A153_1, c153_1, e153, hx153_0, hx153_1, hl153_1, hi153_1⟩ := at_T42 HR0_0.out x3_1 p153 q153
                            have hw153_1 := hx153_1
                            have hw153_0 := hx153_0
                            obtain rfl : ad104 = ad153 := (by injection e153)
                            replace hx153_0 := (HB.out.cell (World.block_lt_of_cell? w _ hx153_0)).trans hx153_0
                            replace hx153_1 := (HB.out.cell (World.block_lt_of_cell? w _ hx153_1)).trans hx153_1
                            have HR153_1 := Aside0.mk hi153_1
                            have HC153_1 := Aside0.mk hl153_1
                            clear hi153_1 hl153_1
                            replace p153 := eq_true p153
                            replace q153 := eq_true q153
                            refine start_ (n := 8) (S := fun w' => w'.cell? ⟨gb109, 0, none⟩ = some (.int .i64 t105) ∧ w'.cell? ⟨gb109, 1, none⟩ = some (.slice Ao24 t106.length co24) ∧ w'.cell? ⟨gb101, 0, none⟩ = some (.slice (some ad104) l0_0.length c0_0) ∧ w'.cell? ⟨gb101, 1, none⟩ = some (.slice A0_1 l0_1.length c0_1) ∧ w'.cell? (ad104.add ((x3_1).toNat * 2)) = some (.int .i64 ((rd_T42 l0_0 x3_1).f0)) ∧ w'.cell? ⟨(ad104.add ((x3_1).toNat * 2)).block, (ad104.add ((x3_1).toNat * 2)).off + 1, none⟩ = some (.slice A153_1 ((rd_T42 l0_0 x3_1).f1).length c153_1)) (ds := []) #[false, false, false, false, false, false, false, false] v9_ rfl rfl ⟨(blk_cell BK109.out 0).trans rfl, (blk_cell BK109.out 1).trans rfl, (blk_cell BK101.out 0).trans rfl, (blk_cell BK101.out 1).trans rfl, ((HB.out.cell (World.block_lt_of_cell? w _ hw153_0)).trans hw153_0), ((HB.out.cell (World.block_lt_of_cell? w _ hw153_1)).trans hw153_1)⟩ (fun hHeld => ?_); refine with_tabW q3.tab41 q3.bits41 (fun HT_ HW_ => ?_)
                            generalize w113.drew = w114 at HO_12 HO_110001 BK101 BK109 HB HR153_1 hx153_0 hx153_1 hHeld ⊢
                            refine pure_ (i := 1) (N := some 152) (v := ?_) (a' := ?_) #[false, true, false, false, false, false, false, false] rfl rfl (any_of HT_.out v9_) (fun _ _ _ h => h) (Or.inl ⟨by rfl, ?_⟩) ?_ ?_
                            rotate_left
                            ·intro w'
                             go_simp
                             with_reducible rfl
                            rotate_left
                            ·simp only [Act.put, List.setIfInBounds_toArray, List.set_cons_zero, List.set_cons_succ, i64_w, i32_w]
                             rfl
                            refine pure_ (i := 3) (N := some 154) (v := ?_) (a' := ?_) #[false, true, false, true, false, false, false, false] rfl rfl (any_of HT_.out v9_) (fun _ _ _ h => h) (Or.inl ⟨by rfl, ?_⟩) ?_ ?_
                            rotate_left
                            ·intro w'
                             go_simp
                             with_reducible rfl
                            rotate_left
                            ·simp only [Act.put, List.setIfInBounds_toArray, List.set_cons_zero, List.set_cons_succ, i64_w, i32_w]
                             rfl
                            refine take_ (i := 0) (N := some 151) (v := ?_) (a' := ?_) #[true, true, false, true, false, false, false, false] rfl rfl (take_ofW HT_.out HW_.out v9_) (fun _ _ _ h => h) (Or.inl ⟨by rfl, ?_⟩) hHeld ?_ ?_
                            rotate_left
                            ·rintro w' ⟨s0, s1, s2, s3, s4, s5⟩
                             go_simp
                             with_reducible rfl
                            rotate_left
                            ·simp only [Act.put, List.setIfInBounds_toArray, List.set_cons_zero, List.set_cons_succ, i64_w, i32_w]
                             rfl
                            refine take_ (i := 2) (N := some 153) (v := ?_) (a' := ?_) #[true, true, true, true, false, false, false, false] rfl rfl (take_ofW HT_.out HW_.out v9_) (fun _ _ _ h => h) (Or.inl ⟨by rfl, ?_⟩) hHeld ?_ ?_
                            rotate_left
                            ·rintro w' ⟨s0, s1, s2, s3, s4, s5⟩
                             go_simp
                             with_reducible rfl
                            rotate_left
                            ·simp only [Act.put, List.setIfInBounds_toArray, List.set_cons_zero, List.set_cons_succ, i64_w, i32_w]
                             rfl
                            refine pure_ (i := 4) (N := some 155) (v := ?_) (a' := ?_) #[true, true, true, true, true, false, false, false] rfl rfl (any_of HT_.out v9_) (fun _ _ _ h => h) (Or.inl ⟨by rfl, ?_⟩) ?_ ?_
                            rotate_left
                            ·intro w'
                             go_simp
                             with_reducible rfl
                            rotate_left
                            ·simp only [Act.put, List.setIfInBounds_toArray, List.set_cons_zero, List.set_cons_succ, i64_w, i32_w]
                             rfl
                            refine take_ (i := 5) (N := some 156) (v := ?_) (a' := ?_) #[true, true, true, true, true, true, false, false] rfl rfl (take_ofW HT_.out HW_.out v9_) (fun _ _ _ h => h) (Or.inl ⟨by rfl, ?_⟩) hHeld ?_ ?_
                            rotate_left
                            ·rintro w' ⟨s0, s1, s2, s3, s4, s5⟩
                             go_simp
                             with_reducible rfl
                            rotate_left
                            ·simp only [Act.put, List.setIfInBounds_toArray, List.set_cons_zero, List.set_cons_succ, i64_w, i32_w]
                             rfl
                            refine one_ (i := 6) (N := some 157) #[true, true, true, true, true, true, true, false] rfl rfl (one_of HT_.out v9_) v17_ (fun K hK => ?_)
                            refine goes_ Try.func38 v9_ rfl #[.agg #[.int .i64 t105, .slice Ao24 t106.length co24], .agg #[.int .i64 ((rd_T42 l0_0 x3_1).f0), .slice A153_1 ((rd_T42 l0_0 x3_1).f1).length c153_1]] (by rfl) rfl rfl v4_ ?_
                            with_reducible refine (q49.calls kj85 t105 _ _ t106 ((rd_T42 l0_0 x3_1).f0) _ _ ((rd_T42 l0_0 x3_1).f1) false _ ?side1 ?side2 ?side3 ?side4 A106.out).mono ?_
                            (case side1 => repeat (first | exact (Kd.S_reads' HO_110001.out).2.2 | (with_reducible refine Kd.C_alloc ?_ _) | (with_reducible refine Kd.C_drewN ?_ _) | (with_reducible refine Kd.C_drew ?_)))
                            (case side2 => exact (Kd.S_reads' HO_110001.out).2.1)
                            (case side3 => repeat (first | exact (Kd.C_below HR153_1.out HB.out) | (with_reducible refine Kd.C_alloc ?_ _) | (with_reducible refine Kd.C_drewN ?_ _) | (with_reducible refine Kd.C_drew ?_)))
                            (case side4 => exact HC153_1.out)
                            rintro e w115 ⟨rfl, hb⟩
                            refine ⟨_, rfl, ?_⟩
                            have n0_ := Aside0.mk (Kd.R_below v47_ hb)
                            have n1_ := Aside0.mk (Kd.S_below v14_ hb)
                            have n2_ := Aside0.mk (blk_below (g := gb101) (o := .cells #[.slice (some ad104) l0_0.length c0_0, .slice A0_1 l0_1.length c0_1] 37 (0, 0)) v3_ hb)
                            have n3_ := Aside0.mk (blk_below (g := gb109) (o := .cells #[.int .i64 t105, .slice Ao24 t106.length co24] 42 (0, 0)) v13_ hb)
                            have n4_ := Aside0.mk (below_step v7_ hb)
                            clear HO_12
                            clear HO_110001
                            clear BK101
                            clear BK109
                            clear HB
                            have HO_12 := n0_
                            have HO_110001 := n1_
                            have BK101 := n2_
                            have BK109 := n3_
                            have HB := n4_
                            clear n0_ n1_ n2_ n3_ n4_
                            (try clear hb)
                            (try clear hb2)
                            (try clear hk)
                            (try clear hi)
                            refine hK.out _ _ ⟨(blk_cell BK109.out 0).trans rfl, (blk_cell BK109.out 1).trans rfl, (blk_cell BK101.out 0).trans rfl, (blk_cell BK101.out 1).trans rfl, ((HB.out.cell (World.block_lt_of_cell? w _ hw153_0)).trans hw153_0), ((HB.out.cell (World.block_lt_of_cell? w _ hw153_1)).trans hw153_1)⟩ (fun hHeld => ?_)
                            clear hK K
                            refine norm_ (a' := ?_) ?_ ?_
                            rotate_left
                            ·show Act.put _ (some 157) _ = _
                             simp only [Act.put, List.setIfInBounds_toArray, List.set_cons_zero, List.set_cons_succ, i64_w, i32_w]
                             rfl
                            refine pure_ (i := 7) (N := some 158) (v := ?_) (a' := ?_) #[true, true, true, true, true, true, true, true] rfl rfl (any_of HT_.out v9_) (fun _ _ _ h => h) (Or.inl ⟨by rfl, ?_⟩) ?_ ?_
                            rotate_left
                            ·intro w'
                             go_simp
                             with_reducible rfl
                            rotate_left
                            ·simp only [Act.put, List.setIfInBounds_toArray, List.set_cons_zero, List.set_cons_succ, i64_w, i32_w]
                             rfl
                            refine done_ (done_of HT_.out v9_) ?_
                            try go_wp2
                            go_ret
                            exact ⟨by first | rfl | (simp [errW_none, errW_some] <;> rfl) | (simp [*, errW_none, errW_some] <;> rfl), by repeat (first | (with_reducible first | exact HB.out | apply below_alloc | apply pw_below_drewN | apply below_drew1 | refine below_set ?_ GE101.out | refine below_set ?_ GE109.out) | exact HB.out)⟩
                          ·rw [if_neg c105] at H
                           exact absurd H v21_
                         ·rw [if_neg c104] at H
                          exact absurd H v21_
              ·rw [if_neg c28] at H
               have c28b0 : decide (x7_4 ≤ 7) = false := decide_eq_false c28
               clear c28
               have H' := Aside0.mk H
               clear H
               go_wp2
               go_roundg k4
               case measure => have := HK1.out; have := HJ9.out; have := HK3.out; have := HK4.out; omega
               case rel => exact ⟨(wrap64 (x6_3 + 1)), v6_, H', ⟨by have := HK1.out; have := HJ9.out; have := HK3.out; have := HK4.out; omega⟩, ⟨by (with_reducible repeat (first | apply Kd.S_alloc | apply Kd.S_drewN | apply Kd.S_drew)); exact HO_110001.out⟩, ⟨by (with_reducible repeat (first | refine blk_drewN ?_ _ | refine blk_drew ?_ | refine blk_alloc ?_ _)); exact BK101.out⟩, ⟨by (with_reducible repeat (first | refine blk_drewN ?_ _ | refine blk_drew ?_ | refine blk_alloc ?_ _)); exact BK109.out⟩, ⟨by repeat (first | (with_reducible first | exact HB.out | apply below_alloc | apply pw_below_drewN | apply below_drew1 | refine below_set ?_ GE101.out | refine below_set ?_ GE109.out) | exact HB.out)⟩⟩
           ·rw [if_neg c27] at H
            have c27b0 : decide (x6_3 ≤ 16) = false := decide_eq_false c27
            clear c27
            have H' := Aside0.mk H
            clear H
            go_wp2
            go_roundg k3
            case measure => have := HK1.out; have := HJ9.out; have := HK3.out; omega
            case rel => exact ⟨(wrap64 (x3_1 + 1)), v6_, H', ⟨by have := HK1.out; have := HJ9.out; have := HK3.out; omega⟩, ⟨by (with_reducible repeat (first | refine blk_drewN ?_ _ | refine blk_drew ?_ | refine blk_alloc ?_ _)); exact BK101.out⟩, ⟨by repeat (first | (with_reducible first | exact HB.out | apply below_alloc | apply pw_below_drewN | apply below_drew1 | refine below_set ?_ GE101.out | refine below_set ?_ GE109.out) | exact HB.out)⟩⟩
        ·rw [if_neg c16] at H
         exact absurd H v21_
       ·rw [if_neg c15] at H
        exact absurd H v21_
      ·replace c14 := Bool.eq_false_iff.mpr c14
       subst c14
       have H1 : ((q56.f kj9).bind fun t103 => (some t103)) = some r := by rw [if_neg (show ¬ (false = true) by decide)] at H; exact H
       clear H
       have H := H1
       clear H1
       replace H := Option.bind_eq_some_iff.mp H
       obtain ⟨t103, A1160, H⟩ := H
       replace H : (some t103) = some r := H
       have A116 := Aside0.mk A1160
       clear A1160
       obtain rfl := Option.some.inj H
       go_wp2_with (first | ((with_reducible refine gate_callee (f := 40) rfl ?_); refine goesL_ (some 159) rfl rfl Try.func40 v9_ rfl #[] rfl v4_ ?_; (with_reducible refine (q56.calls kj9  t103 _ A116.out).mono ?_); rintro e w117 ⟨rfl, hb⟩; refine ⟨_, rfl, ?_⟩; have n0_ := Aside0.mk (blk_below (g := gb101) (o := .cells #[.slice A0_0 l0_0.length c0_0, .slice A0_1 l0_1.length c0_1] 37 (0, 0)) v3_ hb); have n1_ := Aside0.mk (below_step v1_ hb); clear BK101; clear HB; have BK101 := n0_; have HB := n1_; clear n0_ n1_; (try clear hb); (try clear hb2); (try clear hk); (try clear hi)))
       go_ret
       exact ⟨by first | rfl | (simp [errW_none, errW_some] <;> rfl) | (simp [*, errW_none, errW_some] <;> rfl), by repeat (first | (with_reducible first | exact HB.out | apply below_alloc | apply pw_below_drewN | apply below_drew1 | refine below_set ?_ GE101.out) | exact HB.out)⟩
end Go.Proofs.Ytcfhffhmpalkbaa.P
