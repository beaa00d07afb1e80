import Derived.Test.YtcfhffhmpalkbaaKa1
import Derived.Test.YtcfhffhmpalkbaaKa3
import Derived.Test.YtcfhffhmpalkbaaKa9
import Derived.Test.YtcfhffhmpalkbaaKa10
import Derived.Test.YtcfhffhmpalkbaaKa11
import Derived.Test.YtcfhffhmpalkbaaKa12
import Derived.Test.YtcfhffhmpalkbaaKa15
import Derived.Test.YtcfhffhmpalkbaaKa17
import Derived.Test.YtcfhffhmpalkbaaKa2
namespace Go.Proofs.Ytcfhffhmpalkbaa.P
open Go.RowKit Go.Proofs.YtcfhffhmpalkbaaM Go.Proofs.YtcfhffhmpalkbaaW.PrintWords Go.Proofs.YtcfhffhmpalkbaaW.PrintLast Go.Proofs.YtcfhffhmpalkbaaW.PrintMore
attribute [local go_sem] Go.Instr.field Go.asAgg max2_int min2_int max_two min_two max_three min_three max_four min_four
set_option linter.unusedVariables false
set_option linter.unusedSimpArgs false
set_option maxHeartbeats 8000000 in
set_option maxRecDepth 100000 in
theorem q3.calls (k : Nat) (P0_0_ : Nat → Prop) (A0_0 : Option Addr) (c0_0 : Nat) (l0_0 : List (S42)) (A0_1 : Option Addr) (c0_1 : Nat) (l0_1 : List (S119)) (a1 : Int) (r : Bool) (w : World) (hs0_0 : Kd.V k42 42 w w.heap.size (fun k_ => P0_0_ k_) (.slice A0_0 l0_0.length c0_0) l0_0) (hr0_1 : Kd.C k119 w A0_1 l0_1.length l0_1) (hc0_1 : l0_1.length ≤ c0_1) (h : q3.f k l0_0 l0_1 a1 = some r) :
 Calls Try.prog 23 #[.agg #[.slice A0_0 l0_0.length c0_0, .slice A0_1 l0_1.length c0_1], .int .i64 a1] w fun e w' => e = .returned (.bool r) ∧ Below w.heap.size w w' := by
 have hu37 := Try.underlying37
 have hu42 := Try.underlying42
 have HO0_0 := Aside0.mk (show Kd.V k42 42 w w.heap.size (fun k_ => (P0_0_ k_ ∨ w.heap.size ≤ k_)) (.slice A0_0 l0_0.length c0_0) l0_0 from Kd.V_mono hs0_0 (fun k_ hk => .inl hk))
 have HR0_1 := Aside0.mk hr0_1
 have HC0_1 := Aside0.mk hc0_1
 clear hr0_1 hc0_1
 have HB := Aside0.mk (Below.refl w.heap.size w)
 have H : ((q63.f k l0_0 l0_1).bind fun t102 => (if t102 = true then (some true) else ((some (([] : List (S42)) : List (S42))).bind fun y103 => (if y103.length + l0_0.length < 4398046511104 then ((some (y103 ++ l0_0 : List (S42))).bind fun y106 => (if (y106.length : Int) > 4 then (if 4 ≤ (y106.length : Int) then (q3.j0 k a1 (y106.take (4 : Int).toNat)) else (none)) else (q3.j0 k a1 y106))) else (none))))) = some r := h
 clear h
 replace H := Option.bind_eq_some_iff.mp H
 obtain ⟨t102, A30, H⟩ := H
 replace H : (if t102 = true then (some true) else ((some (([] : List (S42)) : List (S42))).bind fun y103 => (if y103.length + l0_0.length < 4398046511104 then ((some (y103 ++ l0_0 : List (S42))).bind fun y106 => (if (y106.length : Int) > 4 then (if 4 ≤ (y106.length : Int) then (q3.j0 k a1 (y106.take (4 : Int).toNat)) else (none)) else (q3.j0 k a1 y106))) else (none)))) = some r := H
 have A3 := Aside0.mk A30
 clear A30
 by_cases c4 : t102 = true
 ·subst c4
  have H1 : (some true) = some r := by rw [if_pos rfl] at H; exact H
  clear H
  have H := H1
  clear H1
  obtain rfl := Option.some.inj H
  go_enter Try.func23, Try.ntmps23
  go_wp2_with (first | ((with_reducible refine gate_dst (N := 2) rfl ?_); refine box_event ?hg (N := 2) ?hd (cs := #[.slice A0_0 l0_0.length c0_0, .slice A0_1 l0_1.length c0_1]) (t := 37) ?hr ?_; (case hd => rfl); (case hg => rfl); (case hr => first | (go_simp; done) | (go_simp; rfl)); intro gb101 hg w5 hbox hb; have n0_ := Aside0.mk (Kd.V_below (Kd.V_elderB v28_ gb101 (Nat.le_of_eq hg.symm)) hb); have n1_ := Aside0.mk (below_step v0_ hb); have n2_ := Aside0.mk (hbox); have n3_ := Aside0.mk (v5_); have n4_ := Aside0.mk (v5_); clear HO0_0; clear HB; have HO0_0 := n0_; have HB := n1_; have BK101 := n2_; have GW101 := n3_; have GE101 := n4_; clear n0_ n1_ n2_ n3_ n4_; clear hb hbox hg; have hcz6_0 : w5.cell? ⟨gb101, 0, none⟩ = some (.slice A0_0 l0_0.length c0_0) := (blk_cell BK101.out 0).trans rfl; have hcz6_1 : w5.cell? ⟨gb101, 1, none⟩ = some (.slice A0_1 l0_1.length c0_1) := (blk_cell BK101.out 1).trans rfl; have hfz6_0 := blk_frozen BK101.out 0; have hfz6_1 := blk_frozen BK101.out 1) | ((with_reducible refine gate_callee (f := 24) rfl ?_); refine goesL_ (some 15) rfl rfl Try.func24 v8_ rfl #[.agg #[.slice A0_0 l0_0.length c0_0, .slice A0_1 l0_1.length c0_1]] rfl v4_ ?_; (with_reducible refine (q63.calls k _ _ l0_0 _ _ l0_1 true _ ?side1 ?side2 ?side3 ?side4 A3.out).mono ?_); (case side1 => repeat (first | exact (Kd.V_reads' HO0_0.out).2.2 | (with_reducible refine Kd.C_alloc ?_ _) | (with_reducible refine Kd.C_drewN ?_ _) | (with_reducible refine Kd.C_drew ?_))); (case side2 => exact (Kd.V_reads' HO0_0.out).2.1); (case side3 => repeat (first | exact (Kd.C_below HR0_1.out HB.out) | (with_reducible refine Kd.C_alloc ?_ _) | (with_reducible refine Kd.C_drewN ?_ _) | (with_reducible refine Kd.C_drew ?_))); (case side4 => exact HC0_1.out); rintro e w7 ⟨rfl, hb⟩; refine ⟨_, rfl, ?_⟩; have n0_ := Aside0.mk (Kd.V_below v28_ hb); have n1_ := Aside0.mk (blk_below (g := gb101) (o := .cells #[.slice A0_0 l0_0.length c0_0, .slice A0_1 l0_1.length c0_1] 37 (0, 0)) v3_ hb); have n2_ := Aside0.mk (below_step v1_ hb); clear HO0_0; clear BK101; clear HB; have HO0_0 := n0_; have BK101 := n1_; have HB := n2_; clear n0_ n1_ n2_; (try clear hb); (try clear hb2); (try clear hk); (try clear hi)))
  go_ret
  exact ⟨by first | rfl | (simp [errW_none, errW_some] <;> rfl) | (simp [*, errW_none, errW_some] <;> rfl), by repeat (first | (with_reducible first | exact HB.out | apply below_alloc | apply pw_below_drewN | apply below_drew1 | refine below_set ?_ GE101.out) | exact HB.out)⟩
 ·replace c4 := Bool.eq_false_iff.mpr c4
  subst c4
  have H1 : ((some (([] : List (S42)) : List (S42))).bind fun y103 => (if y103.length + l0_0.length < 4398046511104 then ((some (y103 ++ l0_0 : List (S42))).bind fun y106 => (if (y106.length : Int) > 4 then (if 4 ≤ (y106.length : Int) then (q3.j0 k a1 (y106.take (4 : Int).toNat)) else (none)) else (q3.j0 k a1 y106))) else (none))) = some r := by rw [if_neg (show ¬ (false = true) by decide)] at H; exact H
  clear H
  have H := H1
  clear H1
  obtain ⟨y103, hy103⟩ : ∃ y_ : List (S42), y_ = (([] : List (S42))) := ⟨_, rfl⟩
  replace H : (if y103.length + l0_0.length < 4398046511104 then ((some (y103 ++ l0_0 : List (S42))).bind fun y106 => (if (y106.length : Int) > 4 then (if 4 ≤ (y106.length : Int) then (q3.j0 k a1 (y106.take (4 : Int).toNat)) else (none)) else (q3.j0 k a1 y106))) else (none)) = some r := by first | (rw [hy103]; with_reducible exact H) | (have H2_ := (Option.bind_some _ _).symm.trans H; rw [hy103]; with_reducible exact H2_) | (have H2_ := (Option.bind_some _ _).symm.trans H; with_reducible exact H2_) | with_reducible exact H | (rw [hy103]; exact H) | exact H
  have Ny103 := Aside0.mk hy103
  clear hy103
  by_cases c8 : y103.length + l0_0.length < 4398046511104
  ·rw [if_pos c8] at H
   have LMc8 := Aside0.mk c8
   clear c8
   obtain ⟨y106, hy106⟩ : ∃ y_ : List (S42), y_ = (y103 ++ l0_0) := ⟨_, rfl⟩
   replace H : (if (y106.length : Int) > 4 then (if 4 ≤ (y106.length : Int) then (q3.j0 k a1 (y106.take (4 : Int).toNat)) else (none)) else (q3.j0 k a1 y106)) = some r := by first | (rw [hy106]; with_reducible exact H) | (have H2_ := (Option.bind_some _ _).symm.trans H; rw [hy106]; with_reducible exact H2_) | (have H2_ := (Option.bind_some _ _).symm.trans H; with_reducible exact H2_) | with_reducible exact H | (rw [hy106]; exact H) | exact H
   have Ny106 := Aside0.mk hy106
   clear hy106
   have HC9 := Aside0.mk H
   clear H
   go_enter Try.func23, Try.ntmps23
   go_upto_if 22 with (first | ((with_reducible refine gate_dst (N := 2) rfl ?_); refine box_event ?hg (N := 2) ?hd (cs := #[.slice A0_0 l0_0.length c0_0, .slice A0_1 l0_1.length c0_1]) (t := 37) ?hr ?_; (case hd => rfl); (case hg => rfl); (case hr => first | (go_simp; done) | (go_simp; rfl)); intro gb101 hg w10 hbox hb; have n0_ := Aside0.mk (Kd.V_below (Kd.V_elderB v28_ gb101 (Nat.le_of_eq hg.symm)) hb); have n1_ := Aside0.mk (below_step v0_ hb); have n2_ := Aside0.mk (hbox); have n3_ := Aside0.mk (v5_); have n4_ := Aside0.mk (v5_); clear HO0_0; clear HB; have HO0_0 := n0_; have HB := n1_; have BK101 := n2_; have GW101 := n3_; have GE101 := n4_; clear n0_ n1_ n2_ n3_ n4_; clear hb hbox hg; have hcz11_0 : w10.cell? ⟨gb101, 0, none⟩ = some (.slice A0_0 l0_0.length c0_0) := (blk_cell BK101.out 0).trans rfl; have hcz11_1 : w10.cell? ⟨gb101, 1, none⟩ = some (.slice A0_1 l0_1.length c0_1) := (blk_cell BK101.out 1).trans rfl; have hfz11_0 := blk_frozen BK101.out 0; have hfz11_1 := blk_frozen BK101.out 1) | ((with_reducible refine gate_callee (f := 24) rfl ?_); refine goesL_ (some 15) rfl rfl Try.func24 v8_ rfl #[.agg #[.slice A0_0 l0_0.length c0_0, .slice A0_1 l0_1.length c0_1]] rfl v4_ ?_; (with_reducible refine (q63.calls k _ _ l0_0 _ _ l0_1 false _ ?side1 ?side2 ?side3 ?side4 A3.out).mono ?_); (case side1 => repeat (first | exact (Kd.V_reads' HO0_0.out).2.2 | (with_reducible refine Kd.C_alloc ?_ _) | (with_reducible refine Kd.C_drewN ?_ _) | (with_reducible refine Kd.C_drew ?_))); (case side2 => exact (Kd.V_reads' HO0_0.out).2.1); (case side3 => repeat (first | exact (Kd.C_below HR0_1.out HB.out) | (with_reducible refine Kd.C_alloc ?_ _) | (with_reducible refine Kd.C_drewN ?_ _) | (with_reducible refine Kd.C_drew ?_))); (case side4 => exact HC0_1.out); rintro e w12 ⟨rfl, hb⟩; refine ⟨_, rfl, ?_⟩; have n0_ := Aside0.mk (Kd.V_below v28_ hb); have n1_ := Aside0.mk (blk_below (g := gb101) (o := .cells #[.slice A0_0 l0_0.length c0_0, .slice A0_1 l0_1.length c0_1] 37 (0, 0)) v3_ hb); have n2_ := Aside0.mk (below_step v1_ hb); clear HO0_0; clear BK101; clear HB; have HO0_0 := n0_; have BK101 := n1_; have HB := n2_; clear n0_ n1_ n2_; (try clear hb); (try clear hb2); (try clear hk); (try clear hi)) | ((with_reducible refine gate_dst (N := 16) rfl ?_); refine Kd.N_lit k42 _ 42 ?hg (N' := 16) ?hd (xs := ([] : List (S42))) (inner := []) (ok := (fun k_ => (P0_0_ k_ ∨ w.heap.size ≤ k_) ∧ k_ ≠ gb101)) (okp := (fun k_ => (P0_0_ k_ ∨ w.heap.size ≤ k_) ∧ k_ ≠ gb101)) ?hr ?hp (fun _ hk => hk) ((show ∀ k_, w12.heap.size ≤ k_ → (fun k_ => (P0_0_ k_ ∨ w.heap.size ≤ k_) ∧ k_ ≠ gb101) k_ from fun k_ hk => ⟨(.inr (Nat.le_trans (below_size v1_) hk)), Kd.freshB (g := gb101) (o := .cells #[.slice A0_0 l0_0.length c0_0, .slice A0_1 l0_1.length c0_1] 37 (0, 0)) v3_ k_ hk⟩) _ (Nat.le_refl _)) (Below.refl _ _) (Nat.le_refl _) v26_ ?_; (case hd => rfl); (case hg => rfl); (case hr => first | (go_simp; done) | (go_simp; rfl)); (case hp => exact (Reps.none _ _)); intro v104 w13 ho14 hb hg_ hnew_; clear hg_ hnew_; (first | rw [← Ny103.out] at ho14 | (simp only [Int.reduceToNat] at ho14; rw [← Ny103.out] at ho14)); have n0_ := Aside0.mk (Kd.V_elder' v28_ (Kd.N_base ho14) hb); have n1_ := Aside0.mk (Kd.N_lower ho14 (below_size v1_)); have n2_ := Aside0.mk (blk_below (g := gb101) (o := .cells #[.slice A0_0 l0_0.length c0_0, .slice A0_1 l0_1.length c0_1] 37 (0, 0)) v3_ hb); have n3_ := Aside0.mk (below_step v1_ hb); clear HO0_0; clear BK101; clear HB; have HO0_0 := n0_; have HO105 := n1_; have BK101 := n2_; have HB := n3_; clear n0_ n1_ n2_ n3_; clear hb ho14; have hcz15_0 : w13.cell? ⟨gb101, 0, none⟩ = some (.slice A0_0 l0_0.length c0_0) := (blk_cell BK101.out 0).trans rfl; have hcz15_1 : w13.cell? ⟨gb101, 1, none⟩ = some (.slice A0_1 l0_1.length c0_1) := (blk_cell BK101.out 1).trans rfl; have hfz15_0 := blk_frozen BK101.out 0; have hfz15_1 := blk_frozen BK101.out 1) | ((with_reducible refine gate_builtin (b := .append) (xs := #[.tmp 16, .tmp 18]) rfl ?_); at_builtin; refine Kd.N_append_rows k42 (w0 := w) w.heap.size rfl (.tmp 16) (.tmp 18) 34 42 (.agg #[(.int .i64 0), (.slice none 0 0)]) 32 rfl Try.underlying34 info42 rfl v12_ v33_ v104 y103 l0_0 _ _ _ (fun k_ => (P0_0_ k_ ∨ w.heap.size ≤ k_) ∧ k_ ≠ gb101) (fun k_ => ((fun k_ => (P0_0_ k_ ∨ w.heap.size ≤ k_) ∧ k_ ≠ gb101)) k_ ∧ some k_ ≠ (v104 : Value).ownBlock) rfl rfl ?aO ?aR (fun _ hk => hk) ?aF ?aB ?aS ?aL ?_; (case aR => exact (by skip; exact Kd.V_F (Kd.V_mono (ok' := (fun k_ => ((fun k_ => (P0_0_ k_ ∨ w.heap.size ≤ k_) ∧ k_ ≠ gb101)) k_ ∧ some k_ ≠ (v104 : Value).ownBlock)) (HO0_0.out) (fun k_ hk => ⟨⟨hk.1.1, hk.1.2⟩, hk.2⟩)))); (case aB => exact v1_); (case aF => exact (fun k_ hk => ⟨(.inr (Nat.le_trans (below_size v1_) hk)), Kd.freshB (g := gb101) (o := .cells #[.slice A0_0 l0_0.length c0_0, .slice A0_1 l0_1.length c0_1] 37 (0, 0)) v3_ k_ hk⟩)); (case aO => exact (by (with_reducible repeat (first | apply Kd.N_alloc | apply Kd.N_drewN | apply Kd.N_drew)); exact HO105.out)); (case aS => exact (below_size v1_)); (case aL => have := LMc8.out; omega); intro v107 w16 ho hb hg hat; rw [← Ny106.out] at ho; have n0_ := Aside0.mk (Kd.V_afterv (ok := (fun k_ => (P0_0_ k_ ∨ w.heap.size ≤ k_) ∧ k_ ≠ gb101)) v28_ hg hat); have n1_ := Aside0.mk (blk_grown (g := gb101) (o := .cells #[.slice A0_0 l0_0.length c0_0, .slice A0_1 l0_1.length c0_1] 37 (0, 0)) v3_ hg (Kd.N_ne HO105.out BK101.out v12_)); have n2_ := Aside0.mk (hb); have n3_ := Aside0.mk (ho); clear HO0_0; clear BK101; clear HB; clear HO105; have HO0_0 := n0_; have BK101 := n1_; have HB := n2_; have HO108 := n3_; clear n0_ n1_ n2_ n3_; clear ho hb hg hat; obtain ⟨Ao17, co17, eo17⟩ := Kd.N_slice HO108.out; subst eo17))
   (try simp only [Act.put, List.setIfInBounds_toArray, List.set_cons_zero, List.set_cons_succ])
   go_cut [5] (fun v5 wc => ∃ (kq : Nat) (x5_8 : List (S42)), Aside0 (q3.j0 kq a1 x5_8 = some r) ∧ Aside0 (kq ≤ k) ∧ Aside0 (Kd.N k42 42 wc w.heap.size (fun k_ => (P0_0_ k_ ∨ w.heap.size ≤ k_) ∧ k_ ≠ gb101) v5 x5_8) ∧ Aside0 (Kd.V k42 42 wc w.heap.size (fun k_ => (P0_0_ k_ ∨ w.heap.size ≤ k_) ∧ some k_ ≠ (v5 : Value).ownBlock ∧ k_ ≠ gb101) (.slice A0_0 l0_0.length c0_0) l0_0) ∧ Aside0 (wc.heap[gb101]? = some (.cells #[(.slice A0_0 l0_0.length c0_0), (.slice A0_1 l0_1.length c0_1)] 37 (0, 0))) ∧ Aside0 (Below w.heap.size w wc))
   case first =>
    have H := HC9.out
    clear HC9
    by_cases c18 : (y106.length : Int) > 4
    ·rw [if_pos c18] at H
     have c18b0 : decide (4 < (y106.length : Int)) = true := decide_eq_true c18
     have c18b1 : decide (4 < y106.length) = true := decide_eq_true v33_
     clear c18
     (first | rw [c18b0] | (simp only [i64_w, i32_w]; rw [c18b0]) | skip)
     by_cases c19 : 4 ≤ (y106.length : Int)
     ·rw [if_pos c19] at H
      have c19b0 := eq_true c19
      have c19b1 : decide (4 ≤ (y106.length : Int)) = true := decide_eq_true c19
      clear c19
      obtain ⟨y109, hy109⟩ : ∃ y_ : List (S42), y_ = (y106.take (4 : Int).toNat) := ⟨_, rfl⟩
      replace H : (q3.j0 k a1 y109) = some r := by first | (rw [hy109]; with_reducible exact H) | (have H2_ := (Option.bind_some _ _).symm.trans H; rw [hy109]; with_reducible exact H2_) | (have H2_ := (Option.bind_some _ _).symm.trans H; with_reducible exact H2_) | with_reducible exact H | (rw [hy109]; exact H) | exact H
      have Ny109 := Aside0.mk hy109
      clear hy109
      have H' := Aside0.mk H
      clear H
      have q20 : (4 : Int) ≤ ((y106.length : Int) : Int) := of_decide_eq_true v2_
      obtain ⟨i020, hi020, _, hsz20, _⟩ := info_parts info42
      have hcut20 := cut_to (P := Try.prog) 34 42 .i64 Try.underlying34 hi020 Ao17 y106.length co17 4 v33_ q20 (Kd.N_reads' HO108.out).2.1
      have hr20 := Kd.N_take (m := (4 : Int).toNat) HO108.out v33_
      have hy20 : y109.length = (4 : Int).toNat := (by rw [Ny109.out, List.length_take]; omega)
      rw [← Ny109.out] at hr20
      rw [← hy20] at hr20 hcut20
      clear hy20 hi020 hsz20 HO108
      have HO111 := Aside0.mk hr20
      clear hr20
      replace q20 := eq_true q20
      go_wp2
      go_meet
      case rel => exact ⟨_, (y109), H', ⟨by first | omega | exact Nat.le_refl _⟩, ⟨by (with_reducible repeat (first | apply Kd.N_alloc | apply Kd.N_drewN | apply Kd.N_drew)); exact HO111.out⟩, ⟨by (with_reducible repeat (first | apply Kd.V_alloc | apply Kd.V_drewN | apply Kd.V_drew)); exact Kd.V_mono HO0_0.out (fun _ hk => by first | exact ⟨hk.1.1, ⟨hk.2, hk.1.2⟩⟩ | exact ⟨hk.1.1, ⟨own_len hk.2, hk.1.2⟩⟩)⟩, ⟨by (with_reducible repeat (first | refine blk_drewN ?_ _ | refine blk_drew ?_ | refine blk_alloc ?_ _)); exact BK101.out⟩, ⟨by repeat (first | (with_reducible first | exact HB.out | apply below_alloc | apply pw_below_drewN | apply below_drew1 | refine below_set ?_ GE101.out) | exact HB.out)⟩⟩
     ·rw [if_neg c19] at H
      exact absurd H v26_
    ·rw [if_neg c18] at H
     have c18b0 : decide (4 < (y106.length : Int)) = false := decide_eq_false c18
     have c18b1 : decide (4 < y106.length) = false := decide_eq_false v33_
     clear c18
     (first | rw [c18b0] | (simp only [i64_w, i32_w]; rw [c18b0]) | skip)
     have H' := Aside0.mk H
     clear H
     go_wp2
     go_meet
     case rel => exact ⟨_, (y106), H', ⟨by first | omega | exact Nat.le_refl _⟩, ⟨by (with_reducible repeat (first | apply Kd.N_alloc | apply Kd.N_drewN | apply Kd.N_drew)); exact HO108.out⟩, ⟨by (with_reducible repeat (first | apply Kd.V_alloc | apply Kd.V_drewN | apply Kd.V_drew)); exact Kd.V_mono HO0_0.out (fun _ hk => by first | exact ⟨hk.1.1, ⟨hk.2, hk.1.2⟩⟩ | exact ⟨hk.1.1, ⟨own_len hk.2, hk.1.2⟩⟩)⟩, ⟨by (with_reducible repeat (first | refine blk_drewN ?_ _ | refine blk_drew ?_ | refine blk_alloc ?_ _)); exact BK101.out⟩, ⟨by repeat (first | (with_reducible first | exact HB.out | apply below_alloc | apply pw_below_drewN | apply below_drew1 | refine below_set ?_ GE101.out) | exact HB.out)⟩⟩
   case rest =>
    clear HC9
    try clear c1
    try clear c2
    try clear p2
    try clear q2
    try clear c4
    try clear c8
    try clear c18
    try clear c18b0
    try clear c18b1
    try clear c19
    try clear c19b0
    try clear c19b1
    try clear q20
    try clear hcz11_0
    try clear hcz11_1
    try clear hcz15_0
    try clear hcz15_1
    try clear hcz6_0
    try clear hcz6_1
    try clear hfz11_0
    try clear hfz11_1
    try clear hfz15_0
    try clear hfz15_1
    try clear hfz6_0
    try clear hfz6_1
    try clear q20
    obtain ⟨kq, x5_8, HA, HJ8, HO_5, HO_102000, BK101, HB⟩ := hcut
    cases kq with
    | zero => exact absurd HA.out (by simp [q3.j0])
    | succ kj8 =>
     have H := HA.out
     clear HA
     simp only [q3.j0] at H
     have H' := Aside0.mk H
     clear H
     go_wp2
     go_loopg [5, 6] kj8 (fun kq v5 v6 w' => ∃ (x5_2 : List (S42)) (x6_2 : Int), v6 = .int .i64 x6_2 ∧ Aside0 (q3.l0 kq a1 x5_2 x6_2 = some r) ∧ Aside0 (kq ≤ kj8) ∧ Aside0 (Kd.N k42 42 w' w.heap.size (fun k_ => (P0_0_ k_ ∨ w.heap.size ≤ k_) ∧ k_ ≠ gb101) v5 x5_2) ∧ Aside0 (Kd.V k42 42 w' w.heap.size (fun k_ => (P0_0_ k_ ∨ w.heap.size ≤ k_) ∧ some k_ ≠ (v5 : Value).ownBlock ∧ k_ ≠ gb101) (.slice A0_0 l0_0.length c0_0) l0_0) ∧ Aside0 (w'.heap[gb101]? = some (.cells #[(.slice A0_0 l0_0.length c0_0), (.slice A0_1 l0_1.length c0_1)] 37 (0, 0))) ∧ Aside0 (Below w.heap.size w w'))
     case atStart => exact ⟨(x5_8), (0), v6_, H', ⟨Nat.le_refl _⟩, ⟨by (with_reducible repeat (first | apply Kd.N_alloc | apply Kd.N_drewN | apply Kd.N_drew)); exact HO_5.out⟩, ⟨by (with_reducible repeat (first | apply Kd.V_alloc | apply Kd.V_drewN | apply Kd.V_drew)); exact HO_102000.out⟩, ⟨by (with_reducible repeat (first | refine blk_drewN ?_ _ | refine blk_drew ?_ | refine blk_alloc ?_ _)); exact BK101.out⟩, ⟨by repeat (first | (with_reducible first | exact HB.out | apply below_alloc | apply pw_below_drewN | apply below_drew1 | refine below_set ?_ GE101.out) | exact HB.out)⟩⟩
     case round =>
      clear H'
      try clear c1
      try clear c2
      try clear p2
      try clear q2
      try clear c4
      try clear c8
      try clear c18
      try clear c18b0
      try clear c18b1
      try clear c19
      try clear c19b0
      try clear c19b1
      try clear q20
      try clear hcz11_0
      try clear hcz11_1
      try clear hcz15_0
      try clear hcz15_1
      try clear hcz6_0
      try clear hcz6_1
      try clear hfz11_0
      try clear hfz11_1
      try clear hfz15_0
      try clear hfz15_1
      try clear hfz6_0
      try clear hfz6_1
      try clear p2
      try clear q2
      try clear q20
      obtain ⟨x5_2, x6_2, rfl, HA, HK2, HO_5, HO_102000, BK101, HB⟩ := hrel
      cases gk with
      | zero => exact absurd HA.out (by simp [q3.l0])
      | succ k2 =>
       have H := HA.out
       clear HA
       simp only [q3.l0] at H
       by_cases c21 : x6_2 ≤ 16
       ·rw [if_pos c21] at H
        have c21b0 : decide (x6_2 ≤ 16) = true := decide_eq_true c21
        clear c21
        have H' := Aside0.mk H
        clear H
        go_wp2
        go_loopg [5, 7] k2 (fun kq v5 v7 w' => ∃ (x5_3 : List (S42)) (x7_3 : Int), v7 = .int .i64 x7_3 ∧ Aside0 (q3.l1 kq a1 x5_3 x6_2 x7_3 = some r) ∧ Aside0 (kq ≤ k2) ∧ Aside0 (Kd.N k42 42 w' w.heap.size (fun k_ => (P0_0_ k_ ∨ w.heap.size ≤ k_) ∧ k_ ≠ gb101) v5 x5_3) ∧ Aside0 (Kd.V k42 42 w' w.heap.size (fun k_ => (P0_0_ k_ ∨ w.heap.size ≤ k_) ∧ some k_ ≠ (v5 : Value).ownBlock ∧ k_ ≠ gb101) (.slice A0_0 l0_0.length c0_0) l0_0) ∧ Aside0 (w'.heap[gb101]? = some (.cells #[(.slice A0_0 l0_0.length c0_0), (.slice A0_1 l0_1.length c0_1)] 37 (0, 0))) ∧ Aside0 (Below w.heap.size w w'))
        case atStart => exact ⟨(x5_2), (0), v6_, H', ⟨Nat.le_refl _⟩, ⟨by (with_reducible repeat (first | apply Kd.N_alloc | apply Kd.N_drewN | apply Kd.N_drew)); exact HO_5.out⟩, ⟨by (with_reducible repeat (first | apply Kd.V_alloc | apply Kd.V_drewN | apply Kd.V_drew)); exact HO_102000.out⟩, ⟨by (with_reducible repeat (first | refine blk_drewN ?_ _ | refine blk_drew ?_ | refine blk_alloc ?_ _)); exact BK101.out⟩, ⟨by repeat (first | (with_reducible first | exact HB.out | apply below_alloc | apply pw_below_drewN | apply below_drew1 | refine below_set ?_ GE101.out) | exact HB.out)⟩⟩
        case round =>
         clear H'
         try clear c1
         try clear c2
         try clear p2
         try clear q2
         try clear c4
         try clear c8
         try clear c18
         try clear c18b0
         try clear c18b1
         try clear c19
         try clear c19b0
         try clear c19b1
         try clear q20
         try clear c21
         try clear c21b0
         try clear hcz11_0
         try clear hcz11_1
         try clear hcz15_0
         try clear hcz15_1
         try clear hcz6_0
         try clear hcz6_1
         try clear hfz11_0
         try clear hfz11_1
         try clear hfz15_0
         try clear hfz15_1
         try clear hfz6_0
         try clear hfz6_1
         try clear p2
         try clear q2
         try clear q20
         obtain ⟨x5_3, x7_3, rfl, HA, HK3, HO_5, HO_102000, BK101, HB⟩ := hrel
         cases gk with
         | zero => exact absurd HA.out (by simp [q3.l1])
         | succ k3 =>
          have H := HA.out
          clear HA
          simp only [q3.l1] at H
          by_cases c22 : x7_3 < 4
          ·rw [if_pos c22] at H
           have c22b0 : decide (x7_3 < 4) = true := decide_eq_true c22
           clear c22
           replace H := Option.bind_eq_some_iff.mp H
           obtain ⟨⟨t112, t113⟩, A230, H⟩ := H
           replace H : (if x5_3.length < 4398046511104 then (q3.l1 k3 a1 (x5_3 ++ [(⟨t112, t113⟩ : S42)]) x6_2 (wrap64 (x7_3 + 1))) else (none)) = some r := H
           have A23 := Aside0.mk A230
           clear A230
           by_cases c24 : x5_3.length < 4398046511104
           ·rw [if_pos c24] at H
            have LMc24 := Aside0.mk c24
            clear c24
            obtain ⟨y116, hy116⟩ : ∃ y_ : List (S42), y_ = (x5_3 ++ [(⟨t112, t113⟩ : S42)]) := ⟨_, rfl⟩
            replace H : (q3.l1 k3 a1 y116 x6_2 (wrap64 (x7_3 + 1))) = some r := by first | (rw [hy116]; with_reducible exact H) | (have H2_ := (Option.bind_some _ _).symm.trans H; rw [hy116]; with_reducible exact H2_) | (have H2_ := (Option.bind_some _ _).symm.trans H; with_reducible exact H2_) | with_reducible exact H | (rw [hy116]; exact H) | exact H
            have Ny116 := Aside0.mk hy116
            clear hy116
            have H' := Aside0.mk H
            clear H
            go_wp2_with (first | ((with_reducible refine gate_callee (f := 47) rfl ?_); refine goesL_ (some 36) rfl rfl Try.func47 v8_ rfl #[.int .i64 x6_2, .int .i64 x7_3] rfl v4_ ?_; (with_reducible refine (q58.calls k3 x6_2 x7_3 t112 t113 _ A23.out).mono ?_); rintro e w25 ⟨v114, rfl, ho0, hb⟩; refine ⟨_, rfl, ?_⟩; have n0_ := Aside0.mk (Kd.N_elder' v20_ (Kd.N_base ho0) hb); have n1_ := Aside0.mk (Kd.V_elder' v25_ (Kd.N_base ho0) hb); have n2_ := Aside0.mk (Kd.N_lower (Kd.N_mono (ok' := fun k_ => (P0_0_ k_ ∨ w.heap.size ≤ k_) ∧ some k_ ≠ (u5 : Value).ownBlock ∧ k_ ≠ gb101) ho0 (fun k_ hk_ => ⟨(.inr (Nat.le_trans (below_size v1_) hk_)), (Kd.fresh' (Kd.N_lt v20_) k_ hk_), (Kd.freshB (g := gb101) (o := .cells #[.slice A0_0 l0_0.length c0_0, .slice A0_1 l0_1.length c0_1] 37 (0, 0)) v3_ k_ hk_)⟩)) (below_size v1_)); have n3_ := Aside0.mk (blk_below (g := gb101) (o := .cells #[.slice A0_0 l0_0.length c0_0, .slice A0_1 l0_1.length c0_1] 37 (0, 0)) v3_ hb); have n4_ := Aside0.mk (below_step v1_ hb); clear HO_5; clear HO_102000; clear BK101; clear HB; have HO_5 := n0_; have HO_102000 := n1_; have HO115 := n2_; have BK101 := n3_; have HB := n4_; clear n0_ n1_ n2_ n3_ n4_; (try clear hb); (try clear hb2); (try clear hk); (try clear hi); (try clear ho0); obtain ⟨Ao27, co27, eo27⟩ := Kd.N_slice HO115.out; subst eo27) | ((with_reducible refine gate_builtin (b := .append) (xs := #[.tmp 33, .tmp 37]) rfl ?_); at_builtin; refine Kd.N_append k42 (w0 := w) w.heap.size rfl (.tmp 33) (.tmp 37) 34 42 (.agg #[(.int .i64 0), (.slice none 0 0)]) 32 rfl Try.underlying34 info42 rfl v12_ v33_ u5 x5_3 (⟨t112, t113⟩ : S42) [.int .i64 t112, .slice Ao27 t113.length co27] (fun k_ => (P0_0_ k_ ∨ w.heap.size ≤ k_) ∧ k_ ≠ gb101) (fun k_ => ((fun k_ => (P0_0_ k_ ∨ w.heap.size ≤ k_) ∧ k_ ≠ gb101)) k_ ∧ some k_ ≠ (u5 : Value).ownBlock) rfl rfl ?aP (fun _ hk => hk) ?aF ?aO ?aB ?aS ?aL ?_; (case aP => exact (k42_mkF _ _ (⟨t112, t113⟩ : S42) (Kd.N_reads' (Kd.N_mono (ok' := (fun k_ => ((fun k_ => (P0_0_ k_ ∨ w.heap.size ≤ k_) ∧ k_ ≠ gb101)) k_ ∧ some k_ ≠ (u5 : Value).ownBlock)) (HO115.out) (fun k_ hk => ⟨⟨hk.1, hk.2.2⟩, hk.2.1⟩))).2.1 (Kd.N_F (Kd.N_mono (ok' := (fun k_ => ((fun k_ => (P0_0_ k_ ∨ w.heap.size ≤ k_) ∧ k_ ≠ gb101)) k_ ∧ some k_ ≠ (u5 : Value).ownBlock)) (HO115.out) (fun k_ hk => ⟨⟨hk.1, hk.2.2⟩, hk.2.1⟩))))); (case aB => exact v1_); (case aF => exact (fun k_ hk => ⟨(.inr (Nat.le_trans (below_size v1_) hk)), Kd.freshB (g := gb101) (o := .cells #[.slice A0_0 l0_0.length c0_0, .slice A0_1 l0_1.length c0_1] 37 (0, 0)) v3_ k_ hk⟩)); (case aO => exact (by (with_reducible repeat (first | apply Kd.N_alloc | apply Kd.N_drewN | apply Kd.N_drew)); exact Kd.N_mono HO_5.out (fun _ hk => ⟨hk.1.1, hk.1.2⟩))); (case aS => exact (below_size v1_)); (case aL => have := LMc24.out; omega); intro v117 w26 ho hb hg hat; rw [← Ny116.out] at ho; have n0_ := Aside0.mk (Kd.V_afterv (ok := (fun k_ => (P0_0_ k_ ∨ w.heap.size ≤ k_) ∧ some k_ ≠ (.slice Ao27 t113.length co27 : Value).ownBlock ∧ k_ ≠ gb101)) (by (with_reducible repeat (first | apply Kd.V_alloc | apply Kd.V_drewN | apply Kd.V_drew)); exact Kd.V_mono HO_102000.out (fun _ hk => ⟨⟨hk.1.1, ⟨hk.2, hk.1.2.2⟩⟩, hk.1.2.1⟩)) hg hat); have n1_ := Aside0.mk (blk_grown (g := gb101) (o := .cells #[.slice A0_0 l0_0.length c0_0, .slice A0_1 l0_1.length c0_1] 37 (0, 0)) v3_ hg (Kd.N_ne HO_5.out BK101.out v12_)); have n2_ := Aside0.mk (hb); have n3_ := Aside0.mk (ho); clear HO_102000; clear BK101; clear HB; clear HO_5; clear HO115; have HO_102000 := n0_; have BK101 := n1_; have HB := n2_; have HO118 := n3_; clear n0_ n1_ n2_ n3_; clear ho hb hg hat))
            go_roundg k3
            case measure => have := HJ8.out; have := HK2.out; have := HK3.out; omega
            case rel => exact ⟨(y116), (wrap64 (x7_3 + 1)), v6_, H', ⟨by have := HJ8.out; have := HK2.out; have := HK3.out; omega⟩, ⟨by (with_reducible repeat (first | apply Kd.N_alloc | apply Kd.N_drewN | apply Kd.N_drew)); exact HO118.out⟩, ⟨by (with_reducible repeat (first | apply Kd.V_alloc | apply Kd.V_drewN | apply Kd.V_drew)); exact Kd.V_mono HO_102000.out (fun _ hk => ⟨hk.1.1, ⟨hk.2, hk.1.2.2⟩⟩)⟩, ⟨by (with_reducible repeat (first | refine blk_drewN ?_ _ | refine blk_drew ?_ | refine blk_alloc ?_ _)); exact BK101.out⟩, ⟨by repeat (first | (with_reducible first | exact HB.out | apply below_alloc | apply pw_below_drewN | apply below_drew1 | refine below_set ?_ GE101.out) | exact HB.out)⟩⟩
           ·rw [if_neg c24] at H
            exact absurd H v26_
          ·rw [if_neg c22] at H
           have c22b0 : decide (x7_3 < 4) = false := decide_eq_false c22
           clear c22
           have H' := Aside0.mk H
           clear H
           go_wp2
           go_roundg k3
           case measure => have := HJ8.out; have := HK2.out; have := HK3.out; omega
           case rel => exact ⟨(x5_3), (wrap64 (x6_2 + 5)), v6_, H', ⟨by have := HJ8.out; have := HK2.out; have := HK3.out; omega⟩, ⟨by (with_reducible repeat (first | apply Kd.N_alloc | apply Kd.N_drewN | apply Kd.N_drew)); exact HO_5.out⟩, ⟨by (with_reducible repeat (first | apply Kd.V_alloc | apply Kd.V_drewN | apply Kd.V_drew)); exact HO_102000.out⟩, ⟨by (with_reducible repeat (first | refine blk_drewN ?_ _ | refine blk_drew ?_ | refine blk_alloc ?_ _)); exact BK101.out⟩, ⟨by repeat (first | (with_reducible first | exact HB.out | apply below_alloc | apply pw_below_drewN | apply below_drew1 | refine below_set ?_ GE101.out) | exact HB.out)⟩⟩
       ·rw [if_neg c21] at H
        have c21b0 : decide (x6_2 ≤ 16) = false := decide_eq_false c21
        clear c21
        have H' := Aside0.mk H
        clear H
        go_wp2
        go_loopg [8] k2 (fun kq v8 w' => ∃ (x8_3 : Int), v8 = .int .i64 x8_3 ∧ Aside0 (q3.l2 kq a1 x5_2 x8_3 = some r) ∧ Aside0 (kq ≤ k2) ∧ Aside0 (Kd.N k42 42 w' w.heap.size (fun k_ => (P0_0_ k_ ∨ w.heap.size ≤ k_) ∧ k_ ≠ gb101) u5 x5_2) ∧ Aside0 (Kd.V k42 42 w' w.heap.size (fun k_ => (P0_0_ k_ ∨ w.heap.size ≤ k_) ∧ some k_ ≠ (u5 : Value).ownBlock ∧ k_ ≠ gb101) (.slice A0_0 l0_0.length c0_0) l0_0) ∧ Aside0 (w'.heap[gb101]? = some (.cells #[(.slice A0_0 l0_0.length c0_0), (.slice A0_1 l0_1.length c0_1)] 37 (0, 0))) ∧ Aside0 (Below w.heap.size w w'))
        case atStart => exact ⟨(0), v6_, H', ⟨Nat.le_refl _⟩, ⟨by (with_reducible repeat (first | apply Kd.N_alloc | apply Kd.N_drewN | apply Kd.N_drew)); exact HO_5.out⟩, ⟨by (with_reducible repeat (first | apply Kd.V_alloc | apply Kd.V_drewN | apply Kd.V_drew)); exact HO_102000.out⟩, ⟨by (with_reducible repeat (first | refine blk_drewN ?_ _ | refine blk_drew ?_ | refine blk_alloc ?_ _)); exact BK101.out⟩, ⟨by repeat (first | (with_reducible first | exact HB.out | apply below_alloc | apply pw_below_drewN | apply below_drew1 | refine below_set ?_ GE101.out) | exact HB.out)⟩⟩
        case round =>
         clear H'
         try clear c1
         try clear c2
         try clear p2
         try clear q2
         try clear c4
         try clear p6
         try clear c8
         try clear c18
         try clear c18b0
         try clear c18b1
         try clear c19
         try clear c19b0
         try clear c19b1
         try clear q20
         try clear c21
         try clear c21b0
         try clear c22
         try clear c22b0
         try clear c23
         try clear c24
         try clear hcz11_0
         try clear hcz11_1
         try clear hcz15_0
         try clear hcz15_1
         try clear hcz6_0
         try clear hcz6_1
         try clear hfz11_0
         try clear hfz11_1
         try clear hfz15_0
         try clear hfz15_1
         try clear hfz6_0
         try clear hfz6_1
         try clear p2
         try clear q2
         try clear q20
         obtain ⟨x8_3, rfl, HA, HK3, HO_5, HO_102000, BK101, HB⟩ := hrel
         cases gk with
         | zero => exact absurd HA.out (by simp [q3.l2])
         | succ k3 =>
          have H := HA.out
          clear HA
          simp only [q3.l2] at H
          by_cases c28 : x8_3 < (x5_2.length : Int)
          ·rw [if_pos c28] at H
           have c28b0 : decide (x8_3 < (x5_2.length : Int)) = true := decide_eq_true c28
           clear c28
           have H' := Aside0.mk H
           clear H
           obtain ⟨Ao29, co29, eo29⟩ := Kd.N_slice HO_5.out
           subst eo29
           go_wp2
           go_loopg [9] k3 (fun kq v9 w' => ∃ (x9_4 : Int), v9 = .int .i64 x9_4 ∧ Aside0 (q3.l3 kq a1 x5_2 x8_3 x9_4 = some r) ∧ Aside0 (kq ≤ k3) ∧ Aside0 (Kd.N k42 42 w' w.heap.size (fun k_ => (P0_0_ k_ ∨ w.heap.size ≤ k_) ∧ k_ ≠ gb101) (.slice Ao29 x5_2.length co29) x5_2) ∧ Aside0 (Kd.V k42 42 w' w.heap.size (fun k_ => (P0_0_ k_ ∨ w.heap.size ≤ k_) ∧ some k_ ≠ ((.slice Ao29 x5_2.length co29) : Value).ownBlock ∧ k_ ≠ gb101) (.slice A0_0 l0_0.length c0_0) l0_0) ∧ Aside0 (w'.heap[gb101]? = some (.cells #[(.slice A0_0 l0_0.length c0_0), (.slice A0_1 l0_1.length c0_1)] 37 (0, 0))) ∧ Aside0 (Below w.heap.size w w'))
           case atStart => exact ⟨((-1)), v6_, H', ⟨Nat.le_refl _⟩, ⟨by (with_reducible repeat (first | apply Kd.N_alloc | apply Kd.N_drewN | apply Kd.N_drew)); exact HO_5.out⟩, ⟨by (with_reducible repeat (first | apply Kd.V_alloc | apply Kd.V_drewN | apply Kd.V_drew)); exact HO_102000.out⟩, ⟨by (with_reducible repeat (first | refine blk_drewN ?_ _ | refine blk_drew ?_ | refine blk_alloc ?_ _)); exact BK101.out⟩, ⟨by repeat (first | (with_reducible first | exact HB.out | apply below_alloc | apply pw_below_drewN | apply below_drew1 | refine below_set ?_ GE101.out) | exact HB.out)⟩⟩
           case round =>
            clear H'
            try clear c1
            try clear c2
            try clear p2
            try clear q2
            try clear c4
            try clear p6
            try clear c8
            try clear c18
            try clear c18b0
            try clear c18b1
            try clear c19
            try clear c19b0
            try clear c19b1
            try clear q20
            try clear c21
            try clear c21b0
            try clear c22
            try clear c22b0
            try clear c23
            try clear c24
            try clear c28
            try clear c28b0
            try clear hcz11_0
            try clear hcz11_1
            try clear hcz15_0
            try clear hcz15_1
            try clear hcz6_0
            try clear hcz6_1
            try clear hfz11_0
            try clear hfz11_1
            try clear hfz15_0
            try clear hfz15_1
            try clear hfz6_0
            try clear hfz6_1
            try clear p2
            try clear p6
            try clear q2
            try clear q20
            obtain ⟨x9_4, rfl, HA, HK4, HO_5, HO_102000, BK101, HB⟩ := hrel
            cases gk with
            | zero => exact absurd HA.out (by simp [q3.l3])
            | succ k4 =>
             have H := HA.out
             clear HA
             simp only [q3.l3] at H
             by_cases c30 : x9_4 ≤ 16
             ·rw [if_pos c30] at H
              have c30b0 : decide (x9_4 ≤ 16) = true := decide_eq_true c30
              clear c30
              by_cases c31 : 0 ≤ x8_3
              ·rw [if_pos c31] at H
               have c31b0 : decide (0 ≤ x8_3) = true := decide_eq_true c31
               clear c31
               by_cases c32 : x8_3 < (x5_2.length : Int)
               ·rw [if_pos c32] at H
                have c32b0 : decide (x8_3 < (x5_2.length : Int)) = true := decide_eq_true c32
                clear c32
                replace H := Option.bind_eq_some_iff.mp H
                obtain ⟨⟨t121, t124⟩, A330, H⟩ := H
                replace H : ((q26.f k4 ((rd_T42 x5_2 x8_3).f0) ((rd_T42 x5_2 x8_3).f1)).bind fun t126 => (if t126 = true then ((q57.f ((rd_T42 x5_2 x8_3).f0) ((rd_T42 x5_2 x8_3).f1) a1 x9_4).bind fun t128 => (if t128 = 0 then ((q42.f k4 ((rd_T42 x5_2 x8_3).f0) ((rd_T42 x5_2 x8_3).f1) a1 x9_4).bind fun t130 => (q3.j5 k4 a1 x5_2 x8_3 x9_4 t121 t124 t128 t130)) else (q3.j5 k4 a1 x5_2 x8_3 x9_4 t121 t124 t128 ([] : List Int)))) else (q3.j5 k4 a1 x5_2 x8_3 x9_4 t121 t124 1 ([] : List Int)))) = some r := H
                have A33 := Aside0.mk A330
                clear A330
                replace H := Option.bind_eq_some_iff.mp H
                obtain ⟨t126, A340, H⟩ := H
                replace H : (if t126 = true then ((q57.f ((rd_T42 x5_2 x8_3).f0) ((rd_T42 x5_2 x8_3).f1) a1 x9_4).bind fun t128 => (if t128 = 0 then ((q42.f k4 ((rd_T42 x5_2 x8_3).f0) ((rd_T42 x5_2 x8_3).f1) a1 x9_4).bind fun t130 => (q3.j5 k4 a1 x5_2 x8_3 x9_4 t121 t124 t128 t130)) else (q3.j5 k4 a1 x5_2 x8_3 x9_4 t121 t124 t128 ([] : List Int)))) else (q3.j5 k4 a1 x5_2 x8_3 x9_4 t121 t124 1 ([] : List Int))) = some r := H
                have A34 := Aside0.mk A340
                clear A340
                have HC35 := Aside0.mk H
                clear H
                have p120 : 0 ≤ (x8_3 : Int) := of_decide_eq_true v2_
                have q120 : x8_3 < (x5_2.length : Int) := of_decide_eq_true v2_
                obtain ⟨ad120, A120_1, c120_1, e120, hx120_0, hx120_1, hl120_1, hi120_1⟩ := at_T42 (Kd.N_reads' HO_5.out).2.2 x8_3 p120 q120
                cases e120
                obtain ⟨ce120, hce120, hMe120, hcc120⟩ := Kd.N_get HO_5.out z42 x8_3 p120 (by first | exact q120 | exact of_decide_eq_true v2_ | (have e_ := (Kd.N_reads' HO_5.out).1; omega))
                obtain ⟨ua120_1, uc120_1, rfl, ul120_1, ge120_1⟩ := k42_openF hMe120
                have hv120_1 := hcc120 1 _ rfl
                rw [add_field _ _ 1 v33_] at hv120_1
                replace hv120_1 := Option.some.inj (hv120_1.symm.trans hx120_1)
                injection hv120_1 with hva_ hvn_ hvc_
                rw [hva_] at ge120_1
                rw [hvc_] at ul120_1
                have HL120_1 := Aside0.mk (show Kd.V (Kd.slice 3 (Kd.int .i64)) 45 _ w.heap.size _ _ ((rd_T42 x5_2 x8_3).f1) from Kd.V_mk ul120_1 ge120_1)
                clear hva_ hvn_ hvc_ ge120_1 ul120_1
                clear hcc120 hce120
                have HR120_1 := Aside0.mk hi120_1
                have HC120_1 := Aside0.mk hl120_1
                clear hi120_1 hl120_1
                replace p120 := eq_true p120
                replace q120 := eq_true q120
                go_upto_if 63 with (first | ((with_reducible refine gate_callee (f := 27) rfl ?_); refine goesL_ (some 56) rfl rfl Try.func27 v8_ rfl #[.agg #[.int .i64 ((rd_T42 x5_2 x8_3).f0), .slice A120_1 ((rd_T42 x5_2 x8_3).f1).length c120_1], .int .i64 a1, .int .i64 x9_4] rfl v4_ ?_; (with_reducible refine (q51.calls k4 ((rd_T42 x5_2 x8_3).f0) _ _ ((rd_T42 x5_2 x8_3).f1) a1 x9_4 t121 t124 _ ?side1 ?side2 A33.out).mono ?_); (case side1 => repeat (first | exact v13_ | (with_reducible refine Kd.C_alloc ?_ _) | (with_reducible refine Kd.C_drewN ?_ _) | (with_reducible refine Kd.C_drew ?_))); (case side2 => exact HC120_1.out); rintro e w36 ⟨v122, rfl, ho0, hb⟩; refine ⟨_, rfl, ?_⟩; have n0_ := Aside0.mk (Kd.N_elder' v20_ (Kd.R_base ho0) hb); have n1_ := Aside0.mk (Kd.V_elder' v25_ (Kd.R_base ho0) hb); have n2_ := Aside0.mk (Kd.V_elder' v34_ (Kd.R_base ho0) hb); have n3_ := Aside0.mk (Kd.R_lower (Kd.R_newM (M := fun k_ => (w.heap.size ≤ k_)) ho0 (below_size v1_) (fun k_ h_ => h_)) (below_size v1_)); have n4_ := Aside0.mk (blk_below (g := gb101) (o := .cells #[.slice A0_0 l0_0.length c0_0, .slice A0_1 l0_1.length c0_1] 37 (0, 0)) v3_ hb); have n5_ := Aside0.mk (Kd.C_below v13_ hb); have n6_ := Aside0.mk (below_step v1_ hb); clear HO_5; clear HO_102000; clear HL120_1; clear BK101; clear HR120_1; clear HB; have HO_5 := n0_; have HO_102000 := n1_; have HL120_1 := n2_; have HO123 := n3_; have BK101 := n4_; have HR120_1 := n5_; have HB := n6_; clear n0_ n1_ n2_ n3_ n4_ n5_ n6_; (try clear hb); (try clear hb2); (try clear hk); (try clear hi); (try clear ho0); have p125 : 0 ≤ (x8_3 : Int) := of_decide_eq_true v2_; have q125 : x8_3 < (x5_2.length : Int) := of_decide_eq_true v2_; obtain ⟨ad125, A125_1, c125_1, e125, hx125_0, hx125_1, hl125_1, hi125_1⟩ := at_T42 (Kd.N_reads' HO_5.out).2.2 x8_3 p125 q125; obtain rfl : ad120 = ad125 := (by injection e125); obtain ⟨ce125, hce125, hMe125, hcc125⟩ := Kd.N_get HO_5.out z42 x8_3 p125 (by first | exact q125 | exact of_decide_eq_true v2_ | (have e_ := (Kd.N_reads' HO_5.out).1; omega)); obtain ⟨ua125_1, uc125_1, rfl, ul125_1, ge125_1⟩ := k42_openF hMe125; have hv125_1 := hcc125 1 _ rfl; rw [add_field _ _ 1 v33_] at hv125_1; replace hv125_1 := Option.some.inj (hv125_1.symm.trans hx125_1); injection hv125_1 with hva_ hvn_ hvc_; rw [hva_] at ge125_1; rw [hvc_] at ul125_1; have HL125_1 := Aside0.mk (show Kd.V (Kd.slice 3 (Kd.int .i64)) 45 _ w.heap.size _ _ ((rd_T42 x5_2 x8_3).f1) from Kd.V_mk ul125_1 ge125_1); clear hva_ hvn_ hvc_ ge125_1 ul125_1; clear hcc125 hce125; have HR125_1 := Aside0.mk hi125_1; have HC125_1 := Aside0.mk hl125_1; clear hi125_1 hl125_1; replace p125 := eq_true p125; replace q125 := eq_true q125) | ((with_reducible refine gate_callee (f := 26) rfl ?_); refine goesL_ (some 63) rfl rfl Try.func26 v8_ rfl #[.agg #[.int .i64 ((rd_T42 x5_2 x8_3).f0), .slice A125_1 ((rd_T42 x5_2 x8_3).f1).length c125_1]] rfl v4_ ?_; (with_reducible refine (q26.calls k4 ((rd_T42 x5_2 x8_3).f0) _ _ ((rd_T42 x5_2 x8_3).f1) t126 _ ?side1 ?side2 A34.out).mono ?_); (case side1 => repeat (first | exact v19_ | (with_reducible refine Kd.C_alloc ?_ _) | (with_reducible refine Kd.C_drewN ?_ _) | (with_reducible refine Kd.C_drew ?_))); (case side2 => exact HC125_1.out); rintro e w37 ⟨rfl, hb⟩; refine ⟨_, rfl, ?_⟩; have n0_ := Aside0.mk (Kd.N_below v20_ hb); have n1_ := Aside0.mk (Kd.V_below v25_ hb); have n2_ := Aside0.mk (Kd.V_below v34_ hb); have n3_ := Aside0.mk (Kd.R_below v35_ hb); have n4_ := Aside0.mk (Kd.V_below v40_ hb); have n5_ := Aside0.mk (blk_below (g := gb101) (o := .cells #[.slice A0_0 l0_0.length c0_0, .slice A0_1 l0_1.length c0_1] 37 (0, 0)) v3_ hb); have n6_ := Aside0.mk (Kd.C_below v13_ hb); have n7_ := Aside0.mk (Kd.C_below v19_ hb); have n8_ := Aside0.mk (below_step v1_ hb); clear HO_5; clear HO_102000; clear HL120_1; clear HO123; clear HL125_1; clear BK101; clear HR120_1; clear HR125_1; clear HB; have HO_5 := n0_; have HO_102000 := n1_; have HL120_1 := n2_; have HO123 := n3_; have HL125_1 := n4_; have BK101 := n5_; have HR120_1 := n6_; have HR125_1 := n7_; have HB := n8_; clear n0_ n1_ n2_ n3_ n4_ n5_ n6_ n7_ n8_; (try clear hb); (try clear hb2); (try clear hk); (try clear hi)))
                (try simp only [Act.put, List.setIfInBounds_toArray, List.set_cons_zero, List.set_cons_succ])
                go_cut [12, 13] (fun v12 v13 wc => ∃ (kq : Nat) (x12_34 : Int) (x13_34 : List Int), v12 = .int .i64 x12_34 ∧ Aside0 (q3.j5 kq a1 x5_2 x8_3 x9_4 t121 t124 x12_34 x13_34 = some r) ∧ Aside0 (kq ≤ k4) ∧ Aside0 (Kd.N k42 42 wc w.heap.size (fun k_ => (P0_0_ k_ ∨ w.heap.size ≤ k_) ∧ some k_ ≠ (v122 : Value).ownBlock ∧ some k_ ≠ (v13 : Value).ownBlock ∧ k_ ≠ gb101) (.slice (some ad120) x5_2.length co29) x5_2) ∧ Aside0 (Kd.R (Kd.int .i64) 3 wc w.heap.size (fun k_ => (w.heap.size ≤ k_) ∧ some k_ ≠ (v13 : Value).ownBlock) v122 t121) ∧ Aside0 (Kd.R (Kd.int .i64) 3 wc w.heap.size (fun k_ => (w.heap.size ≤ k_) ∧ some k_ ≠ (v122 : Value).ownBlock) v13 x13_34) ∧ Aside0 (Kd.V k42 42 wc w.heap.size (fun k_ => (P0_0_ k_ ∨ w.heap.size ≤ k_) ∧ some k_ ≠ ((.slice (some ad120) x5_2.length co29) : Value).ownBlock ∧ some k_ ≠ (v122 : Value).ownBlock ∧ some k_ ≠ (v13 : Value).ownBlock ∧ k_ ≠ gb101) (.slice A0_0 l0_0.length c0_0) l0_0) ∧ Aside0 (wc.heap[gb101]? = some (.cells #[(.slice A0_0 l0_0.length c0_0), (.slice A0_1 l0_1.length c0_1)] 37 (0, 0))) ∧ Aside0 (Kd.C (Kd.slice 3 (Kd.int .i64)) wc A120_1 ((rd_T42 x5_2 x8_3).f1).length ((rd_T42 x5_2 x8_3).f1)) ∧ Aside0 (Kd.C (Kd.slice 3 (Kd.int .i64)) wc A125_1 ((rd_T42 x5_2 x8_3).f1).length ((rd_T42 x5_2 x8_3).f1)) ∧ Aside0 (Below w.heap.size w wc))
                case first =>
                 have H := HC35.out
                 clear HC35
                 by_cases c38 : t126 = true
                 ·subst c38
                  have H1 : ((q57.f ((rd_T42 x5_2 x8_3).f0) ((rd_T42 x5_2 x8_3).f1) a1 x9_4).bind fun t128 => (if t128 = 0 then ((q42.f k4 ((rd_T42 x5_2 x8_3).f0) ((rd_T42 x5_2 x8_3).f1) a1 x9_4).bind fun t130 => (q3.j5 k4 a1 x5_2 x8_3 x9_4 t121 t124 t128 t130)) else (q3.j5 k4 a1 x5_2 x8_3 x9_4 t121 t124 t128 ([] : List Int)))) = some r := by rw [if_pos rfl] at H; exact H
                  clear H
                  have H := H1
                  clear H1
                  replace H := Option.bind_eq_some_iff.mp H
                  obtain ⟨t128, A390, H⟩ := H
                  replace H : (if t128 = 0 then ((q42.f k4 ((rd_T42 x5_2 x8_3).f0) ((rd_T42 x5_2 x8_3).f1) a1 x9_4).bind fun t130 => (q3.j5 k4 a1 x5_2 x8_3 x9_4 t121 t124 t128 t130)) else (q3.j5 k4 a1 x5_2 x8_3 x9_4 t121 t124 t128 ([] : List Int))) = some r := H
                  have A39 := Aside0.mk A390
                  clear A390
                  by_cases c40 : t128 = 0
                  ·rw [if_pos c40] at H
                   have c40b0 : (t128 == 0) = true := beq_iff_eq.mpr c40
                   have c40b1 : (t128 != 0) = false := bne_eq_false_iff_eq.mpr c40
                   clear c40
                   (first | rw [c40b0] | (simp only [i64_w, i32_w]; rw [c40b0]) | skip)
                   replace H := Option.bind_eq_some_iff.mp H
                   obtain ⟨t130, A410, H⟩ := H
                   replace H : (q3.j5 k4 a1 x5_2 x8_3 x9_4 t121 t124 t128 t130) = some r := H
                   have A41 := Aside0.mk A410
                   clear A410
                   have H' := Aside0.mk H
                   clear H
                   have p127 : 0 ≤ (x8_3 : Int) := of_decide_eq_true v2_
                   have q127 : x8_3 < (x5_2.length : Int) := of_decide_eq_true v2_
                   obtain ⟨ad127, A127_1, c127_1, e127, hx127_0, hx127_1, hl127_1, hi127_1⟩ := at_T42 (Kd.N_reads' HO_5.out).2.2 x8_3 p127 q127
                   obtain rfl : ad120 = ad127 := (by injection e127)
                   obtain ⟨ce127, hce127, hMe127, hcc127⟩ := Kd.N_get HO_5.out z42 x8_3 p127 (by first | exact q127 | exact of_decide_eq_true v2_ | (have e_ := (Kd.N_reads' HO_5.out).1; omega))
                   obtain ⟨ua127_1, uc127_1, rfl, ul127_1, ge127_1⟩ := k42_openF hMe127
                   have hv127_1 := hcc127 1 _ rfl
                   rw [add_field _ _ 1 v33_] at hv127_1
                   replace hv127_1 := Option.some.inj (hv127_1.symm.trans hx127_1)
                   injection hv127_1 with hva_ hvn_ hvc_
                   rw [hva_] at ge127_1
                   rw [hvc_] at ul127_1
                   have HL127_1 := Aside0.mk (show Kd.V (Kd.slice 3 (Kd.int .i64)) 45 _ w.heap.size _ _ ((rd_T42 x5_2 x8_3).f1) from Kd.V_mk ul127_1 ge127_1)
                   clear hva_ hvn_ hvc_ ge127_1 ul127_1
                   clear hcc127 hce127
                   have HR127_1 := Aside0.mk hi127_1
                   have HC127_1 := Aside0.mk hl127_1
                   clear hi127_1 hl127_1
                   replace p127 := eq_true p127
                   replace q127 := eq_true q127
                   go_wp2_with (first | ((with_reducible refine gate_callee (f := 28) rfl ?_); refine goesL_ (some 70) rfl rfl Try.func28 v8_ rfl #[.agg #[.int .i64 ((rd_T42 x5_2 x8_3).f0), .slice A127_1 ((rd_T42 x5_2 x8_3).f1).length c127_1], .int .i64 a1, .int .i64 x9_4] rfl v4_ ?_; (with_reducible refine (q57.calls ((rd_T42 x5_2 x8_3).f0) _ _ ((rd_T42 x5_2 x8_3).f1) a1 x9_4 t128 _ ?side1 ?side2 A39.out).mono ?_); (case side1 => repeat (first | exact v18_ | (with_reducible refine Kd.C_alloc ?_ _) | (with_reducible refine Kd.C_drewN ?_ _) | (with_reducible refine Kd.C_drew ?_))); (case side2 => exact HC127_1.out); rintro e w42 ⟨rfl, hb⟩; refine ⟨_, rfl, ?_⟩; have n0_ := Aside0.mk (Kd.N_below v20_ hb); have n1_ := Aside0.mk (Kd.V_below v25_ hb); have n2_ := Aside0.mk (Kd.V_below v34_ hb); have n3_ := Aside0.mk (Kd.R_below v35_ hb); have n4_ := Aside0.mk (Kd.V_below v40_ hb); have n5_ := Aside0.mk (Kd.V_below v55_ hb); have n6_ := Aside0.mk (blk_below (g := gb101) (o := .cells #[.slice A0_0 l0_0.length c0_0, .slice A0_1 l0_1.length c0_1] 37 (0, 0)) v3_ hb); have n7_ := Aside0.mk (Kd.C_below v13_ hb); have n8_ := Aside0.mk (Kd.C_below v19_ hb); have n9_ := Aside0.mk (Kd.C_below v18_ hb); have n10_ := Aside0.mk (below_step v1_ hb); clear HO_5; clear HO_102000; clear HL120_1; clear HO123; clear HL125_1; clear HL127_1; clear BK101; clear HR120_1; clear HR125_1; clear HR127_1; clear HB; have HO_5 := n0_; have HO_102000 := n1_; have HL120_1 := n2_; have HO123 := n3_; have HL125_1 := n4_; have HL127_1 := n5_; have BK101 := n6_; have HR120_1 := n7_; have HR125_1 := n8_; have HR127_1 := n9_; have HB := n10_; clear n0_ n1_ n2_ n3_ n4_ n5_ n6_ n7_ n8_ n9_ n10_; (try clear hb); (try clear hb2); (try clear hk); (try clear hi); have p129 : 0 ≤ (x8_3 : Int) := of_decide_eq_true v2_; have q129 : x8_3 < (x5_2.length : Int) := of_decide_eq_true v2_; obtain ⟨ad129, A129_1, c129_1, e129, hx129_0, hx129_1, hl129_1, hi129_1⟩ := at_T42 (Kd.N_reads' HO_5.out).2.2 x8_3 p129 q129; obtain rfl : ad120 = ad129 := (by injection e129); obtain ⟨ce129, hce129, hMe129, hcc129⟩ := Kd.N_get HO_5.out z42 x8_3 p129 (by first | exact q129 | exact of_decide_eq_true v2_ | (have e_ := (Kd.N_reads' HO_5.out).1; omega)); obtain ⟨ua129_1, uc129_1, rfl, ul129_1, ge129_1⟩ := k42_openF hMe129; have hv129_1 := hcc129 1 _ rfl; rw [add_field _ _ 1 v33_] at hv129_1; replace hv129_1 := Option.some.inj (hv129_1.symm.trans hx129_1); injection hv129_1 with hva_ hvn_ hvc_; rw [hva_] at ge129_1; rw [hvc_] at ul129_1; have HL129_1 := Aside0.mk (show Kd.V (Kd.slice 3 (Kd.int .i64)) 45 _ w.heap.size _ _ ((rd_T42 x5_2 x8_3).f1) from Kd.V_mk ul129_1 ge129_1); clear hva_ hvn_ hvc_ ge129_1 ul129_1; clear hcc129 hce129; have HR129_1 := Aside0.mk hi129_1; have HC129_1 := Aside0.mk hl129_1; clear hi129_1 hl129_1; replace p129 := eq_true p129; replace q129 := eq_true q129) | ((with_reducible refine gate_callee (f := 29) rfl ?_); refine goesL_ (some 79) rfl rfl Try.func29 v8_ rfl #[.agg #[.int .i64 ((rd_T42 x5_2 x8_3).f0), .slice A129_1 ((rd_T42 x5_2 x8_3).f1).length c129_1], .int .i64 a1, .int .i64 x9_4] rfl v4_ ?_; (with_reducible refine (q42.calls k4 ((rd_T42 x5_2 x8_3).f0) _ _ ((rd_T42 x5_2 x8_3).f1) a1 x9_4 t130 _ ?side1 ?side2 A41.out).mono ?_); (case side1 => repeat (first | exact (by repeat (first | (with_reducible exact HR129_1.out) | (with_reducible refine Kd.C_alloc ?_ _) | (with_reducible refine Kd.C_drewN ?_ _) | (with_reducible refine Kd.C_drew ?_) | exact HR129_1.out)) | (with_reducible refine Kd.C_alloc ?_ _) | (with_reducible refine Kd.C_drewN ?_ _) | (with_reducible refine Kd.C_drew ?_))); (case side2 => exact HC129_1.out); rintro e w43 ⟨v131, rfl, ho0, hb⟩; refine ⟨_, rfl, ?_⟩; have n0_ := Aside0.mk (Kd.N_elder' v20_ (Kd.R_base ho0) hb); have n1_ := Aside0.mk (Kd.V_elder' v25_ (Kd.R_base ho0) hb); have n2_ := Aside0.mk (Kd.V_elder' v34_ (Kd.R_base ho0) hb); have n3_ := Aside0.mk (Kd.R_elder' v35_ (Kd.R_base ho0) hb); have n4_ := Aside0.mk (Kd.V_elder' v40_ (Kd.R_base ho0) hb); have n5_ := Aside0.mk (Kd.V_elder' v55_ (Kd.R_base ho0) hb); have n6_ := Aside0.mk (Kd.V_elder' (by (with_reducible repeat (first | apply Kd.V_alloc | apply Kd.V_drewN | apply Kd.V_drew)); exact HL129_1.out) (Kd.R_base ho0) hb); have n7_ := Aside0.mk (Kd.R_lower (Kd.R_new' (Kd.R_newM (M := fun k_ => (w.heap.size ≤ k_)) ho0 (below_size v1_) (fun k_ h_ => h_)) (Kd.R_lt v35_)) (below_size v1_)); have n8_ := Aside0.mk (blk_below (g := gb101) (o := .cells #[.slice A0_0 l0_0.length c0_0, .slice A0_1 l0_1.length c0_1] 37 (0, 0)) v3_ hb); have n9_ := Aside0.mk (Kd.C_below v13_ hb); have n10_ := Aside0.mk (Kd.C_below v19_ hb); have n11_ := Aside0.mk (Kd.C_below v18_ hb); have n12_ := Aside0.mk (Kd.C_below (by repeat (first | (with_reducible exact HR129_1.out) | (with_reducible refine Kd.C_alloc ?_ _) | (with_reducible refine Kd.C_drewN ?_ _) | (with_reducible refine Kd.C_drew ?_) | exact HR129_1.out)) hb); have n13_ := Aside0.mk (below_step v1_ hb); clear HO_5; clear HO_102000; clear HL120_1; clear HO123; clear HL125_1; clear HL127_1; clear HL129_1; clear BK101; clear HR120_1; clear HR125_1; clear HR127_1; clear HR129_1; clear HB; have HO_5 := n0_; have HO_102000 := n1_; have HL120_1 := n2_; have HO123 := n3_; have HL125_1 := n4_; have HL127_1 := n5_; have HL129_1 := n6_; have HO132 := n7_; have BK101 := n8_; have HR120_1 := n9_; have HR125_1 := n10_; have HR127_1 := n11_; have HR129_1 := n12_; have HB := n13_; clear n0_ n1_ n2_ n3_ n4_ n5_ n6_ n7_ n8_ n9_ n10_ n11_ n12_ n13_; (try clear hb); (try clear hb2); (try clear hk); (try clear hi); (try clear ho0)))
                   go_meet
                   case rel => exact ⟨_, (t128), (t130), v6_, H', ⟨by have := HJ8.out; have := HK2.out; have := HK3.out; have := HK4.out; first | omega | exact Nat.le_refl _⟩, ⟨by (with_reducible repeat (first | apply Kd.N_alloc | apply Kd.N_drewN | apply Kd.N_drew)); exact Kd.N_mono HO_5.out (fun _ hk => ⟨hk.1.1.1, ⟨hk.1.2, ⟨hk.2, hk.1.1.2⟩⟩⟩)⟩, ⟨by (with_reducible repeat (first | apply Kd.R_alloc | apply Kd.R_drewN | apply Kd.R_drew)); exact Kd.R_mono HO123.out (fun _ hk => ⟨hk.1.1, hk.2⟩)⟩, ⟨by (with_reducible repeat (first | apply Kd.R_alloc | apply Kd.R_drewN | apply Kd.R_drew)); exact Kd.R_mono HO132.out (fun _ hk => ⟨hk.1.1, hk.2⟩)⟩, ⟨by (with_reducible repeat (first | apply Kd.V_alloc | apply Kd.V_drewN | apply Kd.V_drew)); exact Kd.V_mono HO_102000.out (fun _ hk => ⟨hk.1.1.1, ⟨hk.1.1.2.1, ⟨hk.1.2, ⟨hk.2, hk.1.1.2.2⟩⟩⟩⟩)⟩, ⟨by (with_reducible repeat (first | refine blk_drewN ?_ _ | refine blk_drew ?_ | refine blk_alloc ?_ _)); exact BK101.out⟩, ⟨by repeat (first | (with_reducible exact HR120_1.out) | (with_reducible refine Kd.C_alloc ?_ _) | (with_reducible refine Kd.C_drewN ?_ _) | (with_reducible refine Kd.C_drew ?_) | exact HR120_1.out)⟩, ⟨by repeat (first | (with_reducible exact HR125_1.out) | (with_reducible refine Kd.C_alloc ?_ _) | (with_reducible refine Kd.C_drewN ?_ _) | (with_reducible refine Kd.C_drew ?_) | exact HR125_1.out)⟩, ⟨by repeat (first | (with_reducible first | exact HB.out | apply below_alloc | apply pw_below_drewN | apply below_drew1 | refine below_set ?_ GE101.out) | exact HB.out)⟩⟩
                  ·rw [if_neg c40] at H
                   have c40b0 : (t128 == 0) = false := beq_eq_false_iff_ne.mpr c40
                   have c40b1 : (t128 != 0) = true := bne_iff_ne.mpr c40
                   (first | rw [c40b0] | (simp only [i64_w, i32_w]; rw [c40b0]) | skip)
                   have H' := Aside0.mk H
                   clear H
                   have p127 : 0 ≤ (x8_3 : Int) := of_decide_eq_true v2_
                   have q127 : x8_3 < (x5_2.length : Int) := of_decide_eq_true v2_
                   obtain ⟨ad127, A127_1, c127_1, e127, hx127_0, hx127_1, hl127_1, hi127_1⟩ := at_T42 (Kd.N_reads' HO_5.out).2.2 x8_3 p127 q127
                   obtain rfl : ad120 = ad127 := (by injection e127)
                   obtain ⟨ce127, hce127, hMe127, hcc127⟩ := Kd.N_get HO_5.out z42 x8_3 p127 (by first | exact q127 | exact of_decide_eq_true v2_ | (have e_ := (Kd.N_reads' HO_5.out).1; omega))
                   obtain ⟨ua127_1, uc127_1, rfl, ul127_1, ge127_1⟩ := k42_openF hMe127
                   have hv127_1 := hcc127 1 _ rfl
                   rw [add_field _ _ 1 v33_] at hv127_1
                   replace hv127_1 := Option.some.inj (hv127_1.symm.trans hx127_1)
                   injection hv127_1 with hva_ hvn_ hvc_
                   rw [hva_] at ge127_1
                   rw [hvc_] at ul127_1
                   have HL127_1 := Aside0.mk (show Kd.V (Kd.slice 3 (Kd.int .i64)) 45 _ w.heap.size _ _ ((rd_T42 x5_2 x8_3).f1) from Kd.V_mk ul127_1 ge127_1)
                   clear hva_ hvn_ hvc_ ge127_1 ul127_1
                   clear hcc127 hce127
                   have HR127_1 := Aside0.mk hi127_1
                   have HC127_1 := Aside0.mk hl127_1
                   clear hi127_1 hl127_1
                   replace p127 := eq_true p127
                   replace q127 := eq_true q127
                   go_wp2_with (first | ((with_reducible refine gate_callee (f := 28) rfl ?_); refine goesL_ (some 70) rfl rfl Try.func28 v8_ rfl #[.agg #[.int .i64 ((rd_T42 x5_2 x8_3).f0), .slice A127_1 ((rd_T42 x5_2 x8_3).f1).length c127_1], .int .i64 a1, .int .i64 x9_4] rfl v4_ ?_; (with_reducible refine (q57.calls ((rd_T42 x5_2 x8_3).f0) _ _ ((rd_T42 x5_2 x8_3).f1) a1 x9_4 t128 _ ?side1 ?side2 A39.out).mono ?_); (case side1 => repeat (first | exact v18_ | (with_reducible refine Kd.C_alloc ?_ _) | (with_reducible refine Kd.C_drewN ?_ _) | (with_reducible refine Kd.C_drew ?_))); (case side2 => exact HC127_1.out); rintro e w44 ⟨rfl, hb⟩; refine ⟨_, rfl, ?_⟩; have n0_ := Aside0.mk (Kd.N_below v20_ hb); have n1_ := Aside0.mk (Kd.V_below v25_ hb); have n2_ := Aside0.mk (Kd.V_below v34_ hb); have n3_ := Aside0.mk (Kd.R_below v35_ hb); have n4_ := Aside0.mk (Kd.V_below v40_ hb); have n5_ := Aside0.mk (Kd.V_below v55_ hb); have n6_ := Aside0.mk (blk_below (g := gb101) (o := .cells #[.slice A0_0 l0_0.length c0_0, .slice A0_1 l0_1.length c0_1] 37 (0, 0)) v3_ hb); have n7_ := Aside0.mk (Kd.C_below v13_ hb); have n8_ := Aside0.mk (Kd.C_below v19_ hb); have n9_ := Aside0.mk (Kd.C_below v18_ hb); have n10_ := Aside0.mk (below_step v1_ hb); clear HO_5; clear HO_102000; clear HL120_1; clear HO123; clear HL125_1; clear HL127_1; clear BK101; clear HR120_1; clear HR125_1; clear HR127_1; clear HB; have HO_5 := n0_; have HO_102000 := n1_; have HL120_1 := n2_; have HO123 := n3_; have HL125_1 := n4_; have HL127_1 := n5_; have BK101 := n6_; have HR120_1 := n7_; have HR125_1 := n8_; have HR127_1 := n9_; have HB := n10_; clear n0_ n1_ n2_ n3_ n4_ n5_ n6_ n7_ n8_ n9_ n10_; (try clear hb); (try clear hb2); (try clear hk); (try clear hi)))
                   go_meet
                   case rel => exact ⟨_, (t128), (([] : List Int)), v6_, H', ⟨by have := HJ8.out; have := HK2.out; have := HK3.out; have := HK4.out; first | omega | exact Nat.le_refl _⟩, ⟨by (with_reducible repeat (first | apply Kd.N_alloc | apply Kd.N_drewN | apply Kd.N_drew)); exact Kd.N_mono HO_5.out (fun _ hk => ⟨hk.1.1, ⟨hk.2, ⟨(by simp [Value.ownBlock]), hk.1.2⟩⟩⟩)⟩, ⟨by (with_reducible repeat (first | apply Kd.R_alloc | apply Kd.R_drewN | apply Kd.R_drew)); exact Kd.R_mono HO123.out (fun _ hk => ⟨hk.1, (by simp [Value.ownBlock])⟩)⟩, ⟨by first | exact Kd.R_nil _ _ _ _ _ | exact Kd.N_nil _ _ _ _ _ | exact Kd.V_nil _ _ _ _ _ | exact Kd.Q_nil _ _ _ _ _ | exact Kd.S_nil _ _ _ _ _⟩, ⟨by (with_reducible repeat (first | apply Kd.V_alloc | apply Kd.V_drewN | apply Kd.V_drew)); exact Kd.V_mono HO_102000.out (fun _ hk => ⟨hk.1.1, ⟨hk.1.2.1, ⟨hk.2, ⟨(by simp [Value.ownBlock]), hk.1.2.2⟩⟩⟩⟩)⟩, ⟨by (with_reducible repeat (first | refine blk_drewN ?_ _ | refine blk_drew ?_ | refine blk_alloc ?_ _)); exact BK101.out⟩, ⟨by repeat (first | (with_reducible exact HR120_1.out) | (with_reducible refine Kd.C_alloc ?_ _) | (with_reducible refine Kd.C_drewN ?_ _) | (with_reducible refine Kd.C_drew ?_) | exact HR120_1.out)⟩, ⟨by repeat (first | (with_reducible exact HR125_1.out) | (with_reducible refine Kd.C_alloc ?_ _) | (with_reducible refine Kd.C_drewN ?_ _) | (with_reducible refine Kd.C_drew ?_) | exact HR125_1.out)⟩, ⟨by repeat (first | (with_reducible first | exact HB.out | apply below_alloc | apply pw_below_drewN | apply below_drew1 | refine below_set ?_ GE101.out) | exact HB.out)⟩⟩
                 ·replace c38 := Bool.eq_false_iff.mpr c38
                  subst c38
                  have H1 : (q3.j5 k4 a1 x5_2 x8_3 x9_4 t121 t124 1 ([] : List Int)) = some r := by rw [if_neg (show ¬ (false = true) by decide)] at H; exact H
                  clear H
                  have H := H1
                  clear H1
                  have H' := Aside0.mk H
                  clear H
                  go_wp2
                  go_meet
                  case rel => exact ⟨_, (1), (([] : List Int)), v6_, H', ⟨by have := HJ8.out; have := HK2.out; have := HK3.out; have := HK4.out; first | omega | exact Nat.le_refl _⟩, ⟨by (with_reducible repeat (first | apply Kd.N_alloc | apply Kd.N_drewN | apply Kd.N_drew)); exact Kd.N_mono HO_5.out (fun _ hk => ⟨hk.1.1, ⟨hk.2, ⟨(by simp [Value.ownBlock]), hk.1.2⟩⟩⟩)⟩, ⟨by (with_reducible repeat (first | apply Kd.R_alloc | apply Kd.R_drewN | apply Kd.R_drew)); exact Kd.R_mono HO123.out (fun _ hk => ⟨hk.1, (by simp [Value.ownBlock])⟩)⟩, ⟨by first | exact Kd.R_nil _ _ _ _ _ | exact Kd.N_nil _ _ _ _ _ | exact Kd.V_nil _ _ _ _ _ | exact Kd.Q_nil _ _ _ _ _ | exact Kd.S_nil _ _ _ _ _⟩, ⟨by (with_reducible repeat (first | apply Kd.V_alloc | apply Kd.V_drewN | apply Kd.V_drew)); exact Kd.V_mono HO_102000.out (fun _ hk => ⟨hk.1.1, ⟨hk.1.2.1, ⟨hk.2, ⟨(by simp [Value.ownBlock]), hk.1.2.2⟩⟩⟩⟩)⟩, ⟨by (with_reducible repeat (first | refine blk_drewN ?_ _ | refine blk_drew ?_ | refine blk_alloc ?_ _)); exact BK101.out⟩, ⟨by repeat (first | (with_reducible exact HR120_1.out) | (with_reducible refine Kd.C_alloc ?_ _) | (with_reducible refine Kd.C_drewN ?_ _) | (with_reducible refine Kd.C_drew ?_) | exact HR120_1.out)⟩, ⟨by repeat (first | (with_reducible exact HR125_1.out) | (with_reducible refine Kd.C_alloc ?_ _) | (with_reducible refine Kd.C_drewN ?_ _) | (with_reducible refine Kd.C_drew ?_) | exact HR125_1.out)⟩, ⟨by repeat (first | (with_reducible first | exact HB.out | apply below_alloc | apply pw_below_drewN | apply below_drew1 | refine below_set ?_ GE101.out) | exact HB.out)⟩⟩
                case rest =>
                 clear HC35
                 try clear c1
                 try clear p1
                 try clear q1
                 try clear hx1
                 try clear c2
                 try clear p2
                 try clear q2
                 try clear c3
                 try clear c4
                 try clear p6
                 try clear c8
                 try clear c12
                 try clear p12
                 try clear q12
                 try clear hx12
                 try clear c18
                 try clear c18b0
                 try clear c18b1
                 try clear c19
                 try clear c19b0
                 try clear c19b1
                 try clear q20
                 try clear c21
                 try clear c21b0
                 try clear c22
                 try clear c22b0
                 try clear c23
                 try clear c24
                 try clear c26
                 try clear c27
                 try clear c28
                 try clear c28b0
                 try clear c29
                 try clear c30
                 try clear c30b0
                 try clear c31
                 try clear c31b0
                 try clear c32
                 try clear c32b0
                 try clear c38
                 try clear c40
                 try clear c40b0
                 try clear c40b1
                 try clear hcz11_0
                 try clear hcz11_1
                 try clear hcz15_0
                 try clear hcz15_1
                 try clear hcz6_0
                 try clear hcz6_1
                 try clear hfz11_0
                 try clear hfz11_1
                 try clear hfz15_0
                 try clear hfz15_1
                 try clear hfz6_0
                 try clear hfz6_1
                 try clear hx120_0
                 try clear hx120_1
                 try clear hx125_0
                 try clear hx125_1
                 try clear hx127_0
                 try clear hx127_1
                 try clear hx129_0
                 try clear hx129_1
                 try clear p120
                 try clear p125
                 try clear p127
                 try clear p129
                 try clear p2
                 try clear p6
                 try clear q120
                 try clear q125
                 try clear q127
                 try clear q129
                 try clear q2
                 try clear q20
                 obtain ⟨kq, x12_34, x13_34, rfl, HA, HJ34, HO_5, HO_10, HO_13, HO_102000, BK101, HR120_1, HR125_1, HB⟩ := hcut
                 cases kq with
                 | zero => exact absurd HA.out (by simp [q3.j5])
                 | succ kj34 =>
                  have H := HA.out
                  clear HA
                  simp only [q3.j5] at H
                  replace H := Option.bind_eq_some_iff.mp H
                  obtain ⟨t133, A450, H⟩ := H
                  replace H : (if t133 = x12_34 then ((q30.f kj34 t121 x13_34).bind fun t134 => (if t134 = true then (q3.l3 kj34 a1 x5_2 x8_3 (wrap64 (x9_4 + 1))) else (some false))) else (some false)) = some r := H
                  have A45 := Aside0.mk A450
                  clear A450
                  by_cases c46 : t133 = x12_34
                  ·rw [if_pos c46] at H
                   have c46b0 : (t133 == x12_34) = true := beq_iff_eq.mpr c46
                   have c46b1 : (t133 != x12_34) = false := bne_eq_false_iff_eq.mpr c46
                   clear c46
                   replace H := Option.bind_eq_some_iff.mp H
                   obtain ⟨t134, A470, H⟩ := H
                   replace H : (if t134 = true then (q3.l3 kj34 a1 x5_2 x8_3 (wrap64 (x9_4 + 1))) else (some false)) = some r := H
                   have A47 := Aside0.mk A470
                   clear A470
                   by_cases c48 : t134 = true
                   ·subst c48
                    have H1 : (q3.l3 kj34 a1 x5_2 x8_3 (wrap64 (x9_4 + 1))) = some r := by rw [if_pos rfl] at H; exact H
                    clear H
                    have H := H1
                    clear H1
                    have H' := Aside0.mk H
                    clear H
                    go_wp2_with (first | ((with_reducible refine gate_callee (f := 30) rfl ?_); refine goesL_ (some 81) rfl rfl Try.func30 v8_ rfl #[.int .i64 t124] rfl v4_ ?_; (with_reducible refine (q48.calls t124 t133 _ A45.out).mono ?_); rintro e w' ⟨rfl, ⟨nd, rfl⟩⟩; refine ⟨_, rfl, ?_⟩; obtain ⟨Ao49, co49, eo49⟩ := Kd.R_slice HO_10.out; subst eo49; obtain ⟨Ao50, co50, eo50⟩ := Kd.R_slice HO_13.out; subst eo50) | (go_at_call 31; (with_reducible refine (q30.calls kj34 _ _ t121 _ _ x13_34 true _ ?side1 ?side2 ?side3 ?side4 A47.out).mono ?_); (case side1 => repeat (first | exact (Kd.R_reads' HO_10.out).2.2 | (with_reducible refine Kd.C_alloc ?_ _) | (with_reducible refine Kd.C_drewN ?_ _) | (with_reducible refine Kd.C_drew ?_))); (case side2 => exact (Kd.R_reads' HO_10.out).2.1); (case side3 => repeat (first | exact (Kd.R_reads' HO_13.out).2.2 | (with_reducible refine Kd.C_alloc ?_ _) | (with_reducible refine Kd.C_drewN ?_ _) | (with_reducible refine Kd.C_drew ?_))); (case side4 => exact (Kd.R_reads' HO_13.out).2.1); rintro e w' ⟨rfl, ⟨nd, rfl⟩⟩))
                    go_roundg kj34
                    case measure => have := HJ8.out; have := HK2.out; have := HK3.out; have := HK4.out; have := HJ34.out; omega
                    case rel => exact ⟨(wrap64 (x9_4 + 1)), v6_, H', ⟨by have := HJ8.out; have := HK2.out; have := HK3.out; have := HK4.out; have := HJ34.out; omega⟩, ⟨by (with_reducible repeat (first | apply Kd.N_alloc | apply Kd.N_drewN | apply Kd.N_drew)); exact Kd.N_mono HO_5.out (fun _ hk => ⟨hk.1, hk.2.2.2⟩)⟩, ⟨by (with_reducible repeat (first | apply Kd.V_alloc | apply Kd.V_drewN | apply Kd.V_drew)); exact Kd.V_mono HO_102000.out (fun _ hk => ⟨hk.1, ⟨hk.2.1, hk.2.2.2.2⟩⟩)⟩, ⟨by (with_reducible repeat (first | refine blk_drewN ?_ _ | refine blk_drew ?_ | refine blk_alloc ?_ _)); exact BK101.out⟩, ⟨by repeat (first | (with_reducible first | exact HB.out | apply below_alloc | apply pw_below_drewN | apply below_drew1 | refine below_set ?_ GE101.out) | exact HB.out)⟩⟩
                   ·replace c48 := Bool.eq_false_iff.mpr c48
                    subst c48
                    have H1 : (some false) = some r := by rw [if_neg (show ¬ (false = true) by decide)] at H; exact H
                    clear H
                    have H := H1
                    clear H1
                    obtain rfl := Option.some.inj H
                    go_wp2_with (first | ((with_reducible refine gate_callee (f := 30) rfl ?_); refine goesL_ (some 81) rfl rfl Try.func30 v8_ rfl #[.int .i64 t124] rfl v4_ ?_; (with_reducible refine (q48.calls t124 t133 _ A45.out).mono ?_); rintro e w' ⟨rfl, ⟨nd, rfl⟩⟩; refine ⟨_, rfl, ?_⟩; obtain ⟨Ao51, co51, eo51⟩ := Kd.R_slice HO_10.out; subst eo51; obtain ⟨Ao52, co52, eo52⟩ := Kd.R_slice HO_13.out; subst eo52) | (go_at_call 31; (with_reducible refine (q30.calls kj34 _ _ t121 _ _ x13_34 false _ ?side1 ?side2 ?side3 ?side4 A47.out).mono ?_); (case side1 => repeat (first | exact (Kd.R_reads' HO_10.out).2.2 | (with_reducible refine Kd.C_alloc ?_ _) | (with_reducible refine Kd.C_drewN ?_ _) | (with_reducible refine Kd.C_drew ?_))); (case side2 => exact (Kd.R_reads' HO_10.out).2.1); (case side3 => repeat (first | exact (Kd.R_reads' HO_13.out).2.2 | (with_reducible refine Kd.C_alloc ?_ _) | (with_reducible refine Kd.C_drewN ?_ _) | (with_reducible refine Kd.C_drew ?_))); (case side4 => exact (Kd.R_reads' HO_13.out).2.1); rintro e w' ⟨rfl, ⟨nd, rfl⟩⟩))
                    go_ret
                    exact ⟨by first | rfl | (simp [errW_none, errW_some] <;> rfl) | (simp [*, errW_none, errW_some] <;> rfl), by repeat (first | (with_reducible first | exact HB.out | apply below_alloc | apply pw_below_drewN | apply below_drew1 | refine below_set ?_ GE101.out) | exact HB.out)⟩
                  ·rw [if_neg c46] at H
                   have c46b0 : (t133 == x12_34) = false := beq_eq_false_iff_ne.mpr c46
                   have c46b1 : (t133 != x12_34) = true := bne_iff_ne.mpr c46
                   obtain rfl := Option.some.inj H
                   go_wp2_with (first | ((with_reducible refine gate_callee (f := 30) rfl ?_); refine goesL_ (some 81) rfl rfl Try.func30 v8_ rfl #[.int .i64 t124] rfl v4_ ?_; (with_reducible refine (q48.calls t124 t133 _ A45.out).mono ?_); rintro e w' ⟨rfl, ⟨nd, rfl⟩⟩; refine ⟨_, rfl, ?_⟩))
                   go_ret
                   exact ⟨by first | rfl | (simp [errW_none, errW_some] <;> rfl) | (simp [*, errW_none, errW_some] <;> rfl), by repeat (first | (with_reducible first | exact HB.out | apply below_alloc | apply pw_below_drewN | apply below_drew1 | refine below_set ?_ GE101.out) | exact HB.out)⟩
               ·rw [if_neg c32] at H
                exact absurd H v26_
              ·rw [if_neg c31] at H
               exact absurd H v26_
             ·rw [if_neg c30] at H
              have c30b0 : decide (x9_4 ≤ 16) = false := decide_eq_false c30
              clear c30
              have H' := Aside0.mk H
              clear H
              go_wp2
              go_roundg k4
              case measure => have := HJ8.out; have := HK2.out; have := HK3.out; have := HK4.out; omega
              case rel => exact ⟨(wrap64 (x8_3 + 1)), v6_, H', ⟨by have := HJ8.out; have := HK2.out; have := HK3.out; have := HK4.out; omega⟩, ⟨by (with_reducible repeat (first | apply Kd.N_alloc | apply Kd.N_drewN | apply Kd.N_drew)); exact HO_5.out⟩, ⟨by (with_reducible repeat (first | apply Kd.V_alloc | apply Kd.V_drewN | apply Kd.V_drew)); exact HO_102000.out⟩, ⟨by (with_reducible repeat (first | refine blk_drewN ?_ _ | refine blk_drew ?_ | refine blk_alloc ?_ _)); exact BK101.out⟩, ⟨by repeat (first | (with_reducible first | exact HB.out | apply below_alloc | apply pw_below_drewN | apply below_drew1 | refine below_set ?_ GE101.out) | exact HB.out)⟩⟩
          ·rw [if_neg c28] at H
           have c28b0 : decide (x8_3 < (x5_2.length : Int)) = false := decide_eq_false c28
           clear c28
           replace H := Option.bind_eq_some_iff.mp H
           obtain ⟨t119, A530, H⟩ := H
           replace H : (some t119) = some r := H
           have A53 := Aside0.mk A530
           clear A530
           obtain rfl := Option.some.inj H
           obtain ⟨Ao54, co54, eo54⟩ := Kd.N_slice HO_5.out
           subst eo54
           go_wp2_with (first | ((with_reducible refine gate_callee (f := 40) rfl ?_); refine goesL_ (some 90) rfl rfl Try.func40 v8_ rfl #[] rfl v4_ ?_; (with_reducible refine (q62.calls k3  t119 _ A53.out).mono ?_); rintro e w55 ⟨rfl, hb⟩; refine ⟨_, rfl, ?_⟩; have n0_ := Aside0.mk (Kd.N_below v20_ hb); have n1_ := Aside0.mk (Kd.V_below v25_ hb); have n2_ := Aside0.mk (blk_below (g := gb101) (o := .cells #[.slice A0_0 l0_0.length c0_0, .slice A0_1 l0_1.length c0_1] 37 (0, 0)) v3_ hb); have n3_ := Aside0.mk (below_step v1_ hb); clear HO_5; clear HO_102000; clear BK101; clear HB; have HO_5 := n0_; have HO_102000 := n1_; have BK101 := n2_; have HB := n3_; clear n0_ n1_ n2_ n3_; (try clear hb); (try clear hb2); (try clear hk); (try clear hi)))
           go_ret
           exact ⟨by first | rfl | (simp [errW_none, errW_some] <;> rfl) | (simp [*, errW_none, errW_some] <;> rfl), by repeat (first | (with_reducible first | exact HB.out | apply below_alloc | apply pw_below_drewN | apply below_drew1 | refine below_set ?_ GE101.out) | exact HB.out)⟩
  ·rw [if_neg c8] at H
   exact absurd H v26_
end Go.Proofs.Ytcfhffhmpalkbaa.P
