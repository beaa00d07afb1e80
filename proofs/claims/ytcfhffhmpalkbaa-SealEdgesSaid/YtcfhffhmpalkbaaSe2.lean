import Derived.Test.YtcfhffhmpalkbaaSe1
section
namespace Go.Proofs.Ytcfhffhmpalkbaa.P
open Go.RowKit Go.Proofs.YtcfhffhmpalkbaaM Go.Proofs.YtcfhffhmpalkbaaW.PrintWords Go.Proofs.YtcfhffhmpalkbaaW.PrintLast Go.Proofs.YtcfhffhmpalkbaaW.PrintMore
attribute [local go_sem] Go.Instr.field Go.asAgg max2_int min2_int max_two min_two max_three min_three max_four min_four
set_option linter.unusedVariables false
set_option linter.unusedSimpArgs false
set_option maxHeartbeats 8000000 in
set_option maxRecDepth 100000 in
theorem q10.calls (k : Nat)  (r : Bool) (w : World) (h : q10.f k  = some r) :
 Calls Try.prog 21 #[] w fun e w' => e = .returned (.bool r) ∧ Below w.heap.size w w' := by
 have HB := Aside0.mk (Below.refl w.heap.size w)
 have H : ((q6.f k (⟨#[97, 98]⟩ : ByteArray)).bind fun t101 => ((q7.f k t101).bind fun bt102 => ((q1.f k (⟨#[]⟩ : ByteArray)).bind fun t104 => (if t104 = 1 then ((q1.f k (⟨#[97]⟩ : ByteArray)).bind fun t105 => (if t105 = 1 then (some false) else (if bt102.2 = true then (if (bt102.1.size : Int) = 60 then (if 0 ≤ 2 then (if 2 ≤ (bt102.1.size : Int) then (some ((bt102.1.extract 0 2).toList == ([97, 98] : List UInt8))) else (none)) else (none)) else (some false)) else (some false)))) else (some false))))) = some r := h
 clear h
 replace H := Option.bind_eq_some_iff.mp H
 obtain ⟨t101, A10, H⟩ := H
 replace H : ((q7.f k t101).bind fun bt102 => ((q1.f k (⟨#[]⟩ : ByteArray)).bind fun t104 => (if t104 = 1 then ((q1.f k (⟨#[97]⟩ : ByteArray)).bind fun t105 => (if t105 = 1 then (some false) else (if bt102.2 = true then (if (bt102.1.size : Int) = 60 then (if 0 ≤ 2 then (if 2 ≤ (bt102.1.size : Int) then (some ((bt102.1.extract 0 2).toList == ([97, 98] : List UInt8))) else (none)) else (none)) else (some false)) else (some false)))) else (some false)))) = some r := H
 have A1 := Aside0.mk A10
 clear A10
 replace H := Option.bind_eq_some_iff.mp H
 obtain ⟨⟨t102, t103⟩, A20, H⟩ := H
 replace H : ((q1.f k (⟨#[]⟩ : ByteArray)).bind fun t104 => (if t104 = 1 then ((q1.f k (⟨#[97]⟩ : ByteArray)).bind fun t105 => (if t105 = 1 then (some false) else (if t103 = true then (if (t102.size : Int) = 60 then (if 0 ≤ 2 then (if 2 ≤ (t102.size : Int) then (some ((t102.extract 0 2).toList == ([97, 98] : List UInt8))) else (none)) else (none)) else (some false)) else (some false)))) else (some false))) = some r := H
 have A2 := Aside0.mk A20
 clear A20
 replace H := Option.bind_eq_some_iff.mp H
 obtain ⟨t104, A30, H⟩ := H
 replace H : (if t104 = 1 then ((q1.f k (⟨#[97]⟩ : ByteArray)).bind fun t105 => (if t105 = 1 then (some false) else (if t103 = true then (if (t102.size : Int) = 60 then (if 0 ≤ 2 then (if 2 ≤ (t102.size : Int) then (some ((t102.extract 0 2).toList == ([97, 98] : List UInt8))) else (none)) else (none)) else (some false)) else (some false)))) else (some false)) = some r := H
 have A3 := Aside0.mk A30
 clear A30
 by_cases c4 : t104 = 1
 ·rw [if_pos c4] at H
  have c4b0 : (t104 == 1) = true := beq_iff_eq.mpr c4
  have c4b1 : (t104 != 1) = false := bne_eq_false_iff_eq.mpr c4
  clear c4
  replace H := Option.bind_eq_some_iff.mp H
  obtain ⟨t105, A50, H⟩ := H
  replace H : (if t105 = 1 then (some false) else (if t103 = true then (if (t102.size : Int) = 60 then (if 0 ≤ 2 then (if 2 ≤ (t102.size : Int) then (some ((t102.extract 0 2).toList == ([97, 98] : List UInt8))) else (none)) else (none)) else (some false)) else (some false))) = some r := H
  have A5 := Aside0.mk A50
  clear A50
  by_cases c6 : t105 = 1
  ·rw [if_pos c6] at H
   have c6b0 : (t105 == 1) = true := beq_iff_eq.mpr c6
   have c6b1 : (t105 != 1) = false := bne_eq_false_iff_eq.mpr c6
   clear c6
   obtain rfl := Option.some.inj H
   go_enter Try.func21, Try.ntmps21
   go_wp2_with (first | ((with_reducible refine gate_callee (f := 15) rfl ?_); refine goesL_ (some 4) rfl rfl Try.func15 v6_ rfl #[.string (⟨#[97, 98]⟩ : ByteArray)] rfl v0_ ?_; (with_reducible refine (q6.calls k (⟨#[97, 98]⟩ : ByteArray) t101 _ A1.out).mono ?_); rintro e w7 ⟨rfl, hb⟩; refine ⟨_, rfl, ?_⟩; have n0_ := Aside0.mk (below_step v1_ hb); clear HB; have HB := n0_; clear n0_; (try clear hb); (try clear hb2); (try clear hk); (try clear hi)) | ((with_reducible refine gate_callee (f := 19) rfl ?_); refine goesL_ (some 5) rfl rfl Try.func19 v6_ rfl #[.string t101] rfl v0_ ?_; (with_reducible refine (q7.calls k t101 t102 t103 _ A2.out).mono ?_); rintro e w8 ⟨rfl, hb⟩; refine ⟨_, rfl, ?_⟩; have n0_ := Aside0.mk (below_step v1_ hb); clear HB; have HB := n0_; clear n0_; (try clear hb); (try clear hb2); (try clear hk); (try clear hi)) | ((with_reducible refine gate_callee (f := 16) rfl ?_); refine goesL_ (some 8) rfl rfl Try.func16 v6_ rfl #[.string (⟨#[]⟩ : ByteArray)] rfl v0_ ?_; (with_reducible refine (q1.calls k (⟨#[]⟩ : ByteArray) t104 _ A3.out).mono ?_); rintro e w' ⟨rfl, ⟨nd, rfl⟩⟩; refine ⟨_, rfl, ?_⟩) | (go_at_call 16; (with_reducible refine (q1.calls k (⟨#[97]⟩ : ByteArray) t105 _ A5.out).mono ?_); rintro e w' ⟨rfl, ⟨nd, rfl⟩⟩))
   go_ret
   exact ⟨by first | rfl | (simp [errW_none, errW_some] <;> rfl) | (simp [*, errW_none, errW_some] <;> rfl), by repeat (first | (with_reducible first | exact HB.out | apply below_alloc | apply pw_below_drewN | apply below_drew1) | exact HB.out)⟩
  ·rw [if_neg c6] at H
   have c6b0 : (t105 == 1) = false := beq_eq_false_iff_ne.mpr c6
   have c6b1 : (t105 != 1) = true := bne_iff_ne.mpr c6
   by_cases c9 : t103 = true
   ·subst c9
    have H1 : (if (t102.size : Int) = 60 then (if 0 ≤ 2 then (if 2 ≤ (t102.size : Int) then (some ((t102.extract 0 2).toList == ([97, 98] : List UInt8))) else (none)) else (none)) else (some false)) = some r := by rw [if_pos rfl] at H; exact H
    clear H
    have H := H1
    clear H1
    by_cases c10 : (t102.size : Int) = 60
    ·rw [if_pos c10] at H
     have c10b0 : ((t102.size : Int) == 60) = true := beq_iff_eq.mpr c10
     have c10b1 : ((t102.size : Int) != 60) = false := bne_eq_false_iff_eq.mpr c10
     clear c10
     by_cases c11 : 0 ≤ 2
     ·rw [if_pos c11] at H
      have c11b0 := eq_true c11
      have c11b1 : decide (0 ≤ 2) = true := decide_eq_true c11
      clear c11
      by_cases c12 : 2 ≤ (t102.size : Int)
      ·rw [if_pos c12] at H
       have c12b0 := eq_true c12
       have c12b1 : decide (2 ≤ (t102.size : Int)) = true := decide_eq_true c12
       clear c12
       obtain rfl := Option.some.inj H
       go_enter Try.func21, Try.ntmps21
       go_wp2_with (first | ((with_reducible refine gate_callee (f := 15) rfl ?_); refine goesL_ (some 4) rfl rfl Try.func15 v6_ rfl #[.string (⟨#[97, 98]⟩ : ByteArray)] rfl v0_ ?_; (with_reducible refine (q6.calls k (⟨#[97, 98]⟩ : ByteArray) t101 _ A1.out).mono ?_); rintro e w13 ⟨rfl, hb⟩; refine ⟨_, rfl, ?_⟩; have n0_ := Aside0.mk (below_step v1_ hb); clear HB; have HB := n0_; clear n0_; (try clear hb); (try clear hb2); (try clear hk); (try clear hi)) | ((with_reducible refine gate_callee (f := 19) rfl ?_); refine goesL_ (some 5) rfl rfl Try.func19 v6_ rfl #[.string t101] rfl v0_ ?_; (with_reducible refine (q7.calls k t101 t102 true _ A2.out).mono ?_); rintro e w14 ⟨rfl, hb⟩; refine ⟨_, rfl, ?_⟩; have n0_ := Aside0.mk (below_step v1_ hb); clear HB; have HB := n0_; clear n0_; (try clear hb); (try clear hb2); (try clear hk); (try clear hi)) | ((with_reducible refine gate_callee (f := 16) rfl ?_); refine goesL_ (some 8) rfl rfl Try.func16 v6_ rfl #[.string (⟨#[]⟩ : ByteArray)] rfl v0_ ?_; (with_reducible refine (q1.calls k (⟨#[]⟩ : ByteArray) t104 _ A3.out).mono ?_); rintro e w' ⟨rfl, ⟨nd, rfl⟩⟩; refine ⟨_, rfl, ?_⟩) | (go_at_call 16; (with_reducible refine (q1.calls k (⟨#[97]⟩ : ByteArray) t105 _ A5.out).mono ?_); rintro e w' ⟨rfl, ⟨nd, rfl⟩⟩))
       go_ret
       exact ⟨by first | rfl | (simp [errW_none, errW_some] <;> rfl) | (simp [*, errW_none, errW_some] <;> rfl), by repeat (first | (with_reducible first | exact HB.out | apply below_alloc | apply pw_below_drewN | apply below_drew1) | exact HB.out)⟩
      ·rw [if_neg c12] at H
       exact absurd H (by simp)
     ·rw [if_neg c11] at H
      exact absurd H (by simp)
    ·rw [if_neg c10] at H
     have c10b0 : ((t102.size : Int) == 60) = false := beq_eq_false_iff_ne.mpr c10
     have c10b1 : ((t102.size : Int) != 60) = true := bne_iff_ne.mpr c10
     obtain rfl := Option.some.inj H
     go_enter Try.func21, Try.ntmps21
     go_wp2_with (first | ((with_reducible refine gate_callee (f := 15) rfl ?_); refine goesL_ (some 4) rfl rfl Try.func15 v6_ rfl #[.string (⟨#[97, 98]⟩ : ByteArray)] rfl v0_ ?_; (with_reducible refine (q6.calls k (⟨#[97, 98]⟩ : ByteArray) t101 _ A1.out).mono ?_); rintro e w15 ⟨rfl, hb⟩; refine ⟨_, rfl, ?_⟩; have n0_ := Aside0.mk (below_step v1_ hb); clear HB; have HB := n0_; clear n0_; (try clear hb); (try clear hb2); (try clear hk); (try clear hi)) | ((with_reducible refine gate_callee (f := 19) rfl ?_); refine goesL_ (some 5) rfl rfl Try.func19 v6_ rfl #[.string t101] rfl v0_ ?_; (with_reducible refine (q7.calls k t101 t102 true _ A2.out).mono ?_); rintro e w16 ⟨rfl, hb⟩; refine ⟨_, rfl, ?_⟩; have n0_ := Aside0.mk (below_step v1_ hb); clear HB; have HB := n0_; clear n0_; (try clear hb); (try clear hb2); (try clear hk); (try clear hi)) | ((with_reducible refine gate_callee (f := 16) rfl ?_); refine goesL_ (some 8) rfl rfl Try.func16 v6_ rfl #[.string (⟨#[]⟩ : ByteArray)] rfl v0_ ?_; (with_reducible refine (q1.calls k (⟨#[]⟩ : ByteArray) t104 _ A3.out).mono ?_); rintro e w' ⟨rfl, ⟨nd, rfl⟩⟩; refine ⟨_, rfl, ?_⟩) | (go_at_call 16; (with_reducible refine (q1.calls k (⟨#[97]⟩ : ByteArray) t105 _ A5.out).mono ?_); rintro e w' ⟨rfl, ⟨nd, rfl⟩⟩))
     go_ret
     exact ⟨by first | rfl | (simp [errW_none, errW_some] <;> rfl) | (simp [*, errW_none, errW_some] <;> rfl), by repeat (first | (with_reducible first | exact HB.out | apply below_alloc | apply pw_below_drewN | apply below_drew1) | exact HB.out)⟩
   ·replace c9 := Bool.eq_false_iff.mpr c9
    subst c9
    have H1 : (some false) = some r := by rw [if_neg (show ¬ (false = true) by decide)] at H; exact H
    clear H
    have H := H1
    clear H1
    obtain rfl := Option.some.inj H
    go_enter Try.func21, Try.ntmps21
    go_wp2_with (first | ((with_reducible refine gate_callee (f := 15) rfl ?_); refine goesL_ (some 4) rfl rfl Try.func15 v6_ rfl #[.string (⟨#[97, 98]⟩ : ByteArray)] rfl v0_ ?_; (with_reducible refine (q6.calls k (⟨#[97, 98]⟩ : ByteArray) t101 _ A1.out).mono ?_); rintro e w17 ⟨rfl, hb⟩; refine ⟨_, rfl, ?_⟩; have n0_ := Aside0.mk (below_step v1_ hb); clear HB; have HB := n0_; clear n0_; (try clear hb); (try clear hb2); (try clear hk); (try clear hi)) | ((with_reducible refine gate_callee (f := 19) rfl ?_); refine goesL_ (some 5) rfl rfl Try.func19 v6_ rfl #[.string t101] rfl v0_ ?_; (with_reducible refine (q7.calls k t101 t102 false _ A2.out).mono ?_); rintro e w18 ⟨rfl, hb⟩; refine ⟨_, rfl, ?_⟩; have n0_ := Aside0.mk (below_step v1_ hb); clear HB; have HB := n0_; clear n0_; (try clear hb); (try clear hb2); (try clear hk); (try clear hi)) | ((with_reducible refine gate_callee (f := 16) rfl ?_); refine goesL_ (some 8) rfl rfl Try.func16 v6_ rfl #[.string (⟨#[]⟩ : ByteArray)] rfl v0_ ?_; (with_reducible refine (q1.calls k (⟨#[]⟩ : ByteArray) t104 _ A3.out).mono ?_); rintro e w' ⟨rfl, ⟨nd, rfl⟩⟩; refine ⟨_, rfl, ?_⟩) | (go_at_call 16; (with_reducible refine (q1.calls k (⟨#[97]⟩ : ByteArray) t105 _ A5.out).mono ?_); rintro e w' ⟨rfl, ⟨nd, rfl⟩⟩))
    go_ret
    exact ⟨by first | rfl | (simp [errW_none, errW_some] <;> rfl) | (simp [*, errW_none, errW_some] <;> rfl), by repeat (first | (with_reducible first | exact HB.out | apply below_alloc | apply pw_below_drewN | apply below_drew1) | exact HB.out)⟩
 ·rw [if_neg c4] at H
  have c4b0 : (t104 == 1) = false := beq_eq_false_iff_ne.mpr c4
  have c4b1 : (t104 != 1) = true := bne_iff_ne.mpr c4
  obtain rfl := Option.some.inj H
  go_enter Try.func21, Try.ntmps21
  go_wp2_with (first | ((with_reducible refine gate_callee (f := 15) rfl ?_); refine goesL_ (some 4) rfl rfl Try.func15 v6_ rfl #[.string (⟨#[97, 98]⟩ : ByteArray)] rfl v0_ ?_; (with_reducible refine (q6.calls k (⟨#[97, 98]⟩ : ByteArray) t101 _ A1.out).mono ?_); rintro e w19 ⟨rfl, hb⟩; refine ⟨_, rfl, ?_⟩; have n0_ := Aside0.mk (below_step v1_ hb); clear HB; have HB := n0_; clear n0_; (try clear hb); (try clear hb2); (try clear hk); (try clear hi)) | ((with_reducible refine gate_callee (f := 19) rfl ?_); refine goesL_ (some 5) rfl rfl Try.func19 v6_ rfl #[.string t101] rfl v0_ ?_; (with_reducible refine (q7.calls k t101 t102 t103 _ A2.out).mono ?_); rintro e w20 ⟨rfl, hb⟩; refine ⟨_, rfl, ?_⟩; have n0_ := Aside0.mk (below_step v1_ hb); clear HB; have HB := n0_; clear n0_; (try clear hb); (try clear hb2); (try clear hk); (try clear hi)) | ((with_reducible refine gate_callee (f := 16) rfl ?_); refine goesL_ (some 8) rfl rfl Try.func16 v6_ rfl #[.string (⟨#[]⟩ : ByteArray)] rfl v0_ ?_; (with_reducible refine (q1.calls k (⟨#[]⟩ : ByteArray) t104 _ A3.out).mono ?_); rintro e w' ⟨rfl, ⟨nd, rfl⟩⟩; refine ⟨_, rfl, ?_⟩))
  go_ret
  exact ⟨by first | rfl | (simp [errW_none, errW_some] <;> rfl) | (simp [*, errW_none, errW_some] <;> rfl), by repeat (first | (with_reducible first | exact HB.out | apply below_alloc | apply pw_below_drewN | apply below_drew1) | exact HB.out)⟩
end Go.Proofs.Ytcfhffhmpalkbaa.P
end
section
namespace Go.Proofs.Ytcfhffhmpalkbaa.P
open Go.RowKit Go.Proofs.YtcfhffhmpalkbaaM Go.Proofs.YtcfhffhmpalkbaaW.PrintWords Go.Proofs.YtcfhffhmpalkbaaW.PrintLast Go.Proofs.YtcfhffhmpalkbaaW.PrintMore
attribute [local go_sem] Go.Instr.field Go.asAgg max2_int min2_int max_two min_two max_three min_three max_four min_four
set_option linter.unusedVariables false
set_option linter.unusedSimpArgs false
set_option maxHeartbeats 8000000 in
set_option maxRecDepth 100000 in
theorem q11.calls (a0 : Int) (r : ByteArray) (w : World) (h : q11.f a0 = some r) :
 Calls Try.prog 45 #[.int .i64 a0] w fun e w' => e = .returned (.string r) ∧ Below w.heap.size w w' := by
 have HB := Aside0.mk (Below.refl w.heap.size w)
 have H : (if 0 ≤ a0 then (if (a0 : Int).toNat ≤ 281474976710656 then (some (strOfNums (List.replicate (a0 : Int).toNat 0))) else (none)) else (none)) = some r := h
 clear h
 by_cases c2 : 0 ≤ a0
 ·rw [if_pos c2] at H
  have c2b0 := eq_true c2
  have c2b1 : decide (0 ≤ a0) = true := decide_eq_true c2
  clear c2
  by_cases c3 : (a0 : Int).toNat ≤ 281474976710656
  ·rw [if_pos c3] at H
   have c3b0 := eq_true c3
   have c3b1 : decide ((a0 : Int).toNat ≤ 281474976710656) = true := decide_eq_true c3
   clear c3
   obtain ⟨y101, hy101⟩ : ∃ y_ : List Int, y_ = (List.replicate (a0 : Int).toNat 0) := ⟨_, rfl⟩
   replace H : (some (strOfNums y101)) = some r := by first | (rw [hy101]; with_reducible exact H) | (have H2_ := (Option.bind_some _ _).symm.trans H; rw [hy101]; with_reducible exact H2_) | (have H2_ := (Option.bind_some _ _).symm.trans H; with_reducible exact H2_) | with_reducible exact H | (rw [hy101]; exact H) | exact H
   have Ny101 := Aside0.mk hy101
   clear hy101
   obtain rfl := Option.some.inj H
   go_enter Try.func45, Try.ntmps45
   go_wp2_with (first | ((with_reducible refine gate_dst (N := 4) rfl ?_); refine Kd.R_make (Kd.int .u8) _ 5 rfl (N := 4) rfl 29 _ _ rfl a0 rfl rfl Try.underlying29 (.int .u8 0) 1 info5 rfl (by decide) (by omega) 0 (ok := fun _ => True) (okp := fun _ => True) rfl (fun _ hk => hk) trivial (of_decide_eq_true v9_) (Nat.le_trans (Nat.mul_le_mul_right _ (of_decide_eq_true v9_ : a0.toNat ≤ 281474976710656)) (by omega)) (Below.refl _ _) (Nat.le_refl _) ?_; intro v102 w4 ho5 hb hg_ hnew_; clear hg_ hnew_; (first | rw [← Ny101.out] at ho5 | (simp only [Int.reduceToNat] at ho5; rw [← Ny101.out] at ho5)); have n0_ := Aside0.mk (Kd.R_lower ho5 (below_size v1_)); have n1_ := Aside0.mk (below_step v1_ hb); clear HB; have HO103 := n0_; have HB := n1_; clear n0_ n1_; clear hb ho5; have hcv6 := own_string (P := Try.prog) Try.underlying29 Try.underlying5 Try.underlying9 (Kd.own_of_R HO103.out)))
   go_ret
   exact ⟨by first | rfl | (simp [errW_none, errW_some] <;> rfl) | (simp [*, errW_none, errW_some] <;> rfl), by repeat (first | (with_reducible first | exact HB.out | apply below_alloc | apply pw_below_drewN | apply below_drew1) | exact HB.out)⟩
  ·rw [if_neg c3] at H
   exact absurd H (by simp)
 ·rw [if_neg c2] at H
  exact absurd H (by simp)
end Go.Proofs.Ytcfhffhmpalkbaa.P
end
section
namespace Go.Proofs.Ytcfhffhmpalkbaa.P
open Go.RowKit Go.Proofs.YtcfhffhmpalkbaaM Go.Proofs.YtcfhffhmpalkbaaW.PrintWords Go.Proofs.YtcfhffhmpalkbaaW.PrintLast Go.Proofs.YtcfhffhmpalkbaaW.PrintMore
attribute [local go_sem] Go.Instr.field Go.asAgg max2_int min2_int max_two min_two max_three min_three max_four min_four
set_option linter.unusedVariables false
set_option linter.unusedSimpArgs false
set_option maxHeartbeats 8000000 in
set_option maxRecDepth 100000 in
theorem q3.calls (k : Nat) (a0 : ByteArray) (r : Int) (w : World) (h : q3.f k a0 = some r) :
 Calls Try.prog 17 #[.string a0] w fun e w' => e = .returned (.int .u32 r) ∧ Drawn0 w w' := by
 have H : (q3.l0 k a0 1 0 0) = some r := h
 clear h
 have H' := Aside0.mk H
 clear H
 go_enter Try.func17, Try.ntmps17
 go_wp2
 go_loopg [3, 4, 5] k (fun kq v3 v4 v5 w' => ∃ (x3_1 : Int) (x4_1 : Int) (x5_1 : Int), v3 = .int .i64 x3_1 ∧ v4 = .int .i64 x4_1 ∧ v5 = .int .i64 x5_1 ∧ Aside0 (q3.l0 kq a0 x3_1 x4_1 x5_1 = some r) ∧ Aside0 (kq ≤ k) ∧ Drawn0 w w')
 case atStart => exact ⟨(1), (0), (0), v4_, v4_, v4_, H', ⟨Nat.le_refl _⟩, by repeat (first | exact Drawn0.refl _ | apply Drawn0.step)⟩
 case round =>
  clear H'
  try clear c1
  obtain ⟨x3_1, x4_1, x5_1, rfl, rfl, rfl, HA, HK1, ⟨m1, rfl⟩⟩ := hrel
  cases gk with
  | zero => exact absurd HA.out (by simp [q3.l0])
  | succ k1 =>
   have H := HA.out
   clear HA
   simp only [q3.l0] at H
   by_cases c2 : x5_1 < (a0.size : Int)
   ·rw [if_pos c2] at H
    have c2b0 : decide (x5_1 < (a0.size : Int)) = true := decide_eq_true c2
    clear c2
    by_cases c3 : 0 ≤ x5_1
    ·rw [if_pos c3] at H
     have c3b0 : decide (0 ≤ x5_1) = true := decide_eq_true c3
     clear c3
     have H' := Aside0.mk H
     clear H
     have p4 : 0 ≤ (x5_1 : Int) := of_decide_eq_true v9_
     have q4 : x5_1 < (a0.size : Int) := of_decide_eq_true v9_
     have hx4 := bt_at a0 x5_1
     replace p4 := eq_true p4
     replace q4 := eq_true q4
     go_wp2
     go_roundg k1
     case measure => have := HK1.out; omega
     case rel => exact ⟨(Int.tmod (wrap64 (x3_1 + (wrap64 (bt a0 x5_1)))) 65521), (Int.tmod (wrap64 (x4_1 + (Int.tmod (wrap64 (x3_1 + (wrap64 (bt a0 x5_1)))) 65521))) 65521), (wrap64 (x5_1 + 1)), v4_, v4_, v4_, H', ⟨by have := HK1.out; omega⟩, by repeat (first | exact Drawn0.refl _ | apply Drawn0.step)⟩
    ·rw [if_neg c3] at H
     exact absurd H (by simp)
   ·rw [if_neg c2] at H
    have c2b0 : decide (x5_1 < (a0.size : Int)) = false := decide_eq_false c2
    clear c2
    obtain rfl := Option.some.inj H
    go_wp2
    go_ret
    exact ⟨by first | rfl | (simp; done) | (simp [*]; done), by repeat (first | exact Drawn0.refl _ | apply Drawn0.step)⟩
set_option maxHeartbeats 8000000 in
set_option maxRecDepth 100000 in
theorem q9.calls (a0 : Int) (r : ByteArray) (w : World) (h : q9.f a0 = some r) :
 Calls Try.prog 46 #[.int .i64 a0] w fun e w' => e = .returned (.string r) ∧ Below w.heap.size w w' := by
 have HB := Aside0.mk (Below.refl w.heap.size w)
 have H : (some (strOfNums (([(a0 / 16777216) % 256, (a0 / 65536) % 256, (a0 / 256) % 256, (a0) % 256] : List Int)))) = some r := h
 clear h
 obtain ⟨y101, hy101⟩ : ∃ y_ : List Int, y_ = (([(a0 / 16777216) % 256, (a0 / 65536) % 256, (a0 / 256) % 256, (a0) % 256] : List Int)) := ⟨_, rfl⟩
 replace H : (some (strOfNums y101)) = some r := by first | (rw [hy101]; with_reducible exact H) | (have H2_ := (Option.bind_some _ _).symm.trans H; rw [hy101]; with_reducible exact H2_) | (have H2_ := (Option.bind_some _ _).symm.trans H; with_reducible exact H2_) | with_reducible exact H | (rw [hy101]; exact H) | exact H
 have Ny101 := Aside0.mk hy101
 clear hy101
 obtain rfl := Option.some.inj H
 go_enter Try.func46, Try.ntmps46
 go_wp2_with (first | ((with_reducible refine gate_dst (N := 14) rfl ?_); refine Kd.R_lit (Kd.int .u8) _ 5 ?hg (N := 14) ?hd (xs := ([(a0 / 16777216) % 256, (a0 / 65536) % 256, (a0 / 256) % 256, (a0) % 256] : List Int)) (inner := [.int .u8 ((a0 / 16777216) % 256), .int .u8 ((a0 / 65536) % 256), .int .u8 ((a0 / 256) % 256), .int .u8 ((a0) % 256)]) (ok := fun _ => True) (okp := fun _ => True) ?hr ?hp (fun _ hk => hk) trivial (Below.refl _ _) (Nat.le_refl _) (by simp) ?_; (case hd => rfl); (case hg => rfl); (case hr => first | (go_simp; done) | (go_simp; rfl)); (case hp => exact (Reps.one (show Kd.M (Kd.int .u8) _ _ _ ((a0 / 16777216) % 256) [.int .u8 ((a0 / 16777216) % 256)] from rfl) (Reps.one (show Kd.M (Kd.int .u8) _ _ _ ((a0 / 65536) % 256) [.int .u8 ((a0 / 65536) % 256)] from rfl) (Reps.one (show Kd.M (Kd.int .u8) _ _ _ ((a0 / 256) % 256) [.int .u8 ((a0 / 256) % 256)] from rfl) (Reps.one (show Kd.M (Kd.int .u8) _ _ _ ((a0) % 256) [.int .u8 ((a0) % 256)] from rfl) (Reps.none _ _)))))); intro v102 w2 ho3 hb hg_ hnew_; clear hg_ hnew_; (first | rw [← Ny101.out] at ho3 | (simp only [Int.reduceToNat] at ho3; rw [← Ny101.out] at ho3)); have n0_ := Aside0.mk (Kd.R_lower ho3 (below_size v1_)); have n1_ := Aside0.mk (below_step v1_ hb); clear HB; have HO103 := n0_; have HB := n1_; clear n0_ n1_; clear hb ho3; have hcv4 := own_string (P := Try.prog) Try.underlying29 Try.underlying5 Try.underlying9 (Kd.own_of_R HO103.out)))
 go_ret
 exact ⟨by first | rfl | (simp [errW_none, errW_some] <;> rfl) | (simp [*, errW_none, errW_some] <;> rfl), by repeat (first | (with_reducible first | exact HB.out | apply below_alloc | apply pw_below_drewN | apply below_drew1) | exact HB.out)⟩
set_option maxHeartbeats 8000000 in
set_option maxRecDepth 100000 in
theorem q13.calls (k : Nat) (a0 : ByteArray) (r : ByteArray) (w : World) (h : q13.f k a0 = some r) :
 Calls Try.prog 18 #[.string a0] w fun e w' => e = .returned (.string r) ∧ Below w.heap.size w w' := by
 have HB := Aside0.mk (Below.refl w.heap.size w)
 have H : (if (a0.size : Int) > 60 then (if 0 ≤ 60 then (if 60 ≤ (a0.size : Int) then ((q11.f (wrap64 (60 - ((a0.extract 0 60).size : Int)))).bind fun t101 => (if (a0.extract 0 60).size + t101.size ≤ 9223372036854775807 then ((q3.f k ((a0.extract 0 60) ++ t101)).bind fun t102 => ((q9.f (wrap64 (t102))).bind fun t103 => (if ((a0.extract 0 60) ++ t101).size + t103.size ≤ 9223372036854775807 then (some (((a0.extract 0 60) ++ t101) ++ t103)) else (none)))) else (none))) else (none)) else (none)) else ((q11.f (wrap64 (60 - (a0.size : Int)))).bind fun t104 => (if a0.size + t104.size ≤ 9223372036854775807 then ((q3.f k (a0 ++ t104)).bind fun t105 => ((q9.f (wrap64 (t105))).bind fun t106 => (if (a0 ++ t104).size + t106.size ≤ 9223372036854775807 then (some ((a0 ++ t104) ++ t106)) else (none)))) else (none)))) = some r := h
 clear h
 by_cases c2 : (a0.size : Int) > 60
 ·rw [if_pos c2] at H
  have c2b0 : decide (60 < (a0.size : Int)) = true := decide_eq_true c2
  have c2b1 : decide (60 < a0.size) = true := decide_eq_true (by omega)
  clear c2
  by_cases c3 : 0 ≤ 60
  ·rw [if_pos c3] at H
   have c3b0 := eq_true c3
   have c3b1 : decide (0 ≤ 60) = true := decide_eq_true c3
   clear c3
   by_cases c4 : 60 ≤ (a0.size : Int)
   ·rw [if_pos c4] at H
    have c4b0 := eq_true c4
    have c4b1 : decide (60 ≤ (a0.size : Int)) = true := decide_eq_true c4
    clear c4
    replace H := Option.bind_eq_some_iff.mp H
    obtain ⟨t101, A50, H⟩ := H
    replace H : (if (a0.extract 0 60).size + t101.size ≤ 9223372036854775807 then ((q3.f k ((a0.extract 0 60) ++ t101)).bind fun t102 => ((q9.f (wrap64 (t102))).bind fun t103 => (if ((a0.extract 0 60) ++ t101).size + t103.size ≤ 9223372036854775807 then (some (((a0.extract 0 60) ++ t101) ++ t103)) else (none)))) else (none)) = some r := H
    have A5 := Aside0.mk A50
    clear A50
    by_cases c6 : (a0.extract 0 60).size + t101.size ≤ 9223372036854775807
    ·rw [if_pos c6] at H
     have c6b0 := eq_true c6
     have c6b1 : decide ((a0.extract 0 60).size + t101.size ≤ 9223372036854775807) = true := decide_eq_true c6
     try have c6b2 : (9223372036854775807 < (a0.extract 0 60).size + t101.size) = False := eq_false (Nat.not_lt.2 c6)
     try (have c6b3 := c6b2; simp only [ByteArray.size_append, ByteArray.size_extract, Nat.sub_zero, Nat.min_eq_left (show 60 ≤ a0.size by (try have q0_ := of_decide_eq_true c2b1); (try have q0_ := of_decide_eq_false c2b0); (try have q1_ := of_decide_eq_true c4b1); (try have q1_ := of_decide_eq_false c4b0); (try have q2_ := of_decide_eq_true c6b1); (try have q2_ := of_decide_eq_false c6b0); omega)] at c6b3)
     try (have c6b4 := c6b2; simp only [ByteArray.size_append, ByteArray.size_extract, Nat.sub_zero] at c6b4)
     replace H := Option.bind_eq_some_iff.mp H
     obtain ⟨t102, A70, H⟩ := H
     replace H : ((q9.f (wrap64 (t102))).bind fun t103 => (if ((a0.extract 0 60) ++ t101).size + t103.size ≤ 9223372036854775807 then (some (((a0.extract 0 60) ++ t101) ++ t103)) else (none))) = some r := H
     have A7 := Aside0.mk A70
     clear A70
     replace H := Option.bind_eq_some_iff.mp H
     obtain ⟨t103, A80, H⟩ := H
     replace H : (if ((a0.extract 0 60) ++ t101).size + t103.size ≤ 9223372036854775807 then (some (((a0.extract 0 60) ++ t101) ++ t103)) else (none)) = some r := H
     have A8 := Aside0.mk A80
     clear A80
     by_cases c9 : ((a0.extract 0 60) ++ t101).size + t103.size ≤ 9223372036854775807
     ·rw [if_pos c9] at H
      have c9b0 := eq_true c9
      have c9b1 : decide (((a0.extract 0 60) ++ t101).size + t103.size ≤ 9223372036854775807) = true := decide_eq_true c9
      try have c9b2 : (9223372036854775807 < ((a0.extract 0 60) ++ t101).size + t103.size) = False := eq_false (Nat.not_lt.2 c9)
      try (have c9b3 := c9b2; simp only [ByteArray.size_append, ByteArray.size_extract, Nat.sub_zero, Nat.min_eq_left (show 60 ≤ a0.size by (try have q0_ := of_decide_eq_true c2b1); (try have q0_ := of_decide_eq_false c2b0); (try have q1_ := of_decide_eq_true c4b1); (try have q1_ := of_decide_eq_false c4b0); (try have q2_ := of_decide_eq_true c6b1); (try have q2_ := of_decide_eq_false c6b0); (try have q3_ := of_decide_eq_true c9b1); (try have q3_ := of_decide_eq_false c9b0); omega)] at c9b3)
      try (have c9b4 := c9b2; simp only [ByteArray.size_append, ByteArray.size_extract, Nat.sub_zero] at c9b4)
      obtain rfl := Option.some.inj H
      go_enter Try.func18, Try.ntmps18
      go_wp2_with (first | ((with_reducible refine gate_callee (f := 45) rfl ?_); refine goesL_ (some 12) rfl rfl Try.func45 v6_ rfl #[.int .i64 (wrap64 (60 - ((a0.extract 0 60).size : Int)))] rfl (by (try simp only [List.map_toArray, List.map_cons, List.map_nil]); first | done | (refine congrArg List.toArray (congr (congrArg List.cons (congrArg (Value.int .i64) ?_)) rfl); (try have q0_ := of_decide_eq_true c2b1); (try have q0_ := of_decide_eq_false c2b0); (try have q1_ := of_decide_eq_true c4b1); (try have q1_ := of_decide_eq_false c4b0); (try have q2_ := of_decide_eq_true c6b1); (try have q2_ := of_decide_eq_false c6b0); (try have q3_ := of_decide_eq_true c9b1); (try have q3_ := of_decide_eq_false c9b0); (simp only [ByteArray.size_append, ByteArray.size_extract, wrap64]; omega)) | rfl | (simp only [List.length_drop, List.length_take]; rfl)) ?_; (with_reducible refine (q11.calls (wrap64 (60 - ((a0.extract 0 60).size : Int))) t101 _ A5.out).mono ?_); rintro e w10 ⟨rfl, hb⟩; refine ⟨_, rfl, ?_⟩; have n0_ := Aside0.mk (below_step v1_ hb); clear HB; have HB := n0_; clear n0_; (try clear hb); (try clear hb2); (try clear hk); (try clear hi)) | ((with_reducible refine gate_callee (f := 17) rfl ?_); refine goesL_ (some 16) rfl rfl Try.func17 v6_ rfl #[.string ((a0.extract 0 60) ++ t101)] rfl v0_ ?_; (with_reducible refine (q3.calls k ((a0.extract 0 60) ++ t101) t102 _ A7.out).mono ?_); rintro e w' ⟨rfl, ⟨nd, rfl⟩⟩; refine ⟨_, rfl, ?_⟩) | ((with_reducible refine gate_callee (f := 46) rfl ?_); refine goesL_ (some 18) rfl rfl Try.func46 v6_ rfl #[.int .i64 (wrap64 (t102))] rfl v0_ ?_; (with_reducible refine (q9.calls (wrap64 (t102)) t103 _ A8.out).mono ?_); rintro e w11 ⟨rfl, hb⟩; refine ⟨_, rfl, ?_⟩; have n0_ := Aside0.mk (below_step v1_ hb); clear HB; have HB := n0_; clear n0_; (try clear hb); (try clear hb2); (try clear hk); (try clear hi)))
      go_ret
      exact ⟨by first | rfl | (simp [errW_none, errW_some] <;> rfl) | (simp [*, errW_none, errW_some] <;> rfl), by repeat (first | (with_reducible first | exact HB.out | apply below_alloc | apply pw_below_drewN | apply below_drew1) | exact HB.out)⟩
     ·rw [if_neg c9] at H
      exact absurd H (by simp)
    ·rw [if_neg c6] at H
     exact absurd H (by simp)
   ·rw [if_neg c4] at H
    exact absurd H (by simp)
  ·rw [if_neg c3] at H
   exact absurd H (by simp)
 ·rw [if_neg c2] at H
  have c2b0 : decide (60 < (a0.size : Int)) = false := decide_eq_false c2
  have c2b1 : decide (60 < a0.size) = false := decide_eq_false (by omega)
  clear c2
  replace H := Option.bind_eq_some_iff.mp H
  obtain ⟨t104, A120, H⟩ := H
  replace H : (if a0.size + t104.size ≤ 9223372036854775807 then ((q3.f k (a0 ++ t104)).bind fun t105 => ((q9.f (wrap64 (t105))).bind fun t106 => (if (a0 ++ t104).size + t106.size ≤ 9223372036854775807 then (some ((a0 ++ t104) ++ t106)) else (none)))) else (none)) = some r := H
  have A12 := Aside0.mk A120
  clear A120
  by_cases c13 : a0.size + t104.size ≤ 9223372036854775807
  ·rw [if_pos c13] at H
   have c13b0 := eq_true c13
   have c13b1 : decide (a0.size + t104.size ≤ 9223372036854775807) = true := decide_eq_true c13
   try have c13b2 : (9223372036854775807 < a0.size + t104.size) = False := eq_false (Nat.not_lt.2 c13)
   replace H := Option.bind_eq_some_iff.mp H
   obtain ⟨t105, A140, H⟩ := H
   replace H : ((q9.f (wrap64 (t105))).bind fun t106 => (if (a0 ++ t104).size + t106.size ≤ 9223372036854775807 then (some ((a0 ++ t104) ++ t106)) else (none))) = some r := H
   have A14 := Aside0.mk A140
   clear A140
   replace H := Option.bind_eq_some_iff.mp H
   obtain ⟨t106, A150, H⟩ := H
   replace H : (if (a0 ++ t104).size + t106.size ≤ 9223372036854775807 then (some ((a0 ++ t104) ++ t106)) else (none)) = some r := H
   have A15 := Aside0.mk A150
   clear A150
   by_cases c16 : (a0 ++ t104).size + t106.size ≤ 9223372036854775807
   ·rw [if_pos c16] at H
    have c16b0 := eq_true c16
    have c16b1 : decide ((a0 ++ t104).size + t106.size ≤ 9223372036854775807) = true := decide_eq_true c16
    try have c16b2 : (9223372036854775807 < (a0 ++ t104).size + t106.size) = False := eq_false (Nat.not_lt.2 c16)
    try (have c16b4 := c16b2; simp only [ByteArray.size_append, ByteArray.size_extract, Nat.sub_zero] at c16b4)
    obtain rfl := Option.some.inj H
    go_enter Try.func18, Try.ntmps18
    go_wp2_with (first | ((with_reducible refine gate_callee (f := 45) rfl ?_); refine goesL_ (some 12) rfl rfl Try.func45 v6_ rfl #[.int .i64 (wrap64 (60 - (a0.size : Int)))] rfl (by (try simp only [List.map_toArray, List.map_cons, List.map_nil]); first | done | (refine congrArg List.toArray (congr (congrArg List.cons (congrArg (Value.int .i64) ?_)) rfl); (try have q0_ := of_decide_eq_true c2b1); (try have q0_ := of_decide_eq_false c2b0); (try have q1_ := of_decide_eq_true c13b1); (try have q1_ := of_decide_eq_false c13b0); (try have q2_ := of_decide_eq_true c16b1); (try have q2_ := of_decide_eq_false c16b0); (simp only [ByteArray.size_append, ByteArray.size_extract, wrap64]; omega)) | rfl | (simp only [List.length_drop, List.length_take]; rfl)) ?_; (with_reducible refine (q11.calls (wrap64 (60 - (a0.size : Int))) t104 _ A12.out).mono ?_); rintro e w17 ⟨rfl, hb⟩; refine ⟨_, rfl, ?_⟩; have n0_ := Aside0.mk (below_step v1_ hb); clear HB; have HB := n0_; clear n0_; (try clear hb); (try clear hb2); (try clear hk); (try clear hi)) | ((with_reducible refine gate_callee (f := 17) rfl ?_); refine goesL_ (some 16) rfl rfl Try.func17 v6_ rfl #[.string (a0 ++ t104)] rfl v0_ ?_; (with_reducible refine (q3.calls k (a0 ++ t104) t105 _ A14.out).mono ?_); rintro e w' ⟨rfl, ⟨nd, rfl⟩⟩; refine ⟨_, rfl, ?_⟩) | ((with_reducible refine gate_callee (f := 46) rfl ?_); refine goesL_ (some 18) rfl rfl Try.func46 v6_ rfl #[.int .i64 (wrap64 (t105))] rfl v0_ ?_; (with_reducible refine (q9.calls (wrap64 (t105)) t106 _ A15.out).mono ?_); rintro e w18 ⟨rfl, hb⟩; refine ⟨_, rfl, ?_⟩; have n0_ := Aside0.mk (below_step v1_ hb); clear HB; have HB := n0_; clear n0_; (try clear hb); (try clear hb2); (try clear hk); (try clear hi)))
    go_ret
    exact ⟨by first | rfl | (simp [errW_none, errW_some] <;> rfl) | (simp [*, errW_none, errW_some] <;> rfl), by repeat (first | (with_reducible first | exact HB.out | apply below_alloc | apply pw_below_drewN | apply below_drew1) | exact HB.out)⟩
   ·rw [if_neg c16] at H
    exact absurd H (by simp)
  ·rw [if_neg c13] at H
   exact absurd H (by simp)
end Go.Proofs.Ytcfhffhmpalkbaa.P
end
section
namespace Go.Proofs.Ytcfhffhmpalkbaa.P
open Go.RowKit Go.Proofs.YtcfhffhmpalkbaaM Go.Proofs.YtcfhffhmpalkbaaW.PrintWords Go.Proofs.YtcfhffhmpalkbaaW.PrintLast Go.Proofs.YtcfhffhmpalkbaaW.PrintMore
attribute [local go_sem] Go.Instr.field Go.asAgg max2_int min2_int max_two min_two max_three min_three max_four min_four
set_option linter.unusedVariables false
set_option linter.unusedSimpArgs false
set_option maxHeartbeats 8000000 in
set_option maxRecDepth 100000 in
theorem q2.calls (k : Nat) (A0_0 : Option Addr) (c0_0 : Nat) (l0_0 : List ByteArray) (r : Bool) (w : World) (hr0_0 : Kd.C Kd.string w A0_0 l0_0.length l0_0) (hc0_0 : l0_0.length ≤ c0_0) (h : q2.f k l0_0 = some r) :
 Calls Try.prog 5 #[.agg #[.slice A0_0 l0_0.length c0_0]] w fun e w' => e = .returned (.bool r) ∧ Below w.heap.size w w' := by
 have hu24 := Try.underlying24
 have HR0_0 := Aside0.mk hr0_0
 have HC0_0 := Aside0.mk hc0_0
 clear hr0_0 hc0_0
 have HB := Aside0.mk (Below.refl w.heap.size w)
 have H : (q2.l0 k (⟨#[]⟩ : ByteArray) 0 l0_0) = some r := h
 clear h
 have H' := Aside0.mk H
 clear H
 go_enter Try.func5, Try.ntmps5
 go_wp2_with (first | ((with_reducible refine gate_dst (N := 1) rfl ?_); (try (refine gate_guard (by rfl) ?_; dsimp only)); refine box_event ?hg (N := 1) ?hd (cs := #[.slice A0_0 l0_0.length c0_0]) (t := 24) ?hr ?_; (case hd => rfl); (case hg => rfl); (case hr => first | (go_simp; done) | (go_simp; rfl)); intro gb101 hg w2 hbox hb; have n0_ := Aside0.mk (below_step v1_ hb); have n1_ := Aside0.mk (hbox); have n2_ := Aside0.mk ((by rw [hg]; exact (below_size v1_) : w.heap.size ≤ gb101)); have n3_ := Aside0.mk ((by rw [hg]; exact (below_size v1_) : w.heap.size ≤ gb101)); clear HB; have HB := n0_; have BK101 := n1_; have GW101 := n2_; have GE101 := n3_; clear n0_ n1_ n2_ n3_; clear hb hbox hg))
 go_loopg [3, 4] k (fun kq v3 v4 w' => ∃ (x3_1 : ByteArray) (x4_1 : Int), v3 = .string x3_1 ∧ v4 = .int .i64 x4_1 ∧ Aside0 (q2.l0 kq x3_1 x4_1 l0_0 = some r) ∧ Aside0 (kq ≤ k) ∧ Aside0 (w'.heap[gb101]? = some (.cells #[(.slice A0_0 l0_0.length c0_0)] 24 (0, 0))) ∧ Aside0 (Below w.heap.size w w'))
 case atStart => exact ⟨((⟨#[]⟩ : ByteArray)), (0), v4_, v4_, H', ⟨Nat.le_refl _⟩, ⟨v8_⟩, ⟨v5_⟩⟩
 case round =>
  clear H'
  try clear p2
  obtain ⟨x3_1, x4_1, rfl, rfl, HA, HK1, BK101, HB⟩ := hrel
  cases gk with
  | zero => exact absurd HA.out (by simp [q2.l0])
  | succ k1 =>
   have H := HA.out
   clear HA
   simp only [q2.l0] at H
   by_cases c3 : x4_1 < 200
   ·rw [if_pos c3] at H
    have c3b0 : decide (x4_1 < 200) = true := decide_eq_true c3
    clear c3
    have HC4 := Aside0.mk H
    clear H
    go_upto_region 5 with (fail)
    go_cut [24] (fun v24 wc => ∃ (kq : Nat) (x24_3 : Bool), v24 = .bool x24_3 ∧ Aside0 (q2.j1 kq x3_1 x4_1 x24_3 l0_0 = some r) ∧ Aside0 (kq ≤ k1) ∧ Aside0 (wc.heap[gb101]? = some (.cells #[(.slice A0_0 l0_0.length c0_0)] 24 (0, 0))) ∧ Aside0 (Below w.heap.size w wc))
    case first =>
     have H := HC4.out
     clear HC4
     replace H := Option.bind_eq_some_iff.mp H
     obtain ⟨t102, A50, H⟩ := H
     replace H : ((q3.f k1 x3_1).bind fun t103 => (if t102 = t103 then ((q6.f k1 x3_1).bind fun t104 => ((q13.f k1 x3_1).bind fun t105 => (q2.j1 k1 x3_1 x4_1 (t104.toList != t105.toList) l0_0))) else (q2.j1 k1 x3_1 x4_1 true l0_0))) = some r := H
     have A5 := Aside0.mk A50
     clear A50
     replace H := Option.bind_eq_some_iff.mp H
     obtain ⟨t103, A60, H⟩ := H
     replace H : (if t102 = t103 then ((q6.f k1 x3_1).bind fun t104 => ((q13.f k1 x3_1).bind fun t105 => (q2.j1 k1 x3_1 x4_1 (t104.toList != t105.toList) l0_0))) else (q2.j1 k1 x3_1 x4_1 true l0_0)) = some r := H
     have A6 := Aside0.mk A60
     clear A60
     by_cases c7 : t102 = t103
     ·rw [if_pos c7] at H
      have c7b0 : (t102 == t103) = true := beq_iff_eq.mpr c7
      have c7b1 : (t102 != t103) = false := bne_eq_false_iff_eq.mpr c7
      clear c7
      (first | rw [c7b0] | (simp only [i64_w, i32_w]; rw [c7b0]) | skip)
      replace H := Option.bind_eq_some_iff.mp H
      obtain ⟨t104, A80, H⟩ := H
      replace H : ((q13.f k1 x3_1).bind fun t105 => (q2.j1 k1 x3_1 x4_1 (t104.toList != t105.toList) l0_0)) = some r := H
      have A8 := Aside0.mk A80
      clear A80
      replace H := Option.bind_eq_some_iff.mp H
      obtain ⟨t105, A90, H⟩ := H
      replace H : (q2.j1 k1 x3_1 x4_1 (t104.toList != t105.toList) l0_0) = some r := H
      have A9 := Aside0.mk A90
      clear A90
      have H' := Aside0.mk H
      clear H
      go_wp2_with (first | ((with_reducible refine gate_callee (f := 16) rfl ?_); refine goesL_ (some 14) rfl rfl Try.func16 v6_ rfl #[.string x3_1] rfl v0_ ?_; (with_reducible refine (q1.calls k1 x3_1 t102 _ A5.out).mono ?_); rintro e w' ⟨rfl, ⟨nd, rfl⟩⟩; refine ⟨_, rfl, ?_⟩) | ((with_reducible refine gate_callee (f := 17) rfl ?_); refine goesL_ (some 16) rfl rfl Try.func17 v6_ rfl #[.string x3_1] rfl v0_ ?_; (with_reducible refine (q3.calls k1 x3_1 t103 _ A6.out).mono ?_); rintro e w' ⟨rfl, ⟨nd, rfl⟩⟩; refine ⟨_, rfl, ?_⟩) | (go_at_call 15; (with_reducible refine (q6.calls k1 x3_1 t104 _ A8.out).mono ?_); rintro e w10 ⟨rfl, hb⟩; have n0_ := Aside0.mk (blk_below (g := gb101) (o := .cells #[.slice A0_0 l0_0.length c0_0] 24 (0, 0)) v3_ hb); have n1_ := Aside0.mk (below_step v2_ hb); clear BK101; clear HB; have BK101 := n0_; have HB := n1_; clear n0_ n1_; (try clear hb); (try clear hb2); (try clear hk); (try clear hi)) | (go_at_call 18; (with_reducible refine (q13.calls k1 x3_1 t105 _ A9.out).mono ?_); rintro e w11 ⟨rfl, hb⟩; have n0_ := Aside0.mk (blk_below (g := gb101) (o := .cells #[.slice A0_0 l0_0.length c0_0] 24 (0, 0)) v3_ hb); have n1_ := Aside0.mk (below_step v2_ hb); clear BK101; clear HB; have BK101 := n0_; have HB := n1_; clear n0_ n1_; (try clear hb); (try clear hb2); (try clear hk); (try clear hi)))
      go_meet
      case rel => exact ⟨_, ((t104.toList != t105.toList)), v4_, H', ⟨by have := HK1.out; first | omega | exact Nat.le_refl _⟩, ⟨v8_⟩, ⟨v5_⟩⟩
     ·rw [if_neg c7] at H
      have c7b0 : (t102 == t103) = false := beq_eq_false_iff_ne.mpr c7
      have c7b1 : (t102 != t103) = true := bne_iff_ne.mpr c7
      (first | rw [c7b0] | (simp only [i64_w, i32_w]; rw [c7b0]) | skip)
      have H' := Aside0.mk H
      clear H
      go_wp2_with (first | ((with_reducible refine gate_callee (f := 16) rfl ?_); refine goesL_ (some 14) rfl rfl Try.func16 v6_ rfl #[.string x3_1] rfl v0_ ?_; (with_reducible refine (q1.calls k1 x3_1 t102 _ A5.out).mono ?_); rintro e w' ⟨rfl, ⟨nd, rfl⟩⟩; refine ⟨_, rfl, ?_⟩) | ((with_reducible refine gate_callee (f := 17) rfl ?_); refine goesL_ (some 16) rfl rfl Try.func17 v6_ rfl #[.string x3_1] rfl v0_ ?_; (with_reducible refine (q3.calls k1 x3_1 t103 _ A6.out).mono ?_); rintro e w' ⟨rfl, ⟨nd, rfl⟩⟩; refine ⟨_, rfl, ?_⟩))
      go_meet
      case rel => exact ⟨_, (true), v4_, H', ⟨by have := HK1.out; first | omega | exact Nat.le_refl _⟩, ⟨v8_⟩, ⟨v5_⟩⟩
    case rest =>
     clear HC4
     try clear c1
     try clear p2
     try clear c3
     try clear c3b0
     try clear c5
     try clear c7
     try clear c7b0
     try clear c7b1
     try clear p2
     obtain ⟨kq, x24_3, rfl, HA, HJ3, BK101, HB⟩ := hcut
     cases kq with
     | zero => exact absurd HA.out (by simp [q2.j1])
     | succ kj3 =>
      have H := HA.out
      clear HA
      simp only [q2.j1] at H
      by_cases c12 : x24_3 = true
      ·subst c12
       have H1 : (some false) = some r := by rw [if_pos rfl] at H; exact H
       clear H
       have H := H1
       clear H1
       obtain rfl := Option.some.inj H
       go_wp2
       go_ret
       exact ⟨by first | rfl | (simp [errW_none, errW_some] <;> rfl) | (simp [*, errW_none, errW_some] <;> rfl), by repeat (first | (with_reducible first | exact HB.out | apply below_alloc | apply pw_below_drewN | apply below_drew1 | refine below_set ?_ GE101.out) | exact HB.out)⟩
      ·replace c12 := Bool.eq_false_iff.mpr c12
       subst c12
       have H1 : ((q6.f kj3 x3_1).bind fun t106 => ((q7.f kj3 t106).bind fun bt107 => (if bt107.2 = true then (if (bt107.1.size : Int) = 60 then ((some (([(wrap64 ((wrap64 (x4_1 * 7)) + (l0_0.length : Int))) % 256] : List Int) : List Int)).bind fun y109 => (if x3_1.size + (strOfNums y109).size ≤ 9223372036854775807 then (q2.l0 kj3 (x3_1 ++ (strOfNums y109)) (wrap64 (x4_1 + 1)) l0_0) else (none))) else (some false)) else (some false)))) = some r := by rw [if_neg (show ¬ (false = true) by decide)] at H; exact H
       clear H
       have H := H1
       clear H1
       replace H := Option.bind_eq_some_iff.mp H
       obtain ⟨t106, A130, H⟩ := H
       replace H : ((q7.f kj3 t106).bind fun bt107 => (if bt107.2 = true then (if (bt107.1.size : Int) = 60 then ((some (([(wrap64 ((wrap64 (x4_1 * 7)) + (l0_0.length : Int))) % 256] : List Int) : List Int)).bind fun y109 => (if x3_1.size + (strOfNums y109).size ≤ 9223372036854775807 then (q2.l0 kj3 (x3_1 ++ (strOfNums y109)) (wrap64 (x4_1 + 1)) l0_0) else (none))) else (some false)) else (some false))) = some r := H
       have A13 := Aside0.mk A130
       clear A130
       replace H := Option.bind_eq_some_iff.mp H
       obtain ⟨⟨t107, t108⟩, A140, H⟩ := H
       replace H : (if t108 = true then (if (t107.size : Int) = 60 then ((some (([(wrap64 ((wrap64 (x4_1 * 7)) + (l0_0.length : Int))) % 256] : List Int) : List Int)).bind fun y109 => (if x3_1.size + (strOfNums y109).size ≤ 9223372036854775807 then (q2.l0 kj3 (x3_1 ++ (strOfNums y109)) (wrap64 (x4_1 + 1)) l0_0) else (none))) else (some false)) else (some false)) = some r := H
       have A14 := Aside0.mk A140
       clear A140
       by_cases c15 : t108 = true
       ·subst c15
        have H1 : (if (t107.size : Int) = 60 then ((some (([(wrap64 ((wrap64 (x4_1 * 7)) + (l0_0.length : Int))) % 256] : List Int) : List Int)).bind fun y109 => (if x3_1.size + (strOfNums y109).size ≤ 9223372036854775807 then (q2.l0 kj3 (x3_1 ++ (strOfNums y109)) (wrap64 (x4_1 + 1)) l0_0) else (none))) else (some false)) = some r := by rw [if_pos rfl] at H; exact H
        clear H
        have H := H1
        clear H1
        by_cases c16 : (t107.size : Int) = 60
        ·rw [if_pos c16] at H
         have c16b0 : ((t107.size : Int) == 60) = true := beq_iff_eq.mpr c16
         have c16b1 : ((t107.size : Int) != 60) = false := bne_eq_false_iff_eq.mpr c16
         clear c16
         obtain ⟨y109, hy109⟩ : ∃ y_ : List Int, y_ = (([(wrap64 ((wrap64 (x4_1 * 7)) + (l0_0.length : Int))) % 256] : List Int)) := ⟨_, rfl⟩
         replace H : (if x3_1.size + (strOfNums y109).size ≤ 9223372036854775807 then (q2.l0 kj3 (x3_1 ++ (strOfNums y109)) (wrap64 (x4_1 + 1)) l0_0) else (none)) = some r := by first | (rw [hy109]; with_reducible exact H) | (have H2_ := (Option.bind_some _ _).symm.trans H; rw [hy109]; with_reducible exact H2_) | (have H2_ := (Option.bind_some _ _).symm.trans H; with_reducible exact H2_) | with_reducible exact H | (rw [hy109]; exact H) | exact H
         have Ny109 := Aside0.mk hy109
         clear hy109
         by_cases c17 : x3_1.size + (strOfNums y109).size ≤ 9223372036854775807
         ·rw [if_pos c17] at H
          have c17b0 := eq_true c17
          have c17b1 : decide (x3_1.size + (strOfNums y109).size ≤ 9223372036854775807) = true := decide_eq_true c17
          try have c17b2 : (9223372036854775807 < x3_1.size + (strOfNums y109).size) = False := eq_false (Nat.not_lt.2 c17)
          have H' := Aside0.mk H
          clear H
          go_wp2_with (first | ((with_reducible refine gate_callee (f := 15) rfl ?_); refine goesL_ (some 27) rfl rfl Try.func15 v6_ rfl #[.string x3_1] rfl v0_ ?_; (with_reducible refine (q6.calls kj3 x3_1 t106 _ A13.out).mono ?_); rintro e w18 ⟨rfl, hb⟩; refine ⟨_, rfl, ?_⟩; have n0_ := Aside0.mk (blk_below (g := gb101) (o := .cells #[.slice A0_0 l0_0.length c0_0] 24 (0, 0)) v3_ hb); have n1_ := Aside0.mk (below_step v2_ hb); clear BK101; clear HB; have BK101 := n0_; have HB := n1_; clear n0_ n1_; (try clear hb); (try clear hb2); (try clear hk); (try clear hi)) | ((with_reducible refine gate_callee (f := 19) rfl ?_); refine goesL_ (some 28) rfl rfl Try.func19 v6_ rfl #[.string t106] rfl v0_ ?_; (with_reducible refine (q7.calls kj3 t106 t107 true _ A14.out).mono ?_); rintro e w19 ⟨rfl, hb⟩; refine ⟨_, rfl, ?_⟩; have n0_ := Aside0.mk (blk_below (g := gb101) (o := .cells #[.slice A0_0 l0_0.length c0_0] 24 (0, 0)) v3_ hb); have n1_ := Aside0.mk (below_step v2_ hb); clear BK101; clear HB; have BK101 := n0_; have HB := n1_; clear n0_ n1_; (try clear hb); (try clear hb2); (try clear hk); (try clear hi); have hcz20_0 : w19.cell? ⟨gb101, 0, none⟩ = some (.slice A0_0 l0_0.length c0_0) := (blk_cell BK101.out 0).trans rfl; have hfz20_0 := blk_frozen BK101.out 0) | ((with_reducible refine gate_dst (N := 46) rfl ?_); (try (refine gate_guard (by rfl) ?_; dsimp only)); refine Kd.R_lit (Kd.int .u8) _ 5 ?hg (N := 46) ?hd (xs := ([(wrap64 ((wrap64 (x4_1 * 7)) + (l0_0.length : Int))) % 256] : List Int)) (inner := [.int .u8 ((wrap64 ((wrap64 (x4_1 * 7)) + (l0_0.length : Int))) % 256)]) (ok := fun _ => True) (okp := fun _ => True) ?hr ?hp (fun _ hk => hk) trivial (Below.refl _ _) (Nat.le_refl _) (by simp) ?_; (case hd => rfl); (case hg => rfl); (case hr => first | (go_simp; done) | (go_simp; rfl)); (case hp => exact (Reps.one (show Kd.M (Kd.int .u8) _ _ _ ((wrap64 ((wrap64 (x4_1 * 7)) + (l0_0.length : Int))) % 256) [.int .u8 ((wrap64 ((wrap64 (x4_1 * 7)) + (l0_0.length : Int))) % 256)] from rfl) (Reps.none _ _))); intro v110 w21 ho22 hb hg_ hnew_; clear hg_ hnew_; (first | rw [← Ny109.out] at ho22 | (simp only [Int.reduceToNat] at ho22; rw [← Ny109.out] at ho22)); have n0_ := Aside0.mk (Kd.R_lower ho22 (below_size v2_)); have n1_ := Aside0.mk (blk_below (g := gb101) (o := .cells #[.slice A0_0 l0_0.length c0_0] 24 (0, 0)) v3_ hb); have n2_ := Aside0.mk (below_step v2_ hb); clear BK101; clear HB; have HO111 := n0_; have BK101 := n1_; have HB := n2_; clear n0_ n1_ n2_; clear hb ho22; have hcv23 := own_string (P := Try.prog) Try.underlying29 Try.underlying5 Try.underlying9 (Kd.own_of_R HO111.out)))
          go_roundg kj3
          case measure => have := HK1.out; have := HJ3.out; omega
          case rel => exact ⟨(x3_1 ++ (strOfNums y109)), (wrap64 (x4_1 + 1)), v4_, v4_, H', ⟨by have := HK1.out; have := HJ3.out; omega⟩, ⟨v8_⟩, ⟨v5_⟩⟩
         ·rw [if_neg c17] at H
          exact absurd H (by simp)
        ·rw [if_neg c16] at H
         have c16b0 : ((t107.size : Int) == 60) = false := beq_eq_false_iff_ne.mpr c16
         have c16b1 : ((t107.size : Int) != 60) = true := bne_iff_ne.mpr c16
         obtain rfl := Option.some.inj H
         go_wp2_with (first | ((with_reducible refine gate_callee (f := 15) rfl ?_); refine goesL_ (some 27) rfl rfl Try.func15 v6_ rfl #[.string x3_1] rfl v0_ ?_; (with_reducible refine (q6.calls kj3 x3_1 t106 _ A13.out).mono ?_); rintro e w24 ⟨rfl, hb⟩; refine ⟨_, rfl, ?_⟩; have n0_ := Aside0.mk (blk_below (g := gb101) (o := .cells #[.slice A0_0 l0_0.length c0_0] 24 (0, 0)) v3_ hb); have n1_ := Aside0.mk (below_step v2_ hb); clear BK101; clear HB; have BK101 := n0_; have HB := n1_; clear n0_ n1_; (try clear hb); (try clear hb2); (try clear hk); (try clear hi)) | ((with_reducible refine gate_callee (f := 19) rfl ?_); refine goesL_ (some 28) rfl rfl Try.func19 v6_ rfl #[.string t106] rfl v0_ ?_; (with_reducible refine (q7.calls kj3 t106 t107 true _ A14.out).mono ?_); rintro e w25 ⟨rfl, hb⟩; refine ⟨_, rfl, ?_⟩; have n0_ := Aside0.mk (blk_below (g := gb101) (o := .cells #[.slice A0_0 l0_0.length c0_0] 24 (0, 0)) v3_ hb); have n1_ := Aside0.mk (below_step v2_ hb); clear BK101; clear HB; have BK101 := n0_; have HB := n1_; clear n0_ n1_; (try clear hb); (try clear hb2); (try clear hk); (try clear hi)))
         go_ret
         exact ⟨by first | rfl | (simp [errW_none, errW_some] <;> rfl) | (simp [*, errW_none, errW_some] <;> rfl), by repeat (first | (with_reducible first | exact HB.out | apply below_alloc | apply pw_below_drewN | apply below_drew1 | refine below_set ?_ GE101.out) | exact HB.out)⟩
       ·replace c15 := Bool.eq_false_iff.mpr c15
        subst c15
        have H1 : (some false) = some r := by rw [if_neg (show ¬ (false = true) by decide)] at H; exact H
        clear H
        have H := H1
        clear H1
        obtain rfl := Option.some.inj H
        go_wp2_with (first | ((with_reducible refine gate_callee (f := 15) rfl ?_); refine goesL_ (some 27) rfl rfl Try.func15 v6_ rfl #[.string x3_1] rfl v0_ ?_; (with_reducible refine (q6.calls kj3 x3_1 t106 _ A13.out).mono ?_); rintro e w26 ⟨rfl, hb⟩; refine ⟨_, rfl, ?_⟩; have n0_ := Aside0.mk (blk_below (g := gb101) (o := .cells #[.slice A0_0 l0_0.length c0_0] 24 (0, 0)) v3_ hb); have n1_ := Aside0.mk (below_step v2_ hb); clear BK101; clear HB; have BK101 := n0_; have HB := n1_; clear n0_ n1_; (try clear hb); (try clear hb2); (try clear hk); (try clear hi)) | ((with_reducible refine gate_callee (f := 19) rfl ?_); refine goesL_ (some 28) rfl rfl Try.func19 v6_ rfl #[.string t106] rfl v0_ ?_; (with_reducible refine (q7.calls kj3 t106 t107 false _ A14.out).mono ?_); rintro e w27 ⟨rfl, hb⟩; refine ⟨_, rfl, ?_⟩; have n0_ := Aside0.mk (blk_below (g := gb101) (o := .cells #[.slice A0_0 l0_0.length c0_0] 24 (0, 0)) v3_ hb); have n1_ := Aside0.mk (below_step v2_ hb); clear BK101; clear HB; have BK101 := n0_; have HB := n1_; clear n0_ n1_; (try clear hb); (try clear hb2); (try clear hk); (try clear hi)))
        go_ret
        exact ⟨by first | rfl | (simp [errW_none, errW_some] <;> rfl) | (simp [*, errW_none, errW_some] <;> rfl), by repeat (first | (with_reducible first | exact HB.out | apply below_alloc | apply pw_below_drewN | apply below_drew1 | refine below_set ?_ GE101.out) | exact HB.out)⟩
   ·rw [if_neg c3] at H
    have c3b0 : decide (x4_1 < 200) = false := decide_eq_false c3
    clear c3
    have H' := Aside0.mk H
    clear H
    go_wp2
    go_loopg [7, 8] k1 (fun kq v7 v8 w' => ∃ (x7_2 : ByteArray) (x8_2 : Int), v7 = .string x7_2 ∧ v8 = .int .i64 x8_2 ∧ Aside0 (q2.l1 kq x7_2 x8_2 = some r) ∧ Aside0 (kq ≤ k1) ∧ Aside0 (w'.heap[gb101]? = some (.cells #[(.slice A0_0 l0_0.length c0_0)] 24 (0, 0))) ∧ Aside0 (Below w.heap.size w w'))
    case atStart => exact ⟨(x3_1), (0), v4_, v4_, H', ⟨Nat.le_refl _⟩, ⟨v8_⟩, ⟨v5_⟩⟩
    case round =>
     clear H'
     try clear c1
     try clear p2
     try clear hcv2
     try clear c3
     try clear c3b0
     try clear c5
     try clear p6
     try clear c7
     try clear c7b0
     try clear c7b1
     try clear c12
     try clear c15
     try clear c16
     try clear c16b0
     try clear c16b1
     try clear c17
     try clear c17b0
     try clear c17b1
     try clear c17b2
     try clear c19
     try clear hcv23
     try clear hcz20_0
     try clear hfz20_0
     try clear p2
     obtain ⟨x7_2, x8_2, rfl, rfl, HA, HK2, BK101, HB⟩ := hrel
     cases gk with
     | zero => exact absurd HA.out (by simp [q2.l1])
     | succ k2 =>
      have H := HA.out
      clear HA
      simp only [q2.l1] at H
      by_cases c28 : x8_2 < 8
      ·rw [if_pos c28] at H
       have c28b0 : decide (x8_2 < 8) = true := decide_eq_true c28
       clear c28
       by_cases c29 : x7_2.size + x7_2.size ≤ 9223372036854775807
       ·rw [if_pos c29] at H
        have c29b0 := eq_true c29
        have c29b1 : decide (x7_2.size + x7_2.size ≤ 9223372036854775807) = true := decide_eq_true c29
        try have c29b2 : (9223372036854775807 < x7_2.size + x7_2.size) = False := eq_false (Nat.not_lt.2 c29)
        have H' := Aside0.mk H
        clear H
        go_wp2
        go_roundg k2
        case measure => have := HK1.out; have := HK2.out; omega
        case rel => exact ⟨(x7_2 ++ x7_2), (wrap64 (x8_2 + 1)), v4_, v4_, H', ⟨by have := HK1.out; have := HK2.out; omega⟩, ⟨v8_⟩, ⟨v5_⟩⟩
       ·rw [if_neg c29] at H
        exact absurd H (by simp)
      ·rw [if_neg c28] at H
       have c28b0 : decide (x8_2 < 8) = false := decide_eq_false c28
       clear c28
       replace H := Option.bind_eq_some_iff.mp H
       obtain ⟨t112, A300, H⟩ := H
       replace H : ((q3.f k2 x7_2).bind fun t113 => (if t112 = t113 then ((q10.f k2).bind fun t114 => (some t114)) else (some false))) = some r := H
       have A30 := Aside0.mk A300
       clear A300
       replace H := Option.bind_eq_some_iff.mp H
       obtain ⟨t113, A310, H⟩ := H
       replace H : (if t112 = t113 then ((q10.f k2).bind fun t114 => (some t114)) else (some false)) = some r := H
       have A31 := Aside0.mk A310
       clear A310
       by_cases c32 : t112 = t113
       ·rw [if_pos c32] at H
        have c32b0 : (t112 == t113) = true := beq_iff_eq.mpr c32
        have c32b1 : (t112 != t113) = false := bne_eq_false_iff_eq.mpr c32
        clear c32
        replace H := Option.bind_eq_some_iff.mp H
        obtain ⟨t114, A330, H⟩ := H
        replace H : (some t114) = some r := H
        have A33 := Aside0.mk A330
        clear A330
        obtain rfl := Option.some.inj H
        go_wp2_with (first | ((with_reducible refine gate_callee (f := 16) rfl ?_); refine goesL_ (some 58) rfl rfl Try.func16 v6_ rfl #[.string x7_2] rfl v0_ ?_; (with_reducible refine (q1.calls k2 x7_2 t112 _ A30.out).mono ?_); rintro e w' ⟨rfl, ⟨nd, rfl⟩⟩; refine ⟨_, rfl, ?_⟩) | ((with_reducible refine gate_callee (f := 17) rfl ?_); refine goesL_ (some 60) rfl rfl Try.func17 v6_ rfl #[.string x7_2] rfl v0_ ?_; (with_reducible refine (q3.calls k2 x7_2 t113 _ A31.out).mono ?_); rintro e w' ⟨rfl, ⟨nd, rfl⟩⟩; refine ⟨_, rfl, ?_⟩) | (go_at_call 21; (with_reducible refine (q10.calls k2  t114 _ A33.out).mono ?_); rintro e w34 ⟨rfl, hb⟩; have n0_ := Aside0.mk (blk_below (g := gb101) (o := .cells #[.slice A0_0 l0_0.length c0_0] 24 (0, 0)) v3_ hb); have n1_ := Aside0.mk (below_step v2_ hb); clear BK101; clear HB; have BK101 := n0_; have HB := n1_; clear n0_ n1_; (try clear hb); (try clear hb2); (try clear hk); (try clear hi)))
        go_ret
        exact ⟨by first | rfl | (simp [errW_none, errW_some] <;> rfl) | (simp [*, errW_none, errW_some] <;> rfl), by repeat (first | (with_reducible first | exact HB.out | apply below_alloc | apply pw_below_drewN | apply below_drew1 | refine below_set ?_ GE101.out) | exact HB.out)⟩
       ·rw [if_neg c32] at H
        have c32b0 : (t112 == t113) = false := beq_eq_false_iff_ne.mpr c32
        have c32b1 : (t112 != t113) = true := bne_iff_ne.mpr c32
        obtain rfl := Option.some.inj H
        go_wp2_with (first | ((with_reducible refine gate_callee (f := 16) rfl ?_); refine goesL_ (some 58) rfl rfl Try.func16 v6_ rfl #[.string x7_2] rfl v0_ ?_; (with_reducible refine (q1.calls k2 x7_2 t112 _ A30.out).mono ?_); rintro e w' ⟨rfl, ⟨nd, rfl⟩⟩; refine ⟨_, rfl, ?_⟩) | ((with_reducible refine gate_callee (f := 17) rfl ?_); refine goesL_ (some 60) rfl rfl Try.func17 v6_ rfl #[.string x7_2] rfl v0_ ?_; (with_reducible refine (q3.calls k2 x7_2 t113 _ A31.out).mono ?_); rintro e w' ⟨rfl, ⟨nd, rfl⟩⟩; refine ⟨_, rfl, ?_⟩))
        go_ret
        exact ⟨by first | rfl | (simp [errW_none, errW_some] <;> rfl) | (simp [*, errW_none, errW_some] <;> rfl), by repeat (first | (with_reducible first | exact HB.out | apply below_alloc | apply pw_below_drewN | apply below_drew1 | refine below_set ?_ GE101.out) | exact HB.out)⟩
end Go.Proofs.Ytcfhffhmpalkbaa.P
end
section
namespace Go.Proofs.Ytcfhffhmpalkbaa.P
open Go.RowKit Go.Proofs.YtcfhffhmpalkbaaM Go.Proofs.YtcfhffhmpalkbaaW.PrintWords Go.Proofs.YtcfhffhmpalkbaaW.PrintLast Go.Proofs.YtcfhffhmpalkbaaW.PrintMore
attribute [local go_sem] Go.Instr.field Go.asAgg max2_int min2_int max_two min_two max_three min_three max_four min_four
set_option linter.unusedVariables false
set_option linter.unusedSimpArgs false
def Sz24 (x : S24) : Prop := (x.f0.length * 16 ≤ 140737488351232 ∧ ∀ y0 ∈ x.f0, y0.size ≤ 140737488351232)
def q2.Pure : Prop := ∀ x : S24, Sz24 x → ∃ k, q2.f k x.f0 = some true
end Go.Proofs.Ytcfhffhmpalkbaa.P
end
