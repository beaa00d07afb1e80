import Derived.Test.YtcfhffhmpalkbaaKc1
section
namespace Go.Proofs.Ytcfhffhmpalkbaa.P
open Go.RowKit Go.Proofs.YtcfhffhmpalkbaaM Go.Proofs.YtcfhffhmpalkbaaW.PrintWords Go.Proofs.YtcfhffhmpalkbaaW.PrintLast Go.Proofs.YtcfhffhmpalkbaaW.PrintMore
attribute [local go_sem] Go.Instr.field Go.asAgg max2_int min2_int max_two min_two max_three min_three max_four min_four
set_option linter.unusedVariables false
set_option linter.unusedSimpArgs false
set_option maxHeartbeats 8000000 in
set_option maxRecDepth 100000 in
theorem q4.calls (a0 : Int) (r : Int) (w : World) (h : q4.f a0 = some r) :
 Calls Try.prog 30 #[.int .i64 a0] w fun e w' => e = .returned (.int .i64 r) ∧ Drawn0 w w' := by
 have H : (some a0) = some r := h
 clear h
 obtain rfl := Option.some.inj H
 go_enter Try.func30, Try.ntmps30
 go_wp2
 go_ret
 exact ⟨by first | rfl | (simp; done) | (simp [*]; done), by repeat (first | exact Drawn0.refl _ | apply Drawn0.step)⟩
end Go.Proofs.Ytcfhffhmpalkbaa.P
end
section
namespace Go.Proofs.Ytcfhffhmpalkbaa.P
open Go.RowKit Go.Proofs.YtcfhffhmpalkbaaM Go.Proofs.YtcfhffhmpalkbaaW.PrintWords Go.Proofs.YtcfhffhmpalkbaaW.PrintLast Go.Proofs.YtcfhffhmpalkbaaW.PrintMore
attribute [local go_sem] Go.Instr.field Go.asAgg max2_int min2_int max_two min_two max_three min_three max_four min_four
set_option linter.unusedVariables false
set_option linter.unusedSimpArgs false
set_option maxHeartbeats 8000000 in
set_option maxRecDepth 100000 in
theorem q5.calls (k : Nat) (A0 : Option Addr) (c0 : Nat) (l0 : List Int) (A1 : Option Addr) (c1 : Nat) (l1 : List Int) (r : Bool) (w : World) (hr0 : Kd.C (Kd.int .i64) w A0 l0.length l0) (hc0 : l0.length ≤ c0) (hr1 : Kd.C (Kd.int .i64) w A1 l1.length l1) (hc1 : l1.length ≤ c1) (h : q5.f k l0 l1 = some r) :
 Calls Try.prog 31 #[.slice A0 l0.length c0, .slice A1 l1.length c1] w fun e w' => e = .returned (.bool r) ∧ Drawn0 w w' := by
 have HR0 := Aside0.mk hr0
 have HC0 := Aside0.mk hc0
 clear hr0 hc0
 have HR1 := Aside0.mk hr1
 have HC1 := Aside0.mk hc1
 clear hr1 hc1
 have H : (if (l0.length : Int) = (l1.length : Int) then (q5.l0 k l0 l1 0) else (some false)) = some r := h
 clear h
 by_cases c3 : (l0.length : Int) = (l1.length : Int)
 ·rw [if_pos c3] at H
  have c3b0 : ((l0.length : Int) == (l1.length : Int)) = true := beq_iff_eq.mpr c3
  have c3b1 : ((l0.length : Int) != (l1.length : Int)) = false := bne_eq_false_iff_eq.mpr c3
  have c3b2 : (l0.length == l1.length) = true := by first | simpa using c3 | (simp at c3 ⊢; omega)
  clear c3
  have H' := Aside0.mk H
  clear H
  go_enter Try.func31, Try.ntmps31
  go_wp2
  repeat (go_quiet (fail); try go_wp2)
  go_loopg [5] k (fun kq v5 w' => ∃ (x5_1 : Int), v5 = .int .i64 x5_1 ∧ Aside0 (q5.l0 kq l0 l1 x5_1 = some r) ∧ Aside0 (kq ≤ k) ∧ Drawn0 w w')
  case atStart => exact ⟨(0), v12_, H', ⟨Nat.le_refl _⟩, by repeat (first | exact Drawn0.refl _ | apply Drawn0.step)⟩
  case round => as_aux_lemma =>
   clear H'
   try clear c1
   try clear p2
   try clear c3
   try clear c3b0
   try clear c3b1
   try clear c3b2
   obtain ⟨x5_1, rfl, HA, HK1, ⟨m1, rfl⟩⟩ := hrel
   cases gk with
   | zero => exact absurd HA.out (by simp [q5.l0])
   | succ k1 =>
    have H := HA.out
    clear HA
    simp only [q5.l0] at H
    by_cases c4 : x5_1 < (l0.length : Int)
    ·rw [if_pos c4] at H
     have c4b0 : decide (x5_1 < (l0.length : Int)) = true := decide_eq_true c4
     clear c4
     by_cases c5 : 0 ≤ x5_1
     ·rw [if_pos c5] at H
      have c5b0 : decide (0 ≤ x5_1) = true := decide_eq_true c5
      clear c5
      by_cases c6 : x5_1 < (l1.length : Int)
      ·rw [if_pos c6] at H
       have c6b0 : decide (x5_1 < (l1.length : Int)) = true := decide_eq_true c6
       clear c6
       by_cases c7 : (rd l0 x5_1) = (rd l1 x5_1)
       ·rw [if_pos c7] at H
        have c7b0 : ((rd l0 x5_1) == (rd l1 x5_1)) = true := beq_iff_eq.mpr c7
        have c7b1 : ((rd l0 x5_1) != (rd l1 x5_1)) = false := bne_eq_false_iff_eq.mpr c7
        clear c7
        have H' := Aside0.mk H
        clear H
        have p101 : 0 ≤ (x5_1 : Int) := of_decide_eq_true v3_
        have q101 : x5_1 < (l0.length : Int) := of_decide_eq_true v3_
        obtain ⟨ad101, e101, hx101_0⟩ := Kd.at_int HR0.out x5_1 p101 q101
        cases e101
        replace p101 := eq_true p101
        replace q101 := eq_true q101
        have p102 : 0 ≤ (x5_1 : Int) := of_decide_eq_true v3_
        have q102 : x5_1 < (l1.length : Int) := of_decide_eq_true v3_
        obtain ⟨ad102, e102, hx102_0⟩ := Kd.at_int HR1.out x5_1 p102 q102
        cases e102
        replace p102 := eq_true p102
        replace q102 := eq_true q102
        go_wp2
        repeat (go_quiet (fail); try go_wp2)
        go_roundg k1
        case measure => have := HK1.out; omega
        case rel => exact ⟨(wrap64 (x5_1 + 1)), v12_, H', ⟨v91_⟩, by repeat (first | exact Drawn0.refl _ | apply Drawn0.step)⟩
       ·rw [if_neg c7] at H
        have c7b0 : ((rd l0 x5_1) == (rd l1 x5_1)) = false := beq_eq_false_iff_ne.mpr c7
        have c7b1 : ((rd l0 x5_1) != (rd l1 x5_1)) = true := bne_iff_ne.mpr c7
        obtain rfl := Option.some.inj H
        have p101 : 0 ≤ (x5_1 : Int) := of_decide_eq_true v3_
        have q101 : x5_1 < (l0.length : Int) := of_decide_eq_true v3_
        obtain ⟨ad101, e101, hx101_0⟩ := Kd.at_int HR0.out x5_1 p101 q101
        cases e101
        replace p101 := eq_true p101
        replace q101 := eq_true q101
        have p102 : 0 ≤ (x5_1 : Int) := of_decide_eq_true v3_
        have q102 : x5_1 < (l1.length : Int) := of_decide_eq_true v3_
        obtain ⟨ad102, e102, hx102_0⟩ := Kd.at_int HR1.out x5_1 p102 q102
        cases e102
        replace p102 := eq_true p102
        replace q102 := eq_true q102
        go_wp2
        repeat (go_quiet (fail); try go_wp2)
        go_ret
        exact ⟨by first | rfl | (simp; done) | (simp [*]; done), by repeat (first | exact Drawn0.refl _ | apply Drawn0.step)⟩
      ·rw [if_neg c6] at H
       exact absurd H v58_
     ·rw [if_neg c5] at H
      exact absurd H v58_
    ·rw [if_neg c4] at H
     have c4b0 : decide (x5_1 < (l0.length : Int)) = false := decide_eq_false c4
     clear c4
     obtain rfl := Option.some.inj H
     go_wp2
     repeat (go_quiet (fail); try go_wp2)
     go_ret
     exact ⟨by first | rfl | (simp; done) | (simp [*]; done), by repeat (first | exact Drawn0.refl _ | apply Drawn0.step)⟩
 ·rw [if_neg c3] at H
  have c3b0 : ((l0.length : Int) == (l1.length : Int)) = false := beq_eq_false_iff_ne.mpr c3
  have c3b1 : ((l0.length : Int) != (l1.length : Int)) = true := bne_iff_ne.mpr c3
  have c3b2 : (l0.length == l1.length) = false := by first | simpa using c3 | (simp at c3 ⊢; omega)
  obtain rfl := Option.some.inj H
  go_enter Try.func31, Try.ntmps31
  go_wp2
  repeat (go_quiet (fail); try go_wp2)
  go_ret
  exact ⟨by first | rfl | (simp; done) | (simp [*]; done), by repeat (first | exact Drawn0.refl _ | apply Drawn0.step)⟩
end Go.Proofs.Ytcfhffhmpalkbaa.P
end
section
namespace Go.Proofs.Ytcfhffhmpalkbaa.P
open Go.RowKit Go.Proofs.YtcfhffhmpalkbaaM Go.Proofs.YtcfhffhmpalkbaaW.PrintWords Go.Proofs.YtcfhffhmpalkbaaW.PrintLast Go.Proofs.YtcfhffhmpalkbaaW.PrintMore
attribute [local go_sem] Go.Instr.field Go.asAgg max2_int min2_int max_two min_two max_three min_three max_four min_four
set_option linter.unusedVariables false
set_option linter.unusedSimpArgs false
set_option maxHeartbeats 8000000 in
set_option maxRecDepth 100000 in
theorem q41.calls (a0 : Int) (a1 : Int) (r1 : Int) (r2 : Int) (w : World) (h : q41.f a0 a1 = some (r1, r2)) :
 Calls Try.prog 87 #[.int .u64 a0, .int .u64 a1] w fun e w' => e = .returned (.tuple #[.int .u64 r1, .int .u64 r2]) ∧ Drawn0 w w' := by
 have H : (some (IntKind.u64.wrap ((IntKind.u64.wrap ((IntKind.u64.wrap ((a0 / 4294967296) * (a1 / 4294967296))) + ((IntKind.u64.wrap ((IntKind.u64.wrap ((a0 / 4294967296) * (Go.bits .and .u64 a1 4294967295))) + ((IntKind.u64.wrap ((Go.bits .and .u64 a0 4294967295) * (Go.bits .and .u64 a1 4294967295))) / 4294967296))) / 4294967296))) + ((IntKind.u64.wrap ((Go.bits .and .u64 (IntKind.u64.wrap ((IntKind.u64.wrap ((a0 / 4294967296) * (Go.bits .and .u64 a1 4294967295))) + ((IntKind.u64.wrap ((Go.bits .and .u64 a0 4294967295) * (Go.bits .and .u64 a1 4294967295))) / 4294967296))) 4294967295) + (IntKind.u64.wrap ((Go.bits .and .u64 a0 4294967295) * (a1 / 4294967296))))) / 4294967296)), IntKind.u64.wrap (a0 * a1))) = some (r1, r2) := h
 clear h
 simp only [Option.some.injEq, Prod.mk.injEq] at H
 obtain ⟨rfl, rfl⟩ := H
 go_enter Try.func87, Try.ntmps87
 go_wp2
 go_ret2
 exact ⟨by first | rfl | (simp; done) | (simp [*]; done), by repeat (first | exact Drawn0.refl _ | apply Drawn0.step)⟩
set_option maxHeartbeats 8000000 in
set_option maxRecDepth 100000 in
theorem q42.calls (a0 : Int) (a1 : Int) (r1 : Int) (r2 : Int) (w : World) (h : q42.f a0 a1 = some (r1, r2)) :
 Calls Try.prog 70 #[.int .u64 a0, .int .u64 a1] w fun e w' => e = .returned (.tuple #[.int .u64 r1, .int .u64 r2]) ∧ Drawn0 w w' := by
 have H : ((q41.f a0 a1).bind fun bt101 => (some (bt101.1, bt101.2))) = some (r1, r2) := h
 clear h
 replace H := Option.bind_eq_some_iff.mp H
 obtain ⟨⟨t101, t102⟩, A30, H⟩ := H
 replace H : (some (t101, t102)) = some (r1, r2) := H
 have A3 := Aside0.mk A30
 clear A30
 simp only [Option.some.injEq, Prod.mk.injEq] at H
 obtain ⟨rfl, rfl⟩ := H
 go_enter Try.func70, Try.ntmps70
 go_wp2_with (first | ((with_reducible refine gate_callee (f := 87) rfl ?_); refine goesL_ (some 25) rfl rfl Try.func87 v42_ rfl #[.int .u64 a0, .int .u64 a1] rfl v7_ ?_; (with_reducible refine (q41.calls a0 a1 t101 t102 _ A3.out).mono ?_); rintro e w' ⟨rfl, ⟨nd, rfl⟩⟩; refine ⟨_, rfl, ?_⟩))
 go_ret2
 exact ⟨by first | rfl | (simp; done) | (simp [*]; done), by repeat (first | exact Drawn0.refl _ | apply Drawn0.step)⟩
end Go.Proofs.Ytcfhffhmpalkbaa.P
end
section
namespace Go.Proofs.Ytcfhffhmpalkbaa.P
open Go.RowKit Go.Proofs.YtcfhffhmpalkbaaM Go.Proofs.YtcfhffhmpalkbaaW.PrintWords Go.Proofs.YtcfhffhmpalkbaaW.PrintLast Go.Proofs.YtcfhffhmpalkbaaW.PrintMore
attribute [local go_sem] Go.Instr.field Go.asAgg max2_int min2_int max_two min_two max_three min_three max_four min_four
set_option linter.unusedVariables false
set_option linter.unusedSimpArgs false
set_option maxHeartbeats 8000000 in
set_option maxRecDepth 100000 in
theorem q36.calls_some (A0 : Addr) (c0 : Nat) (l0 : List Int) (r : List Int) (w : World) (hr0 : Kd.C (Kd.int .i64) w (some A0) l0.length l0) (hc0 : l0.length ≤ c0) (h : q36.f l0 = some r) :
 Calls Try.prog 54 #[.slice (some A0) l0.length c0] w fun e w' => ∃ v0_ : Value, e = .returned (v0_) ∧ Kd.R (Kd.int .i64) 3 w' w.heap.size (fun _ => True) v0_ r ∧ Below w.heap.size w w' := by
 have hq_ : ∀ (w : World) (a : Option Addr) (n c n' c' : Nat), (binOp .eql 45 (.slice a n c) (.slice none n' c')).run Try.prog w = .ok (.bool a.isNone) w := fun w a n c n' c' => Lib.run_eql_slice_nil w _ _ a n c n' c' Try.underlying45
 have HR0 := Aside0.mk hr0
 have HC0 := Aside0.mk hc0
 clear hr0 hc0
 have HB := Aside0.mk (Below.refl w.heap.size w)
 have H : ((some (([] : List Int) : List Int)).bind fun y101 => (if y101.length + l0.length < 17592186044416 then (some (y101 ++ l0)) else (none))) = some r := h
 clear h
 obtain ⟨y101, hy101⟩ : ∃ y_ : List Int, y_ = (([] : List Int)) := ⟨_, rfl⟩
 replace H : (if y101.length + l0.length < 17592186044416 then (some (y101 ++ l0)) else (none)) = some r := by first | (rw [hy101]; with_reducible exact H) | (have H2_ := (Option.bind_some _ _).symm.trans H; rw [hy101]; with_reducible exact H2_) | (have H2_ := (Option.bind_some _ _).symm.trans H; with_reducible exact H2_) | with_reducible exact H | (rw [hy101]; exact H) | exact H
 have Ny101 := Aside0.mk hy101
 clear hy101
 by_cases c2 : y101.length + l0.length < 17592186044416
 ·rw [if_pos c2] at H
  have LMc2 := Aside0.mk c2
  clear c2
  obtain ⟨y104, hy104⟩ : ∃ y_ : List Int, y_ = (y101 ++ l0) := ⟨_, rfl⟩
  replace H : (some y104) = some r := by first | (rw [hy104]; with_reducible exact H) | (have H2_ := (Option.bind_some _ _).symm.trans H; rw [hy104]; with_reducible exact H2_) | (have H2_ := (Option.bind_some _ _).symm.trans H; with_reducible exact H2_) | with_reducible exact H | (rw [hy104]; exact H) | exact H
  have Ny104 := Aside0.mk hy104
  clear hy104
  obtain rfl := Option.some.inj H
  go_enter Try.func54, Try.ntmps54
  go_wp2_with (first | ((with_reducible refine gate_dst (N := 5) rfl ?_); refine Kd.R_lit (Kd.int .i64) _ 3 ?hg (N := 5) ?hd (xs := ([] : List Int)) (inner := []) (ok := fun _ => True) (okp := fun _ => True) ?hr ?hp (fun _ hk => hk) trivial (Below.refl _ _) (Nat.le_refl _) v58_ ?_; (case hd => rfl); (case hg => rfl); (case hr => first | (go_simp; done) | (go_simp; rfl)); (case hp => exact (Reps.none _ _)); intro v102 w3 ho4 hb hg_ hnew_; clear hg_ hnew_; (first | rw [← Ny101.out] at ho4 | (simp only [Int.reduceToNat] at ho4; rw [← Ny101.out] at ho4)); have n0_ := Aside0.mk (Kd.R_lower ho4 (below_size v1_)); have n1_ := Aside0.mk (below_step v1_ hb); clear HB; have HO103 := n0_; have HB := n1_; clear n0_ n1_; clear hb ho4) | ((with_reducible refine gate_builtin (b := .append) (xs := #[.tmp 5, .tmp 6]) rfl ?_); at_builtin; refine Kd.R_append_rows (Kd.int .i64) (w0 := w) w.heap.size rfl (.tmp 5) (.tmp 6) 45 3 (.int .i64 0) 8 rfl Try.underlying45 info3 rfl v55_ v93_ v102 y101 l0 _ _ _ (fun _ => True) (fun _ => False) rfl rfl ?aO ?aR (fun _ _ h => h) (fun _ h => h.elim) ?aF ?aB ?aS ?aL ?_; (case aR => repeat (first | exact (Kd.C_below HR0.out HB.out) | (with_reducible refine Kd.C_alloc ?_ _) | (with_reducible refine Kd.C_drewN ?_ _) | (with_reducible refine Kd.C_drew ?_))); (case aB => exact v1_); (case aF => exact (fun _ _ => trivial)); (case aO => exact (by (with_reducible repeat (first | apply Kd.R_alloc | apply Kd.R_drewN | apply Kd.R_drew)); exact HO103.out)); (case aS => exact (below_size v1_)); (case aL => have := LMc2.out; omega); intro v105 w5 ho hb hg hat; rw [← Ny104.out] at ho; have n0_ := Aside0.mk (hb); have n1_ := Aside0.mk (ho); clear HB; clear HO103; have HB := n0_; have HO106 := n1_; clear n0_ n1_; clear ho hb hg hat))
  go_ret
  exact ⟨_, by first | rfl | (simp [errW_none, errW_some] <;> rfl) | (simp [*, errW_none, errW_some] <;> rfl), by (with_reducible repeat (first | apply Kd.R_alloc | apply Kd.R_drewN | apply Kd.R_drew)); exact HO106.out, by repeat (first | (with_reducible first | exact HB.out | apply below_alloc | apply pw_below_drewN | apply below_drew1) | exact HB.out)⟩
 ·rw [if_neg c2] at H
  exact absurd H v58_
set_option maxHeartbeats 8000000 in
set_option maxRecDepth 100000 in
theorem q36.calls (A0 : Option Addr) (c0 : Nat) (l0 : List Int) (r : List Int) (w : World) (hr0 : Kd.C (Kd.int .i64) w A0 l0.length l0) (hc0 : l0.length ≤ c0) (h : q36.f l0 = some r) :
 Calls Try.prog 54 #[.slice A0 l0.length c0] w fun e w' => ∃ v0_ : Value, e = .returned (v0_) ∧ Kd.R (Kd.int .i64) 3 w' w.heap.size (fun _ => True) v0_ r ∧ Below w.heap.size w w' := by
 cases A0 with
 | some ad => exact q36.calls_some ad c0 l0 r w hr0 hc0 h
 | none =>
  obtain rfl : l0 = [] := by
   cases l0 with
   | nil => rfl
   | cons a t => obtain ⟨ad, h0, _⟩ := hr0.2.2 v58_; cases h0
  obtain rfl : r = [] := by
   have h1 := h
   simp [q36.f] at h1
   exact h1
  have hq_ : ∀ (w : World) (a : Option Addr) (n c n' c' : Nat), (binOp .eql 45 (.slice a n c) (.slice none n' c')).run Try.prog w = .ok (.bool a.isNone) w := fun w a n c n' c' => Lib.run_eql_slice_nil w _ _ a n c n' c' Try.underlying45
  go_enter Try.func54, Try.ntmps54
  go_wp2
  go_ret
  exact ⟨_, rfl, Kd.R_nil _ _ _ _ _, Below.refl _ _⟩
set_option maxHeartbeats 8000000 in
set_option maxRecDepth 100000 in
theorem q39.calls (A0 : Option Addr) (c0 : Nat) (l0 : List Int) (a1 : Int) (r : List Int) (w : World) (hr0 : Kd.C (Kd.int .i64) w A0 l0.length l0) (hc0 : l0.length ≤ c0) (h : q39.f l0 a1 = some r) :
 Calls Try.prog 82 #[.slice A0 l0.length c0, .int .i64 a1] w fun e w' => ∃ v0_ : Value, e = .returned (v0_) ∧ Kd.R (Kd.int .i64) 3 w' w.heap.size (fun _ => True) v0_ r ∧ Below w.heap.size w w' := by
 unfold q39.f at h
 by_cases h1 : l0.length = 1
 case neg => rw [if_neg h1] at h; cases h
 rw [if_pos h1] at h
 by_cases h2 : 0 ≤ a1
 case neg => rw [if_neg h2] at h; cases h
 rw [if_pos h2] at h
 by_cases h3 : a1 ≤ 1000000
 case neg => rw [if_neg h3] at h; cases h
 rw [if_pos h3] at h
 obtain ⟨x, rfl⟩ : ∃ x, l0 = [x] := by match l0, h1 with | [x], _ => exact ⟨x, rfl⟩
 obtain ⟨n, rfl⟩ := Int.eq_ofNat_of_zero_le h2
 have HR : Aside0 (r = List.replicate n x) := ⟨by rw [← Option.some.inj h]; rfl⟩
 have hm := q39.mul_one n v93_
 obtain ⟨ad, rfl, hcell⟩ := hr0.2.2 v58_
 have hx : w.cell? ad = some (Value.int .i64 x) := by
  obtain ⟨c, _, hk, hc⟩ := hcell 0 x rfl
  have hk' : c = [Value.int .i64 x] := hk
  subst hk'
  simpa [Addr.add] using hc 0 _ rfl
 clear h h1 hcell hr0
 have HM := Aside0.mk hm
 clear hm
 rcases Nat.eq_zero_or_pos n with h0 | h0
 ·subst h0
  have HB := Aside0.mk (Below.refl w.heap.size w)
  clear h2 h3
  go_enter Try.func82, Try.ntmps82
  go_wp2_with fail
  refine (q42.calls 1 0 0 0 _ HM.out).mono ?_
  rintro e w1 ⟨rfl, ⟨nd, rfl⟩⟩
  go_wp2_with ((with_reducible refine gate_dst (N := 30) rfl ?_); refine stop_ ?_)
  refine Stop.go ?_
  refine Kd.R_make (Kd.int .i64) _ 3 rfl (N := 30) rfl 45 _ _ rfl (0 : Int) rfl rfl Try.underlying45 (.int .i64 0) 8 info3 rfl v55_ v93_ (0 : Int) (ok := fun _ => True) (okp := fun _ => True) rfl (fun _ hk => hk) trivial (Int.le_refl 0) v58_ (Below.refl _ _) (Nat.le_refl _) ?_
  intro v1 w2 ho hb hg hnew
  obtain ⟨b0, hv0, _⟩ := hnew
  obtain ⟨g, cap, cur, rfl, hgb, hh, hnc, hcm, hcl, hct⟩ := row_known ho hv0
  have HO := Aside0.mk ho
  clear ho hv0 hg hh hcl hct hgb hnc hcm
  have n0 := Aside0.mk (below_step (pw_below_drewN HB.out _) hb)
  clear HB hb
  have HB := n0
  clear n0
  change Aside0 (Kd.R (Kd.int .i64) 3 w2 _ _ (.slice (some ⟨g, 0, none⟩) 0 cap) _) at HO
  go_wp2_with ((with_reducible refine gate_dst (N := 33) rfl ?_); refine stop_ ?_)
  refine Stop.go ?_
  refine wpList_copy_nothing rfl (.tmp 31) (.tmp 32) 45 45 rfl 3 Try.underlying45 v42_ _ _ _ _ _ _ rfl rfl rfl ?_
  go_wp2
  go_loopg [8] 0 (fun kq v8 w' => v8 = .int .i64 0 ∧ w' = w2)
  case atStart => exact ⟨rfl, rfl⟩
  case round => as_aux_lemma =>
   obtain ⟨rfl, rfl⟩ := hrel
   go_wp2
   go_ret
   refine ⟨_, rfl, ?_, HB.out⟩
   rw [HR.out]
   exact HO.out
 have HB := Aside0.mk (Below.refl w.heap.size w)
 go_enter Try.func82, Try.ntmps82
 go_wp2_with fail
 refine (q42.calls 1 n 0 n _ HM.out).mono ?_
 rintro e w1 ⟨rfl, ⟨nd, rfl⟩⟩
 go_wp2_with (first | ((with_reducible refine gate_dst (N := 30) rfl ?_); refine Kd.R_make (Kd.int .i64) _ 3 rfl (N := 30) rfl 45 _ _ rfl (n : Int) rfl rfl Try.underlying45 (.int .i64 0) 8 info3 rfl v55_ v93_ (0 : Int) (ok := fun _ => True) (okp := fun _ => True) rfl (fun _ hk => hk) trivial v93_ v93_ (Below.refl _ _) (Nat.le_refl _) ?_; intro v1 w2 ho hb hg hnew; obtain ⟨b0, hv0, _⟩ := hnew; obtain ⟨g, cap, cur, rfl, hgb, hh, hnc, hcm, hcl, hct⟩ := row_known ho hv0; clear ho hv0 hg; have HT := Aside0.mk (And.intro hh (And.intro hcl hct)); clear hh hcl hct; have n0 := Aside0.mk (below_step (pw_below_drewN HB.out _) hb); clear HB hb; have HB := n0; clear n0; have HG : w.heap.size ≤ g := hgb; clear hgb; simp only [Int.toNat_natCast, List.length_replicate] at hnc ⊢) | ((with_reducible refine gate_dst (N := 33) rfl ?_); go_loud (refine wpList_copy_splice rfl (.tmp 31) (.tmp 32) 45 45 rfl 3 Try.underlying45 v42_ _ _ _ _ _ _ rfl rfl g 0 cur 3 HT.out.1 [Value.int .i64 x] (Nat.min_eq_left h0).symm (fun _ => ⟨rfl, ad, rfl, get_one ((HB.out.cell (World.block_lt_of_cell? w _ hx)).trans hx)⟩) (by have := HT.out.2.1; simp; omega) (by simp; rfl) w.heap.size w HB.out HG ?_)))
 intro w3 hh hb
 have HC : Aside0 (∃ cur : List Value, cur.length = cap ∧ w3.heap[g]? = some (.cells cur.toArray 3 (0, 0)) ∧ cur.take 1 = List.replicate 1 (Value.int .i64 x)) := by
  refine ⟨⟨splice cur 0 [Value.int .i64 x], ?_, hh.out, ?_⟩⟩
  ·rw [length_splice]; exact HT.out.2.1; have := HT.out.2.1; simp; omega
  ·simp [splice]
 clear hh HT HB
 have HB := Aside0.mk hb
 clear hb
 go_wp2
 go_loopg [8] (n - 1) (fun kq v8 w' => ∃ m : Nat, v8 = .int .i64 m ∧ 1 ≤ m ∧ m ≤ n ∧ kq = n - m ∧ Aside0 (∃ cur : List Value, cur.length = cap ∧ w'.heap[g]? = some (.cells cur.toArray 3 (0, 0)) ∧ cur.take m = List.replicate m (Value.int .i64 x)) ∧ Aside0 (Below w.heap.size w w'))
 case atStart => exact ⟨1, rfl, by omega, by omega, rfl, HC, HB⟩
 case round => as_aux_lemma =>
  obtain ⟨m, rfl, hm1, hm2, rfl, HC, HB⟩ := hrel
  by_cases hlt : m < n
  ·obtain ⟨cur', hl', hg', ht'⟩ := HC.out
   have HT := Aside0.mk (And.intro hg' (And.intro hl' ht'))
   clear HC hl' hg' ht'
   obtain ⟨q, hq, hq1, hq2, hq3⟩ : ∃ q : Nat, q = Nat.min m (n - m) ∧ 1 ≤ q ∧ m + q ≤ n ∧ q ≤ m := by
    refine ⟨Nat.min m (n - m), rfl, ?_, ?_, Nat.min_le_left _ _⟩
    ·have : 1 ≤ min m (n - m) := by omega
     exact this
    ·have : m + min m (n - m) ≤ n := by omega
     exact this
   have HQ := Aside0.mk hq
   clear hq
   have hq4 : (m : Int) + (q : Int) ≤ (n : Int) := by omega
   have hm1' : m ≤ cap := by omega
   have hm2' : (m : Int) ≤ (cap : Int) := by omega
   have hm3' : ¬ (cap = m) := by omega
   go_wp2
   go_region_law (refine step_copy_splice rfl (.tmp 41) (.tmp 44) 45 45 rfl 3 Try.underlying45 v42_ (some ⟨g, m, none⟩) (some ⟨g, 0, none⟩) (n - m) (cap - m) m cap (by go_simp) (by go_simp) g m cur' 3 HT.out.1 (List.replicate q (Value.int .i64 x)) (by rw [List.length_replicate]; exact HQ.out) (fun _ => ⟨rfl, _, rfl, get_many HT.out.1 HT.out.2.2 hq3⟩) (by have := HT.out.2.1; simp; omega) (by intro v hv; rw [List.eq_of_mem_replicate hv]; rfl) w.heap.size w (below_drew1 HB.out) HG ?_; intro w4 hh4 hb4)
   have HC : Aside0 (∃ cur : List Value, cur.length = cap ∧ w4.heap[g]? = some (.cells cur.toArray 3 (0, 0)) ∧ cur.take (m + q) = List.replicate (m + q) (Value.int .i64 x)) := by
    refine ⟨⟨_, ?_, hh4.out, take_splice HT.out.2.2 (by have := HT.out.2.1; omega)⟩⟩
    have := HT.out.2.1
    rw [length_splice]
    ·exact this
    ·simp; omega
   clear hh4 HT HB
   have HB := Aside0.mk hb4
   clear hb4
   go_wp2
   go_roundg (n - (m + q))
   case measure => omega
   case rel => exact ⟨m + q, by rw [Int.natCast_add, Go.IntWalk.i64_in _ v93_], by omega, by omega, rfl, HC, HB⟩
  ·obtain rfl : m = n := by omega
   clear hlt hm2
   go_wp2
   go_ret
   obtain ⟨cur', hl', hg', ht'⟩ := HC.out
   refine ⟨_, rfl, ?_, HB.out⟩
   rw [HR.out]
   have h5 := row_made (enc := Value.int .i64) (h1 := fun _ => rfl) (xs := List.replicate m x) HG hg' (by simpa using hnc) hcm hl' (by simpa using ht')
   rw [List.length_replicate] at h5
   exact h5
end Go.Proofs.Ytcfhffhmpalkbaa.P
end
