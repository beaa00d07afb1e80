import Derived.Test.YthpoclbejpoklaaSbM1
import Derived.Test.YthpoclbejpoklaaProg
namespace Go.XM
open Go.Proofs
set_option linter.all false
set_option maxRecDepth 100000
set_option linter.unusedVariables false
set_option linter.unusedSimpArgs false
noncomputable abbrev PP := Try.prog
theorem fol : PP.follows .mixedOrders = true := by kernel_rfl
structure api_Graph where
  N : Int
  Out : List (List Int)
deriving Inhabited, DecidableEq
def e_int (x : Int) : List SP := [.v (.int .i64 x)]
theorem e_int_ns (x : Int) : ∀ p ∈ e_int x, nsSP p := by intro p hp; simp only [e_int, List.mem_cons, List.not_mem_nil, or_false] at hp; rcases hp with rfl <;> trivial
def e_Lint (x : List Int) : List SP := [.sl 1 (x.map e_int)]
def o_Lint (x : List Int) : List RC := [.o 1 (x.map e_int)]
theorem o_Lint_frc (x : List Int) : (o_Lint x).map frc = (e_Lint x).map some := rfl
theorem o_Lint_ns (x : List Int) : ∀ p ∈ o_Lint x, nsRC p := by
  intro p hp; simp only [o_Lint, List.mem_cons, List.not_mem_nil, or_false] at hp; rcases hp with rfl
  · intro a ha; obtain ⟨y, _, rfl⟩ := List.mem_map.1 ha; exact e_int_ns y
def herbariumlaw7_Made.A (x0 : Int) (x1 : Int) : List SV := [.a (.c (.p (.v (.int .i64 x0)))), .a (.c (.p (.v (.int .i64 x1))))]
def herbariumlaw7_Made.O0 (x0 : Int) (x1 : Int) : List (Nat × RS) := []
def herbariumlaw7_Made.R (r : api_Graph) : SV := .a (.agg [.p (.v (.int .i64 r.N)), .vw 2000001 0 r.Out.length])
def herbariumlaw7_Made.O1 (r : api_Graph) : List (Nat × RS) := [(2000001, .row 1 (r.Out.map o_Lint))]
theorem herbariumlaw7_Made.nsR (r : api_Graph) : nsSV (herbariumlaw7_Made.R r) := by simp [herbariumlaw7_Made.R, nsSV, nsAV, nsCV, nsSP]
theorem herbariumlaw7_Made.nsO (r : api_Graph) : ∀ k, nsRS (ofL (herbariumlaw7_Made.O1 r) k) := by
  refine nsOf fun x hx => ?_
  simp only [herbariumlaw7_Made.O1, List.mem_cons, List.not_mem_nil, or_false] at hx
  rcases hx with rfl
  · exact nsRowO o_Lint_ns _
def herbariumlaw7_Made.j3 (K : Nat) (go_l1 : (List (List Int)) → Int → Option api_Graph) (go_l2 : (List (List Int)) → Int → Option api_Graph) (t_43_7 : Int) (t_43_r5c1 : List (List Int)) (t_8_6 : Int) (t_46_25 : Bool) : Option api_Graph :=
  if t_46_25 then
    if 0 ≤ t_8_6 ∧ t_8_6 < ((t_43_r5c1.length : Nat) : Int) then
    if ((nth t_43_r5c1 t_8_6).length + (([t_43_7] : List Int)).length) * 8 ≤ 140737488355328 then
    if 0 ≤ t_8_6 ∧ t_8_6 < ((t_43_r5c1.length : Nat) : Int) then
    go_l2 ((t_43_r5c1).set t_8_6.toNat ((nth t_43_r5c1 t_8_6) ++ ([t_43_7] : List Int))) (wr .i64 (t_43_7 + 1))
    else none
    else none
    else none
  else
    go_l1 t_43_r5c1 (wr .i64 (t_8_6 + 1))
def herbariumlaw7_Made.l2 (K : Nat) (go_l1 : (List (List Int)) → Int → Option api_Graph) (t_8_6 : Int) (x0 : Int) : Nat → (List (List Int)) → Int → Option api_Graph
  | 0, _, _ => none
  | k + 1, t_43_r5c1, t_43_7 =>
    if decide (t_43_7 < (if 10 < x0 then 10 else x0)) then
      herbariumlaw7_Made.j3 K go_l1 (herbariumlaw7_Made.l2 K go_l1 t_8_6 x0 k) t_43_7 t_43_r5c1 t_8_6 (decide (t_8_6 < 10))
    else
      herbariumlaw7_Made.j3 K go_l1 (herbariumlaw7_Made.l2 K go_l1 t_8_6 x0 k) t_43_7 t_43_r5c1 t_8_6 false
def herbariumlaw7_Made.l1 (K : Nat) (x0 : Int) (x1 : Int) : Nat → (List (List Int)) → Int → Option api_Graph
  | 0, _, _ => none
  | k + 1, t_8_r5c1, t_8_6 =>
    if decide (t_8_6 < x0) then
      if (x1 == 0) then
        if (x0 : Int) ≠ 0 then
        if 0 ≤ t_8_6 ∧ t_8_6 < ((t_8_r5c1.length : Nat) : Int) then
        herbariumlaw7_Made.l1 K x0 x1 k ((t_8_r5c1).set t_8_6.toNat ([(wr .i64 (t_8_6 + 1)).tmod x0] : List Int)) (wr .i64 (t_8_6 + 1))
        else none
        else none
      else
        if (x1 == 1) then
          if decide ((wr .i64 (t_8_6 + 1)) < x0) then
            if 0 ≤ t_8_6 ∧ t_8_6 < ((t_8_r5c1.length : Nat) : Int) then
            herbariumlaw7_Made.l1 K x0 x1 k ((t_8_r5c1).set t_8_6.toNat ([wr .i64 (t_8_6 + 1)] : List Int)) (wr .i64 (t_8_6 + 1))
            else none
          else
            herbariumlaw7_Made.l1 K x0 x1 k t_8_r5c1 (wr .i64 (t_8_6 + 1))
        else
          if (x1 == 2) then
            if decide (t_8_6 > 0) then
              if 0 ≤ (0 : Int) ∧ (0 : Int) < ((t_8_r5c1.length : Nat) : Int) then
              if ((nth t_8_r5c1 (0 : Int)).length + (([t_8_6] : List Int)).length) * 8 ≤ 140737488355328 then
              if 0 ≤ (0 : Int) ∧ (0 : Int) < ((t_8_r5c1.length : Nat) : Int) then
              herbariumlaw7_Made.l1 K x0 x1 k ((t_8_r5c1).set (0 : Int).toNat ((nth t_8_r5c1 (0 : Int)) ++ ([t_8_6] : List Int))) (wr .i64 (t_8_6 + 1))
              else none
              else none
              else none
            else
              herbariumlaw7_Made.l1 K x0 x1 k t_8_r5c1 (wr .i64 (t_8_6 + 1))
          else
            herbariumlaw7_Made.l2 K (herbariumlaw7_Made.l1 K x0 x1 k) t_8_6 x0 K t_8_r5c1 0
    else
      some (⟨x0, t_8_r5c1⟩ : api_Graph)
def herbariumlaw7_Made (K : Nat) (x0 : Int) (x1 : Int) : Option api_Graph :=
  if 0 ≤ x0 ∧ (24 : Int) * x0 ≤ 281474976710656 ∧ x0 ≤ 9223372036854775807 then
  herbariumlaw7_Made.l1 K x0 x1 K (List.replicate x0.toNat ([] : List Int)) 0
  else none
theorem herbariumlaw7_Made.ct (K : Nat) (x0 : Int) (x1 : Int) (r : api_Graph) (h : herbariumlaw7_Made K x0 x1 = some r) : Ct PP 19 (herbariumlaw7_Made.A x0 x1) (ofL (herbariumlaw7_Made.O0 x0 x1)) (herbariumlaw7_Made.R r) (ofL (herbariumlaw7_Made.O1 r)) := by
  unfold herbariumlaw7_Made at h
  refine ct_of (fn := Try.f19) (c := Try.f19.body.get!) (by kernel_rfl) (by kernel_rfl) [] (by kernel_rfl) (by kernel_rfl) (by kernel_rfl) fun Γ hnt hH => ?_
  refine s_seq ?_
  refine s_reg (tr_reg false [] [(0, .a (.c (.p (.v (.int .i64 x0))))), (1, .a (.c (.p (.v (.int .i64 x1))))), (4, .a (.c (.bx 4 0)))] [(4, .box [.p (.v (.int .i64 0)), .nl 1])] [(4, 4)] fol hH hnt (by kernel_rfl) (by kernel_rfl) (C := True) (by kernel_rfl) (trivial) (rfl)) ?_
  refine s_seq ?_
  obtain ⟨g3_2_0, h⟩ := gd_some h
  refine s_reg (tr_reg false [.no, .no, .own true] [(0, .a (.c (.p (.v (.int .i64 x0))))), (1, .a (.c (.p (.v (.int .i64 x1))))), (4, .a (.c (.bx 4 0))), (5, .a (.c (.bx 5 0)))] [(4, .box [.p (.v (.int .i64 0)), .nl 1]), (5, .box [.p (.v (.int .i64 x0)), .vw 10 0 ((List.replicate x0.toNat (o_Lint ([] : List Int))).length)]), (10, .row 1 (List.replicate x0.toNat (o_Lint ([] : List Int))))] [(4, 4), (5, 5), (10, 10)] fol hH hnt (by kernel_rfl) (by kernel_rfl) (C := x0 = x0 ∧ 0 ≤ x0 ∧ (24 : Int) * x0 ≤ 281474976710656 ∧ x0 ≤ 9223372036854775807) (by kernel_rfl) (⟨rfl, g3_2_0⟩) (S := mk [(0, .a (.c (.p (.v (.int .i64 x0))))), (1, .a (.c (.p (.v (.int .i64 x1))))), (4, .a (.c (.bx 4 0))), (5, .a (.c (.bx 5 0)))] [(4, .box [.p (.v (.int .i64 0)), .nl 1]), (5, .box [.p (.v (.int .i64 x0)), .vw 10 0 ((List.replicate x0.toNat ([] : List Int)).length)]), (10, .row 1 ((List.replicate x0.toNat ([] : List Int)).map o_Lint))]) (he2 (fun q0 q1 => mk [(0, .a (.c (.p (.v (.int .i64 x0))))), (1, .a (.c (.p (.v (.int .i64 x1))))), (4, .a (.c (.bx 4 0))), (5, .a (.c (.bx 5 0)))] [(4, .box [.p (.v (.int .i64 0)), .nl 1]), (5, .box [.p (.v (.int .i64 x0)), .vw 10 0 q0]), (10, .row 1 (q1))]) (k0 := (List.replicate x0.toNat (o_Lint ([] : List Int))).length) (p0 := (List.replicate x0.toNat ([] : List Int)).length) ((rowLenO (rep_map o_Lint _ ([] : List Int)) : (List.replicate x0.toNat (o_Lint ([] : List Int))).length = (List.replicate x0.toNat ([] : List Int)).length)) (k1 := List.replicate x0.toNat (o_Lint ([] : List Int))) (p1 := (List.replicate x0.toNat ([] : List Int)).map o_Lint) (rep_map o_Lint _ ([] : List Int)))) ?_
  refine s_seq ?_
  refine s_seq ?_
  refine s_reg (tr_reg false [] [(0, .a (.c (.p (.v (.int .i64 x0))))), (1, .a (.c (.p (.v (.int .i64 x1))))), (4, .a (.c (.bx 4 0))), (5, .a (.c (.bx 5 0))), (6, .a (.c (.p (.v (.int .i64 0)))))] [(4, .box [.p (.v (.int .i64 0)), .nl 1]), (5, .box [.p (.v (.int .i64 x0)), .vw 10 0 ((List.replicate x0.toNat ([] : List Int)).length)]), (10, .row 1 ((List.replicate x0.toNat ([] : List Int)).map o_Lint))] [(4, 4), (5, 5), (10, 10)] fol hH hnt (by kernel_rfl) (by kernel_rfl) (C := True) (by kernel_rfl) (trivial) (rfl)) ?_
  refine s_block ?_
  refine s_loop (fun k_l1 σ => ∃ (t_8_r5c1 : List (List Int)) (t_8_6 : Int), herbariumlaw7_Made.l1 K x0 x1 k_l1 t_8_r5c1 t_8_6 = some r ∧ σ = mk [(0, .a (.c (.p (.v (.int .i64 x0))))), (1, .a (.c (.p (.v (.int .i64 x1))))), (4, .a (.c (.bx 4 0))), (5, .a (.c (.bx 5 0))), (6, .a (.c (.p (.v (.int .i64 t_8_6)))))] [(4, .box [.p (.v (.int .i64 0)), .nl 1]), (5, .box [.p (.v (.int .i64 x0)), .vw 10 0 t_8_r5c1.length]), (10, .row 1 (t_8_r5c1.map o_Lint))]) ?_ ?_ K ⟨List.replicate x0.toNat ([] : List Int), 0, h, rfl⟩
  · rintro _ ⟨t_8_r5c1, t_8_6, h, _⟩
    simp [herbariumlaw7_Made.l1] at h
  · rintro k_l1 _ ⟨t_8_r5c1, t_8_6, h, rfl⟩
    rw [herbariumlaw7_Made.l1] at h
    refine s_seq ?_
    refine s_seq ?_
    refine s_reg (tr_reg false [] [(0, .a (.c (.p (.v (.int .i64 x0))))), (1, .a (.c (.p (.v (.int .i64 x1))))), (4, .a (.c (.bx 4 0))), (5, .a (.c (.bx 5 0))), (6, .a (.c (.p (.v (.int .i64 t_8_6))))), (14, .a (.c (.p (.v (.bool (decide (t_8_6 < x0)))))))] [(4, .box [.p (.v (.int .i64 0)), .nl 1]), (5, .box [.p (.v (.int .i64 x0)), .vw 10 0 t_8_r5c1.length]), (10, .row 1 (t_8_r5c1.map o_Lint))] [(4, 4), (5, 5), (10, 10)] fol hH hnt (by kernel_rfl) (by kernel_rfl) (C := True) (by kernel_rfl) (trivial) (rfl)) ?_
    refine s_cond (decide (t_8_6 < x0)) (by kernel_rfl) (fun hb => ?_) (fun hb => ?_)
    · replace h := ite_t hb h
      refine s_skip ?_
      refine s_seq ?_
      refine s_block ?_
      refine s_seq ?_
      refine s_reg (tr_reg false [] [(0, .a (.c (.p (.v (.int .i64 x0))))), (1, .a (.c (.p (.v (.int .i64 x1))))), (4, .a (.c (.bx 4 0))), (5, .a (.c (.bx 5 0))), (6, .a (.c (.p (.v (.int .i64 t_8_6))))), (17, .a (.c (.p (.v (.int .i64 x1)))))] [(4, .box [.p (.v (.int .i64 0)), .nl 1]), (5, .box [.p (.v (.int .i64 x0)), .vw 10 0 t_8_r5c1.length]), (10, .row 1 (t_8_r5c1.map o_Lint))] [(4, 4), (5, 5), (10, 10)] fol hH hnt (by kernel_rfl) (by kernel_rfl) (C := True) (by kernel_rfl) (trivial) (rfl)) ?_
      refine s_block ?_
      refine s_seq ?_
      refine s_reg (tr_reg false [] [(0, .a (.c (.p (.v (.int .i64 x0))))), (1, .a (.c (.p (.v (.int .i64 x1))))), (4, .a (.c (.bx 4 0))), (5, .a (.c (.bx 5 0))), (6, .a (.c (.p (.v (.int .i64 t_8_6))))), (17, .a (.c (.p (.v (.int .i64 x1))))), (40, .a (.c (.p (.v (.bool (x1 == 0))))))] [(4, .box [.p (.v (.int .i64 0)), .nl 1]), (5, .box [.p (.v (.int .i64 x0)), .vw 10 0 t_8_r5c1.length]), (10, .row 1 (t_8_r5c1.map o_Lint))] [(4, 4), (5, 5), (10, 10)] fol hH hnt (by kernel_rfl) (by kernel_rfl) (C := True) (by kernel_rfl) (trivial) (rfl)) ?_
      refine s_cond ((x1 == 0)) (by kernel_rfl) (fun hb => ?_) (fun hb => ?_)
      · replace h := ite_t hb h
        obtain ⟨g23_6_0, h⟩ := gd_some h
        obtain ⟨g23_8_1, h⟩ := gd_some h
        refine s_regz (tr_reg true [.no, .no, .no, .no, .no, .no, .no, .own false, .no, .fill (o_Lint (nth t_8_r5c1 t_8_6)) ((([(wr .i64 (t_8_6 + 1)).tmod x0] : List Int)).map e_int)] [(0, .a (.c (.p (.v (.int .i64 x0))))), (1, .a (.c (.p (.v (.int .i64 x1))))), (4, .a (.c (.bx 4 0))), (5, .a (.c (.bx 5 0))), (6, .a (.c (.p (.v (.int .i64 t_8_6)))))] [(4, .box [.p (.v (.int .i64 0)), .nl 1]), (5, .box [.p (.v (.int .i64 x0)), .vw 10 0 t_8_r5c1.length]), (10, .row 1 ((t_8_r5c1.map o_Lint).set (0 + (t_8_6).toNat) (o_Lint ([(wr .i64 (t_8_6 + 1)).tmod x0] : List Int))))] [(4, 4), (5, 5), (10, 10)] fol hH hnt (by kernel_rfl) (by kernel_rfl) (C := ((x0 : Int) ≠ 0) ∧ (0 ≤ t_8_6 ∧ t_8_6 < ((t_8_r5c1.length : Nat) : Int)) ∧ ((t_8_r5c1.map o_Lint)[0 + (t_8_6).toNat]? = some (o_Lint (nth t_8_r5c1 t_8_6)) ∧ (spRow (([(wr .i64 (t_8_6 + 1)).tmod x0] : List Int).map e_int)) = spRow ((([(wr .i64 (t_8_6 + 1)).tmod x0] : List Int)).map e_int) ∧ (([(wr .i64 (t_8_6 + 1)).tmod x0] : List Int).length) = ((([(wr .i64 (t_8_6 + 1)).tmod x0] : List Int)).map e_int).length)) (by kernel_rfl) (⟨g23_6_0, ⟨g23_8_1.1, ltL (rfl) g23_8_1.2⟩, ⟨rowGetO (rfl) g23_8_1.1 g23_8_1.2, rfl, lenMap (rfl)⟩⟩) (S := mk [(0, .a (.c (.p (.v (.int .i64 x0))))), (1, .a (.c (.p (.v (.int .i64 x1))))), (4, .a (.c (.bx 4 0))), (5, .a (.c (.bx 5 0))), (6, .a (.c (.p (.v (.int .i64 t_8_6)))))] [(4, .box [.p (.v (.int .i64 0)), .nl 1]), (5, .box [.p (.v (.int .i64 x0)), .vw 10 0 (((t_8_r5c1).set t_8_6.toNat ([(wr .i64 (t_8_6 + 1)).tmod x0] : List Int)).length)]), (10, .row 1 (((t_8_r5c1).set t_8_6.toNat ([(wr .i64 (t_8_6 + 1)).tmod x0] : List Int)).map o_Lint))]) (he2 (fun q0 q1 => mk [(0, .a (.c (.p (.v (.int .i64 x0))))), (1, .a (.c (.p (.v (.int .i64 x1))))), (4, .a (.c (.bx 4 0))), (5, .a (.c (.bx 5 0))), (6, .a (.c (.p (.v (.int .i64 t_8_6)))))] [(4, .box [.p (.v (.int .i64 0)), .nl 1]), (5, .box [.p (.v (.int .i64 x0)), .vw 10 0 q0]), (10, .row 1 (q1))]) (k0 := t_8_r5c1.length) (p0 := ((t_8_r5c1).set t_8_6.toNat ([(wr .i64 (t_8_6 + 1)).tmod x0] : List Int)).length) (((List.length_set).symm : t_8_r5c1.length = ((t_8_r5c1).set t_8_6.toNat ([(wr .i64 (t_8_6 + 1)).tmod x0] : List Int)).length)) (k1 := (t_8_r5c1.map o_Lint).set (0 + (t_8_6).toNat) (o_Lint ([(wr .i64 (t_8_6 + 1)).tmod x0] : List Int))) (p1 := ((t_8_r5c1).set t_8_6.toNat ([(wr .i64 (t_8_6 + 1)).tmod x0] : List Int)).map o_Lint) (rowSetO (rfl) t_8_6 ([(wr .i64 (t_8_6 + 1)).tmod x0] : List Int)))) (fun σ1 hs => ?_)
        refine s_subc hs ?_
        refine s_regz (tr_reg false [] [(0, .a (.c (.p (.v (.int .i64 x0))))), (1, .a (.c (.p (.v (.int .i64 x1))))), (4, .a (.c (.bx 4 0))), (5, .a (.c (.bx 5 0))), (6, .a (.c (.p (.v (.int .i64 (wr .i64 (t_8_6 + 1)))))))] [(4, .box [.p (.v (.int .i64 0)), .nl 1]), (5, .box [.p (.v (.int .i64 x0)), .vw 10 0 (((t_8_r5c1).set t_8_6.toNat ([(wr .i64 (t_8_6 + 1)).tmod x0] : List Int)).length)]), (10, .row 1 (((t_8_r5c1).set t_8_6.toNat ([(wr .i64 (t_8_6 + 1)).tmod x0] : List Int)).map o_Lint))] [(4, 4), (5, 5), (10, 10)] fol hH hnt (by kernel_rfl) (by kernel_rfl) (C := True) (by kernel_rfl) (trivial) (rfl)) (fun σ1 hs => ?_)
        exact ⟨_, ⟨(t_8_r5c1).set t_8_6.toNat ([(wr .i64 (t_8_6 + 1)).tmod x0] : List Int), wr .i64 (t_8_6 + 1), h, rfl⟩, hs.trans (Sub.refl)⟩
      · replace h := ite_f hb h
        refine s_seq ?_
        refine s_reg (tr_reg false [] [(0, .a (.c (.p (.v (.int .i64 x0))))), (1, .a (.c (.p (.v (.int .i64 x1))))), (4, .a (.c (.bx 4 0))), (5, .a (.c (.bx 5 0))), (6, .a (.c (.p (.v (.int .i64 t_8_6))))), (17, .a (.c (.p (.v (.int .i64 x1))))), (51, .a (.c (.p (.v (.bool (x1 == 1))))))] [(4, .box [.p (.v (.int .i64 0)), .nl 1]), (5, .box [.p (.v (.int .i64 x0)), .vw 10 0 t_8_r5c1.length]), (10, .row 1 (t_8_r5c1.map o_Lint))] [(4, 4), (5, 5), (10, 10)] fol hH hnt (by kernel_rfl) (by kernel_rfl) (C := True) (by kernel_rfl) (trivial) (rfl)) ?_
        refine s_cond ((x1 == 1)) (by kernel_rfl) (fun hb => ?_) (fun hb => ?_)
        · replace h := ite_t hb h
          refine s_seq ?_
          refine s_reg (tr_reg false [] [(0, .a (.c (.p (.v (.int .i64 x0))))), (1, .a (.c (.p (.v (.int .i64 x1))))), (4, .a (.c (.bx 4 0))), (5, .a (.c (.bx 5 0))), (6, .a (.c (.p (.v (.int .i64 t_8_6))))), (56, .a (.c (.p (.v (.bool (decide ((wr .i64 (t_8_6 + 1)) < x0)))))))] [(4, .box [.p (.v (.int .i64 0)), .nl 1]), (5, .box [.p (.v (.int .i64 x0)), .vw 10 0 t_8_r5c1.length]), (10, .row 1 (t_8_r5c1.map o_Lint))] [(4, 4), (5, 5), (10, 10)] fol hH hnt (by kernel_rfl) (by kernel_rfl) (C := True) (by kernel_rfl) (trivial) (rfl)) ?_
          refine s_cond (decide ((wr .i64 (t_8_6 + 1)) < x0)) (by kernel_rfl) (fun hb => ?_) (fun hb => ?_)
          · replace h := ite_t hb h
            obtain ⟨g30_6_0, h⟩ := gd_some h
            refine s_regz (tr_reg false [.no, .no, .no, .no, .no, .own false, .no, .fill (o_Lint (nth t_8_r5c1 t_8_6)) ((([wr .i64 (t_8_6 + 1)] : List Int)).map e_int)] [(0, .a (.c (.p (.v (.int .i64 x0))))), (1, .a (.c (.p (.v (.int .i64 x1))))), (4, .a (.c (.bx 4 0))), (5, .a (.c (.bx 5 0))), (6, .a (.c (.p (.v (.int .i64 t_8_6)))))] [(4, .box [.p (.v (.int .i64 0)), .nl 1]), (5, .box [.p (.v (.int .i64 x0)), .vw 10 0 t_8_r5c1.length]), (10, .row 1 ((t_8_r5c1.map o_Lint).set (0 + (t_8_6).toNat) (o_Lint ([wr .i64 (t_8_6 + 1)] : List Int))))] [(4, 4), (5, 5), (10, 10)] fol hH hnt (by kernel_rfl) (by kernel_rfl) (C := (0 ≤ t_8_6 ∧ t_8_6 < ((t_8_r5c1.length : Nat) : Int)) ∧ ((t_8_r5c1.map o_Lint)[0 + (t_8_6).toNat]? = some (o_Lint (nth t_8_r5c1 t_8_6)) ∧ (spRow (([wr .i64 (t_8_6 + 1)] : List Int).map e_int)) = spRow ((([wr .i64 (t_8_6 + 1)] : List Int)).map e_int) ∧ (([wr .i64 (t_8_6 + 1)] : List Int).length) = ((([wr .i64 (t_8_6 + 1)] : List Int)).map e_int).length)) (by kernel_rfl) (⟨⟨g30_6_0.1, ltL (rfl) g30_6_0.2⟩, ⟨rowGetO (rfl) g30_6_0.1 g30_6_0.2, rfl, lenMap (rfl)⟩⟩) (S := mk [(0, .a (.c (.p (.v (.int .i64 x0))))), (1, .a (.c (.p (.v (.int .i64 x1))))), (4, .a (.c (.bx 4 0))), (5, .a (.c (.bx 5 0))), (6, .a (.c (.p (.v (.int .i64 t_8_6)))))] [(4, .box [.p (.v (.int .i64 0)), .nl 1]), (5, .box [.p (.v (.int .i64 x0)), .vw 10 0 (((t_8_r5c1).set t_8_6.toNat ([wr .i64 (t_8_6 + 1)] : List Int)).length)]), (10, .row 1 (((t_8_r5c1).set t_8_6.toNat ([wr .i64 (t_8_6 + 1)] : List Int)).map o_Lint))]) (he2 (fun q0 q1 => mk [(0, .a (.c (.p (.v (.int .i64 x0))))), (1, .a (.c (.p (.v (.int .i64 x1))))), (4, .a (.c (.bx 4 0))), (5, .a (.c (.bx 5 0))), (6, .a (.c (.p (.v (.int .i64 t_8_6)))))] [(4, .box [.p (.v (.int .i64 0)), .nl 1]), (5, .box [.p (.v (.int .i64 x0)), .vw 10 0 q0]), (10, .row 1 (q1))]) (k0 := t_8_r5c1.length) (p0 := ((t_8_r5c1).set t_8_6.toNat ([wr .i64 (t_8_6 + 1)] : List Int)).length) (((List.length_set).symm : t_8_r5c1.length = ((t_8_r5c1).set t_8_6.toNat ([wr .i64 (t_8_6 + 1)] : List Int)).length)) (k1 := (t_8_r5c1.map o_Lint).set (0 + (t_8_6).toNat) (o_Lint ([wr .i64 (t_8_6 + 1)] : List Int))) (p1 := ((t_8_r5c1).set t_8_6.toNat ([wr .i64 (t_8_6 + 1)] : List Int)).map o_Lint) (rowSetO (rfl) t_8_6 ([wr .i64 (t_8_6 + 1)] : List Int)))) (fun σ1 hs => ?_)
            refine s_subc hs ?_
            refine s_regz (tr_reg false [] [(0, .a (.c (.p (.v (.int .i64 x0))))), (1, .a (.c (.p (.v (.int .i64 x1))))), (4, .a (.c (.bx 4 0))), (5, .a (.c (.bx 5 0))), (6, .a (.c (.p (.v (.int .i64 (wr .i64 (t_8_6 + 1)))))))] [(4, .box [.p (.v (.int .i64 0)), .nl 1]), (5, .box [.p (.v (.int .i64 x0)), .vw 10 0 (((t_8_r5c1).set t_8_6.toNat ([wr .i64 (t_8_6 + 1)] : List Int)).length)]), (10, .row 1 (((t_8_r5c1).set t_8_6.toNat ([wr .i64 (t_8_6 + 1)] : List Int)).map o_Lint))] [(4, 4), (5, 5), (10, 10)] fol hH hnt (by kernel_rfl) (by kernel_rfl) (C := True) (by kernel_rfl) (trivial) (rfl)) (fun σ1 hs => ?_)
            exact ⟨_, ⟨(t_8_r5c1).set t_8_6.toNat ([wr .i64 (t_8_6 + 1)] : List Int), wr .i64 (t_8_6 + 1), h, rfl⟩, hs.trans (Sub.refl)⟩
          · replace h := ite_f hb h
            refine s_skip ?_
            refine s_regz (tr_reg false [] [(0, .a (.c (.p (.v (.int .i64 x0))))), (1, .a (.c (.p (.v (.int .i64 x1))))), (4, .a (.c (.bx 4 0))), (5, .a (.c (.bx 5 0))), (6, .a (.c (.p (.v (.int .i64 (wr .i64 (t_8_6 + 1)))))))] [(4, .box [.p (.v (.int .i64 0)), .nl 1]), (5, .box [.p (.v (.int .i64 x0)), .vw 10 0 t_8_r5c1.length]), (10, .row 1 (t_8_r5c1.map o_Lint))] [(4, 4), (5, 5), (10, 10)] fol hH hnt (by kernel_rfl) (by kernel_rfl) (C := True) (by kernel_rfl) (trivial) (rfl)) (fun σ1 hs => ?_)
            exact ⟨_, ⟨t_8_r5c1, wr .i64 (t_8_6 + 1), h, rfl⟩, hs.trans (Sub.refl)⟩
        · replace h := ite_f hb h
          refine s_seq ?_
          refine s_reg (tr_reg false [] [(0, .a (.c (.p (.v (.int .i64 x0))))), (1, .a (.c (.p (.v (.int .i64 x1))))), (4, .a (.c (.bx 4 0))), (5, .a (.c (.bx 5 0))), (6, .a (.c (.p (.v (.int .i64 t_8_6))))), (64, .a (.c (.p (.v (.bool (x1 == 2))))))] [(4, .box [.p (.v (.int .i64 0)), .nl 1]), (5, .box [.p (.v (.int .i64 x0)), .vw 10 0 t_8_r5c1.length]), (10, .row 1 (t_8_r5c1.map o_Lint))] [(4, 4), (5, 5), (10, 10)] fol hH hnt (by kernel_rfl) (by kernel_rfl) (C := True) (by kernel_rfl) (trivial) (rfl)) ?_
          refine s_cond ((x1 == 2)) (by kernel_rfl) (fun hb => ?_) (fun hb => ?_)
          · replace h := ite_t hb h
            refine s_seq ?_
            refine s_reg (tr_reg false [] [(0, .a (.c (.p (.v (.int .i64 x0))))), (1, .a (.c (.p (.v (.int .i64 x1))))), (4, .a (.c (.bx 4 0))), (5, .a (.c (.bx 5 0))), (6, .a (.c (.p (.v (.int .i64 t_8_6))))), (67, .a (.c (.p (.v (.bool (decide (t_8_6 > 0)))))))] [(4, .box [.p (.v (.int .i64 0)), .nl 1]), (5, .box [.p (.v (.int .i64 x0)), .vw 10 0 t_8_r5c1.length]), (10, .row 1 (t_8_r5c1.map o_Lint))] [(4, 4), (5, 5), (10, 10)] fol hH hnt (by kernel_rfl) (by kernel_rfl) (C := True) (by kernel_rfl) (trivial) (rfl)) ?_
            refine s_cond (decide (t_8_6 > 0)) (by kernel_rfl) (fun hb => ?_) (fun hb => ?_)
            · replace h := ite_t hb h
              obtain ⟨g38_4_0, h⟩ := gd_some h
              obtain ⟨g38_8_1, h⟩ := gd_some h
              obtain ⟨g38_9_2, h⟩ := gd_some h
              refine s_regz (tr_reg true [.no, .no, .no, .no, .no, .take (o_Lint (nth t_8_r5c1 (0 : Int))), .no, .own false, .news ((([t_8_6] : List Int)).map e_int), .no, .fill ((o_Lint (nth t_8_r5c1 (0 : Int))).set 0 .hole) (((nth t_8_r5c1 (0 : Int)) ++ ([t_8_6] : List Int)).map e_int)] [(0, .a (.c (.p (.v (.int .i64 x0))))), (1, .a (.c (.p (.v (.int .i64 x1))))), (4, .a (.c (.bx 4 0))), (5, .a (.c (.bx 5 0))), (6, .a (.c (.p (.v (.int .i64 t_8_6)))))] [(4, .box [.p (.v (.int .i64 0)), .nl 1]), (5, .box [.p (.v (.int .i64 x0)), .vw 10 0 t_8_r5c1.length]), (10, .row 1 (((t_8_r5c1.map o_Lint).set (0 + ((0 : Int)).toNat) ((o_Lint (nth t_8_r5c1 (0 : Int))).set 0 .hole)).set (0 + ((0 : Int)).toNat) (o_Lint ((nth t_8_r5c1 (0 : Int)) ++ ([t_8_6] : List Int)))))] [(4, 4), (5, 5), (10, 10)] fol hH hnt (by kernel_rfl) (by kernel_rfl) (C := (0 ≤ (0 : Int) ∧ (0 : Int) < ((t_8_r5c1.length : Nat) : Int)) ∧ ((t_8_r5c1.map o_Lint)[0 + ((0 : Int)).toNat]? = some (o_Lint (nth t_8_r5c1 (0 : Int)))) ∧ ((((spRow (([t_8_6] : List Int).map e_int)).drop 0).take (([t_8_6] : List Int).length) = spRow ((([t_8_6] : List Int)).map e_int)) ∧ ((spRow ((nth t_8_r5c1 (0 : Int)).map e_int)).length = (spRow ((nth t_8_r5c1 (0 : Int)).map e_int)).length ∧ ((spRow ((nth t_8_r5c1 (0 : Int)).map e_int)).length + (spRow ((([t_8_6] : List Int)).map e_int)).length) * 8 ≤ 140737488355328)) ∧ (0 ≤ (0 : Int) ∧ (0 : Int) < ((t_8_r5c1.length : Nat) : Int)) ∧ (((t_8_r5c1.map o_Lint).set (0 + ((0 : Int)).toNat) ((o_Lint (nth t_8_r5c1 (0 : Int))).set 0 .hole))[0 + ((0 : Int)).toNat]? = some ((o_Lint (nth t_8_r5c1 (0 : Int))).set 0 .hole) ∧ ((spRow ((nth t_8_r5c1 (0 : Int)).map e_int)) ++ (spRow ((([t_8_6] : List Int)).map e_int))) = spRow (((nth t_8_r5c1 (0 : Int)) ++ ([t_8_6] : List Int)).map e_int) ∧ (((spRow ((nth t_8_r5c1 (0 : Int)).map e_int)) ++ (spRow ((([t_8_6] : List Int)).map e_int))).length) = (((nth t_8_r5c1 (0 : Int)) ++ ([t_8_6] : List Int)).map e_int).length)) (by kernel_rfl) (⟨⟨g38_4_0.1, ltL (rfl) g38_4_0.2⟩, rowGetO (rfl) g38_4_0.1 g38_4_0.2, ⟨rowAll (rfl) (lenMap (rfl)), ⟨rfl, (bnd2 (rowLen (f := e_int) (xs := nth t_8_r5c1 (0 : Int)) (rfl)) (rowLen (f := e_int) (xs := ([t_8_6] : List Int)) (rfl)) g38_8_1).2⟩⟩, ⟨g38_9_2.1, ltL (rfl) g38_9_2.2⟩, ⟨get_set (rowGetO (rfl) g38_4_0.1 g38_4_0.2), rowApp (f := e_int) (xs := nth t_8_r5c1 (0 : Int)) (ys := ([t_8_6] : List Int)) (rfl) (rfl), lenMap (rowLen (rowApp (f := e_int) (xs := nth t_8_r5c1 (0 : Int)) (ys := ([t_8_6] : List Int)) (rfl) (rfl)))⟩⟩) (S := mk [(0, .a (.c (.p (.v (.int .i64 x0))))), (1, .a (.c (.p (.v (.int .i64 x1))))), (4, .a (.c (.bx 4 0))), (5, .a (.c (.bx 5 0))), (6, .a (.c (.p (.v (.int .i64 t_8_6)))))] [(4, .box [.p (.v (.int .i64 0)), .nl 1]), (5, .box [.p (.v (.int .i64 x0)), .vw 10 0 (((t_8_r5c1).set (0 : Int).toNat ((nth t_8_r5c1 (0 : Int)) ++ ([t_8_6] : List Int))).length)]), (10, .row 1 (((t_8_r5c1).set (0 : Int).toNat ((nth t_8_r5c1 (0 : Int)) ++ ([t_8_6] : List Int))).map o_Lint))]) (he2 (fun q0 q1 => mk [(0, .a (.c (.p (.v (.int .i64 x0))))), (1, .a (.c (.p (.v (.int .i64 x1))))), (4, .a (.c (.bx 4 0))), (5, .a (.c (.bx 5 0))), (6, .a (.c (.p (.v (.int .i64 t_8_6)))))] [(4, .box [.p (.v (.int .i64 0)), .nl 1]), (5, .box [.p (.v (.int .i64 x0)), .vw 10 0 q0]), (10, .row 1 (q1))]) (k0 := t_8_r5c1.length) (p0 := ((t_8_r5c1).set (0 : Int).toNat ((nth t_8_r5c1 (0 : Int)) ++ ([t_8_6] : List Int))).length) (((List.length_set).symm : t_8_r5c1.length = ((t_8_r5c1).set (0 : Int).toNat ((nth t_8_r5c1 (0 : Int)) ++ ([t_8_6] : List Int))).length)) (k1 := ((t_8_r5c1.map o_Lint).set (0 + ((0 : Int)).toNat) ((o_Lint (nth t_8_r5c1 (0 : Int))).set 0 .hole)).set (0 + ((0 : Int)).toNat) (o_Lint ((nth t_8_r5c1 (0 : Int)) ++ ([t_8_6] : List Int)))) (p1 := ((t_8_r5c1).set (0 : Int).toNat ((nth t_8_r5c1 (0 : Int)) ++ ([t_8_6] : List Int))).map o_Lint) (rowFill (rfl) (0 : Int) _ ((nth t_8_r5c1 (0 : Int)) ++ ([t_8_6] : List Int))))) (fun σ1 hs => ?_)
              refine s_subc hs ?_
              refine s_regz (tr_reg false [] [(0, .a (.c (.p (.v (.int .i64 x0))))), (1, .a (.c (.p (.v (.int .i64 x1))))), (4, .a (.c (.bx 4 0))), (5, .a (.c (.bx 5 0))), (6, .a (.c (.p (.v (.int .i64 (wr .i64 (t_8_6 + 1)))))))] [(4, .box [.p (.v (.int .i64 0)), .nl 1]), (5, .box [.p (.v (.int .i64 x0)), .vw 10 0 (((t_8_r5c1).set (0 : Int).toNat ((nth t_8_r5c1 (0 : Int)) ++ ([t_8_6] : List Int))).length)]), (10, .row 1 (((t_8_r5c1).set (0 : Int).toNat ((nth t_8_r5c1 (0 : Int)) ++ ([t_8_6] : List Int))).map o_Lint))] [(4, 4), (5, 5), (10, 10)] fol hH hnt (by kernel_rfl) (by kernel_rfl) (C := True) (by kernel_rfl) (trivial) (rfl)) (fun σ1 hs => ?_)
              exact ⟨_, ⟨(t_8_r5c1).set (0 : Int).toNat ((nth t_8_r5c1 (0 : Int)) ++ ([t_8_6] : List Int)), wr .i64 (t_8_6 + 1), h, rfl⟩, hs.trans (Sub.refl)⟩
            · replace h := ite_f hb h
              refine s_skip ?_
              refine s_regz (tr_reg false [] [(0, .a (.c (.p (.v (.int .i64 x0))))), (1, .a (.c (.p (.v (.int .i64 x1))))), (4, .a (.c (.bx 4 0))), (5, .a (.c (.bx 5 0))), (6, .a (.c (.p (.v (.int .i64 (wr .i64 (t_8_6 + 1)))))))] [(4, .box [.p (.v (.int .i64 0)), .nl 1]), (5, .box [.p (.v (.int .i64 x0)), .vw 10 0 t_8_r5c1.length]), (10, .row 1 (t_8_r5c1.map o_Lint))] [(4, 4), (5, 5), (10, 10)] fol hH hnt (by kernel_rfl) (by kernel_rfl) (C := True) (by kernel_rfl) (trivial) (rfl)) (fun σ1 hs => ?_)
              exact ⟨_, ⟨t_8_r5c1, wr .i64 (t_8_6 + 1), h, rfl⟩, hs.trans (Sub.refl)⟩
          · replace h := ite_f hb h
            refine s_seq ?_
            refine s_reg (tr_reg false [] [(0, .a (.c (.p (.v (.int .i64 x0))))), (1, .a (.c (.p (.v (.int .i64 x1))))), (4, .a (.c (.bx 4 0))), (5, .a (.c (.bx 5 0))), (6, .a (.c (.p (.v (.int .i64 t_8_6))))), (7, .a (.c (.p (.v (.int .i64 0)))))] [(4, .box [.p (.v (.int .i64 0)), .nl 1]), (5, .box [.p (.v (.int .i64 x0)), .vw 10 0 t_8_r5c1.length]), (10, .row 1 (t_8_r5c1.map o_Lint))] [(4, 4), (5, 5), (10, 10)] fol hH hnt (by kernel_rfl) (by kernel_rfl) (C := True) (by kernel_rfl) (trivial) (rfl)) ?_
            refine s_block ?_
            refine s_loop (fun k_l2 σ => ∃ (t_43_r5c1 : List (List Int)) (t_43_7 : Int), herbariumlaw7_Made.l2 K (herbariumlaw7_Made.l1 K x0 x1 k_l1) t_8_6 x0 k_l2 t_43_r5c1 t_43_7 = some r ∧ σ = mk [(0, .a (.c (.p (.v (.int .i64 x0))))), (1, .a (.c (.p (.v (.int .i64 x1))))), (4, .a (.c (.bx 4 0))), (5, .a (.c (.bx 5 0))), (6, .a (.c (.p (.v (.int .i64 t_8_6))))), (7, .a (.c (.p (.v (.int .i64 t_43_7)))))] [(4, .box [.p (.v (.int .i64 0)), .nl 1]), (5, .box [.p (.v (.int .i64 x0)), .vw 10 0 t_43_r5c1.length]), (10, .row 1 (t_43_r5c1.map o_Lint))]) ?_ ?_ K ⟨t_8_r5c1, 0, h, rfl⟩
            · rintro _ ⟨t_43_r5c1, t_43_7, h, _⟩
              simp [herbariumlaw7_Made.l2] at h
            · rintro k_l2 _ ⟨t_43_r5c1, t_43_7, h, rfl⟩
              rw [herbariumlaw7_Made.l2] at h
              refine s_seq ?_
              refine s_seq ?_
              refine s_joinJ (fun σ => ∃ (t_46_25 : Bool), herbariumlaw7_Made.j3 K (herbariumlaw7_Made.l1 K x0 x1 k_l1) (herbariumlaw7_Made.l2 K (herbariumlaw7_Made.l1 K x0 x1 k_l1) t_8_6 x0 k_l2) t_43_7 t_43_r5c1 t_8_6 t_46_25 = some r ∧ σ = mk [(0, .a (.c (.p (.v (.int .i64 x0))))), (1, .a (.c (.p (.v (.int .i64 x1))))), (4, .a (.c (.bx 4 0))), (5, .a (.c (.bx 5 0))), (6, .a (.c (.p (.v (.int .i64 t_8_6))))), (7, .a (.c (.p (.v (.int .i64 t_43_7))))), (25, .a (.c (.p (.v (.bool t_46_25)))))] [(4, .box [.p (.v (.int .i64 0)), .nl 1]), (5, .box [.p (.v (.int .i64 x0)), .vw 10 0 t_43_r5c1.length]), (10, .row 1 (t_43_r5c1.map o_Lint))]) ?_ ?_
              · by_cases s46_4 : (decide (t_43_7 < (if 10 < x0 then 10 else x0))) = true
                · replace h := ite_t s46_4 h
                  refine s_regz (tr_reg false [.no, .no, .no, .no, .is true .no] [(0, .a (.c (.p (.v (.int .i64 x0))))), (1, .a (.c (.p (.v (.int .i64 x1))))), (4, .a (.c (.bx 4 0))), (5, .a (.c (.bx 5 0))), (6, .a (.c (.p (.v (.int .i64 t_8_6))))), (7, .a (.c (.p (.v (.int .i64 t_43_7))))), (25, .a (.c (.p (.v (.bool (decide (t_8_6 < 10)))))))] [(4, .box [.p (.v (.int .i64 0)), .nl 1]), (5, .box [.p (.v (.int .i64 x0)), .vw 10 0 t_43_r5c1.length]), (10, .row 1 (t_43_r5c1.map o_Lint))] [(4, 4), (5, 5), (10, 10)] fol hH hnt (by kernel_rfl) (by kernel_rfl) (C := (decide (t_43_7 < (if 10 < x0 then 10 else x0))) = true) (by kernel_rfl) (s46_4) (rfl)) (fun σ1 hs => ?_)
                  exact ⟨_, ⟨decide (t_8_6 < 10), h, rfl⟩, hs.trans (Sub.refl)⟩
                · replace s46_4 := eq_false_of_ne_true s46_4
                  replace h := ite_f s46_4 h
                  refine s_regz (tr_reg false [.no, .no, .no, .no, .is false .no] [(0, .a (.c (.p (.v (.int .i64 x0))))), (1, .a (.c (.p (.v (.int .i64 x1))))), (4, .a (.c (.bx 4 0))), (5, .a (.c (.bx 5 0))), (6, .a (.c (.p (.v (.int .i64 t_8_6))))), (7, .a (.c (.p (.v (.int .i64 t_43_7))))), (25, .a (.c (.p (.v (.bool false)))))] [(4, .box [.p (.v (.int .i64 0)), .nl 1]), (5, .box [.p (.v (.int .i64 x0)), .vw 10 0 t_43_r5c1.length]), (10, .row 1 (t_43_r5c1.map o_Lint))] [(4, 4), (5, 5), (10, 10)] fol hH hnt (by kernel_rfl) (by kernel_rfl) (C := (decide (t_43_7 < (if 10 < x0 then 10 else x0))) = false) (by kernel_rfl) (s46_4) (rfl)) (fun σ1 hs => ?_)
                  exact ⟨_, ⟨false, h, rfl⟩, hs.trans (Sub.refl)⟩
              · rintro _ ⟨t_46_25, h, rfl⟩
                unfold herbariumlaw7_Made.j3 at h
                refine s_cond (t_46_25) (by kernel_rfl) (fun hb => ?_) (fun hb => ?_)
                · replace h := ite_t hb h
                  refine s_skip ?_
                  refine s_seq ?_
                  refine s_block ?_
                  obtain ⟨g52_6_0, h⟩ := gd_some h
                  obtain ⟨g52_10_1, h⟩ := gd_some h
                  obtain ⟨g52_11_2, h⟩ := gd_some h
                  refine s_regz (tr_reg true [.no, .no, .no, .no, .no, .no, .no, .take (o_Lint (nth t_43_r5c1 t_8_6)), .no, .own false, .news ((([t_43_7] : List Int)).map e_int), .no, .fill ((o_Lint (nth t_43_r5c1 t_8_6)).set 0 .hole) (((nth t_43_r5c1 t_8_6) ++ ([t_43_7] : List Int)).map e_int)] [(0, .a (.c (.p (.v (.int .i64 x0))))), (1, .a (.c (.p (.v (.int .i64 x1))))), (4, .a (.c (.bx 4 0))), (5, .a (.c (.bx 5 0))), (6, .a (.c (.p (.v (.int .i64 t_8_6))))), (7, .a (.c (.p (.v (.int .i64 t_43_7)))))] [(4, .box [.p (.v (.int .i64 0)), .nl 1]), (5, .box [.p (.v (.int .i64 x0)), .vw 10 0 t_43_r5c1.length]), (10, .row 1 (((t_43_r5c1.map o_Lint).set (0 + (t_8_6).toNat) ((o_Lint (nth t_43_r5c1 t_8_6)).set 0 .hole)).set (0 + (t_8_6).toNat) (o_Lint ((nth t_43_r5c1 t_8_6) ++ ([t_43_7] : List Int)))))] [(4, 4), (5, 5), (10, 10)] fol hH hnt (by kernel_rfl) (by kernel_rfl) (C := (0 ≤ t_8_6 ∧ t_8_6 < ((t_43_r5c1.length : Nat) : Int)) ∧ ((t_43_r5c1.map o_Lint)[0 + (t_8_6).toNat]? = some (o_Lint (nth t_43_r5c1 t_8_6))) ∧ ((((spRow (([t_43_7] : List Int).map e_int)).drop 0).take (([t_43_7] : List Int).length) = spRow ((([t_43_7] : List Int)).map e_int)) ∧ ((spRow ((nth t_43_r5c1 t_8_6).map e_int)).length = (spRow ((nth t_43_r5c1 t_8_6).map e_int)).length ∧ ((spRow ((nth t_43_r5c1 t_8_6).map e_int)).length + (spRow ((([t_43_7] : List Int)).map e_int)).length) * 8 ≤ 140737488355328)) ∧ (0 ≤ t_8_6 ∧ t_8_6 < ((t_43_r5c1.length : Nat) : Int)) ∧ (((t_43_r5c1.map o_Lint).set (0 + (t_8_6).toNat) ((o_Lint (nth t_43_r5c1 t_8_6)).set 0 .hole))[0 + (t_8_6).toNat]? = some ((o_Lint (nth t_43_r5c1 t_8_6)).set 0 .hole) ∧ ((spRow ((nth t_43_r5c1 t_8_6).map e_int)) ++ (spRow ((([t_43_7] : List Int)).map e_int))) = spRow (((nth t_43_r5c1 t_8_6) ++ ([t_43_7] : List Int)).map e_int) ∧ (((spRow ((nth t_43_r5c1 t_8_6).map e_int)) ++ (spRow ((([t_43_7] : List Int)).map e_int))).length) = (((nth t_43_r5c1 t_8_6) ++ ([t_43_7] : List Int)).map e_int).length)) (by kernel_rfl) (⟨⟨g52_6_0.1, ltL (rfl) g52_6_0.2⟩, rowGetO (rfl) g52_6_0.1 g52_6_0.2, ⟨rowAll (rfl) (lenMap (rfl)), ⟨rfl, (bnd2 (rowLen (f := e_int) (xs := nth t_43_r5c1 t_8_6) (rfl)) (rowLen (f := e_int) (xs := ([t_43_7] : List Int)) (rfl)) g52_10_1).2⟩⟩, ⟨g52_11_2.1, ltL (rfl) g52_11_2.2⟩, ⟨get_set (rowGetO (rfl) g52_6_0.1 g52_6_0.2), rowApp (f := e_int) (xs := nth t_43_r5c1 t_8_6) (ys := ([t_43_7] : List Int)) (rfl) (rfl), lenMap (rowLen (rowApp (f := e_int) (xs := nth t_43_r5c1 t_8_6) (ys := ([t_43_7] : List Int)) (rfl) (rfl)))⟩⟩) (S := mk [(0, .a (.c (.p (.v (.int .i64 x0))))), (1, .a (.c (.p (.v (.int .i64 x1))))), (4, .a (.c (.bx 4 0))), (5, .a (.c (.bx 5 0))), (6, .a (.c (.p (.v (.int .i64 t_8_6))))), (7, .a (.c (.p (.v (.int .i64 t_43_7)))))] [(4, .box [.p (.v (.int .i64 0)), .nl 1]), (5, .box [.p (.v (.int .i64 x0)), .vw 10 0 (((t_43_r5c1).set t_8_6.toNat ((nth t_43_r5c1 t_8_6) ++ ([t_43_7] : List Int))).length)]), (10, .row 1 (((t_43_r5c1).set t_8_6.toNat ((nth t_43_r5c1 t_8_6) ++ ([t_43_7] : List Int))).map o_Lint))]) (he2 (fun q0 q1 => mk [(0, .a (.c (.p (.v (.int .i64 x0))))), (1, .a (.c (.p (.v (.int .i64 x1))))), (4, .a (.c (.bx 4 0))), (5, .a (.c (.bx 5 0))), (6, .a (.c (.p (.v (.int .i64 t_8_6))))), (7, .a (.c (.p (.v (.int .i64 t_43_7)))))] [(4, .box [.p (.v (.int .i64 0)), .nl 1]), (5, .box [.p (.v (.int .i64 x0)), .vw 10 0 q0]), (10, .row 1 (q1))]) (k0 := t_43_r5c1.length) (p0 := ((t_43_r5c1).set t_8_6.toNat ((nth t_43_r5c1 t_8_6) ++ ([t_43_7] : List Int))).length) (((List.length_set).symm : t_43_r5c1.length = ((t_43_r5c1).set t_8_6.toNat ((nth t_43_r5c1 t_8_6) ++ ([t_43_7] : List Int))).length)) (k1 := ((t_43_r5c1.map o_Lint).set (0 + (t_8_6).toNat) ((o_Lint (nth t_43_r5c1 t_8_6)).set 0 .hole)).set (0 + (t_8_6).toNat) (o_Lint ((nth t_43_r5c1 t_8_6) ++ ([t_43_7] : List Int)))) (p1 := ((t_43_r5c1).set t_8_6.toNat ((nth t_43_r5c1 t_8_6) ++ ([t_43_7] : List Int))).map o_Lint) (rowFill (rfl) t_8_6 _ ((nth t_43_r5c1 t_8_6) ++ ([t_43_7] : List Int))))) (fun σ1 hs => ?_)
                  refine s_subc hs ?_
                  refine s_regz (tr_reg false [] [(0, .a (.c (.p (.v (.int .i64 x0))))), (1, .a (.c (.p (.v (.int .i64 x1))))), (4, .a (.c (.bx 4 0))), (5, .a (.c (.bx 5 0))), (6, .a (.c (.p (.v (.int .i64 t_8_6))))), (7, .a (.c (.p (.v (.int .i64 (wr .i64 (t_43_7 + 1)))))))] [(4, .box [.p (.v (.int .i64 0)), .nl 1]), (5, .box [.p (.v (.int .i64 x0)), .vw 10 0 (((t_43_r5c1).set t_8_6.toNat ((nth t_43_r5c1 t_8_6) ++ ([t_43_7] : List Int))).length)]), (10, .row 1 (((t_43_r5c1).set t_8_6.toNat ((nth t_43_r5c1 t_8_6) ++ ([t_43_7] : List Int))).map o_Lint))] [(4, 4), (5, 5), (10, 10)] fol hH hnt (by kernel_rfl) (by kernel_rfl) (C := True) (by kernel_rfl) (trivial) (rfl)) (fun σ1 hs => ?_)
                  exact ⟨_, ⟨(t_43_r5c1).set t_8_6.toNat ((nth t_43_r5c1 t_8_6) ++ ([t_43_7] : List Int)), wr .i64 (t_43_7 + 1), h, rfl⟩, hs.trans (Sub.refl)⟩
                · replace h := ite_f hb h
                  refine s_exit ?_
                  refine qr_exit ?_
                  refine q_hit ?_
                  refine s_regz (tr_reg false [] [(0, .a (.c (.p (.v (.int .i64 x0))))), (1, .a (.c (.p (.v (.int .i64 x1))))), (4, .a (.c (.bx 4 0))), (5, .a (.c (.bx 5 0))), (6, .a (.c (.p (.v (.int .i64 (wr .i64 (t_8_6 + 1)))))))] [(4, .box [.p (.v (.int .i64 0)), .nl 1]), (5, .box [.p (.v (.int .i64 x0)), .vw 10 0 t_43_r5c1.length]), (10, .row 1 (t_43_r5c1.map o_Lint))] [(4, 4), (5, 5), (10, 10)] fol hH hnt (by kernel_rfl) (by kernel_rfl) (C := True) (by kernel_rfl) (trivial) (rfl)) (fun σ1 hs => ?_)
                  exact ⟨_, ⟨t_43_r5c1, wr .i64 (t_8_6 + 1), h, rfl⟩, hs.trans (Sub.refl)⟩
    · replace h := ite_f hb h
      refine s_exit ?_
      refine qr_exit ?_
      refine q_hit ?_
      refine s_seq ?_
      refine s_reg (tr_reg false [] [(4, .a (.c (.bx 4 0)))] [(4, .box [.p (.v (.int .i64 x0)), .vw 10 0 t_8_r5c1.length]), (10, .row 1 (t_8_r5c1.map o_Lint))] [(4, 4), (10, 10)] fol hH hnt (by kernel_rfl) (by kernel_rfl) (C := True) (by kernel_rfl) (trivial) (rfl)) ?_
      refine s_ret ?_
      obtain rfl := Option.some.inj h
      exact ⟨.inr rfl, _, Sub.refl, out_of [(2000001, 10)] (by kernel_rfl) (by kernel_rfl) (by kernel_rfl)⟩
def gaps_Is.A (x0 : Int) : List SV := [.a (.c (.p (.v (.int .i64 x0))))]
def gaps_Is.O0 (x0 : Int) : List (Nat × RS) := []
def gaps_Is.R (r : Bool) : SV := .a (.c (.p (.v (.bool r))))
def gaps_Is.O1 (r : Bool) : List (Nat × RS) := []
theorem gaps_Is.nsR (r : Bool) : nsSV (gaps_Is.R r) := by simp [gaps_Is.R, nsSV, nsAV, nsCV, nsSP]
theorem gaps_Is.nsO (r : Bool) : ∀ k, nsRS (ofL (gaps_Is.O1 r) k) := by
  refine nsOf fun x hx => ?_
  simp only [gaps_Is.O1, List.mem_cons, List.not_mem_nil, or_false] at hx
def gaps_Is (K : Nat) (x0 : Int) : Option Bool :=
  if decide (x0 ≥ 0) then
    some (decide (x0 < 16))
  else
    some false
theorem gaps_Is.ct (K : Nat) (x0 : Int) (r : Bool) (h : gaps_Is K x0 = some r) : Ct PP 123 (gaps_Is.A x0) (ofL (gaps_Is.O0 x0)) (gaps_Is.R r) (ofL (gaps_Is.O1 r)) := by
  unfold gaps_Is at h
  refine ct_of (fn := Try.f123) (c := Try.f123.body.get!) (by kernel_rfl) (by kernel_rfl) [] (by kernel_rfl) (by kernel_rfl) (by kernel_rfl) fun Γ hnt hH => ?_
  refine s_seq ?_
  refine s_reg (tr_reg false [] [(0, .a (.c (.p (.v (.int .i64 x0)))))] [] [] fol hH hnt (by kernel_rfl) (by kernel_rfl) (C := True) (by kernel_rfl) (trivial) (rfl)) ?_
  refine s_seq ?_
  by_cases s3_2 : (decide (x0 ≥ 0)) = true
  · replace h := ite_t s3_2 h
    refine s_reg (tr_reg false [.no, .no, .is true .no] [(2, .a (.c (.p (.v (.bool (decide (x0 < 16)))))))] [] [] fol hH hnt (by kernel_rfl) (by kernel_rfl) (C := (decide (x0 ≥ 0)) = true) (by kernel_rfl) (s3_2) (rfl)) ?_
    refine s_ret ?_
    obtain rfl := Option.some.inj h
    exact ⟨.inr rfl, _, Sub.refl, out_of [] (by kernel_rfl) (by kernel_rfl) (by kernel_rfl)⟩
  · replace s3_2 := eq_false_of_ne_true s3_2
    replace h := ite_f s3_2 h
    refine s_reg (tr_reg false [.no, .no, .is false .no] [(2, .a (.c (.p (.v (.bool false)))))] [] [] fol hH hnt (by kernel_rfl) (by kernel_rfl) (C := (decide (x0 ≥ 0)) = false) (by kernel_rfl) (s3_2) (rfl)) ?_
    refine s_ret ?_
    obtain rfl := Option.some.inj h
    exact ⟨.inr rfl, _, Sub.refl, out_of [] (by kernel_rfl) (by kernel_rfl) (by kernel_rfl)⟩
def gaps_May.A (x0 : List Int) : List SV := [.a (.c (.p (.sl 1 (x0.map e_int))))]
def gaps_May.O0 (x0 : List Int) : List (Nat × RS) := []
def gaps_May.R (r : Bool) : SV := .a (.c (.p (.v (.bool r))))
def gaps_May.O1 (r : Bool) : List (Nat × RS) := []
theorem gaps_May.nsR (r : Bool) : nsSV (gaps_May.R r) := by simp [gaps_May.R, nsSV, nsAV, nsCV, nsSP]
theorem gaps_May.nsO (r : Bool) : ∀ k, nsRS (ofL (gaps_May.O1 r) k) := by
  refine nsOf fun x hx => ?_
  simp only [gaps_May.O1, List.mem_cons, List.not_mem_nil, or_false] at hx
def gaps_May.l1 (K : Nat) (x0 : List Int) : Nat → Int → Option Bool
  | 0, _ => none
  | k + 1, t_6_7 =>
    if decide (t_6_7 < (((x0).length : Nat) : Int)) then
      if 0 ≤ t_6_7 ∧ t_6_7 < ((x0).length : Int) then
      (gaps_Is K (nth x0 t_6_7)).bind fun r18_1 =>
      if !r18_1 then
        some false
      else
        if decide (t_6_7 > 0) then
          if 0 ≤ (wr .i64 (t_6_7 - 1)) ∧ (wr .i64 (t_6_7 - 1)) < ((x0).length : Int) then
          if decide ((nth x0 t_6_7) ≤ (nth x0 (wr .i64 (t_6_7 - 1)))) then
            some false
          else
            gaps_May.l1 K x0 k (wr .i64 (t_6_7 + 1))
          else none
        else
          gaps_May.l1 K x0 k (wr .i64 (t_6_7 + 1))
      else none
    else
      some true
def gaps_May (K : Nat) (x0 : List Int) : Option Bool :=
  gaps_May.l1 K x0 K 0
theorem gaps_May.ct (K : Nat) (x0 : List Int) (r : Bool) (h : gaps_May K x0 = some r) : Ct PP 109 (gaps_May.A x0) (ofL (gaps_May.O0 x0)) (gaps_May.R r) (ofL (gaps_May.O1 r)) := by
  unfold gaps_May at h
  refine ct_of (fn := Try.f109) (c := Try.f109.body.get!) (by kernel_rfl) (by kernel_rfl) [] (by kernel_rfl) (by kernel_rfl) (by kernel_rfl) fun Γ hnt hH => ?_
  refine s_seq ?_
  refine s_reg (tr_reg false [] [(0, .a (.c (.p (.sl 1 (x0.map e_int)))))] [] [] fol hH hnt (by kernel_rfl) (by kernel_rfl) (C := True) (by kernel_rfl) (trivial) (rfl)) ?_
  refine s_seq ?_
  refine s_seq ?_
  refine s_reg (tr_reg false [.no, .val (.int .i64 (((x0).length : Nat) : Int))] [(0, .a (.c (.p (.sl 1 (x0.map e_int))))), (5, .a (.c (.p (.sl 1 (x0.map e_int))))), (6, .a (.c (.p (.v (.int .i64 (((x0).length : Nat) : Int)))))), (7, .a (.c (.p (.v (.int .i64 0)))))] [] [] fol hH hnt (by kernel_rfl) (by kernel_rfl) (C := Value.int .i64 (((x0.map e_int).length : Nat) : Int) = .int .i64 (((x0).length : Nat) : Int)) (by kernel_rfl) (lenV (spLen (f := e_int) (xs := x0) (rfl))) (rfl)) ?_
  refine s_block ?_
  refine s_loop (fun k_l1 σ => ∃ (t_6_7 : Int), gaps_May.l1 K x0 k_l1 t_6_7 = some r ∧ σ = mk [(0, .a (.c (.p (.sl 1 (x0.map e_int))))), (5, .a (.c (.p (.sl 1 (x0.map e_int))))), (6, .a (.c (.p (.v (.int .i64 (((x0).length : Nat) : Int)))))), (7, .a (.c (.p (.v (.int .i64 t_6_7)))))] []) ?_ ?_ K ⟨0, h, rfl⟩
  · rintro _ ⟨t_6_7, h, _⟩
    simp [gaps_May.l1] at h
  · rintro k_l1 _ ⟨t_6_7, h, rfl⟩
    rw [gaps_May.l1] at h
    refine s_seq ?_
    refine s_reg (tr_reg false [] [(0, .a (.c (.p (.sl 1 (x0.map e_int))))), (5, .a (.c (.p (.sl 1 (x0.map e_int))))), (6, .a (.c (.p (.v (.int .i64 (((x0).length : Nat) : Int)))))), (7, .a (.c (.p (.v (.int .i64 t_6_7))))), (8, .a (.c (.p (.v (.bool (decide (t_6_7 < (((x0).length : Nat) : Int))))))))] [] [] fol hH hnt (by kernel_rfl) (by kernel_rfl) (C := True) (by kernel_rfl) (trivial) (rfl)) ?_
    refine s_seq ?_
    refine s_cond (decide (t_6_7 < (((x0).length : Nat) : Int))) (by kernel_rfl) (fun hb => ?_) (fun hb => ?_)
    · replace h := ite_t hb h
      refine s_skip ?_
      refine s_seq ?_
      refine s_block ?_
      refine s_seq ?_
      obtain ⟨g16_1_0, h⟩ := gd_some h
      refine s_reg (tr_reg false [.no, .sps (e_int (nth x0 t_6_7))] [(0, .a (.c (.p (.sl 1 (x0.map e_int))))), (3, .a (.c (.p (.v (.int .i64 t_6_7))))), (4, .a (.c (.p (.v (.int .i64 (nth x0 t_6_7)))))), (5, .a (.c (.p (.sl 1 (x0.map e_int))))), (6, .a (.c (.p (.v (.int .i64 (((x0).length : Nat) : Int)))))), (7, .a (.c (.p (.v (.int .i64 t_6_7)))))] [] [] fol hH hnt (by kernel_rfl) (by kernel_rfl) (C := 0 ≤ t_6_7 ∧ (x0.map e_int)[(t_6_7).toNat]? = some (e_int (nth x0 t_6_7))) (by kernel_rfl) (⟨g16_1_0.1, spGet (rfl) g16_1_0.1 g16_1_0.2⟩) (rfl)) ?_
      refine s_seq ?_
      obtain ⟨r18_1, c18_1, h⟩ := bd_some h
      by_cases s18_3 : (!r18_1) = true
      · replace h := ite_t s18_3 h
        refine s_reg (tr_reg false [.no, .call ⟨gaps_Is.A (nth x0 t_6_7), gaps_Is.O0 (nth x0 t_6_7), [], [], gaps_Is.R r18_1, gaps_Is.O1 r18_1, []⟩, .no, .is true .no] [(0, .a (.c (.p (.sl 1 (x0.map e_int))))), (5, .a (.c (.p (.sl 1 (x0.map e_int))))), (6, .a (.c (.p (.v (.int .i64 (((x0).length : Nat) : Int)))))), (7, .a (.c (.p (.v (.int .i64 t_6_7))))), (27, .a (.c (.p (.v (.bool true)))))] [] [] fol hH hnt (by kernel_rfl) (by kernel_rfl) (C := (Ct PP 123 (gaps_Is.A (nth x0 t_6_7)) (ofL (gaps_Is.O0 (nth x0 t_6_7))) (gaps_Is.R r18_1) (ofL (gaps_Is.O1 r18_1)) ∧ ((trCV [] (.p (.v (.int .i64 (nth x0 t_6_7)))) = some (.p (.v (.int .i64 (nth x0 t_6_7))))) ∧ (True)) ∧ ((True)) ∧ (([] : List Nat) = [] ∨ nsSV (gaps_Is.R r18_1) ∧ nsAll ⟨gaps_Is.A (nth x0 t_6_7), gaps_Is.O0 (nth x0 t_6_7), [], [], gaps_Is.R r18_1, gaps_Is.O1 r18_1, []⟩ [])) ∧ ((!r18_1) = true)) (by kernel_rfl) (⟨⟨gaps_Is.ct K (nth x0 t_6_7) _ c18_1, ⟨rfl, trivial⟩, trivial, Or.inl rfl⟩, s18_3⟩) (rfl)) ?_
        refine s_cond true (by kernel_rfl) (fun hb => ?_) (fun hb => ?_)
        · refine s_seq ?_
          refine s_reg (tr_reg false [] [(2, .a (.c (.p (.v (.bool false)))))] [] [] fol hH hnt (by kernel_rfl) (by kernel_rfl) (C := True) (by kernel_rfl) (trivial) (rfl)) ?_
          refine s_ret ?_
          obtain rfl := Option.some.inj h
          exact ⟨.inr rfl, _, Sub.refl, out_of [] (by kernel_rfl) (by kernel_rfl) (by kernel_rfl)⟩
        · cases hb
      · replace s18_3 := eq_false_of_ne_true s18_3
        replace h := ite_f s18_3 h
        by_cases s18_6 : (decide (t_6_7 > 0)) = true
        · replace h := ite_t s18_6 h
          obtain ⟨g18_11_1, h⟩ := gd_some h
          refine s_reg (tr_reg false [.no, .call ⟨gaps_Is.A (nth x0 t_6_7), gaps_Is.O0 (nth x0 t_6_7), [], [], gaps_Is.R r18_1, gaps_Is.O1 r18_1, []⟩, .no, .is false .no, .no, .no, .is true .no, .no, .no, .no, .no, .sps (e_int (nth x0 (wr .i64 (t_6_7 - 1))))] [(0, .a (.c (.p (.sl 1 (x0.map e_int))))), (5, .a (.c (.p (.sl 1 (x0.map e_int))))), (6, .a (.c (.p (.v (.int .i64 (((x0).length : Nat) : Int)))))), (7, .a (.c (.p (.v (.int .i64 t_6_7))))), (27, .a (.c (.p (.v (.bool (decide ((nth x0 t_6_7) ≤ (nth x0 (wr .i64 (t_6_7 - 1))))))))))] [] [] fol hH hnt (by kernel_rfl) (by kernel_rfl) (C := (Ct PP 123 (gaps_Is.A (nth x0 t_6_7)) (ofL (gaps_Is.O0 (nth x0 t_6_7))) (gaps_Is.R r18_1) (ofL (gaps_Is.O1 r18_1)) ∧ ((trCV [] (.p (.v (.int .i64 (nth x0 t_6_7)))) = some (.p (.v (.int .i64 (nth x0 t_6_7))))) ∧ (True)) ∧ ((True)) ∧ (([] : List Nat) = [] ∨ nsSV (gaps_Is.R r18_1) ∧ nsAll ⟨gaps_Is.A (nth x0 t_6_7), gaps_Is.O0 (nth x0 t_6_7), [], [], gaps_Is.R r18_1, gaps_Is.O1 r18_1, []⟩ [])) ∧ ((!r18_1) = false) ∧ ((decide (t_6_7 > 0)) = true) ∧ (0 ≤ (wr .i64 (t_6_7 - 1)) ∧ (x0.map e_int)[((wr .i64 (t_6_7 - 1))).toNat]? = some (e_int (nth x0 (wr .i64 (t_6_7 - 1)))))) (by kernel_rfl) (⟨⟨gaps_Is.ct K (nth x0 t_6_7) _ c18_1, ⟨rfl, trivial⟩, trivial, Or.inl rfl⟩, s18_3, s18_6, ⟨g18_11_1.1, spGet (rfl) g18_11_1.1 g18_11_1.2⟩⟩) (rfl)) ?_
          refine s_cond (decide ((nth x0 t_6_7) ≤ (nth x0 (wr .i64 (t_6_7 - 1))))) (by kernel_rfl) (fun hb => ?_) (fun hb => ?_)
          · replace h := ite_t hb h
            refine s_seq ?_
            refine s_reg (tr_reg false [] [(2, .a (.c (.p (.v (.bool false)))))] [] [] fol hH hnt (by kernel_rfl) (by kernel_rfl) (C := True) (by kernel_rfl) (trivial) (rfl)) ?_
            refine s_ret ?_
            obtain rfl := Option.some.inj h
            exact ⟨.inr rfl, _, Sub.refl, out_of [] (by kernel_rfl) (by kernel_rfl) (by kernel_rfl)⟩
          · replace h := ite_f hb h
            refine s_skip ?_
            refine s_regz (tr_reg false [] [(0, .a (.c (.p (.sl 1 (x0.map e_int))))), (5, .a (.c (.p (.sl 1 (x0.map e_int))))), (6, .a (.c (.p (.v (.int .i64 (((x0).length : Nat) : Int)))))), (7, .a (.c (.p (.v (.int .i64 (wr .i64 (t_6_7 + 1)))))))] [] [] fol hH hnt (by kernel_rfl) (by kernel_rfl) (C := True) (by kernel_rfl) (trivial) (rfl)) (fun σ1 hs => ?_)
            exact ⟨_, ⟨wr .i64 (t_6_7 + 1), h, rfl⟩, hs.trans (Sub.refl)⟩
        · replace s18_6 := eq_false_of_ne_true s18_6
          replace h := ite_f s18_6 h
          refine s_reg (tr_reg false [.no, .call ⟨gaps_Is.A (nth x0 t_6_7), gaps_Is.O0 (nth x0 t_6_7), [], [], gaps_Is.R r18_1, gaps_Is.O1 r18_1, []⟩, .no, .is false .no, .no, .no, .is false .no] [(0, .a (.c (.p (.sl 1 (x0.map e_int))))), (5, .a (.c (.p (.sl 1 (x0.map e_int))))), (6, .a (.c (.p (.v (.int .i64 (((x0).length : Nat) : Int)))))), (7, .a (.c (.p (.v (.int .i64 t_6_7))))), (27, .a (.c (.p (.v (.bool false)))))] [] [] fol hH hnt (by kernel_rfl) (by kernel_rfl) (C := (Ct PP 123 (gaps_Is.A (nth x0 t_6_7)) (ofL (gaps_Is.O0 (nth x0 t_6_7))) (gaps_Is.R r18_1) (ofL (gaps_Is.O1 r18_1)) ∧ ((trCV [] (.p (.v (.int .i64 (nth x0 t_6_7)))) = some (.p (.v (.int .i64 (nth x0 t_6_7))))) ∧ (True)) ∧ ((True)) ∧ (([] : List Nat) = [] ∨ nsSV (gaps_Is.R r18_1) ∧ nsAll ⟨gaps_Is.A (nth x0 t_6_7), gaps_Is.O0 (nth x0 t_6_7), [], [], gaps_Is.R r18_1, gaps_Is.O1 r18_1, []⟩ [])) ∧ ((!r18_1) = false) ∧ ((decide (t_6_7 > 0)) = false)) (by kernel_rfl) (⟨⟨gaps_Is.ct K (nth x0 t_6_7) _ c18_1, ⟨rfl, trivial⟩, trivial, Or.inl rfl⟩, s18_3, s18_6⟩) (rfl)) ?_
          refine s_cond false (by kernel_rfl) (fun hb => ?_) (fun hb => ?_)
          · cases hb
          · refine s_skip ?_
            refine s_regz (tr_reg false [] [(0, .a (.c (.p (.sl 1 (x0.map e_int))))), (5, .a (.c (.p (.sl 1 (x0.map e_int))))), (6, .a (.c (.p (.v (.int .i64 (((x0).length : Nat) : Int)))))), (7, .a (.c (.p (.v (.int .i64 (wr .i64 (t_6_7 + 1)))))))] [] [] fol hH hnt (by kernel_rfl) (by kernel_rfl) (C := True) (by kernel_rfl) (trivial) (rfl)) (fun σ1 hs => ?_)
            exact ⟨_, ⟨wr .i64 (t_6_7 + 1), h, rfl⟩, hs.trans (Sub.refl)⟩
    · replace h := ite_f hb h
      refine s_exit ?_
      refine qr_exit ?_
      refine q_hit ?_
      refine s_seq ?_
      refine s_reg (tr_reg false [] [(2, .a (.c (.p (.v (.bool true)))))] [] [] fol hH hnt (by kernel_rfl) (by kernel_rfl) (C := True) (by kernel_rfl) (trivial) (rfl)) ?_
      refine s_ret ?_
      obtain rfl := Option.some.inj h
      exact ⟨.inr rfl, _, Sub.refl, out_of [] (by kernel_rfl) (by kernel_rfl) (by kernel_rfl)⟩
def graph_many.A (x0 : api_Graph) : List SV := [.a (.agg [.p (.v (.int .i64 x0.N)), .p (.sl 1 (x0.Out.map e_Lint))])]
def graph_many.O0 (x0 : api_Graph) : List (Nat × RS) := []
def graph_many.R (r : Int) : SV := .a (.c (.p (.v (.int .i64 r))))
def graph_many.O1 (r : Int) : List (Nat × RS) := []
theorem graph_many.nsR (r : Int) : nsSV (graph_many.R r) := by simp [graph_many.R, nsSV, nsAV, nsCV, nsSP]
theorem graph_many.nsO (r : Int) : ∀ k, nsRS (ofL (graph_many.O1 r) k) := by
  refine nsOf fun x hx => ?_
  simp only [graph_many.O1, List.mem_cons, List.not_mem_nil, or_false] at hx
def graph_many.l1 (K : Nat) (x0 : api_Graph) : Nat → Int → Int → Option Int
  | 0, _, _ => none
  | k + 1, n_8_3, t_8_9 =>
    if decide (t_8_9 < (((x0.Out).length : Nat) : Int)) then
      if 0 ≤ t_8_9 ∧ t_8_9 < ((x0.Out).length : Int) then
      graph_many.l1 K x0 k (wr .i64 (n_8_3 + (((nth x0.Out t_8_9).length : Nat) : Int))) (wr .i64 (t_8_9 + 1))
      else none
    else
      some n_8_3
def graph_many (K : Nat) (x0 : api_Graph) : Option Int :=
  graph_many.l1 K x0 K 0 0
theorem graph_many.ct (K : Nat) (x0 : api_Graph) (r : Int) (h : graph_many K x0 = some r) : Ct PP 81 (graph_many.A x0) (ofL (graph_many.O0 x0)) (graph_many.R r) (ofL (graph_many.O1 r)) := by
  unfold graph_many at h
  refine ct_of (fn := Try.f81) (c := Try.f81.body.get!) (by kernel_rfl) (by kernel_rfl) [] (by kernel_rfl) (by kernel_rfl) (by kernel_rfl) fun Γ hnt hH => ?_
  refine s_seq ?_
  refine s_reg (tr_reg false [] [(1, .a (.c (.bx 1 0)))] [(1, .box [.p (.v (.int .i64 x0.N)), .p (.sl 1 (x0.Out.map e_Lint))])] [(1, 1)] fol hH hnt (by kernel_rfl) (by kernel_rfl) (C := True) (by kernel_rfl) (trivial) (rfl)) ?_
  refine s_seq ?_
  refine s_reg (tr_reg false [] [(1, .a (.c (.bx 1 0))), (3, .a (.c (.p (.v (.int .i64 0)))))] [(1, .box [.p (.v (.int .i64 x0.N)), .p (.sl 1 (x0.Out.map e_Lint))])] [(1, 1)] fol hH hnt (by kernel_rfl) (by kernel_rfl) (C := True) (by kernel_rfl) (trivial) (rfl)) ?_
  refine s_seq ?_
  refine s_seq ?_
  refine s_reg (tr_reg false [.no, .no, .val (.int .i64 (((x0.Out).length : Nat) : Int))] [(3, .a (.c (.p (.v (.int .i64 0))))), (7, .a (.c (.p (.sl 1 (x0.Out.map e_Lint))))), (8, .a (.c (.p (.v (.int .i64 (((x0.Out).length : Nat) : Int)))))), (9, .a (.c (.p (.v (.int .i64 0)))))] [] [] fol hH hnt (by kernel_rfl) (by kernel_rfl) (C := Value.int .i64 (((x0.Out.map e_Lint).length : Nat) : Int) = .int .i64 (((x0.Out).length : Nat) : Int)) (by kernel_rfl) (lenV (spLen (f := e_Lint) (xs := x0.Out) (rfl))) (rfl)) ?_
  refine s_block ?_
  refine s_loop (fun k_l1 σ => ∃ (n_8_3 : Int) (t_8_9 : Int), graph_many.l1 K x0 k_l1 n_8_3 t_8_9 = some r ∧ σ = mk [(3, .a (.c (.p (.v (.int .i64 n_8_3))))), (7, .a (.c (.p (.sl 1 (x0.Out.map e_Lint))))), (8, .a (.c (.p (.v (.int .i64 (((x0.Out).length : Nat) : Int)))))), (9, .a (.c (.p (.v (.int .i64 t_8_9)))))] []) ?_ ?_ K ⟨0, 0, h, rfl⟩
  · rintro _ ⟨n_8_3, t_8_9, h, _⟩
    simp [graph_many.l1] at h
  · rintro k_l1 _ ⟨n_8_3, t_8_9, h, rfl⟩
    rw [graph_many.l1] at h
    refine s_seq ?_
    refine s_reg (tr_reg false [] [(3, .a (.c (.p (.v (.int .i64 n_8_3))))), (7, .a (.c (.p (.sl 1 (x0.Out.map e_Lint))))), (8, .a (.c (.p (.v (.int .i64 (((x0.Out).length : Nat) : Int)))))), (9, .a (.c (.p (.v (.int .i64 t_8_9))))), (10, .a (.c (.p (.v (.bool (decide (t_8_9 < (((x0.Out).length : Nat) : Int))))))))] [] [] fol hH hnt (by kernel_rfl) (by kernel_rfl) (C := True) (by kernel_rfl) (trivial) (rfl)) ?_
    refine s_seq ?_
    refine s_cond (decide (t_8_9 < (((x0.Out).length : Nat) : Int))) (by kernel_rfl) (fun hb => ?_) (fun hb => ?_)
    · replace h := ite_t hb h
      refine s_skip ?_
      refine s_seq ?_
      refine s_block ?_
      refine s_seq ?_
      obtain ⟨g18_0_0, h⟩ := gd_some h
      refine s_reg (tr_reg false [.sps (e_Lint (nth x0.Out t_8_9))] [(3, .a (.c (.p (.v (.int .i64 n_8_3))))), (5, .a (.c (.p (.sl 1 ((nth x0.Out t_8_9).map e_int))))), (7, .a (.c (.p (.sl 1 (x0.Out.map e_Lint))))), (8, .a (.c (.p (.v (.int .i64 (((x0.Out).length : Nat) : Int)))))), (9, .a (.c (.p (.v (.int .i64 t_8_9)))))] [] [] fol hH hnt (by kernel_rfl) (by kernel_rfl) (C := 0 ≤ t_8_9 ∧ (x0.Out.map e_Lint)[(t_8_9).toNat]? = some (e_Lint (nth x0.Out t_8_9))) (by kernel_rfl) (⟨g18_0_0.1, spGet (rfl) g18_0_0.1 g18_0_0.2⟩) (rfl)) ?_
      refine s_regz (tr_reg false [.no, .no, .val (.int .i64 (((nth x0.Out t_8_9).length : Nat) : Int))] [(3, .a (.c (.p (.v (.int .i64 (wr .i64 (n_8_3 + (((nth x0.Out t_8_9).length : Nat) : Int)))))))), (7, .a (.c (.p (.sl 1 (x0.Out.map e_Lint))))), (8, .a (.c (.p (.v (.int .i64 (((x0.Out).length : Nat) : Int)))))), (9, .a (.c (.p (.v (.int .i64 t_8_9)))))] [] [] fol hH hnt (by kernel_rfl) (by kernel_rfl) (C := Value.int .i64 ((((nth x0.Out t_8_9).map e_int).length : Nat) : Int) = .int .i64 (((nth x0.Out t_8_9).length : Nat) : Int)) (by kernel_rfl) (lenV (spLen (f := e_int) (xs := nth x0.Out t_8_9) (rfl))) (rfl)) (fun σ1 hs => ?_)
      refine s_subc hs ?_
      refine s_regz (tr_reg false [] [(3, .a (.c (.p (.v (.int .i64 (wr .i64 (n_8_3 + (((nth x0.Out t_8_9).length : Nat) : Int)))))))), (7, .a (.c (.p (.sl 1 (x0.Out.map e_Lint))))), (8, .a (.c (.p (.v (.int .i64 (((x0.Out).length : Nat) : Int)))))), (9, .a (.c (.p (.v (.int .i64 (wr .i64 (t_8_9 + 1)))))))] [] [] fol hH hnt (by kernel_rfl) (by kernel_rfl) (C := True) (by kernel_rfl) (trivial) (rfl)) (fun σ1 hs => ?_)
      exact ⟨_, ⟨wr .i64 (n_8_3 + (((nth x0.Out t_8_9).length : Nat) : Int)), wr .i64 (t_8_9 + 1), h, rfl⟩, hs.trans (Sub.refl)⟩
    · replace h := ite_f hb h
      refine s_exit ?_
      refine qr_exit ?_
      refine q_hit ?_
      refine s_seq ?_
      refine s_reg (tr_reg false [] [(2, .a (.c (.p (.v (.int .i64 n_8_3)))))] [] [] fol hH hnt (by kernel_rfl) (by kernel_rfl) (C := True) (by kernel_rfl) (trivial) (rfl)) ?_
      refine s_ret ?_
      obtain rfl := Option.some.inj h
      exact ⟨.inr rfl, _, Sub.refl, out_of [] (by kernel_rfl) (by kernel_rfl) (by kernel_rfl)⟩
def graph_May.A (x0 : api_Graph) : List SV := [.a (.agg [.p (.v (.int .i64 x0.N)), .p (.sl 1 (x0.Out.map e_Lint))])]
def graph_May.O0 (x0 : api_Graph) : List (Nat × RS) := []
def graph_May.R (r : Bool) : SV := .a (.c (.p (.v (.bool r))))
def graph_May.O1 (r : Bool) : List (Nat × RS) := []
theorem graph_May.nsR (r : Bool) : nsSV (graph_May.R r) := by simp [graph_May.R, nsSV, nsAV, nsCV, nsSP]
theorem graph_May.nsO (r : Bool) : ∀ k, nsRS (ofL (graph_May.O1 r) k) := by
  refine nsOf fun x hx => ?_
  simp only [graph_May.O1, List.mem_cons, List.not_mem_nil, or_false] at hx
def graph_May.l2 (K : Nat) (x0 : api_Graph) : Nat → Int → Option Bool
  | 0, _ => none
  | k + 1, t_14_24 =>
    if decide (t_14_24 < (((x0.Out).length : Nat) : Int)) then
      if 0 ≤ t_14_24 ∧ t_14_24 < ((x0.Out).length : Int) then
      (gaps_May K (nth x0.Out t_14_24)).bind fun r26_1 =>
      if !r26_1 then
        some false
      else
        if decide ((((nth x0.Out t_14_24).length : Nat) : Int) > 0) then
          if 0 ≤ (wr .i64 ((((nth x0.Out t_14_24).length : Nat) : Int) - 1)) ∧ (wr .i64 ((((nth x0.Out t_14_24).length : Nat) : Int) - 1)) < ((nth x0.Out t_14_24).length : Int) then
          if decide ((nth (nth x0.Out t_14_24) (wr .i64 ((((nth x0.Out t_14_24).length : Nat) : Int) - 1))) ≥ x0.N) then
            some false
          else
            graph_May.l2 K x0 k (wr .i64 (t_14_24 + 1))
          else none
        else
          graph_May.l2 K x0 k (wr .i64 (t_14_24 + 1))
      else none
    else
      (graph_many K x0).bind fun r34_1 =>
      some (decide (r34_1 ≤ 120))
def graph_May.j1 (K : Nat) (x0 : api_Graph) (t_4_20 : Bool) : Option Bool :=
  if t_4_20 then
    some false
  else
    graph_May.l2 K x0 K 0
def graph_May (K : Nat) (x0 : api_Graph) : Option Bool :=
  if decide (x0.N < 0) then
    graph_May.j1 K x0 true
  else
    if decide (x0.N > 16) then
      graph_May.j1 K x0 true
    else
      graph_May.j1 K x0 ((((x0.Out).length : Nat) : Int) != x0.N)
theorem graph_May.ct (K : Nat) (x0 : api_Graph) (r : Bool) (h : graph_May K x0 = some r) : Ct PP 75 (graph_May.A x0) (ofL (graph_May.O0 x0)) (graph_May.R r) (ofL (graph_May.O1 r)) := by
  unfold graph_May at h
  refine ct_of (fn := Try.f75) (c := Try.f75.body.get!) (by kernel_rfl) (by kernel_rfl) [] (by kernel_rfl) (by kernel_rfl) (by kernel_rfl) fun Γ hnt hH => ?_
  refine s_seq ?_
  refine s_reg (tr_reg false [] [(1, .a (.c (.bx 1 0)))] [(1, .box [.p (.v (.int .i64 x0.N)), .p (.sl 1 (x0.Out.map e_Lint))])] [(1, 1)] fol hH hnt (by kernel_rfl) (by kernel_rfl) (C := True) (by kernel_rfl) (trivial) (rfl)) ?_
  refine s_seq ?_
  refine s_seq ?_
  refine s_joinJ (fun σ => ∃ (t_4_20 : Bool), graph_May.j1 K x0 t_4_20 = some r ∧ σ = mk [(1, .a (.c (.bx 1 0))), (20, .a (.c (.p (.v (.bool t_4_20)))))] [(1, .box [.p (.v (.int .i64 x0.N)), .p (.sl 1 (x0.Out.map e_Lint))])]) ?_ ?_
  · by_cases s4_3 : (decide (x0.N < 0)) = true
    · replace h := ite_t s4_3 h
      refine s_regz (tr_reg false [.no, .no, .no, .is true .no] [(1, .a (.c (.bx 1 0))), (20, .a (.c (.p (.v (.bool true)))))] [(1, .box [.p (.v (.int .i64 x0.N)), .p (.sl 1 (x0.Out.map e_Lint))])] [(1, 1)] fol hH hnt (by kernel_rfl) (by kernel_rfl) (C := (decide (x0.N < 0)) = true) (by kernel_rfl) (s4_3) (rfl)) (fun σ1 hs => ?_)
      exact ⟨_, ⟨true, h, rfl⟩, hs.trans (Sub.refl)⟩
    · replace s4_3 := eq_false_of_ne_true s4_3
      replace h := ite_f s4_3 h
      by_cases s4_8 : (decide (x0.N > 16)) = true
      · replace h := ite_t s4_8 h
        refine s_regz (tr_reg false [.no, .no, .no, .is false .no, .no, .no, .no, .no, .is true .no] [(1, .a (.c (.bx 1 0))), (20, .a (.c (.p (.v (.bool true)))))] [(1, .box [.p (.v (.int .i64 x0.N)), .p (.sl 1 (x0.Out.map e_Lint))])] [(1, 1)] fol hH hnt (by kernel_rfl) (by kernel_rfl) (C := ((decide (x0.N < 0)) = false) ∧ ((decide (x0.N > 16)) = true)) (by kernel_rfl) (⟨s4_3, s4_8⟩) (rfl)) (fun σ1 hs => ?_)
        exact ⟨_, ⟨true, h, rfl⟩, hs.trans (Sub.refl)⟩
      · replace s4_8 := eq_false_of_ne_true s4_8
        replace h := ite_f s4_8 h
        refine s_regz (tr_reg false [.no, .no, .no, .is false .no, .no, .no, .no, .no, .is false .no, .no, .no, .val (.int .i64 (((x0.Out).length : Nat) : Int))] [(1, .a (.c (.bx 1 0))), (20, .a (.c (.p (.v (.bool ((((x0.Out).length : Nat) : Int) != x0.N))))))] [(1, .box [.p (.v (.int .i64 x0.N)), .p (.sl 1 (x0.Out.map e_Lint))])] [(1, 1)] fol hH hnt (by kernel_rfl) (by kernel_rfl) (C := ((decide (x0.N < 0)) = false) ∧ ((decide (x0.N > 16)) = false) ∧ (Value.int .i64 (((x0.Out.map e_Lint).length : Nat) : Int) = .int .i64 (((x0.Out).length : Nat) : Int))) (by kernel_rfl) (⟨s4_3, s4_8, lenV (spLen (f := e_Lint) (xs := x0.Out) (rfl))⟩) (rfl)) (fun σ1 hs => ?_)
        exact ⟨_, ⟨((((x0.Out).length : Nat) : Int) != x0.N), h, rfl⟩, hs.trans (Sub.refl)⟩
  · rintro _ ⟨t_4_20, h, rfl⟩
    unfold graph_May.j1 at h
    refine s_cond (t_4_20) (by kernel_rfl) (fun hb => ?_) (fun hb => ?_)
    · replace h := ite_t hb h
      refine s_seq ?_
      refine s_reg (tr_reg false [] [(2, .a (.c (.p (.v (.bool false)))))] [] [] fol hH hnt (by kernel_rfl) (by kernel_rfl) (C := True) (by kernel_rfl) (trivial) (rfl)) ?_
      refine s_ret ?_
      obtain rfl := Option.some.inj h
      exact ⟨.inr rfl, _, Sub.refl, out_of [] (by kernel_rfl) (by kernel_rfl) (by kernel_rfl)⟩
    · replace h := ite_f hb h
      refine s_skip ?_
      refine s_seq ?_
      refine s_seq ?_
      refine s_reg (tr_reg false [.no, .no, .val (.int .i64 (((x0.Out).length : Nat) : Int))] [(1, .a (.c (.bx 1 0))), (22, .a (.c (.p (.sl 1 (x0.Out.map e_Lint))))), (23, .a (.c (.p (.v (.int .i64 (((x0.Out).length : Nat) : Int)))))), (24, .a (.c (.p (.v (.int .i64 0)))))] [(1, .box [.p (.v (.int .i64 x0.N)), .p (.sl 1 (x0.Out.map e_Lint))])] [(1, 1)] fol hH hnt (by kernel_rfl) (by kernel_rfl) (C := Value.int .i64 (((x0.Out.map e_Lint).length : Nat) : Int) = .int .i64 (((x0.Out).length : Nat) : Int)) (by kernel_rfl) (lenV (spLen (f := e_Lint) (xs := x0.Out) (rfl))) (rfl)) ?_
      refine s_block ?_
      refine s_loop (fun k_l2 σ => ∃ (t_14_24 : Int), graph_May.l2 K x0 k_l2 t_14_24 = some r ∧ σ = mk [(1, .a (.c (.bx 1 0))), (22, .a (.c (.p (.sl 1 (x0.Out.map e_Lint))))), (23, .a (.c (.p (.v (.int .i64 (((x0.Out).length : Nat) : Int)))))), (24, .a (.c (.p (.v (.int .i64 t_14_24)))))] [(1, .box [.p (.v (.int .i64 x0.N)), .p (.sl 1 (x0.Out.map e_Lint))])]) ?_ ?_ K ⟨0, h, rfl⟩
      · rintro _ ⟨t_14_24, h, _⟩
        simp [graph_May.l2] at h
      · rintro k_l2 _ ⟨t_14_24, h, rfl⟩
        rw [graph_May.l2] at h
        refine s_seq ?_
        refine s_reg (tr_reg false [] [(1, .a (.c (.bx 1 0))), (22, .a (.c (.p (.sl 1 (x0.Out.map e_Lint))))), (23, .a (.c (.p (.v (.int .i64 (((x0.Out).length : Nat) : Int)))))), (24, .a (.c (.p (.v (.int .i64 t_14_24))))), (25, .a (.c (.p (.v (.bool (decide (t_14_24 < (((x0.Out).length : Nat) : Int))))))))] [(1, .box [.p (.v (.int .i64 x0.N)), .p (.sl 1 (x0.Out.map e_Lint))])] [(1, 1)] fol hH hnt (by kernel_rfl) (by kernel_rfl) (C := True) (by kernel_rfl) (trivial) (rfl)) ?_
        refine s_seq ?_
        refine s_cond (decide (t_14_24 < (((x0.Out).length : Nat) : Int))) (by kernel_rfl) (fun hb => ?_) (fun hb => ?_)
        · replace h := ite_t hb h
          refine s_skip ?_
          refine s_seq ?_
          refine s_block ?_
          refine s_seq ?_
          obtain ⟨g24_0_0, h⟩ := gd_some h
          refine s_reg (tr_reg false [.sps (e_Lint (nth x0.Out t_14_24))] [(1, .a (.c (.bx 1 0))), (4, .a (.c (.p (.sl 1 ((nth x0.Out t_14_24).map e_int))))), (22, .a (.c (.p (.sl 1 (x0.Out.map e_Lint))))), (23, .a (.c (.p (.v (.int .i64 (((x0.Out).length : Nat) : Int)))))), (24, .a (.c (.p (.v (.int .i64 t_14_24)))))] [(1, .box [.p (.v (.int .i64 x0.N)), .p (.sl 1 (x0.Out.map e_Lint))])] [(1, 1)] fol hH hnt (by kernel_rfl) (by kernel_rfl) (C := 0 ≤ t_14_24 ∧ (x0.Out.map e_Lint)[(t_14_24).toNat]? = some (e_Lint (nth x0.Out t_14_24))) (by kernel_rfl) (⟨g24_0_0.1, spGet (rfl) g24_0_0.1 g24_0_0.2⟩) (rfl)) ?_
          refine s_seq ?_
          obtain ⟨r26_1, c26_1, h⟩ := bd_some h
          by_cases s26_3 : (!r26_1) = true
          · replace h := ite_t s26_3 h
            refine s_reg (tr_reg true [.no, .call ⟨gaps_May.A (nth x0.Out t_14_24), gaps_May.O0 (nth x0.Out t_14_24), [], [], gaps_May.R r26_1, gaps_May.O1 r26_1, []⟩, .no, .is true .no] [(1, .a (.c (.bx 1 0))), (22, .a (.c (.p (.sl 1 (x0.Out.map e_Lint))))), (23, .a (.c (.p (.v (.int .i64 (((x0.Out).length : Nat) : Int)))))), (24, .a (.c (.p (.v (.int .i64 t_14_24))))), (46, .a (.c (.p (.v (.bool true)))))] [(1, .box [.p (.v (.int .i64 x0.N)), .p (.sl 1 (x0.Out.map e_Lint))])] [(1, 1)] fol hH hnt (by kernel_rfl) (by kernel_rfl) (C := (Ct PP 109 (gaps_May.A (nth x0.Out t_14_24)) (ofL (gaps_May.O0 (nth x0.Out t_14_24))) (gaps_May.R r26_1) (ofL (gaps_May.O1 r26_1)) ∧ ((trCV [] (.p (.sl 1 ((nth x0.Out t_14_24).map e_int))) = some (.p (.sl 1 ((nth x0.Out t_14_24).map e_int)))) ∧ (True)) ∧ ((True)) ∧ (([] : List Nat) = [] ∨ nsSV (gaps_May.R r26_1) ∧ nsAll ⟨gaps_May.A (nth x0.Out t_14_24), gaps_May.O0 (nth x0.Out t_14_24), [], [], gaps_May.R r26_1, gaps_May.O1 r26_1, []⟩ [])) ∧ ((!r26_1) = true)) (by kernel_rfl) (⟨⟨gaps_May.ct K (nth x0.Out t_14_24) _ c26_1, ⟨rfl, trivial⟩, trivial, Or.inl rfl⟩, s26_3⟩) (rfl)) ?_
            refine s_cond true (by kernel_rfl) (fun hb => ?_) (fun hb => ?_)
            · refine s_seq ?_
              refine s_reg (tr_reg false [] [(2, .a (.c (.p (.v (.bool false)))))] [] [] fol hH hnt (by kernel_rfl) (by kernel_rfl) (C := True) (by kernel_rfl) (trivial) (rfl)) ?_
              refine s_ret ?_
              obtain rfl := Option.some.inj h
              exact ⟨.inr rfl, _, Sub.refl, out_of [] (by kernel_rfl) (by kernel_rfl) (by kernel_rfl)⟩
            · cases hb
          · replace s26_3 := eq_false_of_ne_true s26_3
            replace h := ite_f s26_3 h
            by_cases s26_7 : (decide ((((nth x0.Out t_14_24).length : Nat) : Int) > 0)) = true
            · replace h := ite_t s26_7 h
              obtain ⟨g26_12_1, h⟩ := gd_some h
              refine s_reg (tr_reg true [.no, .call ⟨gaps_May.A (nth x0.Out t_14_24), gaps_May.O0 (nth x0.Out t_14_24), [], [], gaps_May.R r26_1, gaps_May.O1 r26_1, []⟩, .no, .is false .no, .no, .val (.int .i64 (((nth x0.Out t_14_24).length : Nat) : Int)), .no, .is true .no, .no, .no, .val (.int .i64 (((nth x0.Out t_14_24).length : Nat) : Int)), .no, .sps (e_int (nth (nth x0.Out t_14_24) (wr .i64 ((((nth x0.Out t_14_24).length : Nat) : Int) - 1))))] [(1, .a (.c (.bx 1 0))), (22, .a (.c (.p (.sl 1 (x0.Out.map e_Lint))))), (23, .a (.c (.p (.v (.int .i64 (((x0.Out).length : Nat) : Int)))))), (24, .a (.c (.p (.v (.int .i64 t_14_24))))), (46, .a (.c (.p (.v (.bool (decide ((nth (nth x0.Out t_14_24) (wr .i64 ((((nth x0.Out t_14_24).length : Nat) : Int) - 1))) ≥ x0.N)))))))] [(1, .box [.p (.v (.int .i64 x0.N)), .p (.sl 1 (x0.Out.map e_Lint))])] [(1, 1)] fol hH hnt (by kernel_rfl) (by kernel_rfl) (C := (Ct PP 109 (gaps_May.A (nth x0.Out t_14_24)) (ofL (gaps_May.O0 (nth x0.Out t_14_24))) (gaps_May.R r26_1) (ofL (gaps_May.O1 r26_1)) ∧ ((trCV [] (.p (.sl 1 ((nth x0.Out t_14_24).map e_int))) = some (.p (.sl 1 ((nth x0.Out t_14_24).map e_int)))) ∧ (True)) ∧ ((True)) ∧ (([] : List Nat) = [] ∨ nsSV (gaps_May.R r26_1) ∧ nsAll ⟨gaps_May.A (nth x0.Out t_14_24), gaps_May.O0 (nth x0.Out t_14_24), [], [], gaps_May.R r26_1, gaps_May.O1 r26_1, []⟩ [])) ∧ ((!r26_1) = false) ∧ (Value.int .i64 ((((nth x0.Out t_14_24).map e_int).length : Nat) : Int) = .int .i64 (((nth x0.Out t_14_24).length : Nat) : Int)) ∧ ((decide ((((nth x0.Out t_14_24).length : Nat) : Int) > 0)) = true) ∧ (Value.int .i64 ((((nth x0.Out t_14_24).map e_int).length : Nat) : Int) = .int .i64 (((nth x0.Out t_14_24).length : Nat) : Int)) ∧ (0 ≤ (wr .i64 ((((nth x0.Out t_14_24).length : Nat) : Int) - 1)) ∧ ((nth x0.Out t_14_24).map e_int)[((wr .i64 ((((nth x0.Out t_14_24).length : Nat) : Int) - 1))).toNat]? = some (e_int (nth (nth x0.Out t_14_24) (wr .i64 ((((nth x0.Out t_14_24).length : Nat) : Int) - 1)))))) (by kernel_rfl) (⟨⟨gaps_May.ct K (nth x0.Out t_14_24) _ c26_1, ⟨rfl, trivial⟩, trivial, Or.inl rfl⟩, s26_3, lenV (spLen (f := e_int) (xs := nth x0.Out t_14_24) (rfl)), s26_7, lenV (spLen (f := e_int) (xs := nth x0.Out t_14_24) (rfl)), ⟨g26_12_1.1, spGet (rfl) g26_12_1.1 g26_12_1.2⟩⟩) (rfl)) ?_
              refine s_cond (decide ((nth (nth x0.Out t_14_24) (wr .i64 ((((nth x0.Out t_14_24).length : Nat) : Int) - 1))) ≥ x0.N)) (by kernel_rfl) (fun hb => ?_) (fun hb => ?_)
              · replace h := ite_t hb h
                refine s_seq ?_
                refine s_reg (tr_reg false [] [(2, .a (.c (.p (.v (.bool false)))))] [] [] fol hH hnt (by kernel_rfl) (by kernel_rfl) (C := True) (by kernel_rfl) (trivial) (rfl)) ?_
                refine s_ret ?_
                obtain rfl := Option.some.inj h
                exact ⟨.inr rfl, _, Sub.refl, out_of [] (by kernel_rfl) (by kernel_rfl) (by kernel_rfl)⟩
              · replace h := ite_f hb h
                refine s_skip ?_
                refine s_regz (tr_reg false [] [(1, .a (.c (.bx 1 0))), (22, .a (.c (.p (.sl 1 (x0.Out.map e_Lint))))), (23, .a (.c (.p (.v (.int .i64 (((x0.Out).length : Nat) : Int)))))), (24, .a (.c (.p (.v (.int .i64 (wr .i64 (t_14_24 + 1)))))))] [(1, .box [.p (.v (.int .i64 x0.N)), .p (.sl 1 (x0.Out.map e_Lint))])] [(1, 1)] fol hH hnt (by kernel_rfl) (by kernel_rfl) (C := True) (by kernel_rfl) (trivial) (rfl)) (fun σ1 hs => ?_)
                exact ⟨_, ⟨wr .i64 (t_14_24 + 1), h, rfl⟩, hs.trans (Sub.refl)⟩
            · replace s26_7 := eq_false_of_ne_true s26_7
              replace h := ite_f s26_7 h
              refine s_reg (tr_reg true [.no, .call ⟨gaps_May.A (nth x0.Out t_14_24), gaps_May.O0 (nth x0.Out t_14_24), [], [], gaps_May.R r26_1, gaps_May.O1 r26_1, []⟩, .no, .is false .no, .no, .val (.int .i64 (((nth x0.Out t_14_24).length : Nat) : Int)), .no, .is false .no] [(1, .a (.c (.bx 1 0))), (22, .a (.c (.p (.sl 1 (x0.Out.map e_Lint))))), (23, .a (.c (.p (.v (.int .i64 (((x0.Out).length : Nat) : Int)))))), (24, .a (.c (.p (.v (.int .i64 t_14_24))))), (46, .a (.c (.p (.v (.bool false)))))] [(1, .box [.p (.v (.int .i64 x0.N)), .p (.sl 1 (x0.Out.map e_Lint))])] [(1, 1)] fol hH hnt (by kernel_rfl) (by kernel_rfl) (C := (Ct PP 109 (gaps_May.A (nth x0.Out t_14_24)) (ofL (gaps_May.O0 (nth x0.Out t_14_24))) (gaps_May.R r26_1) (ofL (gaps_May.O1 r26_1)) ∧ ((trCV [] (.p (.sl 1 ((nth x0.Out t_14_24).map e_int))) = some (.p (.sl 1 ((nth x0.Out t_14_24).map e_int)))) ∧ (True)) ∧ ((True)) ∧ (([] : List Nat) = [] ∨ nsSV (gaps_May.R r26_1) ∧ nsAll ⟨gaps_May.A (nth x0.Out t_14_24), gaps_May.O0 (nth x0.Out t_14_24), [], [], gaps_May.R r26_1, gaps_May.O1 r26_1, []⟩ [])) ∧ ((!r26_1) = false) ∧ (Value.int .i64 ((((nth x0.Out t_14_24).map e_int).length : Nat) : Int) = .int .i64 (((nth x0.Out t_14_24).length : Nat) : Int)) ∧ ((decide ((((nth x0.Out t_14_24).length : Nat) : Int) > 0)) = false)) (by kernel_rfl) (⟨⟨gaps_May.ct K (nth x0.Out t_14_24) _ c26_1, ⟨rfl, trivial⟩, trivial, Or.inl rfl⟩, s26_3, lenV (spLen (f := e_int) (xs := nth x0.Out t_14_24) (rfl)), s26_7⟩) (rfl)) ?_
              refine s_cond false (by kernel_rfl) (fun hb => ?_) (fun hb => ?_)
              · cases hb
              · refine s_skip ?_
                refine s_regz (tr_reg false [] [(1, .a (.c (.bx 1 0))), (22, .a (.c (.p (.sl 1 (x0.Out.map e_Lint))))), (23, .a (.c (.p (.v (.int .i64 (((x0.Out).length : Nat) : Int)))))), (24, .a (.c (.p (.v (.int .i64 (wr .i64 (t_14_24 + 1)))))))] [(1, .box [.p (.v (.int .i64 x0.N)), .p (.sl 1 (x0.Out.map e_Lint))])] [(1, 1)] fol hH hnt (by kernel_rfl) (by kernel_rfl) (C := True) (by kernel_rfl) (trivial) (rfl)) (fun σ1 hs => ?_)
                exact ⟨_, ⟨wr .i64 (t_14_24 + 1), h, rfl⟩, hs.trans (Sub.refl)⟩
        · replace h := ite_f hb h
          refine s_exit ?_
          refine qr_exit ?_
          refine q_hit ?_
          refine s_seq ?_
          obtain ⟨r34_1, c34_1, h⟩ := bd_some h
          refine s_reg (tr_reg false [.no, .call ⟨graph_many.A x0, graph_many.O0 x0, [], [], graph_many.R r34_1, graph_many.O1 r34_1, []⟩] [(2, .a (.c (.p (.v (.bool (decide (r34_1 ≤ 120)))))))] [] [] fol hH hnt (by kernel_rfl) (by kernel_rfl) (C := Ct PP 81 (graph_many.A x0) (ofL (graph_many.O0 x0)) (graph_many.R r34_1) (ofL (graph_many.O1 r34_1)) ∧ (((trCV [] (.p (.v (.int .i64 x0.N))) = some (.p (.v (.int .i64 x0.N)))) ∧ (trCV [] (.p (.sl 1 (x0.Out.map e_Lint))) = some (.p (.sl 1 (x0.Out.map e_Lint)))) ∧ True) ∧ (True)) ∧ ((True)) ∧ (([] : List Nat) = [] ∨ nsSV (graph_many.R r34_1) ∧ nsAll ⟨graph_many.A x0, graph_many.O0 x0, [], [], graph_many.R r34_1, graph_many.O1 r34_1, []⟩ [])) (by kernel_rfl) (⟨graph_many.ct K x0 _ c34_1, ⟨⟨rfl, rfl, trivial⟩, trivial⟩, trivial, Or.inl rfl⟩) (rfl)) ?_
          refine s_ret ?_
          obtain rfl := Option.some.inj h
          exact ⟨.inr rfl, _, Sub.refl, out_of [] (by kernel_rfl) (by kernel_rfl) (by kernel_rfl)⟩
def kernel_Named.A (x0 : Int) : List SV := [.a (.c (.p (.v (.int .i64 x0))))]
def kernel_Named.O0 (x0 : Int) : List (Nat × RS) := []
def kernel_Named.R (r : Bool) : SV := .a (.c (.p (.v (.bool r))))
def kernel_Named.O1 (r : Bool) : List (Nat × RS) := []
theorem kernel_Named.nsR (r : Bool) : nsSV (kernel_Named.R r) := by simp [kernel_Named.R, nsSV, nsAV, nsCV, nsSP]
theorem kernel_Named.nsO (r : Bool) : ∀ k, nsRS (ofL (kernel_Named.O1 r) k) := by
  refine nsOf fun x hx => ?_
  simp only [kernel_Named.O1, List.mem_cons, List.not_mem_nil, or_false] at hx
def kernel_Named (K : Nat) (x0 : Int) : Option Bool :=
  if (x0 == 1) then
    some true
  else
    if (x0 == 2) then
      some true
    else
      some (x0 == 4)
theorem kernel_Named.ct (K : Nat) (x0 : Int) (r : Bool) (h : kernel_Named K x0 = some r) : Ct PP 100 (kernel_Named.A x0) (ofL (kernel_Named.O0 x0)) (kernel_Named.R r) (ofL (kernel_Named.O1 r)) := by
  unfold kernel_Named at h
  refine ct_of (fn := Try.f100) (c := Try.f100.body.get!) (by kernel_rfl) (by kernel_rfl) [] (by kernel_rfl) (by kernel_rfl) (by kernel_rfl) fun Γ hnt hH => ?_
  refine s_seq ?_
  refine s_reg (tr_reg false [] [(0, .a (.c (.p (.v (.int .i64 x0)))))] [] [] fol hH hnt (by kernel_rfl) (by kernel_rfl) (C := True) (by kernel_rfl) (trivial) (rfl)) ?_
  refine s_seq ?_
  by_cases s3_2 : (x0 == 1) = true
  · replace h := ite_t s3_2 h
    refine s_reg (tr_reg false [.no, .no, .is true .no] [(2, .a (.c (.p (.v (.bool true)))))] [] [] fol hH hnt (by kernel_rfl) (by kernel_rfl) (C := (x0 == 1) = true) (by kernel_rfl) (s3_2) (rfl)) ?_
    refine s_ret ?_
    obtain rfl := Option.some.inj h
    exact ⟨.inr rfl, _, Sub.refl, out_of [] (by kernel_rfl) (by kernel_rfl) (by kernel_rfl)⟩
  · replace s3_2 := eq_false_of_ne_true s3_2
    replace h := ite_f s3_2 h
    by_cases s3_6 : (x0 == 2) = true
    · replace h := ite_t s3_6 h
      refine s_reg (tr_reg false [.no, .no, .is false .no, .no, .no, .no, .is true .no] [(2, .a (.c (.p (.v (.bool true)))))] [] [] fol hH hnt (by kernel_rfl) (by kernel_rfl) (C := ((x0 == 1) = false) ∧ ((x0 == 2) = true)) (by kernel_rfl) (⟨s3_2, s3_6⟩) (rfl)) ?_
      refine s_ret ?_
      obtain rfl := Option.some.inj h
      exact ⟨.inr rfl, _, Sub.refl, out_of [] (by kernel_rfl) (by kernel_rfl) (by kernel_rfl)⟩
    · replace s3_6 := eq_false_of_ne_true s3_6
      replace h := ite_f s3_6 h
      refine s_reg (tr_reg false [.no, .no, .is false .no, .no, .no, .no, .is false .no] [(2, .a (.c (.p (.v (.bool (x0 == 4))))))] [] [] fol hH hnt (by kernel_rfl) (by kernel_rfl) (C := ((x0 == 1) = false) ∧ ((x0 == 2) = false)) (by kernel_rfl) (⟨s3_2, s3_6⟩) (rfl)) ?_
      refine s_ret ?_
      obtain rfl := Option.some.inj h
      exact ⟨.inr rfl, _, Sub.refl, out_of [] (by kernel_rfl) (by kernel_rfl) (by kernel_rfl)⟩
def graph_Is.A (x0 : api_Graph) (x1 : Int) : List SV := [.a (.agg [.p (.v (.int .i64 x0.N)), .p (.sl 1 (x0.Out.map e_Lint))]), .a (.c (.p (.v (.int .i64 x1))))]
def graph_Is.O0 (x0 : api_Graph) (x1 : Int) : List (Nat × RS) := []
def graph_Is.R (r : Bool) : SV := .a (.c (.p (.v (.bool r))))
def graph_Is.O1 (r : Bool) : List (Nat × RS) := []
theorem graph_Is.nsR (r : Bool) : nsSV (graph_Is.R r) := by simp [graph_Is.R, nsSV, nsAV, nsCV, nsSP]
theorem graph_Is.nsO (r : Bool) : ∀ k, nsRS (ofL (graph_Is.O1 r) k) := by
  refine nsOf fun x hx => ?_
  simp only [graph_Is.O1, List.mem_cons, List.not_mem_nil, or_false] at hx
def graph_Is (K : Nat) (x0 : api_Graph) (x1 : Int) : Option Bool :=
  if decide (x1 ≥ 0) then
    some (decide (x1 < x0.N))
  else
    some false
theorem graph_Is.ct (K : Nat) (x0 : api_Graph) (x1 : Int) (r : Bool) (h : graph_Is K x0 x1 = some r) : Ct PP 101 (graph_Is.A x0 x1) (ofL (graph_Is.O0 x0 x1)) (graph_Is.R r) (ofL (graph_Is.O1 r)) := by
  unfold graph_Is at h
  refine ct_of (fn := Try.f101) (c := Try.f101.body.get!) (by kernel_rfl) (by kernel_rfl) [] (by kernel_rfl) (by kernel_rfl) (by kernel_rfl) fun Γ hnt hH => ?_
  refine s_seq ?_
  refine s_reg (tr_reg false [] [(1, .a (.c (.p (.v (.int .i64 x1))))), (2, .a (.c (.bx 2 0)))] [(2, .box [.p (.v (.int .i64 x0.N)), .p (.sl 1 (x0.Out.map e_Lint))])] [(2, 2)] fol hH hnt (by kernel_rfl) (by kernel_rfl) (C := True) (by kernel_rfl) (trivial) (rfl)) ?_
  refine s_seq ?_
  by_cases s3_2 : (decide (x1 ≥ 0)) = true
  · replace h := ite_t s3_2 h
    refine s_reg (tr_reg false [.no, .no, .is true .no] [(4, .a (.c (.p (.v (.bool (decide (x1 < x0.N)))))))] [] [] fol hH hnt (by kernel_rfl) (by kernel_rfl) (C := (decide (x1 ≥ 0)) = true) (by kernel_rfl) (s3_2) (rfl)) ?_
    refine s_ret ?_
    obtain rfl := Option.some.inj h
    exact ⟨.inr rfl, _, Sub.refl, out_of [] (by kernel_rfl) (by kernel_rfl) (by kernel_rfl)⟩
  · replace s3_2 := eq_false_of_ne_true s3_2
    replace h := ite_f s3_2 h
    refine s_reg (tr_reg false [.no, .no, .is false .no] [(4, .a (.c (.p (.v (.bool false)))))] [] [] fol hH hnt (by kernel_rfl) (by kernel_rfl) (C := (decide (x1 ≥ 0)) = false) (by kernel_rfl) (s3_2) (rfl)) ?_
    refine s_ret ?_
    obtain rfl := Option.some.inj h
    exact ⟨.inr rfl, _, Sub.refl, out_of [] (by kernel_rfl) (by kernel_rfl) (by kernel_rfl)⟩
def kernel_Asked.A (x0 : api_Graph) (x1 : Int) (x2 : Int) : List SV := [.a (.agg [.p (.v (.int .i64 x0.N)), .p (.sl 1 (x0.Out.map e_Lint))]), .a (.c (.p (.v (.int .i64 x1)))), .a (.c (.p (.v (.int .i64 x2))))]
def kernel_Asked.O0 (x0 : api_Graph) (x1 : Int) (x2 : Int) : List (Nat × RS) := []
def kernel_Asked.R (r : Int) : SV := .a (.c (.p (.v (.int .i64 r))))
def kernel_Asked.O1 (r : Int) : List (Nat × RS) := []
theorem kernel_Asked.nsR (r : Int) : nsSV (kernel_Asked.R r) := by simp [kernel_Asked.R, nsSV, nsAV, nsCV, nsSP]
theorem kernel_Asked.nsO (r : Int) : ∀ k, nsRS (ofL (kernel_Asked.O1 r) k) := by
  refine nsOf fun x hx => ?_
  simp only [kernel_Asked.O1, List.mem_cons, List.not_mem_nil, or_false] at hx
def kernel_Asked.j1 (K : Nat) (x0 : api_Graph) (x1 : Int) (x2 : Int) (t_5_7 : Bool) : Option Int :=
  if t_5_7 then
    some 1
  else
    (kernel_Named K x1).bind fun r11_1 =>
    if r11_1 then
      (graph_Is K x0 x2).bind fun r11_5 =>
      if !r11_5 then
        some 3
      else
        some 0
    else
      some 0
def kernel_Asked (K : Nat) (x0 : api_Graph) (x1 : Int) (x2 : Int) : Option Int :=
  (graph_May K x0).bind fun r5_1 =>
  if !r5_1 then
    kernel_Asked.j1 K x0 x1 x2 true
  else
    if decide (x1 < 1) then
      kernel_Asked.j1 K x0 x1 x2 true
    else
      kernel_Asked.j1 K x0 x1 x2 (decide (x1 > 6))
theorem kernel_Asked.ct (K : Nat) (x0 : api_Graph) (x1 : Int) (x2 : Int) (r : Int) (h : kernel_Asked K x0 x1 x2 = some r) : Ct PP 63 (kernel_Asked.A x0 x1 x2) (ofL (kernel_Asked.O0 x0 x1 x2)) (kernel_Asked.R r) (ofL (kernel_Asked.O1 r)) := by
  unfold kernel_Asked at h
  refine ct_of (fn := Try.f63) (c := Try.f63.body.get!) (by kernel_rfl) (by kernel_rfl) [] (by kernel_rfl) (by kernel_rfl) (by kernel_rfl) fun Γ hnt hH => ?_
  refine s_seq ?_
  refine s_reg (tr_reg false [] [(1, .a (.c (.p (.v (.int .i64 x1))))), (2, .a (.c (.p (.v (.int .i64 x2))))), (3, .a (.c (.bx 3 0)))] [(3, .box [.p (.v (.int .i64 x0.N)), .p (.sl 1 (x0.Out.map e_Lint))])] [(3, 3)] fol hH hnt (by kernel_rfl) (by kernel_rfl) (C := True) (by kernel_rfl) (trivial) (rfl)) ?_
  refine s_seq ?_
  refine s_block ?_
  refine s_seq ?_
  refine s_joinJ (fun σ => ∃ (t_5_7 : Bool), kernel_Asked.j1 K x0 x1 x2 t_5_7 = some r ∧ σ = mk [(1, .a (.c (.p (.v (.int .i64 x1))))), (2, .a (.c (.p (.v (.int .i64 x2))))), (3, .a (.c (.bx 3 0))), (7, .a (.c (.p (.v (.bool t_5_7)))))] [(3, .box [.p (.v (.int .i64 x0.N)), .p (.sl 1 (x0.Out.map e_Lint))])]) ?_ ?_
  · obtain ⟨r5_1, c5_1, h⟩ := bd_some h
    by_cases s5_3 : (!r5_1) = true
    · replace h := ite_t s5_3 h
      refine s_regz (tr_reg false [.no, .call ⟨graph_May.A x0, graph_May.O0 x0, [], [], graph_May.R r5_1, graph_May.O1 r5_1, []⟩, .no, .is true .no] [(1, .a (.c (.p (.v (.int .i64 x1))))), (2, .a (.c (.p (.v (.int .i64 x2))))), (3, .a (.c (.bx 3 0))), (7, .a (.c (.p (.v (.bool true)))))] [(3, .box [.p (.v (.int .i64 x0.N)), .p (.sl 1 (x0.Out.map e_Lint))])] [(3, 3)] fol hH hnt (by kernel_rfl) (by kernel_rfl) (C := (Ct PP 75 (graph_May.A x0) (ofL (graph_May.O0 x0)) (graph_May.R r5_1) (ofL (graph_May.O1 r5_1)) ∧ (((trCV [] (.p (.v (.int .i64 x0.N))) = some (.p (.v (.int .i64 x0.N)))) ∧ (trCV [] (.p (.sl 1 (x0.Out.map e_Lint))) = some (.p (.sl 1 (x0.Out.map e_Lint)))) ∧ True) ∧ (True)) ∧ ((True)) ∧ (([] : List Nat) = [] ∨ nsSV (graph_May.R r5_1) ∧ nsAll ⟨graph_May.A x0, graph_May.O0 x0, [], [], graph_May.R r5_1, graph_May.O1 r5_1, []⟩ [])) ∧ ((!r5_1) = true)) (by kernel_rfl) (⟨⟨graph_May.ct K x0 _ c5_1, ⟨⟨rfl, rfl, trivial⟩, trivial⟩, trivial, Or.inl rfl⟩, s5_3⟩) (rfl)) (fun σ1 hs => ?_)
      exact ⟨_, ⟨true, h, rfl⟩, hs.trans (Sub.refl)⟩
    · replace s5_3 := eq_false_of_ne_true s5_3
      replace h := ite_f s5_3 h
      by_cases s5_7 : (decide (x1 < 1)) = true
      · replace h := ite_t s5_7 h
        refine s_regz (tr_reg false [.no, .call ⟨graph_May.A x0, graph_May.O0 x0, [], [], graph_May.R r5_1, graph_May.O1 r5_1, []⟩, .no, .is false .no, .no, .no, .no, .is true .no] [(1, .a (.c (.p (.v (.int .i64 x1))))), (2, .a (.c (.p (.v (.int .i64 x2))))), (3, .a (.c (.bx 3 0))), (7, .a (.c (.p (.v (.bool true)))))] [(3, .box [.p (.v (.int .i64 x0.N)), .p (.sl 1 (x0.Out.map e_Lint))])] [(3, 3)] fol hH hnt (by kernel_rfl) (by kernel_rfl) (C := (Ct PP 75 (graph_May.A x0) (ofL (graph_May.O0 x0)) (graph_May.R r5_1) (ofL (graph_May.O1 r5_1)) ∧ (((trCV [] (.p (.v (.int .i64 x0.N))) = some (.p (.v (.int .i64 x0.N)))) ∧ (trCV [] (.p (.sl 1 (x0.Out.map e_Lint))) = some (.p (.sl 1 (x0.Out.map e_Lint)))) ∧ True) ∧ (True)) ∧ ((True)) ∧ (([] : List Nat) = [] ∨ nsSV (graph_May.R r5_1) ∧ nsAll ⟨graph_May.A x0, graph_May.O0 x0, [], [], graph_May.R r5_1, graph_May.O1 r5_1, []⟩ [])) ∧ ((!r5_1) = false) ∧ ((decide (x1 < 1)) = true)) (by kernel_rfl) (⟨⟨graph_May.ct K x0 _ c5_1, ⟨⟨rfl, rfl, trivial⟩, trivial⟩, trivial, Or.inl rfl⟩, s5_3, s5_7⟩) (rfl)) (fun σ1 hs => ?_)
        exact ⟨_, ⟨true, h, rfl⟩, hs.trans (Sub.refl)⟩
      · replace s5_7 := eq_false_of_ne_true s5_7
        replace h := ite_f s5_7 h
        refine s_regz (tr_reg false [.no, .call ⟨graph_May.A x0, graph_May.O0 x0, [], [], graph_May.R r5_1, graph_May.O1 r5_1, []⟩, .no, .is false .no, .no, .no, .no, .is false .no] [(1, .a (.c (.p (.v (.int .i64 x1))))), (2, .a (.c (.p (.v (.int .i64 x2))))), (3, .a (.c (.bx 3 0))), (7, .a (.c (.p (.v (.bool (decide (x1 > 6)))))))] [(3, .box [.p (.v (.int .i64 x0.N)), .p (.sl 1 (x0.Out.map e_Lint))])] [(3, 3)] fol hH hnt (by kernel_rfl) (by kernel_rfl) (C := (Ct PP 75 (graph_May.A x0) (ofL (graph_May.O0 x0)) (graph_May.R r5_1) (ofL (graph_May.O1 r5_1)) ∧ (((trCV [] (.p (.v (.int .i64 x0.N))) = some (.p (.v (.int .i64 x0.N)))) ∧ (trCV [] (.p (.sl 1 (x0.Out.map e_Lint))) = some (.p (.sl 1 (x0.Out.map e_Lint)))) ∧ True) ∧ (True)) ∧ ((True)) ∧ (([] : List Nat) = [] ∨ nsSV (graph_May.R r5_1) ∧ nsAll ⟨graph_May.A x0, graph_May.O0 x0, [], [], graph_May.R r5_1, graph_May.O1 r5_1, []⟩ [])) ∧ ((!r5_1) = false) ∧ ((decide (x1 < 1)) = false)) (by kernel_rfl) (⟨⟨graph_May.ct K x0 _ c5_1, ⟨⟨rfl, rfl, trivial⟩, trivial⟩, trivial, Or.inl rfl⟩, s5_3, s5_7⟩) (rfl)) (fun σ1 hs => ?_)
        exact ⟨_, ⟨decide (x1 > 6), h, rfl⟩, hs.trans (Sub.refl)⟩
  · rintro _ ⟨t_5_7, h, rfl⟩
    unfold kernel_Asked.j1 at h
    refine s_cond (t_5_7) (by kernel_rfl) (fun hb => ?_) (fun hb => ?_)
    · replace h := ite_t hb h
      refine s_seq ?_
      refine s_reg (tr_reg false [] [(6, .a (.c (.p (.v (.int .i64 1)))))] [] [] fol hH hnt (by kernel_rfl) (by kernel_rfl) (C := True) (by kernel_rfl) (trivial) (rfl)) ?_
      refine s_ret ?_
      obtain rfl := Option.some.inj h
      exact ⟨.inr rfl, _, Sub.refl, out_of [] (by kernel_rfl) (by kernel_rfl) (by kernel_rfl)⟩
    · replace h := ite_f hb h
      refine s_seq ?_
      obtain ⟨r11_1, c11_1, h⟩ := bd_some h
      by_cases s11_2 : r11_1 = true
      · replace h := ite_t s11_2 h
        obtain ⟨r11_5, c11_5, h⟩ := bd_some h
        refine s_reg (tr_reg false [.no, .call ⟨kernel_Named.A x1, kernel_Named.O0 x1, [], [], kernel_Named.R r11_1, kernel_Named.O1 r11_1, []⟩, .is true .no, .no, .no, .call ⟨graph_Is.A x0 x2, graph_Is.O0 x0 x2, [], [], graph_Is.R r11_5, graph_Is.O1 r11_5, []⟩] [(19, .a (.c (.p (.v (.bool (!r11_5))))))] [] [] fol hH hnt (by kernel_rfl) (by kernel_rfl) (C := (Ct PP 100 (kernel_Named.A x1) (ofL (kernel_Named.O0 x1)) (kernel_Named.R r11_1) (ofL (kernel_Named.O1 r11_1)) ∧ ((trCV [] (.p (.v (.int .i64 x1))) = some (.p (.v (.int .i64 x1)))) ∧ (True)) ∧ ((True)) ∧ (([] : List Nat) = [] ∨ nsSV (kernel_Named.R r11_1) ∧ nsAll ⟨kernel_Named.A x1, kernel_Named.O0 x1, [], [], kernel_Named.R r11_1, kernel_Named.O1 r11_1, []⟩ [])) ∧ (r11_1 = true) ∧ (Ct PP 101 (graph_Is.A x0 x2) (ofL (graph_Is.O0 x0 x2)) (graph_Is.R r11_5) (ofL (graph_Is.O1 r11_5)) ∧ (((trCV [] (.p (.v (.int .i64 x0.N))) = some (.p (.v (.int .i64 x0.N)))) ∧ (trCV [] (.p (.sl 1 (x0.Out.map e_Lint))) = some (.p (.sl 1 (x0.Out.map e_Lint)))) ∧ True) ∧ (trCV [] (.p (.v (.int .i64 x2))) = some (.p (.v (.int .i64 x2)))) ∧ (True)) ∧ ((True)) ∧ (([] : List Nat) = [] ∨ nsSV (graph_Is.R r11_5) ∧ nsAll ⟨graph_Is.A x0 x2, graph_Is.O0 x0 x2, [], [], graph_Is.R r11_5, graph_Is.O1 r11_5, []⟩ []))) (by kernel_rfl) (⟨⟨kernel_Named.ct K x1 _ c11_1, ⟨rfl, trivial⟩, trivial, Or.inl rfl⟩, s11_2, ⟨graph_Is.ct K x0 x2 _ c11_5, ⟨⟨rfl, rfl, trivial⟩, rfl, trivial⟩, trivial, Or.inl rfl⟩⟩) (rfl)) ?_
        refine s_cond (!r11_5) (by kernel_rfl) (fun hb => ?_) (fun hb => ?_)
        · replace h := ite_t hb h
          refine s_seq ?_
          refine s_reg (tr_reg false [] [(6, .a (.c (.p (.v (.int .i64 3)))))] [] [] fol hH hnt (by kernel_rfl) (by kernel_rfl) (C := True) (by kernel_rfl) (trivial) (rfl)) ?_
          refine s_ret ?_
          obtain rfl := Option.some.inj h
          exact ⟨.inr rfl, _, Sub.refl, out_of [] (by kernel_rfl) (by kernel_rfl) (by kernel_rfl)⟩
        · replace h := ite_f hb h
          refine s_skip ?_
          refine s_seq ?_
          refine s_reg (tr_reg false [] [(6, .a (.c (.p (.v (.int .i64 0)))))] [] [] fol hH hnt (by kernel_rfl) (by kernel_rfl) (C := True) (by kernel_rfl) (trivial) (rfl)) ?_
          refine s_ret ?_
          obtain rfl := Option.some.inj h
          exact ⟨.inr rfl, _, Sub.refl, out_of [] (by kernel_rfl) (by kernel_rfl) (by kernel_rfl)⟩
      · replace s11_2 := eq_false_of_ne_true s11_2
        replace h := ite_f s11_2 h
        refine s_reg (tr_reg false [.no, .call ⟨kernel_Named.A x1, kernel_Named.O0 x1, [], [], kernel_Named.R r11_1, kernel_Named.O1 r11_1, []⟩, .is false .no] [(19, .a (.c (.p (.v (.bool false)))))] [] [] fol hH hnt (by kernel_rfl) (by kernel_rfl) (C := (Ct PP 100 (kernel_Named.A x1) (ofL (kernel_Named.O0 x1)) (kernel_Named.R r11_1) (ofL (kernel_Named.O1 r11_1)) ∧ ((trCV [] (.p (.v (.int .i64 x1))) = some (.p (.v (.int .i64 x1)))) ∧ (True)) ∧ ((True)) ∧ (([] : List Nat) = [] ∨ nsSV (kernel_Named.R r11_1) ∧ nsAll ⟨kernel_Named.A x1, kernel_Named.O0 x1, [], [], kernel_Named.R r11_1, kernel_Named.O1 r11_1, []⟩ [])) ∧ (r11_1 = false)) (by kernel_rfl) (⟨⟨kernel_Named.ct K x1 _ c11_1, ⟨rfl, trivial⟩, trivial, Or.inl rfl⟩, s11_2⟩) (rfl)) ?_
        refine s_cond false (by kernel_rfl) (fun hb => ?_) (fun hb => ?_)
        · cases hb
        · refine s_skip ?_
          refine s_seq ?_
          refine s_reg (tr_reg false [] [(6, .a (.c (.p (.v (.int .i64 0)))))] [] [] fol hH hnt (by kernel_rfl) (by kernel_rfl) (C := True) (by kernel_rfl) (trivial) (rfl)) ?_
          refine s_ret ?_
          obtain rfl := Option.some.inj h
          exact ⟨.inr rfl, _, Sub.refl, out_of [] (by kernel_rfl) (by kernel_rfl) (by kernel_rfl)⟩
def math_bits_Mul32.A (x0 : Int) (x1 : Int) : List SV := [.a (.c (.p (.v (.int .u32 x0)))), .a (.c (.p (.v (.int .u32 x1))))]
def math_bits_Mul32.O0 (x0 : Int) (x1 : Int) : List (Nat × RS) := []
def math_bits_Mul32.R (r : Int × Int) : SV := .tup [.c (.p (.v (.int .u32 r.1))), .c (.p (.v (.int .u32 r.2)))]
def math_bits_Mul32.O1 (r : Int × Int) : List (Nat × RS) := []
theorem math_bits_Mul32.nsR (r : Int × Int) : nsSV (math_bits_Mul32.R r) := by simp [math_bits_Mul32.R, nsSV, nsAV, nsCV, nsSP]
theorem math_bits_Mul32.nsO (r : Int × Int) : ∀ k, nsRS (ofL (math_bits_Mul32.O1 r) k) := by
  refine nsOf fun x hx => ?_
  simp only [math_bits_Mul32.O1, List.mem_cons, List.not_mem_nil, or_false] at hx
def math_bits_Mul32 (K : Nat) (x0 : Int) (x1 : Int) : Option (Int × Int) :=
  some (wr .u32 ((wr .u64 ((wr .u64 x0) * (wr .u64 x1))).fdiv (2 ^ min ((32 : Int)).toNat 64)), wr .u32 (wr .u64 ((wr .u64 x0) * (wr .u64 x1))))
theorem math_bits_Mul32.ct (K : Nat) (x0 : Int) (x1 : Int) (r : Int × Int) (h : math_bits_Mul32 K x0 x1 = some r) : Ct PP 133 (math_bits_Mul32.A x0 x1) (ofL (math_bits_Mul32.O0 x0 x1)) (math_bits_Mul32.R r) (ofL (math_bits_Mul32.O1 r)) := by
  unfold math_bits_Mul32 at h
  refine ct_of (fn := Try.f133) (c := Try.f133.body.get!) (by kernel_rfl) (by kernel_rfl) [] (by kernel_rfl) (by kernel_rfl) (by kernel_rfl) fun Γ hnt hH => ?_
  refine s_seq ?_
  refine s_reg (tr_reg false [] [(0, .a (.c (.p (.v (.int .u32 x0))))), (1, .a (.c (.p (.v (.int .u32 x1)))))] [] [] fol hH hnt (by kernel_rfl) (by kernel_rfl) (C := True) (by kernel_rfl) (trivial) (rfl)) ?_
  refine s_seq ?_
  refine s_reg (tr_reg false [] [(6, .a (.c (.p (.v (.int .u64 (wr .u64 ((wr .u64 x0) * (wr .u64 x1))))))))] [] [] fol hH hnt (by kernel_rfl) (by kernel_rfl) (C := True) (by kernel_rfl) (trivial) (rfl)) ?_
  refine s_seq ?_
  refine s_reg (tr_reg false [] [(4, .a (.c (.p (.v (.int .u32 (wr .u32 ((wr .u64 ((wr .u64 x0) * (wr .u64 x1))).fdiv (2 ^ min ((32 : Int)).toNat 64)))))))), (5, .a (.c (.p (.v (.int .u32 (wr .u32 (wr .u64 ((wr .u64 x0) * (wr .u64 x1)))))))))] [] [] fol hH hnt (by kernel_rfl) (by kernel_rfl) (C := (0 : Int) ≤ 32) (by kernel_rfl) (by decide) (rfl)) ?_
  refine s_ret ?_
  obtain rfl := Option.some.inj h
  exact ⟨.inr rfl, _, Sub.refl, out_of [] (by kernel_rfl) (by kernel_rfl) (by kernel_rfl)⟩
def math_bits_Mul64.A (x0 : Int) (x1 : Int) : List SV := [.a (.c (.p (.v (.int .u64 x0)))), .a (.c (.p (.v (.int .u64 x1))))]
def math_bits_Mul64.O0 (x0 : Int) (x1 : Int) : List (Nat × RS) := []
def math_bits_Mul64.R (r : Int × Int) : SV := .tup [.c (.p (.v (.int .u64 r.1))), .c (.p (.v (.int .u64 r.2)))]
def math_bits_Mul64.O1 (r : Int × Int) : List (Nat × RS) := []
theorem math_bits_Mul64.nsR (r : Int × Int) : nsSV (math_bits_Mul64.R r) := by simp [math_bits_Mul64.R, nsSV, nsAV, nsCV, nsSP]
theorem math_bits_Mul64.nsO (r : Int × Int) : ∀ k, nsRS (ofL (math_bits_Mul64.O1 r) k) := by
  refine nsOf fun x hx => ?_
  simp only [math_bits_Mul64.O1, List.mem_cons, List.not_mem_nil, or_false] at hx
def math_bits_Mul64 (K : Nat) (x0 : Int) (x1 : Int) : Option (Int × Int) :=
  some (wr .u64 ((wr .u64 ((wr .u64 ((x0.fdiv (2 ^ min ((32 : Int)).toNat 64)) * (x1.fdiv (2 ^ min ((32 : Int)).toNat 64)))) + ((wr .u64 ((wr .u64 ((x0.fdiv (2 ^ min ((32 : Int)).toNat 64)) * (ib .and .u64 x1 4294967295))) + ((wr .u64 ((ib .and .u64 x0 4294967295) * (ib .and .u64 x1 4294967295))).fdiv (2 ^ min ((32 : Int)).toNat 64)))).fdiv (2 ^ min ((32 : Int)).toNat 64)))) + ((wr .u64 ((ib .and .u64 (wr .u64 ((wr .u64 ((x0.fdiv (2 ^ min ((32 : Int)).toNat 64)) * (ib .and .u64 x1 4294967295))) + ((wr .u64 ((ib .and .u64 x0 4294967295) * (ib .and .u64 x1 4294967295))).fdiv (2 ^ min ((32 : Int)).toNat 64)))) 4294967295) + (wr .u64 ((ib .and .u64 x0 4294967295) * (x1.fdiv (2 ^ min ((32 : Int)).toNat 64)))))).fdiv (2 ^ min ((32 : Int)).toNat 64))), wr .u64 (x0 * x1))
theorem math_bits_Mul64.ct (K : Nat) (x0 : Int) (x1 : Int) (r : Int × Int) (h : math_bits_Mul64 K x0 x1 = some r) : Ct PP 134 (math_bits_Mul64.A x0 x1) (ofL (math_bits_Mul64.O0 x0 x1)) (math_bits_Mul64.R r) (ofL (math_bits_Mul64.O1 r)) := by
  unfold math_bits_Mul64 at h
  refine ct_of (fn := Try.f134) (c := Try.f134.body.get!) (by kernel_rfl) (by kernel_rfl) [] (by kernel_rfl) (by kernel_rfl) (by kernel_rfl) fun Γ hnt hH => ?_
  refine s_seq ?_
  refine s_reg (tr_reg false [] [(0, .a (.c (.p (.v (.int .u64 x0))))), (1, .a (.c (.p (.v (.int .u64 x1)))))] [] [] fol hH hnt (by kernel_rfl) (by kernel_rfl) (C := True) (by kernel_rfl) (trivial) (rfl)) ?_
  refine s_seq ?_
  refine s_reg (tr_reg false [] [(0, .a (.c (.p (.v (.int .u64 x0))))), (1, .a (.c (.p (.v (.int .u64 x1))))), (6, .a (.c (.p (.v (.int .u64 (ib .and .u64 x0 4294967295))))))] [] [] fol hH hnt (by kernel_rfl) (by kernel_rfl) (C := True) (by kernel_rfl) (trivial) (rfl)) ?_
  refine s_seq ?_
  refine s_reg (tr_reg false [] [(0, .a (.c (.p (.v (.int .u64 x0))))), (1, .a (.c (.p (.v (.int .u64 x1))))), (6, .a (.c (.p (.v (.int .u64 (ib .and .u64 x0 4294967295)))))), (7, .a (.c (.p (.v (.int .u64 (x0.fdiv (2 ^ min ((32 : Int)).toNat 64)))))))] [] [] fol hH hnt (by kernel_rfl) (by kernel_rfl) (C := (0 : Int) ≤ 32) (by kernel_rfl) (by decide) (rfl)) ?_
  refine s_seq ?_
  refine s_reg (tr_reg false [] [(0, .a (.c (.p (.v (.int .u64 x0))))), (1, .a (.c (.p (.v (.int .u64 x1))))), (6, .a (.c (.p (.v (.int .u64 (ib .and .u64 x0 4294967295)))))), (7, .a (.c (.p (.v (.int .u64 (x0.fdiv (2 ^ min ((32 : Int)).toNat 64))))))), (8, .a (.c (.p (.v (.int .u64 (ib .and .u64 x1 4294967295))))))] [] [] fol hH hnt (by kernel_rfl) (by kernel_rfl) (C := True) (by kernel_rfl) (trivial) (rfl)) ?_
  refine s_seq ?_
  refine s_reg (tr_reg false [] [(0, .a (.c (.p (.v (.int .u64 x0))))), (1, .a (.c (.p (.v (.int .u64 x1))))), (6, .a (.c (.p (.v (.int .u64 (ib .and .u64 x0 4294967295)))))), (7, .a (.c (.p (.v (.int .u64 (x0.fdiv (2 ^ min ((32 : Int)).toNat 64))))))), (8, .a (.c (.p (.v (.int .u64 (ib .and .u64 x1 4294967295)))))), (9, .a (.c (.p (.v (.int .u64 (x1.fdiv (2 ^ min ((32 : Int)).toNat 64)))))))] [] [] fol hH hnt (by kernel_rfl) (by kernel_rfl) (C := (0 : Int) ≤ 32) (by kernel_rfl) (by decide) (rfl)) ?_
  refine s_seq ?_
  refine s_reg (tr_reg false [] [(0, .a (.c (.p (.v (.int .u64 x0))))), (1, .a (.c (.p (.v (.int .u64 x1))))), (6, .a (.c (.p (.v (.int .u64 (ib .and .u64 x0 4294967295)))))), (7, .a (.c (.p (.v (.int .u64 (x0.fdiv (2 ^ min ((32 : Int)).toNat 64))))))), (8, .a (.c (.p (.v (.int .u64 (ib .and .u64 x1 4294967295)))))), (9, .a (.c (.p (.v (.int .u64 (x1.fdiv (2 ^ min ((32 : Int)).toNat 64))))))), (10, .a (.c (.p (.v (.int .u64 (wr .u64 ((ib .and .u64 x0 4294967295) * (ib .and .u64 x1 4294967295))))))))] [] [] fol hH hnt (by kernel_rfl) (by kernel_rfl) (C := True) (by kernel_rfl) (trivial) (rfl)) ?_
  refine s_seq ?_
  refine s_reg (tr_reg false [] [(0, .a (.c (.p (.v (.int .u64 x0))))), (1, .a (.c (.p (.v (.int .u64 x1))))), (6, .a (.c (.p (.v (.int .u64 (ib .and .u64 x0 4294967295)))))), (7, .a (.c (.p (.v (.int .u64 (x0.fdiv (2 ^ min ((32 : Int)).toNat 64))))))), (9, .a (.c (.p (.v (.int .u64 (x1.fdiv (2 ^ min ((32 : Int)).toNat 64))))))), (11, .a (.c (.p (.v (.int .u64 (wr .u64 ((wr .u64 ((x0.fdiv (2 ^ min ((32 : Int)).toNat 64)) * (ib .and .u64 x1 4294967295))) + ((wr .u64 ((ib .and .u64 x0 4294967295) * (ib .and .u64 x1 4294967295))).fdiv (2 ^ min ((32 : Int)).toNat 64)))))))))] [] [] fol hH hnt (by kernel_rfl) (by kernel_rfl) (C := (0 : Int) ≤ 32) (by kernel_rfl) (by decide) (rfl)) ?_
  refine s_seq ?_
  refine s_reg (tr_reg false [] [(0, .a (.c (.p (.v (.int .u64 x0))))), (1, .a (.c (.p (.v (.int .u64 x1))))), (6, .a (.c (.p (.v (.int .u64 (ib .and .u64 x0 4294967295)))))), (7, .a (.c (.p (.v (.int .u64 (x0.fdiv (2 ^ min ((32 : Int)).toNat 64))))))), (9, .a (.c (.p (.v (.int .u64 (x1.fdiv (2 ^ min ((32 : Int)).toNat 64))))))), (11, .a (.c (.p (.v (.int .u64 (wr .u64 ((wr .u64 ((x0.fdiv (2 ^ min ((32 : Int)).toNat 64)) * (ib .and .u64 x1 4294967295))) + ((wr .u64 ((ib .and .u64 x0 4294967295) * (ib .and .u64 x1 4294967295))).fdiv (2 ^ min ((32 : Int)).toNat 64))))))))), (12, .a (.c (.p (.v (.int .u64 (ib .and .u64 (wr .u64 ((wr .u64 ((x0.fdiv (2 ^ min ((32 : Int)).toNat 64)) * (ib .and .u64 x1 4294967295))) + ((wr .u64 ((ib .and .u64 x0 4294967295) * (ib .and .u64 x1 4294967295))).fdiv (2 ^ min ((32 : Int)).toNat 64)))) 4294967295))))))] [] [] fol hH hnt (by kernel_rfl) (by kernel_rfl) (C := True) (by kernel_rfl) (trivial) (rfl)) ?_
  refine s_seq ?_
  refine s_reg (tr_reg false [] [(0, .a (.c (.p (.v (.int .u64 x0))))), (1, .a (.c (.p (.v (.int .u64 x1))))), (6, .a (.c (.p (.v (.int .u64 (ib .and .u64 x0 4294967295)))))), (7, .a (.c (.p (.v (.int .u64 (x0.fdiv (2 ^ min ((32 : Int)).toNat 64))))))), (9, .a (.c (.p (.v (.int .u64 (x1.fdiv (2 ^ min ((32 : Int)).toNat 64))))))), (12, .a (.c (.p (.v (.int .u64 (ib .and .u64 (wr .u64 ((wr .u64 ((x0.fdiv (2 ^ min ((32 : Int)).toNat 64)) * (ib .and .u64 x1 4294967295))) + ((wr .u64 ((ib .and .u64 x0 4294967295) * (ib .and .u64 x1 4294967295))).fdiv (2 ^ min ((32 : Int)).toNat 64)))) 4294967295)))))), (13, .a (.c (.p (.v (.int .u64 ((wr .u64 ((wr .u64 ((x0.fdiv (2 ^ min ((32 : Int)).toNat 64)) * (ib .and .u64 x1 4294967295))) + ((wr .u64 ((ib .and .u64 x0 4294967295) * (ib .and .u64 x1 4294967295))).fdiv (2 ^ min ((32 : Int)).toNat 64)))).fdiv (2 ^ min ((32 : Int)).toNat 64)))))))] [] [] fol hH hnt (by kernel_rfl) (by kernel_rfl) (C := (0 : Int) ≤ 32) (by kernel_rfl) (by decide) (rfl)) ?_
  refine s_seq ?_
  refine s_reg (tr_reg false [] [(0, .a (.c (.p (.v (.int .u64 x0))))), (1, .a (.c (.p (.v (.int .u64 x1))))), (7, .a (.c (.p (.v (.int .u64 (x0.fdiv (2 ^ min ((32 : Int)).toNat 64))))))), (9, .a (.c (.p (.v (.int .u64 (x1.fdiv (2 ^ min ((32 : Int)).toNat 64))))))), (12, .a (.c (.p (.v (.int .u64 (wr .u64 ((ib .and .u64 (wr .u64 ((wr .u64 ((x0.fdiv (2 ^ min ((32 : Int)).toNat 64)) * (ib .and .u64 x1 4294967295))) + ((wr .u64 ((ib .and .u64 x0 4294967295) * (ib .and .u64 x1 4294967295))).fdiv (2 ^ min ((32 : Int)).toNat 64)))) 4294967295) + (wr .u64 ((ib .and .u64 x0 4294967295) * (x1.fdiv (2 ^ min ((32 : Int)).toNat 64))))))))))), (13, .a (.c (.p (.v (.int .u64 ((wr .u64 ((wr .u64 ((x0.fdiv (2 ^ min ((32 : Int)).toNat 64)) * (ib .and .u64 x1 4294967295))) + ((wr .u64 ((ib .and .u64 x0 4294967295) * (ib .and .u64 x1 4294967295))).fdiv (2 ^ min ((32 : Int)).toNat 64)))).fdiv (2 ^ min ((32 : Int)).toNat 64)))))))] [] [] fol hH hnt (by kernel_rfl) (by kernel_rfl) (C := True) (by kernel_rfl) (trivial) (rfl)) ?_
  refine s_seq ?_
  refine s_reg (tr_reg false [] [(0, .a (.c (.p (.v (.int .u64 x0))))), (1, .a (.c (.p (.v (.int .u64 x1))))), (4, .a (.c (.p (.v (.int .u64 (wr .u64 ((wr .u64 ((wr .u64 ((x0.fdiv (2 ^ min ((32 : Int)).toNat 64)) * (x1.fdiv (2 ^ min ((32 : Int)).toNat 64)))) + ((wr .u64 ((wr .u64 ((x0.fdiv (2 ^ min ((32 : Int)).toNat 64)) * (ib .and .u64 x1 4294967295))) + ((wr .u64 ((ib .and .u64 x0 4294967295) * (ib .and .u64 x1 4294967295))).fdiv (2 ^ min ((32 : Int)).toNat 64)))).fdiv (2 ^ min ((32 : Int)).toNat 64)))) + ((wr .u64 ((ib .and .u64 (wr .u64 ((wr .u64 ((x0.fdiv (2 ^ min ((32 : Int)).toNat 64)) * (ib .and .u64 x1 4294967295))) + ((wr .u64 ((ib .and .u64 x0 4294967295) * (ib .and .u64 x1 4294967295))).fdiv (2 ^ min ((32 : Int)).toNat 64)))) 4294967295) + (wr .u64 ((ib .and .u64 x0 4294967295) * (x1.fdiv (2 ^ min ((32 : Int)).toNat 64)))))).fdiv (2 ^ min ((32 : Int)).toNat 64)))))))))] [] [] fol hH hnt (by kernel_rfl) (by kernel_rfl) (C := (0 : Int) ≤ 32) (by kernel_rfl) (by decide) (rfl)) ?_
  refine s_seq ?_
  refine s_reg (tr_reg false [] [(4, .a (.c (.p (.v (.int .u64 (wr .u64 ((wr .u64 ((wr .u64 ((x0.fdiv (2 ^ min ((32 : Int)).toNat 64)) * (x1.fdiv (2 ^ min ((32 : Int)).toNat 64)))) + ((wr .u64 ((wr .u64 ((x0.fdiv (2 ^ min ((32 : Int)).toNat 64)) * (ib .and .u64 x1 4294967295))) + ((wr .u64 ((ib .and .u64 x0 4294967295) * (ib .and .u64 x1 4294967295))).fdiv (2 ^ min ((32 : Int)).toNat 64)))).fdiv (2 ^ min ((32 : Int)).toNat 64)))) + ((wr .u64 ((ib .and .u64 (wr .u64 ((wr .u64 ((x0.fdiv (2 ^ min ((32 : Int)).toNat 64)) * (ib .and .u64 x1 4294967295))) + ((wr .u64 ((ib .and .u64 x0 4294967295) * (ib .and .u64 x1 4294967295))).fdiv (2 ^ min ((32 : Int)).toNat 64)))) 4294967295) + (wr .u64 ((ib .and .u64 x0 4294967295) * (x1.fdiv (2 ^ min ((32 : Int)).toNat 64)))))).fdiv (2 ^ min ((32 : Int)).toNat 64))))))))), (5, .a (.c (.p (.v (.int .u64 (wr .u64 (x0 * x1)))))))] [] [] fol hH hnt (by kernel_rfl) (by kernel_rfl) (C := True) (by kernel_rfl) (trivial) (rfl)) ?_
  refine s_ret ?_
  obtain rfl := Option.some.inj h
  exact ⟨.inr rfl, _, Sub.refl, out_of [] (by kernel_rfl) (by kernel_rfl) (by kernel_rfl)⟩
def math_bits_Mul.A (x0 : Int) (x1 : Int) : List SV := [.a (.c (.p (.v (.int .u64 x0)))), .a (.c (.p (.v (.int .u64 x1))))]
def math_bits_Mul.O0 (x0 : Int) (x1 : Int) : List (Nat × RS) := []
def math_bits_Mul.R (r : Int × Int) : SV := .tup [.c (.p (.v (.int .u64 r.1))), .c (.p (.v (.int .u64 r.2)))]
def math_bits_Mul.O1 (r : Int × Int) : List (Nat × RS) := []
theorem math_bits_Mul.nsR (r : Int × Int) : nsSV (math_bits_Mul.R r) := by simp [math_bits_Mul.R, nsSV, nsAV, nsCV, nsSP]
theorem math_bits_Mul.nsO (r : Int × Int) : ∀ k, nsRS (ofL (math_bits_Mul.O1 r) k) := by
  refine nsOf fun x hx => ?_
  simp only [math_bits_Mul.O1, List.mem_cons, List.not_mem_nil, or_false] at hx
def math_bits_Mul (K : Nat) (x0 : Int) (x1 : Int) : Option (Int × Int) :=
  (math_bits_Mul64 K x0 x1).bind fun r11_2 =>
  some (r11_2.1, r11_2.2)
theorem math_bits_Mul.ct (K : Nat) (x0 : Int) (x1 : Int) (r : Int × Int) (h : math_bits_Mul K x0 x1 = some r) : Ct PP 120 (math_bits_Mul.A x0 x1) (ofL (math_bits_Mul.O0 x0 x1)) (math_bits_Mul.R r) (ofL (math_bits_Mul.O1 r)) := by
  unfold math_bits_Mul at h
  refine ct_of (fn := Try.f120) (c := Try.f120.body.get!) (by kernel_rfl) (by kernel_rfl) [] (by kernel_rfl) (by kernel_rfl) (by kernel_rfl) fun Γ hnt hH => ?_
  refine s_seq ?_
  refine s_reg (tr_reg false [] [(0, .a (.c (.p (.v (.int .u64 x0))))), (1, .a (.c (.p (.v (.int .u64 x1)))))] [] [] fol hH hnt (by kernel_rfl) (by kernel_rfl) (C := True) (by kernel_rfl) (trivial) (rfl)) ?_
  refine s_seq ?_
  refine s_cond false (by kernel_rfl) (fun hb => ?_) (fun hb => ?_)
  · cases hb
  · refine s_skip ?_
    refine s_seq ?_
    obtain ⟨r11_2, c11_2, h⟩ := bd_some h
    refine s_reg (tr_reg false [.no, .no, .call ⟨math_bits_Mul64.A x0 x1, math_bits_Mul64.O0 x0 x1, [], [], math_bits_Mul64.R r11_2, math_bits_Mul64.O1 r11_2, []⟩] [(8, .a (.c (.p (.v (.int .u64 r11_2.1))))), (9, .a (.c (.p (.v (.int .u64 r11_2.2)))))] [] [] fol hH hnt (by kernel_rfl) (by kernel_rfl) (C := Ct PP 134 (math_bits_Mul64.A x0 x1) (ofL (math_bits_Mul64.O0 x0 x1)) (math_bits_Mul64.R r11_2) (ofL (math_bits_Mul64.O1 r11_2)) ∧ ((trCV [] (.p (.v (.int .u64 x0))) = some (.p (.v (.int .u64 x0)))) ∧ (trCV [] (.p (.v (.int .u64 x1))) = some (.p (.v (.int .u64 x1)))) ∧ (True)) ∧ ((True)) ∧ (([] : List Nat) = [] ∨ nsSV (math_bits_Mul64.R r11_2) ∧ nsAll ⟨math_bits_Mul64.A x0 x1, math_bits_Mul64.O0 x0 x1, [], [], math_bits_Mul64.R r11_2, math_bits_Mul64.O1 r11_2, []⟩ [])) (by kernel_rfl) (⟨math_bits_Mul64.ct K x0 x1 _ c11_2, ⟨rfl, rfl, trivial⟩, trivial, Or.inl rfl⟩) (rfl)) ?_
    refine s_seq ?_
    refine s_reg (tr_reg false [] [(4, .a (.c (.p (.v (.int .u64 r11_2.1))))), (5, .a (.c (.p (.v (.int .u64 r11_2.2)))))] [] [] fol hH hnt (by kernel_rfl) (by kernel_rfl) (C := True) (by kernel_rfl) (trivial) (rfl)) ?_
    refine s_ret ?_
    obtain rfl := Option.some.inj h
    exact ⟨.inr rfl, _, Sub.refl, out_of [] (by kernel_rfl) (by kernel_rfl) (by kernel_rfl)⟩
def slices_Repeat___int_int_.A (x0 : List Int) (x1 : Int) : List SV := [.a (.c (.p (.sl 1 (x0.map e_int)))), .a (.c (.p (.v (.int .i64 x1))))]
def slices_Repeat___int_int_.O0 (x0 : List Int) (x1 : Int) : List (Nat × RS) := []
def slices_Repeat___int_int_.R (r : List Int) : SV := .a (.c (.vw 2000000 0 r.length))
def slices_Repeat___int_int_.O1 (r : List Int) : List (Nat × RS) := [(2000000, .row 1 (spRow (r.map e_int)))]
theorem slices_Repeat___int_int_.nsR (r : List Int) : nsSV (slices_Repeat___int_int_.R r) := by simp [slices_Repeat___int_int_.R, nsSV, nsAV, nsCV, nsSP]
theorem slices_Repeat___int_int_.nsO (r : List Int) : ∀ k, nsRS (ofL (slices_Repeat___int_int_.O1 r) k) := by
  refine nsOf fun x hx => ?_
  simp only [slices_Repeat___int_int_.O1, List.mem_cons, List.not_mem_nil, or_false] at hx
  rcases hx with rfl
  · exact nsRow e_int_ns _
def slices_Repeat___int_int_.l4 (K : Nat)  : Nat → (List Int) → Int → Option (List Int)
  | 0, _, _ => none
  | k + 1, newslice_22_r7, n_22_8 =>
    if decide (n_22_8 < ((newslice_22_r7.length : Nat) : Int)) then
      if 0 ≤ n_22_8 ∧ n_22_8 ≤ ((newslice_22_r7.length : Nat) : Int) ∧ ((newslice_22_r7.length : Nat) : Int) ≤ ((newslice_22_r7.length : Nat) : Int) then
      if 0 ≤ (0 : Int) ∧ (0 : Int) ≤ n_22_8 ∧ n_22_8 ≤ ((newslice_22_r7.length : Nat) : Int) then
      slices_Repeat___int_int_.l4 K k (ovp newslice_22_r7 (0 + (n_22_8).toNat) ((((newslice_22_r7).drop (0 + ((0 : Int)).toNat)).take ((n_22_8).toNat - ((0 : Int)).toNat)).take ((((newslice_22_r7.length : Nat) : Int)).toNat - (n_22_8).toNat))) (wr .i64 (n_22_8 + (((min (((newslice_22_r7).drop (0 + ((0 : Int)).toNat)).take ((n_22_8).toNat - ((0 : Int)).toNat)).length ((((newslice_22_r7.length : Nat) : Int)).toNat - (n_22_8).toNat)) : Nat) : Int)))
      else none
      else none
    else
      some newslice_22_r7
def slices_Repeat___int_int_.j3 (K : Nat) (r9_5 : Int × Int) (x0 : List Int) : Option (List Int) :=
  if 0 ≤ (wr .i64 r9_5.2) ∧ (8 : Int) * (wr .i64 r9_5.2) ≤ 281474976710656 ∧ (wr .i64 r9_5.2) ≤ 9223372036854775807 then
  slices_Repeat___int_int_.l4 K K (ovp (List.replicate (wr .i64 r9_5.2).toNat (0 : Int)) (0) ((x0).take ((List.replicate (wr .i64 r9_5.2).toNat (0 : Int)).length))) (((min (x0).length ((List.replicate (wr .i64 r9_5.2).toNat (0 : Int)).length)) : Nat) : Int)
  else none
def slices_Repeat___int_int_.j2 (K : Nat) (r9_5 : Int × Int) (x0 : List Int) (t_12_26 : Bool) : Option (List Int) :=
  if t_12_26 then
    none
  else
    slices_Repeat___int_int_.j3 K r9_5 x0
def slices_Repeat___int_int_.j1 (K : Nat) (x0 : List Int) (x1 : Int) : Option (List Int) :=
  (math_bits_Mul K (wr .u64 (((x0).length : Nat) : Int)) (wr .u64 x1)).bind fun r9_5 =>
  if decide (r9_5.1 > 0) then
    slices_Repeat___int_int_.j2 K r9_5 x0 true
  else
    slices_Repeat___int_int_.j2 K r9_5 x0 (decide (r9_5.2 > 9223372036854775807))
def slices_Repeat___int_int_ (K : Nat) (x0 : List Int) (x1 : Int) : Option (List Int) :=
  if decide (x1 < 0) then
    none
  else
    slices_Repeat___int_int_.j1 K x0 x1
theorem slices_Repeat___int_int_.ct (K : Nat) (x0 : List Int) (x1 : Int) (r : List Int) (h : slices_Repeat___int_int_ K x0 x1 = some r) : Ct PP 102 (slices_Repeat___int_int_.A x0 x1) (ofL (slices_Repeat___int_int_.O0 x0 x1)) (slices_Repeat___int_int_.R r) (ofL (slices_Repeat___int_int_.O1 r)) := by
  unfold slices_Repeat___int_int_ at h
  refine ct_of (fn := Try.f102) (c := Try.f102.body.get!) (by kernel_rfl) (by kernel_rfl) [] (by kernel_rfl) (by kernel_rfl) (by kernel_rfl) fun Γ hnt hH => ?_
  refine s_seq ?_
  refine s_reg (tr_reg false [] [(0, .a (.c (.p (.sl 1 (x0.map e_int))))), (1, .a (.c (.p (.v (.int .i64 x1)))))] [] [] fol hH hnt (by kernel_rfl) (by kernel_rfl) (C := True) (by kernel_rfl) (trivial) (rfl)) ?_
  refine s_seq ?_
  refine s_seq ?_
  refine s_reg (tr_reg false [] [(0, .a (.c (.p (.sl 1 (x0.map e_int))))), (1, .a (.c (.p (.v (.int .i64 x1))))), (10, .a (.c (.p (.v (.bool (decide (x1 < 0)))))))] [] [] fol hH hnt (by kernel_rfl) (by kernel_rfl) (C := True) (by kernel_rfl) (trivial) (rfl)) ?_
  refine s_joinJ (fun σ => slices_Repeat___int_int_.j1 K x0 x1 = some r ∧ σ = mk [(0, .a (.c (.p (.sl 1 (x0.map e_int))))), (1, .a (.c (.p (.v (.int .i64 x1)))))] []) ?_ ?_
  · refine s_cond (decide (x1 < 0)) (by kernel_rfl) (fun hb => ?_) (fun hb => ?_)
    · replace h := ite_t hb h
      cases h
    · replace h := ite_f hb h
      refine s_skip ?_
      exact ⟨_, ⟨h, rfl⟩, sub_ren (l := [(0, .a (.c (.p (.sl 1 (x0.map e_int))))), (1, .a (.c (.p (.v (.int .i64 x1)))))]) (o := []) [] hH (by kernel_rfl) (by kernel_rfl) rfl⟩
  · rintro _ ⟨h, rfl⟩
    unfold slices_Repeat___int_int_.j1 at h
    refine s_seq ?_
    obtain ⟨r9_5, c9_5, h⟩ := bd_some h
    refine s_reg (tr_reg false [.no, .val (.int .i64 (((x0).length : Nat) : Int)), .no, .no, .no, .call ⟨math_bits_Mul.A (wr .u64 (((x0).length : Nat) : Int)) (wr .u64 x1), math_bits_Mul.O0 (wr .u64 (((x0).length : Nat) : Int)) (wr .u64 x1), [], [], math_bits_Mul.R r9_5, math_bits_Mul.O1 r9_5, []⟩] [(0, .a (.c (.p (.sl 1 (x0.map e_int))))), (5, .a (.c (.p (.v (.int .u64 r9_5.1))))), (6, .a (.c (.p (.v (.int .u64 r9_5.2)))))] [] [] fol hH hnt (by kernel_rfl) (by kernel_rfl) (C := (Value.int .i64 (((x0.map e_int).length : Nat) : Int) = .int .i64 (((x0).length : Nat) : Int)) ∧ (Ct PP 120 (math_bits_Mul.A (wr .u64 (((x0).length : Nat) : Int)) (wr .u64 x1)) (ofL (math_bits_Mul.O0 (wr .u64 (((x0).length : Nat) : Int)) (wr .u64 x1))) (math_bits_Mul.R r9_5) (ofL (math_bits_Mul.O1 r9_5)) ∧ ((trCV [] (.p (.v (.int .u64 (wr .u64 (((x0).length : Nat) : Int))))) = some (.p (.v (.int .u64 (wr .u64 (((x0).length : Nat) : Int)))))) ∧ (trCV [] (.p (.v (.int .u64 (wr .u64 x1)))) = some (.p (.v (.int .u64 (wr .u64 x1))))) ∧ (True)) ∧ ((True)) ∧ (([] : List Nat) = [] ∨ nsSV (math_bits_Mul.R r9_5) ∧ nsAll ⟨math_bits_Mul.A (wr .u64 (((x0).length : Nat) : Int)) (wr .u64 x1), math_bits_Mul.O0 (wr .u64 (((x0).length : Nat) : Int)) (wr .u64 x1), [], [], math_bits_Mul.R r9_5, math_bits_Mul.O1 r9_5, []⟩ []))) (by kernel_rfl) (⟨lenV (spLen (f := e_int) (xs := x0) (rfl)), ⟨math_bits_Mul.ct K (wr .u64 (((x0).length : Nat) : Int)) (wr .u64 x1) _ c9_5, ⟨rfl, rfl, trivial⟩, trivial, Or.inl rfl⟩⟩) (rfl)) ?_
    refine s_seq ?_
    refine s_seq ?_
    refine s_joinJ (fun σ => ∃ (t_12_26 : Bool), slices_Repeat___int_int_.j2 K r9_5 x0 t_12_26 = some r ∧ σ = mk [(0, .a (.c (.p (.sl 1 (x0.map e_int))))), (6, .a (.c (.p (.v (.int .u64 r9_5.2))))), (26, .a (.c (.p (.v (.bool t_12_26)))))] []) ?_ ?_
    · by_cases s12_2 : (decide (r9_5.1 > 0)) = true
      · replace h := ite_t s12_2 h
        refine s_regz (tr_reg false [.no, .no, .is true .no] [(0, .a (.c (.p (.sl 1 (x0.map e_int))))), (6, .a (.c (.p (.v (.int .u64 r9_5.2))))), (26, .a (.c (.p (.v (.bool true)))))] [] [] fol hH hnt (by kernel_rfl) (by kernel_rfl) (C := (decide (r9_5.1 > 0)) = true) (by kernel_rfl) (s12_2) (rfl)) (fun σ1 hs => ?_)
        exact ⟨_, ⟨true, h, rfl⟩, hs.trans (Sub.refl)⟩
      · replace s12_2 := eq_false_of_ne_true s12_2
        replace h := ite_f s12_2 h
        refine s_regz (tr_reg false [.no, .no, .is false .no] [(0, .a (.c (.p (.sl 1 (x0.map e_int))))), (6, .a (.c (.p (.v (.int .u64 r9_5.2))))), (26, .a (.c (.p (.v (.bool (decide (r9_5.2 > 9223372036854775807)))))))] [] [] fol hH hnt (by kernel_rfl) (by kernel_rfl) (C := (decide (r9_5.1 > 0)) = false) (by kernel_rfl) (s12_2) (rfl)) (fun σ1 hs => ?_)
        exact ⟨_, ⟨decide (r9_5.2 > 9223372036854775807), h, rfl⟩, hs.trans (Sub.refl)⟩
    · rintro _ ⟨t_12_26, h, rfl⟩
      unfold slices_Repeat___int_int_.j2 at h
      refine s_joinJ (fun σ => slices_Repeat___int_int_.j3 K r9_5 x0 = some r ∧ σ = mk [(0, .a (.c (.p (.sl 1 (x0.map e_int))))), (6, .a (.c (.p (.v (.int .u64 r9_5.2)))))] []) ?_ ?_
      · refine s_cond (t_12_26) (by kernel_rfl) (fun hb => ?_) (fun hb => ?_)
        · replace h := ite_t hb h
          cases h
        · replace h := ite_f hb h
          refine s_skip ?_
          exact ⟨_, ⟨h, rfl⟩, sub_ren (l := [(0, .a (.c (.p (.sl 1 (x0.map e_int))))), (6, .a (.c (.p (.v (.int .u64 r9_5.2)))))]) (o := []) [] hH (by kernel_rfl) (by kernel_rfl) rfl⟩
      · rintro _ ⟨h, rfl⟩
        unfold slices_Repeat___int_int_.j3 at h
        refine s_seq ?_
        obtain ⟨g17_2_0, h⟩ := gd_some h
        refine s_reg (tr_reg false [.no, .no, .own false] [(0, .a (.c (.p (.sl 1 (x0.map e_int))))), (7, .a (.c (.vw 30 0 ((List.replicate (wr .i64 r9_5.2).toNat ((e_int (0 : Int)).map RC.s)).length))))] [(30, .row 1 (List.replicate (wr .i64 r9_5.2).toNat ((e_int (0 : Int)).map RC.s)))] [(30, 30)] fol hH hnt (by kernel_rfl) (by kernel_rfl) (C := (wr .i64 r9_5.2) = (wr .i64 r9_5.2) ∧ 0 ≤ (wr .i64 r9_5.2) ∧ (8 : Int) * (wr .i64 r9_5.2) ≤ 281474976710656 ∧ (wr .i64 r9_5.2) ≤ 9223372036854775807) (by kernel_rfl) (⟨rfl, g17_2_0⟩) (S := mk [(0, .a (.c (.p (.sl 1 (x0.map e_int))))), (7, .a (.c (.vw 30 0 ((List.replicate (wr .i64 r9_5.2).toNat (0 : Int)).length))))] [(30, .row 1 (spRow ((List.replicate (wr .i64 r9_5.2).toNat (0 : Int)).map e_int)))]) (he2 (fun q0 q1 => mk [(0, .a (.c (.p (.sl 1 (x0.map e_int))))), (7, .a (.c (.vw 30 0 q0)))] [(30, .row 1 (q1))]) (k0 := (List.replicate (wr .i64 r9_5.2).toNat ((e_int (0 : Int)).map RC.s)).length) (p0 := (List.replicate (wr .i64 r9_5.2).toNat (0 : Int)).length) ((rowLen (rep_row e_int _ (0 : Int)) : (List.replicate (wr .i64 r9_5.2).toNat ((e_int (0 : Int)).map RC.s)).length = (List.replicate (wr .i64 r9_5.2).toNat (0 : Int)).length)) (k1 := List.replicate (wr .i64 r9_5.2).toNat ((e_int (0 : Int)).map RC.s)) (p1 := spRow ((List.replicate (wr .i64 r9_5.2).toNat (0 : Int)).map e_int)) (rep_row e_int _ (0 : Int)))) ?_
        refine s_seq ?_
        refine s_reg (tr_reg false [.no, .no, .news ((x0).map e_int)] [(7, .a (.c (.vw 30 0 ((List.replicate (wr .i64 r9_5.2).toNat (0 : Int)).length)))), (8, .a (.c (.p (.v (.int .i64 (((min ((x0).map e_int).length ((List.replicate (wr .i64 r9_5.2).toNat (0 : Int)).length)) : Nat) : Int))))))] [(30, .row 1 (ovl (spRow ((List.replicate (wr .i64 r9_5.2).toNat (0 : Int)).map e_int)) (0) (((x0).map e_int).take ((List.replicate (wr .i64 r9_5.2).toNat (0 : Int)).length))))] [(30, 30)] fol hH hnt (by kernel_rfl) (by kernel_rfl) (C := (x0.map e_int = (x0).map e_int) ∧ (0 + ((List.replicate (wr .i64 r9_5.2).toNat (0 : Int)).length) ≤ (spRow ((List.replicate (wr .i64 r9_5.2).toNat (0 : Int)).map e_int)).length)) (by kernel_rfl) (⟨rfl, (by have e := rowLen (f := e_int) (xs := List.replicate (wr .i64 r9_5.2).toNat (0 : Int)) (rfl); have e2 : (List.replicate (wr .i64 r9_5.2).toNat (0 : Int)).length = (List.replicate (wr .i64 r9_5.2).toNat (0 : Int)).length := rfl; simp only [List.length_replicate, List.length_append, List.length_set] at *; omega)⟩) (S := mk [(7, .a (.c (.vw 30 0 ((ovp (List.replicate (wr .i64 r9_5.2).toNat (0 : Int)) (0) ((x0).take ((List.replicate (wr .i64 r9_5.2).toNat (0 : Int)).length))).length)))), (8, .a (.c (.p (.v (.int .i64 (((min (x0).length ((List.replicate (wr .i64 r9_5.2).toNat (0 : Int)).length)) : Nat) : Int))))))] [(30, .row 1 (spRow ((ovp (List.replicate (wr .i64 r9_5.2).toNat (0 : Int)) (0) ((x0).take ((List.replicate (wr .i64 r9_5.2).toNat (0 : Int)).length))).map e_int)))]) (he3 (fun q0 q1 q2 => mk [(7, .a (.c (.vw 30 0 q0))), (8, .a (.c (.p (.v (.int .i64 q1)))))] [(30, .row 1 (q2))]) (k0 := (List.replicate (wr .i64 r9_5.2).toNat (0 : Int)).length) (p0 := (ovp (List.replicate (wr .i64 r9_5.2).toNat (0 : Int)) (0) ((x0).take ((List.replicate (wr .i64 r9_5.2).toNat (0 : Int)).length))).length) (((ovp_len (by simp only [Nat.zero_add]; exact Nat.le_refl _)).symm : (List.replicate (wr .i64 r9_5.2).toNat (0 : Int)).length = (ovp (List.replicate (wr .i64 r9_5.2).toNat (0 : Int)) (0) ((x0).take ((List.replicate (wr .i64 r9_5.2).toNat (0 : Int)).length))).length)) (k1 := (((min ((x0).map e_int).length ((List.replicate (wr .i64 r9_5.2).toNat (0 : Int)).length)) : Nat) : Int)) (p1 := (((min (x0).length ((List.replicate (wr .i64 r9_5.2).toNat (0 : Int)).length)) : Nat) : Int)) (congrArg (fun (z : Nat) => ((z : Nat) : Int)) (by rw [List.length_map])) (k2 := ovl (spRow ((List.replicate (wr .i64 r9_5.2).toNat (0 : Int)).map e_int)) (0) (((x0).map e_int).take ((List.replicate (wr .i64 r9_5.2).toNat (0 : Int)).length))) (p2 := spRow ((ovp (List.replicate (wr .i64 r9_5.2).toNat (0 : Int)) (0) ((x0).take ((List.replicate (wr .i64 r9_5.2).toNat (0 : Int)).length))).map e_int)) (rowOvl (rfl) _ _ _))) ?_
        refine s_seq ?_
        refine s_block ?_
        refine s_loop (fun k_l4 σ => ∃ (newslice_22_r7 : List Int) (n_22_8 : Int), slices_Repeat___int_int_.l4 K k_l4 newslice_22_r7 n_22_8 = some r ∧ σ = mk [(7, .a (.c (.vw 30 0 newslice_22_r7.length))), (8, .a (.c (.p (.v (.int .i64 n_22_8)))))] [(30, .row 1 (spRow (newslice_22_r7.map e_int)))]) ?_ ?_ K ⟨ovp (List.replicate (wr .i64 r9_5.2).toNat (0 : Int)) (0) ((x0).take ((List.replicate (wr .i64 r9_5.2).toNat (0 : Int)).length)), (((min (x0).length ((List.replicate (wr .i64 r9_5.2).toNat (0 : Int)).length)) : Nat) : Int), h, rfl⟩
        · rintro _ ⟨newslice_22_r7, n_22_8, h, _⟩
          simp [slices_Repeat___int_int_.l4] at h
        · rintro k_l4 _ ⟨newslice_22_r7, n_22_8, h, rfl⟩
          rw [slices_Repeat___int_int_.l4] at h
          refine s_seq ?_
          refine s_seq ?_
          refine s_reg (tr_reg false [] [(7, .a (.c (.vw 30 0 newslice_22_r7.length))), (8, .a (.c (.p (.v (.int .i64 n_22_8))))), (37, .a (.c (.p (.v (.bool (decide (n_22_8 < ((newslice_22_r7.length : Nat) : Int))))))))] [(30, .row 1 (spRow (newslice_22_r7.map e_int)))] [(30, 30)] fol hH hnt (by kernel_rfl) (by kernel_rfl) (C := True) (by kernel_rfl) (trivial) (rfl)) ?_
          refine s_cond (decide (n_22_8 < ((newslice_22_r7.length : Nat) : Int))) (by kernel_rfl) (fun hb => ?_) (fun hb => ?_)
          · replace h := ite_t hb h
            refine s_skip ?_
            refine s_block ?_
            obtain ⟨g30_3_0, h⟩ := gd_some h
            obtain ⟨g30_6_1, h⟩ := gd_some h
            refine s_regz (tr_reg true [.no, .no, .no, .no, .no, .no, .no, .news ((((newslice_22_r7).drop (0 + ((0 : Int)).toNat)).take ((n_22_8).toNat - ((0 : Int)).toNat)).map e_int)] [(7, .a (.c (.vw 30 0 newslice_22_r7.length))), (8, .a (.c (.p (.v (.int .i64 (wr .i64 (n_22_8 + (((min ((((newslice_22_r7).drop (0 + ((0 : Int)).toNat)).take ((n_22_8).toNat - ((0 : Int)).toNat)).map e_int).length ((((newslice_22_r7.length : Nat) : Int)).toNat - (n_22_8).toNat)) : Nat) : Int))))))))] [(30, .row 1 (ovl (spRow (newslice_22_r7.map e_int)) (0 + (n_22_8).toNat) (((((newslice_22_r7).drop (0 + ((0 : Int)).toNat)).take ((n_22_8).toNat - ((0 : Int)).toNat)).map e_int).take ((((newslice_22_r7.length : Nat) : Int)).toNat - (n_22_8).toNat))))] [(30, 30)] fol hH hnt (by kernel_rfl) (by kernel_rfl) (C := (0 ≤ n_22_8 ∧ n_22_8 ≤ ((newslice_22_r7.length : Nat) : Int) ∧ ((newslice_22_r7.length : Nat) : Int) ≤ ((newslice_22_r7.length : Nat) : Int)) ∧ (0 ≤ (0 : Int) ∧ (0 : Int) ≤ n_22_8 ∧ n_22_8 ≤ ((newslice_22_r7.length : Nat) : Int)) ∧ ((((((spRow (newslice_22_r7.map e_int)).drop (0 + ((0 : Int)).toNat)).take ((n_22_8).toNat - ((0 : Int)).toNat)).map (fun x => x.map frc)) = (((((newslice_22_r7).drop (0 + ((0 : Int)).toNat)).take ((n_22_8).toNat - ((0 : Int)).toNat)).map e_int).map (fun x => x.map some)) ∧ ∀ x ∈ (((newslice_22_r7).drop (0 + ((0 : Int)).toNat)).take ((n_22_8).toNat - ((0 : Int)).toNat)).map e_int, ∀ p ∈ x, nsSP p) ∧ ((0 + (n_22_8).toNat) + ((((newslice_22_r7.length : Nat) : Int)).toNat - (n_22_8).toNat) ≤ (spRow (newslice_22_r7.map e_int)).length))) (by kernel_rfl) (⟨(by have e : newslice_22_r7.length = newslice_22_r7.length := rfl; have g := g30_3_0; omega), (by have e : newslice_22_r7.length = newslice_22_r7.length := rfl; have g := g30_6_1; omega), ⟨⟨frzP (rfl) _ _, nsMap e_int_ns _⟩, (by have e := rowLen (f := e_int) (xs := newslice_22_r7) (rfl); have e2 : (((newslice_22_r7.length : Nat) : Int)).toNat - (n_22_8).toNat = (((newslice_22_r7.length : Nat) : Int)).toNat - (n_22_8).toNat := rfl; have g := g30_3_0; simp only [List.length_replicate, List.length_append, List.length_set] at *; omega)⟩⟩) (S := mk [(7, .a (.c (.vw 30 0 ((ovp newslice_22_r7 (0 + (n_22_8).toNat) ((((newslice_22_r7).drop (0 + ((0 : Int)).toNat)).take ((n_22_8).toNat - ((0 : Int)).toNat)).take ((((newslice_22_r7.length : Nat) : Int)).toNat - (n_22_8).toNat))).length)))), (8, .a (.c (.p (.v (.int .i64 (wr .i64 (n_22_8 + (((min (((newslice_22_r7).drop (0 + ((0 : Int)).toNat)).take ((n_22_8).toNat - ((0 : Int)).toNat)).length ((((newslice_22_r7.length : Nat) : Int)).toNat - (n_22_8).toNat)) : Nat) : Int))))))))] [(30, .row 1 (spRow ((ovp newslice_22_r7 (0 + (n_22_8).toNat) ((((newslice_22_r7).drop (0 + ((0 : Int)).toNat)).take ((n_22_8).toNat - ((0 : Int)).toNat)).take ((((newslice_22_r7.length : Nat) : Int)).toNat - (n_22_8).toNat))).map e_int)))]) (he3 (fun q0 q1 q2 => mk [(7, .a (.c (.vw 30 0 q0))), (8, .a (.c (.p (.v (.int .i64 q1)))))] [(30, .row 1 (q2))]) (k0 := newslice_22_r7.length) (p0 := (ovp newslice_22_r7 (0 + (n_22_8).toNat) ((((newslice_22_r7).drop (0 + ((0 : Int)).toNat)).take ((n_22_8).toNat - ((0 : Int)).toNat)).take ((((newslice_22_r7.length : Nat) : Int)).toNat - (n_22_8).toNat))).length) (((ovp_len (by have e2 : (((newslice_22_r7.length : Nat) : Int)).toNat - (n_22_8).toNat = (((newslice_22_r7.length : Nat) : Int)).toNat - (n_22_8).toNat := rfl; have g := g30_3_0; simp only [List.length_replicate, List.length_append, List.length_set] at *; omega)).symm : newslice_22_r7.length = (ovp newslice_22_r7 (0 + (n_22_8).toNat) ((((newslice_22_r7).drop (0 + ((0 : Int)).toNat)).take ((n_22_8).toNat - ((0 : Int)).toNat)).take ((((newslice_22_r7.length : Nat) : Int)).toNat - (n_22_8).toNat))).length)) (k1 := wr .i64 (n_22_8 + (((min ((((newslice_22_r7).drop (0 + ((0 : Int)).toNat)).take ((n_22_8).toNat - ((0 : Int)).toNat)).map e_int).length ((((newslice_22_r7.length : Nat) : Int)).toNat - (n_22_8).toNat)) : Nat) : Int))) (p1 := wr .i64 (n_22_8 + (((min (((newslice_22_r7).drop (0 + ((0 : Int)).toNat)).take ((n_22_8).toNat - ((0 : Int)).toNat)).length ((((newslice_22_r7.length : Nat) : Int)).toNat - (n_22_8).toNat)) : Nat) : Int))) (congrArg (fun (z : Nat) => wr .i64 (n_22_8 + ((z : Nat) : Int))) (by rw [List.length_map])) (k2 := ovl (spRow (newslice_22_r7.map e_int)) (0 + (n_22_8).toNat) (((((newslice_22_r7).drop (0 + ((0 : Int)).toNat)).take ((n_22_8).toNat - ((0 : Int)).toNat)).map e_int).take ((((newslice_22_r7.length : Nat) : Int)).toNat - (n_22_8).toNat))) (p2 := spRow ((ovp newslice_22_r7 (0 + (n_22_8).toNat) ((((newslice_22_r7).drop (0 + ((0 : Int)).toNat)).take ((n_22_8).toNat - ((0 : Int)).toNat)).take ((((newslice_22_r7.length : Nat) : Int)).toNat - (n_22_8).toNat))).map e_int)) (rowOvl (rfl) _ _ _))) (fun σ1 hs => ?_)
            exact ⟨_, ⟨ovp newslice_22_r7 (0 + (n_22_8).toNat) ((((newslice_22_r7).drop (0 + ((0 : Int)).toNat)).take ((n_22_8).toNat - ((0 : Int)).toNat)).take ((((newslice_22_r7.length : Nat) : Int)).toNat - (n_22_8).toNat)), wr .i64 (n_22_8 + (((min (((newslice_22_r7).drop (0 + ((0 : Int)).toNat)).take ((n_22_8).toNat - ((0 : Int)).toNat)).length ((((newslice_22_r7.length : Nat) : Int)).toNat - (n_22_8).toNat)) : Nat) : Int)), h, rfl⟩, hs.trans (Sub.refl)⟩
          · replace h := ite_f hb h
            refine s_exit ?_
            refine qr_exit ?_
            refine q_hit ?_
            refine s_seq ?_
            refine s_reg (tr_reg false [] [(4, .a (.c (.vw 30 0 newslice_22_r7.length)))] [(30, .row 1 (spRow (newslice_22_r7.map e_int)))] [(30, 30)] fol hH hnt (by kernel_rfl) (by kernel_rfl) (C := True) (by kernel_rfl) (trivial) (rfl)) ?_
            refine s_ret ?_
            obtain rfl := Option.some.inj h
            exact ⟨.inr rfl, _, Sub.refl, out_of [(2000000, 30)] (by kernel_rfl) (by kernel_rfl) (by kernel_rfl)⟩
structure api_Job where
  Kind : Int
  A : Int
  At : Int
  Move : Bool
  List_ : List Int
  Out : List Int
deriving Inhabited, DecidableEq
def slow_start.A (x0 : api_Graph) (x1 : Int) (x2 : Int) : List SV := [.a (.agg [.p (.v (.int .i64 x0.N)), .p (.sl 1 (x0.Out.map e_Lint))]), .a (.c (.p (.v (.int .i64 x1)))), .a (.c (.p (.v (.int .i64 x2))))]
def slow_start.O0 (x0 : api_Graph) (x1 : Int) (x2 : Int) : List (Nat × RS) := []
def slow_start.R (r : api_Job) : SV := .a (.agg [.p (.v (.int .i64 r.Kind)), .p (.v (.int .i64 r.A)), .p (.v (.int .i64 r.At)), .p (.v (.bool r.Move)), .vw 2000004 0 r.List_.length, .vw 2000005 0 r.Out.length])
def slow_start.O1 (r : api_Job) : List (Nat × RS) := [(2000004, .row 1 (spRow (r.List_.map e_int))), (2000005, .row 1 (spRow (r.Out.map e_int)))]
theorem slow_start.nsR (r : api_Job) : nsSV (slow_start.R r) := by simp [slow_start.R, nsSV, nsAV, nsCV, nsSP]
theorem slow_start.nsO (r : api_Job) : ∀ k, nsRS (ofL (slow_start.O1 r) k) := by
  refine nsOf fun x hx => ?_
  simp only [slow_start.O1, List.mem_cons, List.not_mem_nil, or_false] at hx
  rcases hx with rfl | rfl
  · exact nsRow e_int_ns _
  · exact nsRow e_int_ns _
def slow_start.l2 (K : Nat) (j_7_7c1 : Int) (x0 : api_Graph) (x1 : Int) : Nat → (List Int) → Int → Option api_Job
  | 0, _, _ => none
  | k + 1, j_26_r7c5, t_26_34 =>
    if decide (t_26_34 < x0.N) then
      if ((j_26_r7c5).length + (([t_26_34] : List Int)).length) * 8 ≤ 140737488355328 then
      slow_start.l2 K j_7_7c1 x0 x1 k (j_26_r7c5 ++ ([t_26_34] : List Int)) (wr .i64 (t_26_34 + 1))
      else none
    else
      some (⟨x1, j_7_7c1, 0, false, ([] : List Int), j_26_r7c5⟩ : api_Job)
def slow_start.j1 (K : Nat) (x0 : api_Graph) (x1 : Int) (x2 : Int) (j_7_7c1 : Int) : Option api_Job :=
  if (x1 == 4) then
    (slices_Repeat___int_int_ K ([(-1)] : List Int) x0.N).bind fun r18_5 =>
    if 0 ≤ x2 ∧ x2 < ((r18_5.length : Nat) : Int) then
    some (⟨x1, j_7_7c1, 0, false, ([x2] : List Int), (r18_5).set x2.toNat 0⟩ : api_Job)
    else none
  else
    if (x1 == 5) then
      slow_start.l2 K j_7_7c1 x0 x1 K ([] : List Int) 0
    else
      some (⟨x1, j_7_7c1, 0, false, ([] : List Int), ([] : List Int)⟩ : api_Job)
def slow_start (K : Nat) (x0 : api_Graph) (x1 : Int) (x2 : Int) : Option api_Job :=
  (kernel_Named K x1).bind fun r6_1 =>
  if r6_1 then
    slow_start.j1 K x0 x1 x2 x2
  else
    slow_start.j1 K x0 x1 x2 0
theorem slow_start.ct (K : Nat) (x0 : api_Graph) (x1 : Int) (x2 : Int) (r : api_Job) (h : slow_start K x0 x1 x2 = some r) : Ct PP 64 (slow_start.A x0 x1 x2) (ofL (slow_start.O0 x0 x1 x2)) (slow_start.R r) (ofL (slow_start.O1 r)) := by
  unfold slow_start at h
  refine ct_of (fn := Try.f64) (c := Try.f64.body.get!) (by kernel_rfl) (by kernel_rfl) [] (by kernel_rfl) (by kernel_rfl) (by kernel_rfl) fun Γ hnt hH => ?_
  refine s_seq ?_
  refine s_reg (tr_reg false [] [(1, .a (.c (.p (.v (.int .i64 x1))))), (2, .a (.c (.p (.v (.int .i64 x2))))), (3, .a (.c (.bx 3 0))), (6, .a (.c (.bx 6 0)))] [(3, .box [.p (.v (.int .i64 x0.N)), .p (.sl 1 (x0.Out.map e_Lint))]), (6, .box [.p (.v (.int .i64 0)), .p (.v (.int .i64 0)), .p (.v (.int .i64 0)), .p (.v (.bool false)), .nl 1, .nl 1])] [(3, 3), (6, 6)] fol hH hnt (by kernel_rfl) (by kernel_rfl) (C := True) (by kernel_rfl) (trivial) (rfl)) ?_
  refine s_seq ?_
  refine s_reg (tr_reg false [] [(1, .a (.c (.p (.v (.int .i64 x1))))), (2, .a (.c (.p (.v (.int .i64 x2))))), (3, .a (.c (.bx 3 0))), (6, .a (.c (.bx 6 0))), (7, .a (.c (.bx 7 0)))] [(3, .box [.p (.v (.int .i64 x0.N)), .p (.sl 1 (x0.Out.map e_Lint))]), (6, .box [.p (.v (.int .i64 0)), .p (.v (.int .i64 0)), .p (.v (.int .i64 0)), .p (.v (.bool false)), .nl 1, .nl 1]), (7, .box [.p (.v (.int .i64 x1)), .p (.v (.int .i64 0)), .p (.v (.int .i64 0)), .p (.v (.bool false)), .nl 1, .nl 1])] [(3, 3), (6, 6), (7, 7)] fol hH hnt (by kernel_rfl) (by kernel_rfl) (C := True) (by kernel_rfl) (trivial) (rfl)) ?_
  refine s_seq ?_
  refine s_seq ?_
  obtain ⟨r6_1, c6_1, h⟩ := bd_some h
  refine s_reg (tr_reg false [.no, .call ⟨kernel_Named.A x1, kernel_Named.O0 x1, [], [], kernel_Named.R r6_1, kernel_Named.O1 r6_1, []⟩] [(1, .a (.c (.p (.v (.int .i64 x1))))), (2, .a (.c (.p (.v (.int .i64 x2))))), (3, .a (.c (.bx 3 0))), (6, .a (.c (.bx 6 0))), (7, .a (.c (.bx 7 0))), (12, .a (.c (.p (.v (.bool r6_1)))))] [(3, .box [.p (.v (.int .i64 x0.N)), .p (.sl 1 (x0.Out.map e_Lint))]), (6, .box [.p (.v (.int .i64 0)), .p (.v (.int .i64 0)), .p (.v (.int .i64 0)), .p (.v (.bool false)), .nl 1, .nl 1]), (7, .box [.p (.v (.int .i64 x1)), .p (.v (.int .i64 0)), .p (.v (.int .i64 0)), .p (.v (.bool false)), .nl 1, .nl 1])] [(3, 3), (6, 6), (7, 7)] fol hH hnt (by kernel_rfl) (by kernel_rfl) (C := Ct PP 100 (kernel_Named.A x1) (ofL (kernel_Named.O0 x1)) (kernel_Named.R r6_1) (ofL (kernel_Named.O1 r6_1)) ∧ ((trCV [] (.p (.v (.int .i64 x1))) = some (.p (.v (.int .i64 x1)))) ∧ (True)) ∧ ((True)) ∧ (([] : List Nat) = [] ∨ nsSV (kernel_Named.R r6_1) ∧ nsAll ⟨kernel_Named.A x1, kernel_Named.O0 x1, [], [], kernel_Named.R r6_1, kernel_Named.O1 r6_1, []⟩ [])) (by kernel_rfl) (⟨kernel_Named.ct K x1 _ c6_1, ⟨rfl, trivial⟩, trivial, Or.inl rfl⟩) (rfl)) ?_
  refine s_joinJ (fun σ => ∃ (j_7_7c1 : Int), slow_start.j1 K x0 x1 x2 j_7_7c1 = some r ∧ σ = mk [(1, .a (.c (.p (.v (.int .i64 x1))))), (2, .a (.c (.p (.v (.int .i64 x2))))), (3, .a (.c (.bx 3 0))), (6, .a (.c (.bx 6 0))), (7, .a (.c (.bx 7 0)))] [(3, .box [.p (.v (.int .i64 x0.N)), .p (.sl 1 (x0.Out.map e_Lint))]), (6, .box [.p (.v (.int .i64 0)), .p (.v (.int .i64 0)), .p (.v (.int .i64 0)), .p (.v (.bool false)), .nl 1, .nl 1]), (7, .box [.p (.v (.int .i64 x1)), .p (.v (.int .i64 j_7_7c1)), .p (.v (.int .i64 0)), .p (.v (.bool false)), .nl 1, .nl 1])]) ?_ ?_
  · refine s_cond (r6_1) (by kernel_rfl) (fun hb => ?_) (fun hb => ?_)
    · replace h := ite_t hb h
      refine s_regz (tr_reg false [] [(1, .a (.c (.p (.v (.int .i64 x1))))), (2, .a (.c (.p (.v (.int .i64 x2))))), (3, .a (.c (.bx 3 0))), (6, .a (.c (.bx 6 0))), (7, .a (.c (.bx 7 0)))] [(3, .box [.p (.v (.int .i64 x0.N)), .p (.sl 1 (x0.Out.map e_Lint))]), (6, .box [.p (.v (.int .i64 0)), .p (.v (.int .i64 0)), .p (.v (.int .i64 0)), .p (.v (.bool false)), .nl 1, .nl 1]), (7, .box [.p (.v (.int .i64 x1)), .p (.v (.int .i64 x2)), .p (.v (.int .i64 0)), .p (.v (.bool false)), .nl 1, .nl 1])] [(3, 3), (6, 6), (7, 7)] fol hH hnt (by kernel_rfl) (by kernel_rfl) (C := True) (by kernel_rfl) (trivial) (rfl)) (fun σ1 hs => ?_)
      exact ⟨_, ⟨x2, h, rfl⟩, hs.trans (Sub.refl)⟩
    · replace h := ite_f hb h
      refine s_skip ?_
      exact ⟨_, ⟨0, h, rfl⟩, sub_ren (l := [(1, .a (.c (.p (.v (.int .i64 x1))))), (2, .a (.c (.p (.v (.int .i64 x2))))), (3, .a (.c (.bx 3 0))), (6, .a (.c (.bx 6 0))), (7, .a (.c (.bx 7 0)))]) (o := [(3, .box [.p (.v (.int .i64 x0.N)), .p (.sl 1 (x0.Out.map e_Lint))]), (6, .box [.p (.v (.int .i64 0)), .p (.v (.int .i64 0)), .p (.v (.int .i64 0)), .p (.v (.bool false)), .nl 1, .nl 1]), (7, .box [.p (.v (.int .i64 x1)), .p (.v (.int .i64 0)), .p (.v (.int .i64 0)), .p (.v (.bool false)), .nl 1, .nl 1])]) [(3, 3), (6, 6), (7, 7)] hH (by kernel_rfl) (by kernel_rfl) rfl⟩
  · rintro _ ⟨j_7_7c1, h, rfl⟩
    unfold slow_start.j1 at h
    refine s_seq ?_
    refine s_seq ?_
    refine s_reg (tr_reg false [] [(2, .a (.c (.p (.v (.int .i64 x2))))), (3, .a (.c (.bx 3 0))), (6, .a (.c (.bx 6 0))), (7, .a (.c (.bx 7 0))), (15, .a (.c (.p (.v (.int .i64 x1)))))] [(3, .box [.p (.v (.int .i64 x0.N)), .p (.sl 1 (x0.Out.map e_Lint))]), (6, .box [.p (.v (.int .i64 0)), .p (.v (.int .i64 0)), .p (.v (.int .i64 0)), .p (.v (.bool false)), .nl 1, .nl 1]), (7, .box [.p (.v (.int .i64 x1)), .p (.v (.int .i64 j_7_7c1)), .p (.v (.int .i64 0)), .p (.v (.bool false)), .nl 1, .nl 1])] [(3, 3), (6, 6), (7, 7)] fol hH hnt (by kernel_rfl) (by kernel_rfl) (C := True) (by kernel_rfl) (trivial) (rfl)) ?_
    refine s_block ?_
    refine s_seq ?_
    refine s_reg (tr_reg false [] [(2, .a (.c (.p (.v (.int .i64 x2))))), (3, .a (.c (.bx 3 0))), (6, .a (.c (.bx 6 0))), (7, .a (.c (.bx 7 0))), (15, .a (.c (.p (.v (.int .i64 x1))))), (16, .a (.c (.p (.v (.bool (x1 == 4))))))] [(3, .box [.p (.v (.int .i64 x0.N)), .p (.sl 1 (x0.Out.map e_Lint))]), (6, .box [.p (.v (.int .i64 0)), .p (.v (.int .i64 0)), .p (.v (.int .i64 0)), .p (.v (.bool false)), .nl 1, .nl 1]), (7, .box [.p (.v (.int .i64 x1)), .p (.v (.int .i64 j_7_7c1)), .p (.v (.int .i64 0)), .p (.v (.bool false)), .nl 1, .nl 1])] [(3, 3), (6, 6), (7, 7)] fol hH hnt (by kernel_rfl) (by kernel_rfl) (C := True) (by kernel_rfl) (trivial) (rfl)) ?_
    refine s_cond ((x1 == 4)) (by kernel_rfl) (fun hb => ?_) (fun hb => ?_)
    · replace h := ite_t hb h
      refine s_seq ?_
      obtain ⟨r18_5, c18_5, h⟩ := bd_some h
      refine s_reg (tr_reg false [.no, .own false, .own false, .no, .no, .call ⟨slices_Repeat___int_int_.A ([(-1)] : List Int) x0.N, slices_Repeat___int_int_.O0 ([(-1)] : List Int) x0.N, [], [20], slices_Repeat___int_int_.R r18_5, slices_Repeat___int_int_.O1 r18_5, [(2000000, 4180500)]⟩] [(2, .a (.c (.p (.v (.int .i64 x2))))), (6, .a (.c (.bx 6 0))), (7, .a (.c (.bx 7 0)))] [(6, .box [.p (.v (.int .i64 0)), .p (.v (.int .i64 0)), .p (.v (.int .i64 0)), .p (.v (.bool false)), .nl 1, .nl 1]), (7, .box [.p (.v (.int .i64 x1)), .p (.v (.int .i64 j_7_7c1)), .p (.v (.int .i64 0)), .p (.v (.bool false)), .vw 19 0 (([x2] : List Int).length), .vw 4180500 0 r18_5.length]), (19, .row 1 (spRow (([x2] : List Int).map e_int))), (4180500, .row 1 (spRow (r18_5.map e_int)))] [(6, 6), (7, 7), (19, 19), (4180500, 4180500)] fol hH hnt (by kernel_rfl) (by kernel_rfl) (C := Ct PP 102 (slices_Repeat___int_int_.A ([(-1)] : List Int) x0.N) (ofL (slices_Repeat___int_int_.O0 ([(-1)] : List Int) x0.N)) (slices_Repeat___int_int_.R r18_5) (ofL (slices_Repeat___int_int_.O1 r18_5)) ∧ ((([20] : List Nat).elem 20 = true ∧ (1 = 1 ∧ ((((spRow (([(-1)] : List Int).map e_int)).drop 0).take (([(-1)] : List Int).length)).map (fun x => x.map frc)) = ((([(-1)] : List Int).map e_int).map (fun x => x.map some)))) ∧ (trCV [] (.p (.v (.int .i64 x0.N))) = some (.p (.v (.int .i64 x0.N)))) ∧ (True)) ∧ ((True)) ∧ (([20] : List Nat) = [] ∨ nsSV (slices_Repeat___int_int_.R r18_5) ∧ nsAll ⟨slices_Repeat___int_int_.A ([(-1)] : List Int) x0.N, slices_Repeat___int_int_.O0 ([(-1)] : List Int) x0.N, [], [20], slices_Repeat___int_int_.R r18_5, slices_Repeat___int_int_.O1 r18_5, [(2000000, 4180500)]⟩ [(2000000, 4180500)])) (by kernel_rfl) (⟨slices_Repeat___int_int_.ct K ([(-1)] : List Int) x0.N _ c18_5, ⟨⟨rfl, rfl, frz (rfl) ((rfl).trans (rfl))⟩, rfl, trivial⟩, trivial, Or.inr ⟨slices_Repeat___int_int_.nsR r18_5, nsAll_of (slices_Repeat___int_int_.nsO r18_5)⟩⟩) (rfl)) ?_
      obtain ⟨g19_3_0, h⟩ := gd_some h
      refine s_regz (tr_reg false [.no, .no, .no, .no, .rcs ((e_int (nth r18_5 x2)).map RC.s)] [(6, .a (.c (.bx 6 0))), (7, .a (.c (.bx 7 0)))] [(6, .box [.p (.v (.int .i64 0)), .p (.v (.int .i64 0)), .p (.v (.int .i64 0)), .p (.v (.bool false)), .nl 1, .nl 1]), (7, .box [.p (.v (.int .i64 x1)), .p (.v (.int .i64 j_7_7c1)), .p (.v (.int .i64 0)), .p (.v (.bool false)), .vw 19 0 (([x2] : List Int).length), .vw 4180500 0 r18_5.length]), (19, .row 1 (spRow (([x2] : List Int).map e_int))), (4180500, .row 1 ((spRow (r18_5.map e_int)).set (0 + (x2).toNat) ((e_int 0).map RC.s)))] [(6, 6), (7, 7), (19, 19), (4180500, 4180500)] fol hH hnt (by kernel_rfl) (by kernel_rfl) (C := (0 ≤ x2 ∧ x2 < ((r18_5.length : Nat) : Int)) ∧ ((spRow (r18_5.map e_int))[0 + (x2).toNat]? = some ((e_int (nth r18_5 x2)).map RC.s))) (by kernel_rfl) (⟨⟨g19_3_0.1, ltL (rfl) g19_3_0.2⟩, rowGet (rfl) g19_3_0.1 g19_3_0.2⟩) (S := mk [(6, .a (.c (.bx 6 0))), (7, .a (.c (.bx 7 0)))] [(6, .box [.p (.v (.int .i64 0)), .p (.v (.int .i64 0)), .p (.v (.int .i64 0)), .p (.v (.bool false)), .nl 1, .nl 1]), (7, .box [.p (.v (.int .i64 x1)), .p (.v (.int .i64 j_7_7c1)), .p (.v (.int .i64 0)), .p (.v (.bool false)), .vw 19 0 (([x2] : List Int).length), .vw 4180500 0 (((r18_5).set x2.toNat 0).length)]), (19, .row 1 (spRow (([x2] : List Int).map e_int))), (4180500, .row 1 (spRow (((r18_5).set x2.toNat 0).map e_int)))]) (he2 (fun q0 q1 => mk [(6, .a (.c (.bx 6 0))), (7, .a (.c (.bx 7 0)))] [(6, .box [.p (.v (.int .i64 0)), .p (.v (.int .i64 0)), .p (.v (.int .i64 0)), .p (.v (.bool false)), .nl 1, .nl 1]), (7, .box [.p (.v (.int .i64 x1)), .p (.v (.int .i64 j_7_7c1)), .p (.v (.int .i64 0)), .p (.v (.bool false)), .vw 19 0 (([x2] : List Int).length), .vw 4180500 0 q0]), (19, .row 1 (spRow (([x2] : List Int).map e_int))), (4180500, .row 1 (q1))]) (k0 := r18_5.length) (p0 := ((r18_5).set x2.toNat 0).length) (((List.length_set).symm : r18_5.length = ((r18_5).set x2.toNat 0).length)) (k1 := (spRow (r18_5.map e_int)).set (0 + (x2).toNat) ((e_int 0).map RC.s)) (p1 := spRow (((r18_5).set x2.toNat 0).map e_int)) (rowSet (rfl) x2 0))) (fun σ1 hs => ?_)
      refine s_subc hs ?_
      refine s_seq ?_
      refine s_reg (tr_reg false [] [(6, .a (.c (.bx 6 0)))] [(6, .box [.p (.v (.int .i64 x1)), .p (.v (.int .i64 j_7_7c1)), .p (.v (.int .i64 0)), .p (.v (.bool false)), .vw 19 0 (([x2] : List Int).length), .vw 4180500 0 (((r18_5).set x2.toNat 0).length)]), (19, .row 1 (spRow (([x2] : List Int).map e_int))), (4180500, .row 1 (spRow (((r18_5).set x2.toNat 0).map e_int)))] [(6, 6), (19, 19), (4180500, 4180500)] fol hH hnt (by kernel_rfl) (by kernel_rfl) (C := True) (by kernel_rfl) (trivial) (rfl)) ?_
      refine s_ret ?_
      obtain rfl := Option.some.inj h
      exact ⟨.inr rfl, _, Sub.refl, out_of [(2000004, 19), (2000005, 4180500)] (by kernel_rfl) (by kernel_rfl) (by kernel_rfl)⟩
    · replace h := ite_f hb h
      refine s_seq ?_
      refine s_reg (tr_reg false [] [(3, .a (.c (.bx 3 0))), (6, .a (.c (.bx 6 0))), (7, .a (.c (.bx 7 0))), (30, .a (.c (.p (.v (.bool (x1 == 5))))))] [(3, .box [.p (.v (.int .i64 x0.N)), .p (.sl 1 (x0.Out.map e_Lint))]), (6, .box [.p (.v (.int .i64 0)), .p (.v (.int .i64 0)), .p (.v (.int .i64 0)), .p (.v (.bool false)), .nl 1, .nl 1]), (7, .box [.p (.v (.int .i64 x1)), .p (.v (.int .i64 j_7_7c1)), .p (.v (.int .i64 0)), .p (.v (.bool false)), .nl 1, .nl 1])] [(3, 3), (6, 6), (7, 7)] fol hH hnt (by kernel_rfl) (by kernel_rfl) (C := True) (by kernel_rfl) (trivial) (rfl)) ?_
      refine s_cond ((x1 == 5)) (by kernel_rfl) (fun hb => ?_) (fun hb => ?_)
      · replace h := ite_t hb h
        refine s_seq ?_
        refine s_reg (tr_reg false [] [(6, .a (.c (.bx 6 0))), (7, .a (.c (.bx 7 0))), (33, .a (.c (.p (.v (.int .i64 x0.N))))), (34, .a (.c (.p (.v (.int .i64 0)))))] [(6, .box [.p (.v (.int .i64 0)), .p (.v (.int .i64 0)), .p (.v (.int .i64 0)), .p (.v (.bool false)), .nl 1, .nl 1]), (7, .box [.p (.v (.int .i64 x1)), .p (.v (.int .i64 j_7_7c1)), .p (.v (.int .i64 0)), .p (.v (.bool false)), .nl 1, .nl 1])] [(6, 6), (7, 7)] fol hH hnt (by kernel_rfl) (by kernel_rfl) (C := True) (by kernel_rfl) (trivial) (rfl)) ?_
        refine s_block ?_
        refine s_subc ((sub_nilB (a := 7) (c := 5) (d := 6026001) (sz := 1) (l := [.p (.v (.int .i64 x1)), .p (.v (.int .i64 j_7_7c1)), .p (.v (.int .i64 0)), .p (.v (.bool false)), .nl 1, .nl 1]) 1 (by kernel_rfl) (by kernel_rfl) (by kernel_rfl)).trans (sub_ren (l := [(6, .a (.c (.bx 6 0))), (7, .a (.c (.bx 7 0))), (33, .a (.c (.p (.v (.int .i64 x0.N))))), (34, .a (.c (.p (.v (.int .i64 0)))))]) (o := [(6, .box [.p (.v (.int .i64 0)), .p (.v (.int .i64 0)), .p (.v (.int .i64 0)), .p (.v (.bool false)), .nl 1, .nl 1]), (7, .box [.p (.v (.int .i64 x1)), .p (.v (.int .i64 j_7_7c1)), .p (.v (.int .i64 0)), .p (.v (.bool false)), .nl 1, .vw 5026000 0 (([] : List Int).length)]), (5026000, .row 1 (spRow (([] : List Int).map e_int)))]) [(6, 6), (7, 7), (5026000, 6026001)] hH (by kernel_rfl) (by kernel_rfl) rfl)) ?_
        refine s_loop (fun k_l2 σ => ∃ (j_26_r7c5 : List Int) (t_26_34 : Int), slow_start.l2 K j_7_7c1 x0 x1 k_l2 j_26_r7c5 t_26_34 = some r ∧ σ = mk [(6, .a (.c (.bx 6 0))), (7, .a (.c (.bx 7 0))), (33, .a (.c (.p (.v (.int .i64 x0.N))))), (34, .a (.c (.p (.v (.int .i64 t_26_34)))))] [(6, .box [.p (.v (.int .i64 0)), .p (.v (.int .i64 0)), .p (.v (.int .i64 0)), .p (.v (.bool false)), .nl 1, .nl 1]), (7, .box [.p (.v (.int .i64 x1)), .p (.v (.int .i64 j_7_7c1)), .p (.v (.int .i64 0)), .p (.v (.bool false)), .nl 1, .vw 5026000 0 j_26_r7c5.length]), (5026000, .row 1 (spRow (j_26_r7c5.map e_int)))]) ?_ ?_ K ⟨([] : List Int), 0, h, rfl⟩
        · rintro _ ⟨j_26_r7c5, t_26_34, h, _⟩
          simp [slow_start.l2] at h
        · rintro k_l2 _ ⟨j_26_r7c5, t_26_34, h, rfl⟩
          rw [slow_start.l2] at h
          refine s_seq ?_
          refine s_reg (tr_reg false [] [(6, .a (.c (.bx 6 0))), (7, .a (.c (.bx 7 0))), (33, .a (.c (.p (.v (.int .i64 x0.N))))), (34, .a (.c (.p (.v (.int .i64 t_26_34))))), (35, .a (.c (.p (.v (.bool (decide (t_26_34 < x0.N)))))))] [(6, .box [.p (.v (.int .i64 0)), .p (.v (.int .i64 0)), .p (.v (.int .i64 0)), .p (.v (.bool false)), .nl 1, .nl 1]), (7, .box [.p (.v (.int .i64 x1)), .p (.v (.int .i64 j_7_7c1)), .p (.v (.int .i64 0)), .p (.v (.bool false)), .nl 1, .vw 5026000 0 j_26_r7c5.length]), (5026000, .row 1 (spRow (j_26_r7c5.map e_int)))] [(6, 6), (7, 7), (5026000, 5026000)] fol hH hnt (by kernel_rfl) (by kernel_rfl) (C := True) (by kernel_rfl) (trivial) (rfl)) ?_
          refine s_seq ?_
          refine s_cond (decide (t_26_34 < x0.N)) (by kernel_rfl) (fun hb => ?_) (fun hb => ?_)
          · replace h := ite_t hb h
            refine s_skip ?_
            refine s_seq ?_
            refine s_block ?_
            refine s_seq ?_
            refine s_reg (tr_reg false [] [(6, .a (.c (.bx 6 0))), (7, .a (.c (.bx 7 0))), (8, .a (.c (.p (.v (.int .i64 t_26_34))))), (33, .a (.c (.p (.v (.int .i64 x0.N))))), (34, .a (.c (.p (.v (.int .i64 t_26_34)))))] [(6, .box [.p (.v (.int .i64 0)), .p (.v (.int .i64 0)), .p (.v (.int .i64 0)), .p (.v (.bool false)), .nl 1, .nl 1]), (7, .box [.p (.v (.int .i64 x1)), .p (.v (.int .i64 j_7_7c1)), .p (.v (.int .i64 0)), .p (.v (.bool false)), .nl 1, .vw 5026000 0 j_26_r7c5.length]), (5026000, .row 1 (spRow (j_26_r7c5.map e_int)))] [(6, 6), (7, 7), (5026000, 5026000)] fol hH hnt (by kernel_rfl) (by kernel_rfl) (C := True) (by kernel_rfl) (trivial) (rfl)) ?_
            obtain ⟨g37_4_0, h⟩ := gd_some h
            refine s_regz (tr_reg false [.no, .no, .no, .own false, .news ((([t_26_34] : List Int)).map e_int)] [(6, .a (.c (.bx 6 0))), (7, .a (.c (.bx 7 0))), (33, .a (.c (.p (.v (.int .i64 x0.N))))), (34, .a (.c (.p (.v (.int .i64 t_26_34)))))] [(6, .box [.p (.v (.int .i64 0)), .p (.v (.int .i64 0)), .p (.v (.int .i64 0)), .p (.v (.bool false)), .nl 1, .nl 1]), (7, .box [.p (.v (.int .i64 x1)), .p (.v (.int .i64 j_7_7c1)), .p (.v (.int .i64 0)), .p (.v (.bool false)), .nl 1, .vw 41 0 (((spRow (j_26_r7c5.map e_int)) ++ (spRow ((([t_26_34] : List Int)).map e_int))).length)]), (41, .row 1 ((spRow (j_26_r7c5.map e_int)) ++ (spRow ((([t_26_34] : List Int)).map e_int))))] [(6, 6), (7, 7), (41, 41)] fol hH hnt (by kernel_rfl) (by kernel_rfl) (C := (((spRow (([t_26_34] : List Int).map e_int)).drop 0).take (([t_26_34] : List Int).length) = spRow ((([t_26_34] : List Int)).map e_int)) ∧ (j_26_r7c5.length = (spRow (j_26_r7c5.map e_int)).length ∧ ((spRow (j_26_r7c5.map e_int)).length + (spRow ((([t_26_34] : List Int)).map e_int)).length) * 8 ≤ 140737488355328)) (by kernel_rfl) (⟨rowAll (rfl) (lenMap (rfl)), ⟨((rfl).trans (rowLen (f := e_int) (xs := j_26_r7c5) (rfl)).symm), (bnd2 (rowLen (f := e_int) (xs := j_26_r7c5) (rfl)) (rowLen (f := e_int) (xs := ([t_26_34] : List Int)) (rfl)) g37_4_0).2⟩⟩) (S := mk [(6, .a (.c (.bx 6 0))), (7, .a (.c (.bx 7 0))), (33, .a (.c (.p (.v (.int .i64 x0.N))))), (34, .a (.c (.p (.v (.int .i64 t_26_34)))))] [(6, .box [.p (.v (.int .i64 0)), .p (.v (.int .i64 0)), .p (.v (.int .i64 0)), .p (.v (.bool false)), .nl 1, .nl 1]), (7, .box [.p (.v (.int .i64 x1)), .p (.v (.int .i64 j_7_7c1)), .p (.v (.int .i64 0)), .p (.v (.bool false)), .nl 1, .vw 41 0 ((j_26_r7c5 ++ ([t_26_34] : List Int)).length)]), (41, .row 1 (spRow ((j_26_r7c5 ++ ([t_26_34] : List Int)).map e_int)))]) (he2 (fun q0 q1 => mk [(6, .a (.c (.bx 6 0))), (7, .a (.c (.bx 7 0))), (33, .a (.c (.p (.v (.int .i64 x0.N))))), (34, .a (.c (.p (.v (.int .i64 t_26_34)))))] [(6, .box [.p (.v (.int .i64 0)), .p (.v (.int .i64 0)), .p (.v (.int .i64 0)), .p (.v (.bool false)), .nl 1, .nl 1]), (7, .box [.p (.v (.int .i64 x1)), .p (.v (.int .i64 j_7_7c1)), .p (.v (.int .i64 0)), .p (.v (.bool false)), .nl 1, .vw 41 0 q0]), (41, .row 1 (q1))]) (k0 := ((spRow (j_26_r7c5.map e_int)) ++ (spRow ((([t_26_34] : List Int)).map e_int))).length) (p0 := (j_26_r7c5 ++ ([t_26_34] : List Int)).length) ((rowLen (rowApp (f := e_int) (xs := j_26_r7c5) (ys := ([t_26_34] : List Int)) (rfl) (rfl)) : ((spRow (j_26_r7c5.map e_int)) ++ (spRow ((([t_26_34] : List Int)).map e_int))).length = (j_26_r7c5 ++ ([t_26_34] : List Int)).length)) (k1 := (spRow (j_26_r7c5.map e_int)) ++ (spRow ((([t_26_34] : List Int)).map e_int))) (p1 := spRow ((j_26_r7c5 ++ ([t_26_34] : List Int)).map e_int)) (rowApp (f := e_int) (xs := j_26_r7c5) (ys := ([t_26_34] : List Int)) (rfl) (rfl)))) (fun σ1 hs => ?_)
            refine s_subc hs ?_
            refine s_regz (tr_reg false [] [(6, .a (.c (.bx 6 0))), (7, .a (.c (.bx 7 0))), (33, .a (.c (.p (.v (.int .i64 x0.N))))), (34, .a (.c (.p (.v (.int .i64 (wr .i64 (t_26_34 + 1)))))))] [(6, .box [.p (.v (.int .i64 0)), .p (.v (.int .i64 0)), .p (.v (.int .i64 0)), .p (.v (.bool false)), .nl 1, .nl 1]), (7, .box [.p (.v (.int .i64 x1)), .p (.v (.int .i64 j_7_7c1)), .p (.v (.int .i64 0)), .p (.v (.bool false)), .nl 1, .vw 41 0 ((j_26_r7c5 ++ ([t_26_34] : List Int)).length)]), (41, .row 1 (spRow ((j_26_r7c5 ++ ([t_26_34] : List Int)).map e_int)))] [(6, 6), (7, 7), (41, 41)] fol hH hnt (by kernel_rfl) (by kernel_rfl) (C := True) (by kernel_rfl) (trivial) (rfl)) (fun σ1 hs => ?_)
            exact ⟨_, ⟨j_26_r7c5 ++ ([t_26_34] : List Int), wr .i64 (t_26_34 + 1), h, rfl⟩, hs.trans (sub_ren (l := [(6, .a (.c (.bx 6 0))), (7, .a (.c (.bx 7 0))), (33, .a (.c (.p (.v (.int .i64 x0.N))))), (34, .a (.c (.p (.v (.int .i64 (wr .i64 (t_26_34 + 1)))))))]) (o := [(6, .box [.p (.v (.int .i64 0)), .p (.v (.int .i64 0)), .p (.v (.int .i64 0)), .p (.v (.bool false)), .nl 1, .nl 1]), (7, .box [.p (.v (.int .i64 x1)), .p (.v (.int .i64 j_7_7c1)), .p (.v (.int .i64 0)), .p (.v (.bool false)), .nl 1, .vw 5026000 0 ((j_26_r7c5 ++ ([t_26_34] : List Int)).length)]), (5026000, .row 1 (spRow ((j_26_r7c5 ++ ([t_26_34] : List Int)).map e_int)))]) [(6, 6), (7, 7), (5026000, 41)] hH (by kernel_rfl) (by kernel_rfl) rfl)⟩
          · replace h := ite_f hb h
            refine s_exit ?_
            refine qr_exit ?_
            refine q_hit ?_
            refine s_seq ?_
            refine s_reg (tr_reg false [] [(6, .a (.c (.bx 6 0)))] [(6, .box [.p (.v (.int .i64 x1)), .p (.v (.int .i64 j_7_7c1)), .p (.v (.int .i64 0)), .p (.v (.bool false)), .nl 1, .vw 5026000 0 j_26_r7c5.length]), (5026000, .row 1 (spRow (j_26_r7c5.map e_int)))] [(6, 6), (5026000, 5026000)] fol hH hnt (by kernel_rfl) (by kernel_rfl) (C := True) (by kernel_rfl) (trivial) (rfl)) ?_
            refine s_ret ?_
            obtain rfl := Option.some.inj h
            exact ⟨.inr rfl, _, sub_nilB (a := 6) (c := 4) (d := 8000000) (sz := 1) (l := [.p (.v (.int .i64 x1)), .p (.v (.int .i64 j_7_7c1)), .p (.v (.int .i64 0)), .p (.v (.bool false)), .nl 1, .vw 5026000 0 j_26_r7c5.length]) 1 (by kernel_rfl) (by kernel_rfl) (by kernel_rfl), out_of [(2000004, 8000000), (2000005, 5026000)] (by kernel_rfl) (by kernel_rfl) (by kernel_rfl)⟩
      · replace h := ite_f hb h
        refine s_skip ?_
        refine s_seq ?_
        refine s_reg (tr_reg false [] [(6, .a (.c (.bx 6 0)))] [(6, .box [.p (.v (.int .i64 x1)), .p (.v (.int .i64 j_7_7c1)), .p (.v (.int .i64 0)), .p (.v (.bool false)), .nl 1, .nl 1])] [(6, 6)] fol hH hnt (by kernel_rfl) (by kernel_rfl) (C := True) (by kernel_rfl) (trivial) (rfl)) ?_
        refine s_ret ?_
        obtain rfl := Option.some.inj h
        exact ⟨.inr rfl, _, (sub_nilB (a := 6) (c := 4) (d := 8000000) (sz := 1) (l := [.p (.v (.int .i64 x1)), .p (.v (.int .i64 j_7_7c1)), .p (.v (.int .i64 0)), .p (.v (.bool false)), .nl 1, .nl 1]) 1 (by kernel_rfl) (by kernel_rfl) (by kernel_rfl)).trans (sub_nilB (a := 6) (c := 5) (d := 8000001) (sz := 1) (l := [.p (.v (.int .i64 x1)), .p (.v (.int .i64 j_7_7c1)), .p (.v (.int .i64 0)), .p (.v (.bool false)), .vw 8000000 0 0, .nl 1]) 1 (by kernel_rfl) (by kernel_rfl) (by kernel_rfl)), out_of [(2000004, 8000000), (2000005, 8000001)] (by kernel_rfl) (by kernel_rfl) (by kernel_rfl)⟩
def slow_Begin.A (x0 : api_Graph) (x1 : Int) (x2 : Int) : List SV := [.a (.agg [.p (.v (.int .i64 x0.N)), .p (.sl 1 (x0.Out.map e_Lint))]), .a (.c (.p (.v (.int .i64 x1)))), .a (.c (.p (.v (.int .i64 x2))))]
def slow_Begin.O0 (x0 : api_Graph) (x1 : Int) (x2 : Int) : List (Nat × RS) := []
def slow_Begin.R (r : api_Job × Int) : SV := .tup [.agg [.p (.v (.int .i64 r.1.Kind)), .p (.v (.int .i64 r.1.A)), .p (.v (.int .i64 r.1.At)), .p (.v (.bool r.1.Move)), .vw 2000004 0 r.1.List_.length, .vw 2000005 0 r.1.Out.length], .c (.p (.v (.int .i64 r.2)))]
def slow_Begin.O1 (r : api_Job × Int) : List (Nat × RS) := [(2000004, .row 1 (spRow (r.1.List_.map e_int))), (2000005, .row 1 (spRow (r.1.Out.map e_int)))]
theorem slow_Begin.nsR (r : api_Job × Int) : nsSV (slow_Begin.R r) := by simp [slow_Begin.R, nsSV, nsAV, nsCV, nsSP]
theorem slow_Begin.nsO (r : api_Job × Int) : ∀ k, nsRS (ofL (slow_Begin.O1 r) k) := by
  refine nsOf fun x hx => ?_
  simp only [slow_Begin.O1, List.mem_cons, List.not_mem_nil, or_false] at hx
  rcases hx with rfl | rfl
  · exact nsRow e_int_ns _
  · exact nsRow e_int_ns _
def slow_Begin (K : Nat) (x0 : api_Graph) (x1 : Int) (x2 : Int) : Option (api_Job × Int) :=
  (kernel_Asked K x0 x1 x2).bind fun r4_3 =>
  if (r4_3 != 0) then
    some ((⟨0, 0, 0, false, ([] : List Int), ([] : List Int)⟩ : api_Job), r4_3)
  else
    (slow_start K x0 x1 x2).bind fun r13_3 =>
    some (r13_3, 0)
theorem slow_Begin.ct (K : Nat) (x0 : api_Graph) (x1 : Int) (x2 : Int) (r : api_Job × Int) (h : slow_Begin K x0 x1 x2 = some r) : Ct PP 20 (slow_Begin.A x0 x1 x2) (ofL (slow_Begin.O0 x0 x1 x2)) (slow_Begin.R r) (ofL (slow_Begin.O1 r)) := by
  unfold slow_Begin at h
  refine ct_of (fn := Try.f20) (c := Try.f20.body.get!) (by kernel_rfl) (by kernel_rfl) [] (by kernel_rfl) (by kernel_rfl) (by kernel_rfl) fun Γ hnt hH => ?_
  refine s_seq ?_
  refine s_reg (tr_reg false [] [(1, .a (.c (.p (.v (.int .i64 x1))))), (2, .a (.c (.p (.v (.int .i64 x2))))), (3, .a (.c (.bx 3 0))), (6, .a (.c (.bx 6 0)))] [(3, .box [.p (.v (.int .i64 x0.N)), .p (.sl 1 (x0.Out.map e_Lint))]), (6, .box [.p (.v (.int .i64 0)), .p (.v (.int .i64 0)), .p (.v (.int .i64 0)), .p (.v (.bool false)), .nl 1, .nl 1])] [(3, 3), (6, 6)] fol hH hnt (by kernel_rfl) (by kernel_rfl) (C := True) (by kernel_rfl) (trivial) (rfl)) ?_
  refine s_seq ?_
  refine s_seq ?_
  obtain ⟨r4_3, c4_3, h⟩ := bd_some h
  refine s_reg (tr_reg false [.no, .no, .no, .call ⟨kernel_Asked.A x0 x1 x2, kernel_Asked.O0 x0 x1 x2, [], [], kernel_Asked.R r4_3, kernel_Asked.O1 r4_3, []⟩] [(1, .a (.c (.p (.v (.int .i64 x1))))), (2, .a (.c (.p (.v (.int .i64 x2))))), (3, .a (.c (.bx 3 0))), (6, .a (.c (.bx 6 0))), (8, .a (.c (.p (.v (.int .i64 r4_3)))))] [(3, .box [.p (.v (.int .i64 x0.N)), .p (.sl 1 (x0.Out.map e_Lint))]), (6, .box [.p (.v (.int .i64 0)), .p (.v (.int .i64 0)), .p (.v (.int .i64 0)), .p (.v (.bool false)), .nl 1, .nl 1])] [(3, 3), (6, 6)] fol hH hnt (by kernel_rfl) (by kernel_rfl) (C := Ct PP 63 (kernel_Asked.A x0 x1 x2) (ofL (kernel_Asked.O0 x0 x1 x2)) (kernel_Asked.R r4_3) (ofL (kernel_Asked.O1 r4_3)) ∧ (((trCV [] (.p (.v (.int .i64 x0.N))) = some (.p (.v (.int .i64 x0.N)))) ∧ (trCV [] (.p (.sl 1 (x0.Out.map e_Lint))) = some (.p (.sl 1 (x0.Out.map e_Lint)))) ∧ True) ∧ (trCV [] (.p (.v (.int .i64 x1))) = some (.p (.v (.int .i64 x1)))) ∧ (trCV [] (.p (.v (.int .i64 x2))) = some (.p (.v (.int .i64 x2)))) ∧ (True)) ∧ ((True)) ∧ (([] : List Nat) = [] ∨ nsSV (kernel_Asked.R r4_3) ∧ nsAll ⟨kernel_Asked.A x0 x1 x2, kernel_Asked.O0 x0 x1 x2, [], [], kernel_Asked.R r4_3, kernel_Asked.O1 r4_3, []⟩ [])) (by kernel_rfl) (⟨kernel_Asked.ct K x0 x1 x2 _ c4_3, ⟨⟨rfl, rfl, trivial⟩, rfl, rfl, trivial⟩, trivial, Or.inl rfl⟩) (rfl)) ?_
  refine s_seq ?_
  refine s_reg (tr_reg false [] [(1, .a (.c (.p (.v (.int .i64 x1))))), (2, .a (.c (.p (.v (.int .i64 x2))))), (3, .a (.c (.bx 3 0))), (6, .a (.c (.bx 6 0))), (8, .a (.c (.p (.v (.int .i64 r4_3))))), (14, .a (.c (.p (.v (.bool (r4_3 != 0))))))] [(3, .box [.p (.v (.int .i64 x0.N)), .p (.sl 1 (x0.Out.map e_Lint))]), (6, .box [.p (.v (.int .i64 0)), .p (.v (.int .i64 0)), .p (.v (.int .i64 0)), .p (.v (.bool false)), .nl 1, .nl 1])] [(3, 3), (6, 6)] fol hH hnt (by kernel_rfl) (by kernel_rfl) (C := True) (by kernel_rfl) (trivial) (rfl)) ?_
  refine s_cond ((r4_3 != 0)) (by kernel_rfl) (fun hb => ?_) (fun hb => ?_)
  · replace h := ite_t hb h
    refine s_seq ?_
    refine s_reg (tr_reg false [] [(6, .a (.c (.bx 6 0))), (7, .a (.c (.p (.v (.int .i64 r4_3)))))] [(6, .box [.p (.v (.int .i64 0)), .p (.v (.int .i64 0)), .p (.v (.int .i64 0)), .p (.v (.bool false)), .nl 1, .nl 1])] [(6, 6)] fol hH hnt (by kernel_rfl) (by kernel_rfl) (C := True) (by kernel_rfl) (trivial) (rfl)) ?_
    refine s_ret ?_
    obtain rfl := Option.some.inj h
    exact ⟨.inr rfl, _, (sub_nilB (a := 6) (c := 4) (d := 8000000) (sz := 1) (l := [.p (.v (.int .i64 0)), .p (.v (.int .i64 0)), .p (.v (.int .i64 0)), .p (.v (.bool false)), .nl 1, .nl 1]) 1 (by kernel_rfl) (by kernel_rfl) (by kernel_rfl)).trans (sub_nilB (a := 6) (c := 5) (d := 8000001) (sz := 1) (l := [.p (.v (.int .i64 0)), .p (.v (.int .i64 0)), .p (.v (.int .i64 0)), .p (.v (.bool false)), .vw 8000000 0 0, .nl 1]) 1 (by kernel_rfl) (by kernel_rfl) (by kernel_rfl)), out_of [(2000004, 8000000), (2000005, 8000001)] (by kernel_rfl) (by kernel_rfl) (by kernel_rfl)⟩
  · replace h := ite_f hb h
    refine s_skip ?_
    refine s_seq ?_
    obtain ⟨r13_3, c13_3, h⟩ := bd_some h
    refine s_reg (tr_reg false [.no, .no, .no, .call ⟨slow_start.A x0 x1 x2, slow_start.O0 x0 x1 x2, [], [], slow_start.R r13_3, slow_start.O1 r13_3, [(2000004, 4130300), (2000005, 4130301)]⟩] [(6, .a (.c (.bx 6 0))), (7, .a (.c (.p (.v (.int .i64 0)))))] [(6, .box [.p (.v (.int .i64 r13_3.Kind)), .p (.v (.int .i64 r13_3.A)), .p (.v (.int .i64 r13_3.At)), .p (.v (.bool r13_3.Move)), .vw 4130300 0 r13_3.List_.length, .vw 4130301 0 r13_3.Out.length]), (4130300, .row 1 (spRow (r13_3.List_.map e_int))), (4130301, .row 1 (spRow (r13_3.Out.map e_int)))] [(6, 6), (4130300, 4130300), (4130301, 4130301)] fol hH hnt (by kernel_rfl) (by kernel_rfl) (C := Ct PP 64 (slow_start.A x0 x1 x2) (ofL (slow_start.O0 x0 x1 x2)) (slow_start.R r13_3) (ofL (slow_start.O1 r13_3)) ∧ (((trCV [] (.p (.v (.int .i64 x0.N))) = some (.p (.v (.int .i64 x0.N)))) ∧ (trCV [] (.p (.sl 1 (x0.Out.map e_Lint))) = some (.p (.sl 1 (x0.Out.map e_Lint)))) ∧ True) ∧ (trCV [] (.p (.v (.int .i64 x1))) = some (.p (.v (.int .i64 x1)))) ∧ (trCV [] (.p (.v (.int .i64 x2))) = some (.p (.v (.int .i64 x2)))) ∧ (True)) ∧ ((True)) ∧ (([] : List Nat) = [] ∨ nsSV (slow_start.R r13_3) ∧ nsAll ⟨slow_start.A x0 x1 x2, slow_start.O0 x0 x1 x2, [], [], slow_start.R r13_3, slow_start.O1 r13_3, [(2000004, 4130300), (2000005, 4130301)]⟩ [(2000004, 4130300), (2000005, 4130301)])) (by kernel_rfl) (⟨slow_start.ct K x0 x1 x2 _ c13_3, ⟨⟨rfl, rfl, trivial⟩, rfl, rfl, trivial⟩, trivial, Or.inl rfl⟩) (rfl)) ?_
    refine s_ret ?_
    obtain rfl := Option.some.inj h
    exact ⟨.inr rfl, _, Sub.refl, out_of [(2000004, 4130300), (2000005, 4130301)] (by kernel_rfl) (by kernel_rfl) (by kernel_rfl)⟩
def slices_Equal___int_int_.A (x0 : List Int) (x1 : List Int) : List SV := [.a (.c (.p (.sl 1 (x0.map e_int)))), .a (.c (.p (.sl 1 (x1.map e_int))))]
def slices_Equal___int_int_.O0 (x0 : List Int) (x1 : List Int) : List (Nat × RS) := []
def slices_Equal___int_int_.R (r : Bool) : SV := .a (.c (.p (.v (.bool r))))
def slices_Equal___int_int_.O1 (r : Bool) : List (Nat × RS) := []
theorem slices_Equal___int_int_.nsR (r : Bool) : nsSV (slices_Equal___int_int_.R r) := by simp [slices_Equal___int_int_.R, nsSV, nsAV, nsCV, nsSP]
theorem slices_Equal___int_int_.nsO (r : Bool) : ∀ k, nsRS (ofL (slices_Equal___int_int_.O1 r) k) := by
  refine nsOf fun x hx => ?_
  simp only [slices_Equal___int_int_.O1, List.mem_cons, List.not_mem_nil, or_false] at hx
def slices_Equal___int_int_.l1 (K : Nat) (x0 : List Int) (x1 : List Int) : Nat → Int → Option Bool
  | 0, _ => none
  | k + 1, t_14_13 =>
    if decide (t_14_13 < (((x0).length : Nat) : Int)) then
      if 0 ≤ t_14_13 ∧ t_14_13 < ((x0).length : Int) then
      if 0 ≤ t_14_13 ∧ t_14_13 < ((x1).length : Int) then
      if ((nth x0 t_14_13) != (nth x1 t_14_13)) then
        some false
      else
        slices_Equal___int_int_.l1 K x0 x1 k (wr .i64 (t_14_13 + 1))
      else none
      else none
    else
      some true
def slices_Equal___int_int_ (K : Nat) (x0 : List Int) (x1 : List Int) : Option Bool :=
  if ((((x0).length : Nat) : Int) != (((x1).length : Nat) : Int)) then
    some false
  else
    slices_Equal___int_int_.l1 K x0 x1 K 0
theorem slices_Equal___int_int_.ct (K : Nat) (x0 : List Int) (x1 : List Int) (r : Bool) (h : slices_Equal___int_int_ K x0 x1 = some r) : Ct PP 121 (slices_Equal___int_int_.A x0 x1) (ofL (slices_Equal___int_int_.O0 x0 x1)) (slices_Equal___int_int_.R r) (ofL (slices_Equal___int_int_.O1 r)) := by
  unfold slices_Equal___int_int_ at h
  refine ct_of (fn := Try.f121) (c := Try.f121.body.get!) (by kernel_rfl) (by kernel_rfl) [] (by kernel_rfl) (by kernel_rfl) (by kernel_rfl) fun Γ hnt hH => ?_
  refine s_seq ?_
  refine s_reg (tr_reg false [] [(0, .a (.c (.p (.sl 1 (x0.map e_int))))), (1, .a (.c (.p (.sl 1 (x1.map e_int)))))] [] [] fol hH hnt (by kernel_rfl) (by kernel_rfl) (C := True) (by kernel_rfl) (trivial) (rfl)) ?_
  refine s_seq ?_
  refine s_seq ?_
  refine s_reg (tr_reg false [.no, .val (.int .i64 (((x0).length : Nat) : Int)), .no, .val (.int .i64 (((x1).length : Nat) : Int))] [(0, .a (.c (.p (.sl 1 (x0.map e_int))))), (1, .a (.c (.p (.sl 1 (x1.map e_int))))), (10, .a (.c (.p (.v (.bool ((((x0).length : Nat) : Int) != (((x1).length : Nat) : Int)))))))] [] [] fol hH hnt (by kernel_rfl) (by kernel_rfl) (C := (Value.int .i64 (((x0.map e_int).length : Nat) : Int) = .int .i64 (((x0).length : Nat) : Int)) ∧ (Value.int .i64 (((x1.map e_int).length : Nat) : Int) = .int .i64 (((x1).length : Nat) : Int))) (by kernel_rfl) (⟨lenV (spLen (f := e_int) (xs := x0) (rfl)), lenV (spLen (f := e_int) (xs := x1) (rfl))⟩) (rfl)) ?_
  refine s_cond (((((x0).length : Nat) : Int) != (((x1).length : Nat) : Int))) (by kernel_rfl) (fun hb => ?_) (fun hb => ?_)
  · replace h := ite_t hb h
    refine s_seq ?_
    refine s_reg (tr_reg false [] [(4, .a (.c (.p (.v (.bool false)))))] [] [] fol hH hnt (by kernel_rfl) (by kernel_rfl) (C := True) (by kernel_rfl) (trivial) (rfl)) ?_
    refine s_ret ?_
    obtain rfl := Option.some.inj h
    exact ⟨.inr rfl, _, Sub.refl, out_of [] (by kernel_rfl) (by kernel_rfl) (by kernel_rfl)⟩
  · replace h := ite_f hb h
    refine s_skip ?_
    refine s_seq ?_
    refine s_seq ?_
    refine s_reg (tr_reg false [.no, .val (.int .i64 (((x0).length : Nat) : Int))] [(0, .a (.c (.p (.sl 1 (x0.map e_int))))), (1, .a (.c (.p (.sl 1 (x1.map e_int))))), (12, .a (.c (.p (.v (.int .i64 (((x0).length : Nat) : Int)))))), (13, .a (.c (.p (.v (.int .i64 0)))))] [] [] fol hH hnt (by kernel_rfl) (by kernel_rfl) (C := Value.int .i64 (((x0.map e_int).length : Nat) : Int) = .int .i64 (((x0).length : Nat) : Int)) (by kernel_rfl) (lenV (spLen (f := e_int) (xs := x0) (rfl))) (rfl)) ?_
    refine s_block ?_
    refine s_loop (fun k_l1 σ => ∃ (t_14_13 : Int), slices_Equal___int_int_.l1 K x0 x1 k_l1 t_14_13 = some r ∧ σ = mk [(0, .a (.c (.p (.sl 1 (x0.map e_int))))), (1, .a (.c (.p (.sl 1 (x1.map e_int))))), (12, .a (.c (.p (.v (.int .i64 (((x0).length : Nat) : Int)))))), (13, .a (.c (.p (.v (.int .i64 t_14_13)))))] []) ?_ ?_ K ⟨0, h, rfl⟩
    · rintro _ ⟨t_14_13, h, _⟩
      simp [slices_Equal___int_int_.l1] at h
    · rintro k_l1 _ ⟨t_14_13, h, rfl⟩
      rw [slices_Equal___int_int_.l1] at h
      refine s_seq ?_
      refine s_reg (tr_reg false [] [(0, .a (.c (.p (.sl 1 (x0.map e_int))))), (1, .a (.c (.p (.sl 1 (x1.map e_int))))), (12, .a (.c (.p (.v (.int .i64 (((x0).length : Nat) : Int)))))), (13, .a (.c (.p (.v (.int .i64 t_14_13))))), (14, .a (.c (.p (.v (.bool (decide (t_14_13 < (((x0).length : Nat) : Int))))))))] [] [] fol hH hnt (by kernel_rfl) (by kernel_rfl) (C := True) (by kernel_rfl) (trivial) (rfl)) ?_
      refine s_seq ?_
      refine s_cond (decide (t_14_13 < (((x0).length : Nat) : Int))) (by kernel_rfl) (fun hb => ?_) (fun hb => ?_)
      · replace h := ite_t hb h
        refine s_skip ?_
        refine s_seq ?_
        refine s_block ?_
        refine s_seq ?_
        refine s_reg (tr_reg false [] [(0, .a (.c (.p (.sl 1 (x0.map e_int))))), (1, .a (.c (.p (.sl 1 (x1.map e_int))))), (5, .a (.c (.p (.v (.int .i64 t_14_13))))), (12, .a (.c (.p (.v (.int .i64 (((x0).length : Nat) : Int)))))), (13, .a (.c (.p (.v (.int .i64 t_14_13)))))] [] [] fol hH hnt (by kernel_rfl) (by kernel_rfl) (C := True) (by kernel_rfl) (trivial) (rfl)) ?_
        refine s_seq ?_
        obtain ⟨g26_2_0, h⟩ := gd_some h
        obtain ⟨g26_6_1, h⟩ := gd_some h
        refine s_reg (tr_reg true [.no, .no, .sps (e_int (nth x0 t_14_13)), .no, .no, .no, .sps (e_int (nth x1 t_14_13))] [(0, .a (.c (.p (.sl 1 (x0.map e_int))))), (1, .a (.c (.p (.sl 1 (x1.map e_int))))), (12, .a (.c (.p (.v (.int .i64 (((x0).length : Nat) : Int)))))), (13, .a (.c (.p (.v (.int .i64 t_14_13))))), (24, .a (.c (.p (.v (.bool ((nth x0 t_14_13) != (nth x1 t_14_13)))))))] [] [] fol hH hnt (by kernel_rfl) (by kernel_rfl) (C := (0 ≤ t_14_13 ∧ (x0.map e_int)[(t_14_13).toNat]? = some (e_int (nth x0 t_14_13))) ∧ (0 ≤ t_14_13 ∧ (x1.map e_int)[(t_14_13).toNat]? = some (e_int (nth x1 t_14_13)))) (by kernel_rfl) (⟨⟨g26_2_0.1, spGet (rfl) g26_2_0.1 g26_2_0.2⟩, ⟨g26_6_1.1, spGet (rfl) g26_6_1.1 g26_6_1.2⟩⟩) (rfl)) ?_
        refine s_cond (((nth x0 t_14_13) != (nth x1 t_14_13))) (by kernel_rfl) (fun hb => ?_) (fun hb => ?_)
        · replace h := ite_t hb h
          refine s_seq ?_
          refine s_reg (tr_reg false [] [(4, .a (.c (.p (.v (.bool false)))))] [] [] fol hH hnt (by kernel_rfl) (by kernel_rfl) (C := True) (by kernel_rfl) (trivial) (rfl)) ?_
          refine s_ret ?_
          obtain rfl := Option.some.inj h
          exact ⟨.inr rfl, _, Sub.refl, out_of [] (by kernel_rfl) (by kernel_rfl) (by kernel_rfl)⟩
        · replace h := ite_f hb h
          refine s_skip ?_
          refine s_regz (tr_reg false [] [(0, .a (.c (.p (.sl 1 (x0.map e_int))))), (1, .a (.c (.p (.sl 1 (x1.map e_int))))), (12, .a (.c (.p (.v (.int .i64 (((x0).length : Nat) : Int)))))), (13, .a (.c (.p (.v (.int .i64 (wr .i64 (t_14_13 + 1)))))))] [] [] fol hH hnt (by kernel_rfl) (by kernel_rfl) (C := True) (by kernel_rfl) (trivial) (rfl)) (fun σ1 hs => ?_)
          exact ⟨_, ⟨wr .i64 (t_14_13 + 1), h, rfl⟩, hs.trans (Sub.refl)⟩
      · replace h := ite_f hb h
        refine s_exit ?_
        refine qr_exit ?_
        refine q_hit ?_
        refine s_seq ?_
        refine s_reg (tr_reg false [] [(4, .a (.c (.p (.v (.bool true)))))] [] [] fol hH hnt (by kernel_rfl) (by kernel_rfl) (C := True) (by kernel_rfl) (trivial) (rfl)) ?_
        refine s_ret ?_
        obtain rfl := Option.some.inj h
        exact ⟨.inr rfl, _, Sub.refl, out_of [] (by kernel_rfl) (by kernel_rfl) (by kernel_rfl)⟩
def slow_same.A (x0 : api_Job) (x1 : api_Job) : List SV := [.a (.agg [.p (.v (.int .i64 x0.Kind)), .p (.v (.int .i64 x0.A)), .p (.v (.int .i64 x0.At)), .p (.v (.bool x0.Move)), .p (.sl 1 (x0.List_.map e_int)), .p (.sl 1 (x0.Out.map e_int))]), .a (.agg [.p (.v (.int .i64 x1.Kind)), .p (.v (.int .i64 x1.A)), .p (.v (.int .i64 x1.At)), .p (.v (.bool x1.Move)), .p (.sl 1 (x1.List_.map e_int)), .p (.sl 1 (x1.Out.map e_int))])]
def slow_same.O0 (x0 : api_Job) (x1 : api_Job) : List (Nat × RS) := []
def slow_same.R (r : Bool) : SV := .a (.c (.p (.v (.bool r))))
def slow_same.O1 (r : Bool) : List (Nat × RS) := []
theorem slow_same.nsR (r : Bool) : nsSV (slow_same.R r) := by simp [slow_same.R, nsSV, nsAV, nsCV, nsSP]
theorem slow_same.nsO (r : Bool) : ∀ k, nsRS (ofL (slow_same.O1 r) k) := by
  refine nsOf fun x hx => ?_
  simp only [slow_same.O1, List.mem_cons, List.not_mem_nil, or_false] at hx
def slow_same (K : Nat) (x0 : api_Job) (x1 : api_Job) : Option Bool :=
  if (x0.Kind == x1.Kind) then
    if (x0.A == x1.A) then
      if (x0.At == x1.At) then
        if (x0.Move == x1.Move) then
          (slices_Equal___int_int_ K x0.List_ x1.List_).bind fun r3_31 =>
          if r3_31 then
            (slices_Equal___int_int_ K x0.Out x1.Out).bind fun r3_38 =>
            some r3_38
          else
            some false
        else
          some false
      else
        some false
    else
      some false
  else
    some false
theorem slow_same.ct (K : Nat) (x0 : api_Job) (x1 : api_Job) (r : Bool) (h : slow_same K x0 x1 = some r) : Ct PP 103 (slow_same.A x0 x1) (ofL (slow_same.O0 x0 x1)) (slow_same.R r) (ofL (slow_same.O1 r)) := by
  unfold slow_same at h
  refine ct_of (fn := Try.f103) (c := Try.f103.body.get!) (by kernel_rfl) (by kernel_rfl) [] (by kernel_rfl) (by kernel_rfl) (by kernel_rfl) fun Γ hnt hH => ?_
  refine s_seq ?_
  refine s_reg (tr_reg false [] [(2, .a (.c (.bx 2 0))), (3, .a (.c (.bx 3 0)))] [(2, .box [.p (.v (.int .i64 x0.Kind)), .p (.v (.int .i64 x0.A)), .p (.v (.int .i64 x0.At)), .p (.v (.bool x0.Move)), .p (.sl 1 (x0.List_.map e_int)), .p (.sl 1 (x0.Out.map e_int))]), (3, .box [.p (.v (.int .i64 x1.Kind)), .p (.v (.int .i64 x1.A)), .p (.v (.int .i64 x1.At)), .p (.v (.bool x1.Move)), .p (.sl 1 (x1.List_.map e_int)), .p (.sl 1 (x1.Out.map e_int))])] [(2, 2), (3, 3)] fol hH hnt (by kernel_rfl) (by kernel_rfl) (C := True) (by kernel_rfl) (trivial) (rfl)) ?_
  refine s_seq ?_
  by_cases s3_5 : (x0.Kind == x1.Kind) = true
  · replace h := ite_t s3_5 h
    by_cases s3_12 : (x0.A == x1.A) = true
    · replace h := ite_t s3_12 h
      by_cases s3_19 : (x0.At == x1.At) = true
      · replace h := ite_t s3_19 h
        by_cases s3_26 : (x0.Move == x1.Move) = true
        · replace h := ite_t s3_26 h
          obtain ⟨r3_31, c3_31, h⟩ := bd_some h
          by_cases s3_33 : r3_31 = true
          · replace h := ite_t s3_33 h
            obtain ⟨r3_38, c3_38, h⟩ := bd_some h
            refine s_reg (tr_reg false [.no, .no, .no, .no, .no, .is true .no, .no, .no, .no, .no, .no, .no, .is true .no, .no, .no, .no, .no, .no, .no, .is true .no, .no, .no, .no, .no, .no, .no, .is true .no, .no, .no, .no, .no, .call ⟨slices_Equal___int_int_.A x0.List_ x1.List_, slices_Equal___int_int_.O0 x0.List_ x1.List_, [], [], slices_Equal___int_int_.R r3_31, slices_Equal___int_int_.O1 r3_31, []⟩, .no, .is true .no, .no, .no, .no, .no, .call ⟨slices_Equal___int_int_.A x0.Out x1.Out, slices_Equal___int_int_.O0 x0.Out x1.Out, [], [], slices_Equal___int_int_.R r3_38, slices_Equal___int_int_.O1 r3_38, []⟩] [(4, .a (.c (.p (.v (.bool r3_38)))))] [] [] fol hH hnt (by kernel_rfl) (by kernel_rfl) (C := ((x0.Kind == x1.Kind) = true) ∧ ((x0.A == x1.A) = true) ∧ ((x0.At == x1.At) = true) ∧ ((x0.Move == x1.Move) = true) ∧ (Ct PP 121 (slices_Equal___int_int_.A x0.List_ x1.List_) (ofL (slices_Equal___int_int_.O0 x0.List_ x1.List_)) (slices_Equal___int_int_.R r3_31) (ofL (slices_Equal___int_int_.O1 r3_31)) ∧ ((trCV [] (.p (.sl 1 (x0.List_.map e_int))) = some (.p (.sl 1 (x0.List_.map e_int)))) ∧ (trCV [] (.p (.sl 1 (x1.List_.map e_int))) = some (.p (.sl 1 (x1.List_.map e_int)))) ∧ (True)) ∧ ((True)) ∧ (([] : List Nat) = [] ∨ nsSV (slices_Equal___int_int_.R r3_31) ∧ nsAll ⟨slices_Equal___int_int_.A x0.List_ x1.List_, slices_Equal___int_int_.O0 x0.List_ x1.List_, [], [], slices_Equal___int_int_.R r3_31, slices_Equal___int_int_.O1 r3_31, []⟩ [])) ∧ (r3_31 = true) ∧ (Ct PP 121 (slices_Equal___int_int_.A x0.Out x1.Out) (ofL (slices_Equal___int_int_.O0 x0.Out x1.Out)) (slices_Equal___int_int_.R r3_38) (ofL (slices_Equal___int_int_.O1 r3_38)) ∧ ((trCV [] (.p (.sl 1 (x0.Out.map e_int))) = some (.p (.sl 1 (x0.Out.map e_int)))) ∧ (trCV [] (.p (.sl 1 (x1.Out.map e_int))) = some (.p (.sl 1 (x1.Out.map e_int)))) ∧ (True)) ∧ ((True)) ∧ (([] : List Nat) = [] ∨ nsSV (slices_Equal___int_int_.R r3_38) ∧ nsAll ⟨slices_Equal___int_int_.A x0.Out x1.Out, slices_Equal___int_int_.O0 x0.Out x1.Out, [], [], slices_Equal___int_int_.R r3_38, slices_Equal___int_int_.O1 r3_38, []⟩ []))) (by kernel_rfl) (⟨s3_5, s3_12, s3_19, s3_26, ⟨slices_Equal___int_int_.ct K x0.List_ x1.List_ _ c3_31, ⟨rfl, rfl, trivial⟩, trivial, Or.inl rfl⟩, s3_33, ⟨slices_Equal___int_int_.ct K x0.Out x1.Out _ c3_38, ⟨rfl, rfl, trivial⟩, trivial, Or.inl rfl⟩⟩) (rfl)) ?_
            refine s_ret ?_
            obtain rfl := Option.some.inj h
            exact ⟨.inr rfl, _, Sub.refl, out_of [] (by kernel_rfl) (by kernel_rfl) (by kernel_rfl)⟩
          · replace s3_33 := eq_false_of_ne_true s3_33
            replace h := ite_f s3_33 h
            refine s_reg (tr_reg false [.no, .no, .no, .no, .no, .is true .no, .no, .no, .no, .no, .no, .no, .is true .no, .no, .no, .no, .no, .no, .no, .is true .no, .no, .no, .no, .no, .no, .no, .is true .no, .no, .no, .no, .no, .call ⟨slices_Equal___int_int_.A x0.List_ x1.List_, slices_Equal___int_int_.O0 x0.List_ x1.List_, [], [], slices_Equal___int_int_.R r3_31, slices_Equal___int_int_.O1 r3_31, []⟩, .no, .is false .no] [(4, .a (.c (.p (.v (.bool false)))))] [] [] fol hH hnt (by kernel_rfl) (by kernel_rfl) (C := ((x0.Kind == x1.Kind) = true) ∧ ((x0.A == x1.A) = true) ∧ ((x0.At == x1.At) = true) ∧ ((x0.Move == x1.Move) = true) ∧ (Ct PP 121 (slices_Equal___int_int_.A x0.List_ x1.List_) (ofL (slices_Equal___int_int_.O0 x0.List_ x1.List_)) (slices_Equal___int_int_.R r3_31) (ofL (slices_Equal___int_int_.O1 r3_31)) ∧ ((trCV [] (.p (.sl 1 (x0.List_.map e_int))) = some (.p (.sl 1 (x0.List_.map e_int)))) ∧ (trCV [] (.p (.sl 1 (x1.List_.map e_int))) = some (.p (.sl 1 (x1.List_.map e_int)))) ∧ (True)) ∧ ((True)) ∧ (([] : List Nat) = [] ∨ nsSV (slices_Equal___int_int_.R r3_31) ∧ nsAll ⟨slices_Equal___int_int_.A x0.List_ x1.List_, slices_Equal___int_int_.O0 x0.List_ x1.List_, [], [], slices_Equal___int_int_.R r3_31, slices_Equal___int_int_.O1 r3_31, []⟩ [])) ∧ (r3_31 = false)) (by kernel_rfl) (⟨s3_5, s3_12, s3_19, s3_26, ⟨slices_Equal___int_int_.ct K x0.List_ x1.List_ _ c3_31, ⟨rfl, rfl, trivial⟩, trivial, Or.inl rfl⟩, s3_33⟩) (rfl)) ?_
            refine s_ret ?_
            obtain rfl := Option.some.inj h
            exact ⟨.inr rfl, _, Sub.refl, out_of [] (by kernel_rfl) (by kernel_rfl) (by kernel_rfl)⟩
        · replace s3_26 := eq_false_of_ne_true s3_26
          replace h := ite_f s3_26 h
          refine s_reg (tr_reg false [.no, .no, .no, .no, .no, .is true .no, .no, .no, .no, .no, .no, .no, .is true .no, .no, .no, .no, .no, .no, .no, .is true .no, .no, .no, .no, .no, .no, .no, .is false .no] [(4, .a (.c (.p (.v (.bool false)))))] [] [] fol hH hnt (by kernel_rfl) (by kernel_rfl) (C := ((x0.Kind == x1.Kind) = true) ∧ ((x0.A == x1.A) = true) ∧ ((x0.At == x1.At) = true) ∧ ((x0.Move == x1.Move) = false)) (by kernel_rfl) (⟨s3_5, s3_12, s3_19, s3_26⟩) (rfl)) ?_
          refine s_ret ?_
          obtain rfl := Option.some.inj h
          exact ⟨.inr rfl, _, Sub.refl, out_of [] (by kernel_rfl) (by kernel_rfl) (by kernel_rfl)⟩
      · replace s3_19 := eq_false_of_ne_true s3_19
        replace h := ite_f s3_19 h
        refine s_reg (tr_reg false [.no, .no, .no, .no, .no, .is true .no, .no, .no, .no, .no, .no, .no, .is true .no, .no, .no, .no, .no, .no, .no, .is false .no] [(4, .a (.c (.p (.v (.bool false)))))] [] [] fol hH hnt (by kernel_rfl) (by kernel_rfl) (C := ((x0.Kind == x1.Kind) = true) ∧ ((x0.A == x1.A) = true) ∧ ((x0.At == x1.At) = false)) (by kernel_rfl) (⟨s3_5, s3_12, s3_19⟩) (rfl)) ?_
        refine s_ret ?_
        obtain rfl := Option.some.inj h
        exact ⟨.inr rfl, _, Sub.refl, out_of [] (by kernel_rfl) (by kernel_rfl) (by kernel_rfl)⟩
    · replace s3_12 := eq_false_of_ne_true s3_12
      replace h := ite_f s3_12 h
      refine s_reg (tr_reg false [.no, .no, .no, .no, .no, .is true .no, .no, .no, .no, .no, .no, .no, .is false .no] [(4, .a (.c (.p (.v (.bool false)))))] [] [] fol hH hnt (by kernel_rfl) (by kernel_rfl) (C := ((x0.Kind == x1.Kind) = true) ∧ ((x0.A == x1.A) = false)) (by kernel_rfl) (⟨s3_5, s3_12⟩) (rfl)) ?_
      refine s_ret ?_
      obtain rfl := Option.some.inj h
      exact ⟨.inr rfl, _, Sub.refl, out_of [] (by kernel_rfl) (by kernel_rfl) (by kernel_rfl)⟩
  · replace s3_5 := eq_false_of_ne_true s3_5
    replace h := ite_f s3_5 h
    refine s_reg (tr_reg false [.no, .no, .no, .no, .no, .is false .no] [(4, .a (.c (.p (.v (.bool false)))))] [] [] fol hH hnt (by kernel_rfl) (by kernel_rfl) (C := (x0.Kind == x1.Kind) = false) (by kernel_rfl) (s3_5) (rfl)) ?_
    refine s_ret ?_
    obtain rfl := Option.some.inj h
    exact ⟨.inr rfl, _, Sub.refl, out_of [] (by kernel_rfl) (by kernel_rfl) (by kernel_rfl)⟩
def slow_Over.A (x0 : api_Graph) (x1 : api_Job) : List SV := [.a (.agg [.p (.v (.int .i64 x0.N)), .p (.sl 1 (x0.Out.map e_Lint))]), .a (.agg [.p (.v (.int .i64 x1.Kind)), .p (.v (.int .i64 x1.A)), .p (.v (.int .i64 x1.At)), .p (.v (.bool x1.Move)), .p (.sl 1 (x1.List_.map e_int)), .p (.sl 1 (x1.Out.map e_int))])]
def slow_Over.O0 (x0 : api_Graph) (x1 : api_Job) : List (Nat × RS) := []
def slow_Over.R (r : Bool) : SV := .a (.c (.p (.v (.bool r))))
def slow_Over.O1 (r : Bool) : List (Nat × RS) := []
theorem slow_Over.nsR (r : Bool) : nsSV (slow_Over.R r) := by simp [slow_Over.R, nsSV, nsAV, nsCV, nsSP]
theorem slow_Over.nsO (r : Bool) : ∀ k, nsRS (ofL (slow_Over.O1 r) k) := by
  refine nsOf fun x hx => ?_
  simp only [slow_Over.O1, List.mem_cons, List.not_mem_nil, or_false] at hx
def slow_Over (K : Nat) (x0 : api_Graph) (x1 : api_Job) : Option Bool :=
  if (x1.Kind == 1) then
    some (decide (x1.At ≥ 1))
  else
    if (x1.Kind == 4) then
      some (decide (x1.At ≥ (((x1.List_).length : Nat) : Int)))
    else
      some (decide (x1.At ≥ x0.N))
theorem slow_Over.ct (K : Nat) (x0 : api_Graph) (x1 : api_Job) (r : Bool) (h : slow_Over K x0 x1 = some r) : Ct PP 73 (slow_Over.A x0 x1) (ofL (slow_Over.O0 x0 x1)) (slow_Over.R r) (ofL (slow_Over.O1 r)) := by
  unfold slow_Over at h
  refine ct_of (fn := Try.f73) (c := Try.f73.body.get!) (by kernel_rfl) (by kernel_rfl) [] (by kernel_rfl) (by kernel_rfl) (by kernel_rfl) fun Γ hnt hH => ?_
  refine s_seq ?_
  refine s_reg (tr_reg false [] [(2, .a (.c (.bx 2 0))), (3, .a (.c (.bx 3 0)))] [(2, .box [.p (.v (.int .i64 x0.N)), .p (.sl 1 (x0.Out.map e_Lint))]), (3, .box [.p (.v (.int .i64 x1.Kind)), .p (.v (.int .i64 x1.A)), .p (.v (.int .i64 x1.At)), .p (.v (.bool x1.Move)), .p (.sl 1 (x1.List_.map e_int)), .p (.sl 1 (x1.Out.map e_int))])] [(2, 2), (3, 3)] fol hH hnt (by kernel_rfl) (by kernel_rfl) (C := True) (by kernel_rfl) (trivial) (rfl)) ?_
  refine s_seq ?_
  refine s_seq ?_
  refine s_reg (tr_reg false [] [(2, .a (.c (.bx 2 0))), (3, .a (.c (.bx 3 0))), (6, .a (.c (.p (.v (.int .i64 x1.Kind)))))] [(2, .box [.p (.v (.int .i64 x0.N)), .p (.sl 1 (x0.Out.map e_Lint))]), (3, .box [.p (.v (.int .i64 x1.Kind)), .p (.v (.int .i64 x1.A)), .p (.v (.int .i64 x1.At)), .p (.v (.bool x1.Move)), .p (.sl 1 (x1.List_.map e_int)), .p (.sl 1 (x1.Out.map e_int))])] [(2, 2), (3, 3)] fol hH hnt (by kernel_rfl) (by kernel_rfl) (C := True) (by kernel_rfl) (trivial) (rfl)) ?_
  refine s_block ?_
  refine s_seq ?_
  refine s_reg (tr_reg false [] [(2, .a (.c (.bx 2 0))), (3, .a (.c (.bx 3 0))), (6, .a (.c (.p (.v (.int .i64 x1.Kind))))), (7, .a (.c (.p (.v (.bool (x1.Kind == 1))))))] [(2, .box [.p (.v (.int .i64 x0.N)), .p (.sl 1 (x0.Out.map e_Lint))]), (3, .box [.p (.v (.int .i64 x1.Kind)), .p (.v (.int .i64 x1.A)), .p (.v (.int .i64 x1.At)), .p (.v (.bool x1.Move)), .p (.sl 1 (x1.List_.map e_int)), .p (.sl 1 (x1.Out.map e_int))])] [(2, 2), (3, 3)] fol hH hnt (by kernel_rfl) (by kernel_rfl) (C := True) (by kernel_rfl) (trivial) (rfl)) ?_
  refine s_cond ((x1.Kind == 1)) (by kernel_rfl) (fun hb => ?_) (fun hb => ?_)
  · replace h := ite_t hb h
    refine s_seq ?_
    refine s_reg (tr_reg false [] [(4, .a (.c (.p (.v (.bool (decide (x1.At ≥ 1)))))))] [] [] fol hH hnt (by kernel_rfl) (by kernel_rfl) (C := True) (by kernel_rfl) (trivial) (rfl)) ?_
    refine s_ret ?_
    obtain rfl := Option.some.inj h
    exact ⟨.inr rfl, _, Sub.refl, out_of [] (by kernel_rfl) (by kernel_rfl) (by kernel_rfl)⟩
  · replace h := ite_f hb h
    refine s_seq ?_
    refine s_reg (tr_reg false [] [(2, .a (.c (.bx 2 0))), (3, .a (.c (.bx 3 0))), (12, .a (.c (.p (.v (.bool (x1.Kind == 4))))))] [(2, .box [.p (.v (.int .i64 x0.N)), .p (.sl 1 (x0.Out.map e_Lint))]), (3, .box [.p (.v (.int .i64 x1.Kind)), .p (.v (.int .i64 x1.A)), .p (.v (.int .i64 x1.At)), .p (.v (.bool x1.Move)), .p (.sl 1 (x1.List_.map e_int)), .p (.sl 1 (x1.Out.map e_int))])] [(2, 2), (3, 3)] fol hH hnt (by kernel_rfl) (by kernel_rfl) (C := True) (by kernel_rfl) (trivial) (rfl)) ?_
    refine s_cond ((x1.Kind == 4)) (by kernel_rfl) (fun hb => ?_) (fun hb => ?_)
    · replace h := ite_t hb h
      refine s_seq ?_
      refine s_reg (tr_reg false [.no, .no, .no, .no, .val (.int .i64 (((x1.List_).length : Nat) : Int))] [(4, .a (.c (.p (.v (.bool (decide (x1.At ≥ (((x1.List_).length : Nat) : Int))))))))] [] [] fol hH hnt (by kernel_rfl) (by kernel_rfl) (C := Value.int .i64 (((x1.List_.map e_int).length : Nat) : Int) = .int .i64 (((x1.List_).length : Nat) : Int)) (by kernel_rfl) (lenV (spLen (f := e_int) (xs := x1.List_) (rfl))) (rfl)) ?_
      refine s_ret ?_
      obtain rfl := Option.some.inj h
      exact ⟨.inr rfl, _, Sub.refl, out_of [] (by kernel_rfl) (by kernel_rfl) (by kernel_rfl)⟩
    · replace h := ite_f hb h
      refine s_skip ?_
      refine s_seq ?_
      refine s_reg (tr_reg false [] [(4, .a (.c (.p (.v (.bool (decide (x1.At ≥ x0.N)))))))] [] [] fol hH hnt (by kernel_rfl) (by kernel_rfl) (C := True) (by kernel_rfl) (trivial) (rfl)) ?_
      refine s_ret ?_
      obtain rfl := Option.some.inj h
      exact ⟨.inr rfl, _, Sub.refl, out_of [] (by kernel_rfl) (by kernel_rfl) (by kernel_rfl)⟩
def slow_part.A (x0 : api_Graph) (x1 : api_Job) : List SV := [.a (.agg [.p (.v (.int .i64 x0.N)), .p (.sl 1 (x0.Out.map e_Lint))]), .a (.c (.bx 1 0))]
def slow_part.O0 (x0 : api_Graph) (x1 : api_Job) : List (Nat × RS) := [(1000104, .row 1 (spRow (x1.List_.map e_int))), (1000105, .row 1 (spRow (x1.Out.map e_int))), (1, .box [.p (.v (.int .i64 x1.Kind)), .p (.v (.int .i64 x1.A)), .p (.v (.int .i64 x1.At)), .p (.v (.bool x1.Move)), .vw 1000104 0 x1.List_.length, .vw 1000105 0 x1.Out.length])]
def slow_part.R (r : api_Job) : SV := .tup []
def slow_part.O1 (r : api_Job) : List (Nat × RS) := [(3000104, .row 1 (spRow (r.List_.map e_int))), (3000105, .row 1 (spRow (r.Out.map e_int))), (1, .box [.p (.v (.int .i64 r.Kind)), .p (.v (.int .i64 r.A)), .p (.v (.int .i64 r.At)), .p (.v (.bool r.Move)), .vw 3000104 0 r.List_.length, .vw 3000105 0 r.Out.length])]
theorem slow_part.nsR (r : api_Job) : nsSV (slow_part.R r) := by simp [slow_part.R, nsSV, nsAV, nsCV, nsSP]
theorem slow_part.nsO (r : api_Job) : ∀ k, nsRS (ofL (slow_part.O1 r) k) := by
  refine nsOf fun x hx => ?_
  simp only [slow_part.O1, List.mem_cons, List.not_mem_nil, or_false] at hx
  rcases hx with rfl | rfl | rfl
  · exact nsRow e_int_ns _
  · exact nsRow e_int_ns _
  · simp [nsRS, nsCV, nsSP]
def slow_part.j2 (K : Nat) (go_l1 : Bool → (List Int) → Int → Option api_Job) (h_8_r1c5 : List Int) (t_8_18 : Int) (x0 : api_Graph) (x1 : api_Job) (h_22_1c3 : Bool) : Option api_Job :=
  if 0 ≤ x1.At ∧ x1.At < ((h_8_r1c5.length : Nat) : Int) then
  if 0 ≤ (nth (nth x0.Out x1.At) t_8_18) ∧ (nth (nth x0.Out x1.At) t_8_18) < ((h_8_r1c5.length : Nat) : Int) then
  go_l1 h_22_1c3 ((((h_8_r1c5).set x1.At.toNat (if (nth h_8_r1c5 (nth (nth x0.Out x1.At) t_8_18)) < (nth h_8_r1c5 x1.At) then (nth h_8_r1c5 (nth (nth x0.Out x1.At) t_8_18)) else (nth h_8_r1c5 x1.At)))).set (nth (nth x0.Out x1.At) t_8_18).toNat (if (nth h_8_r1c5 (nth (nth x0.Out x1.At) t_8_18)) < (nth h_8_r1c5 x1.At) then (nth h_8_r1c5 (nth (nth x0.Out x1.At) t_8_18)) else (nth h_8_r1c5 x1.At))) (wr .i64 (t_8_18 + 1))
  else none
  else none
def slow_part.j3 (K : Nat) (h_8_1c3 : Bool) (h_8_r1c5 : List Int) (x1 : api_Job) (t_28_95 : Bool) : Option api_Job :=
  if t_28_95 then
    some (⟨x1.Kind, x1.A, 0, false, x1.List_, h_8_r1c5⟩ : api_Job)
  else
    some (⟨x1.Kind, x1.A, wr .i64 (x1.At + 1), h_8_1c3, x1.List_, h_8_r1c5⟩ : api_Job)
def slow_part.l1 (K : Nat) (x0 : api_Graph) (x1 : api_Job) : Nat → Bool → (List Int) → Int → Option api_Job
  | 0, _, _, _ => none
  | k + 1, h_8_1c3, h_8_r1c5, t_8_18 =>
    if decide (t_8_18 < (((nth x0.Out x1.At).length : Nat) : Int)) then
      if 0 ≤ t_8_18 ∧ t_8_18 < ((nth x0.Out x1.At).length : Int) then
      if 0 ≤ x1.At ∧ x1.At < ((h_8_r1c5.length : Nat) : Int) then
      if 0 ≤ (nth (nth x0.Out x1.At) t_8_18) ∧ (nth (nth x0.Out x1.At) t_8_18) < ((h_8_r1c5.length : Nat) : Int) then
      if h_8_1c3 then
        slow_part.j2 K (slow_part.l1 K x0 x1 k) h_8_r1c5 t_8_18 x0 x1 true
      else
        if 0 ≤ x1.At ∧ x1.At < ((h_8_r1c5.length : Nat) : Int) then
        if 0 ≤ (nth (nth x0.Out x1.At) t_8_18) ∧ (nth (nth x0.Out x1.At) t_8_18) < ((h_8_r1c5.length : Nat) : Int) then
        slow_part.j2 K (slow_part.l1 K x0 x1 k) h_8_r1c5 t_8_18 x0 x1 ((nth h_8_r1c5 x1.At) != (nth h_8_r1c5 (nth (nth x0.Out x1.At) t_8_18)))
        else none
        else none
      else none
      else none
      else none
    else
      if ((wr .i64 (x1.At + 1)) == x0.N) then
        slow_part.j3 K h_8_1c3 h_8_r1c5 x1 h_8_1c3
      else
        slow_part.j3 K h_8_1c3 h_8_r1c5 x1 false
def slow_part (K : Nat) (x0 : api_Graph) (x1 : api_Job) : Option api_Job :=
  if 0 ≤ x1.At ∧ x1.At < ((x0.Out).length : Int) then
  slow_part.l1 K x0 x1 K x1.Move x1.Out 0
  else none
theorem slow_part.ct (K : Nat) (x0 : api_Graph) (x1 : api_Job) (r : api_Job) (h : slow_part K x0 x1 = some r) : Ct PP 107 (slow_part.A x0 x1) (ofL (slow_part.O0 x0 x1)) (slow_part.R r) (ofL (slow_part.O1 r)) := by
  unfold slow_part at h
  refine ct_of (fn := Try.f107) (c := Try.f107.body.get!) (by kernel_rfl) (by kernel_rfl) [1] (by kernel_rfl) (by kernel_rfl) (by kernel_rfl) fun Γ hnt hH => ?_
  refine s_seq ?_
  refine s_reg (tr_reg false [] [(1, .a (.c (.bx 1 0))), (2, .a (.c (.bx 2 0)))] [(1, .box [.p (.v (.int .i64 x1.Kind)), .p (.v (.int .i64 x1.A)), .p (.v (.int .i64 x1.At)), .p (.v (.bool x1.Move)), .vw 1000104 0 x1.List_.length, .vw 1000105 0 x1.Out.length]), (2, .box [.p (.v (.int .i64 x0.N)), .p (.sl 1 (x0.Out.map e_Lint))]), (1000104, .row 1 (spRow (x1.List_.map e_int))), (1000105, .row 1 (spRow (x1.Out.map e_int)))] [(1, 1), (2, 2), (1000104, 1000104), (1000105, 1000105)] fol hH hnt (by kernel_rfl) (by kernel_rfl) (C := True) (by kernel_rfl) (trivial) (rfl)) ?_
  refine s_seq ?_
  refine s_reg (tr_reg false [] [(1, .a (.c (.bx 1 0))), (2, .a (.c (.bx 2 0))), (4, .a (.c (.p (.v (.int .i64 x1.At)))))] [(1, .box [.p (.v (.int .i64 x1.Kind)), .p (.v (.int .i64 x1.A)), .p (.v (.int .i64 x1.At)), .p (.v (.bool x1.Move)), .vw 1000104 0 x1.List_.length, .vw 1000105 0 x1.Out.length]), (2, .box [.p (.v (.int .i64 x0.N)), .p (.sl 1 (x0.Out.map e_Lint))]), (1000104, .row 1 (spRow (x1.List_.map e_int))), (1000105, .row 1 (spRow (x1.Out.map e_int)))] [(1, 1), (2, 2), (1000104, 1000104), (1000105, 1000105)] fol hH hnt (by kernel_rfl) (by kernel_rfl) (C := True) (by kernel_rfl) (trivial) (rfl)) ?_
  refine s_seq ?_
  refine s_seq ?_
  obtain ⟨g6_3_0, h⟩ := gd_some h
  refine s_reg (tr_reg false [.no, .no, .no, .sps (e_Lint (nth x0.Out x1.At)), .no, .val (.int .i64 (((nth x0.Out x1.At).length : Nat) : Int))] [(1, .a (.c (.bx 1 0))), (2, .a (.c (.bx 2 0))), (4, .a (.c (.p (.v (.int .i64 x1.At))))), (16, .a (.c (.p (.sl 1 ((nth x0.Out x1.At).map e_int))))), (17, .a (.c (.p (.v (.int .i64 (((nth x0.Out x1.At).length : Nat) : Int)))))), (18, .a (.c (.p (.v (.int .i64 0)))))] [(1, .box [.p (.v (.int .i64 x1.Kind)), .p (.v (.int .i64 x1.A)), .p (.v (.int .i64 x1.At)), .p (.v (.bool x1.Move)), .vw 1000104 0 x1.List_.length, .vw 1000105 0 x1.Out.length]), (2, .box [.p (.v (.int .i64 x0.N)), .p (.sl 1 (x0.Out.map e_Lint))]), (1000104, .row 1 (spRow (x1.List_.map e_int))), (1000105, .row 1 (spRow (x1.Out.map e_int)))] [(1, 1), (2, 2), (1000104, 1000104), (1000105, 1000105)] fol hH hnt (by kernel_rfl) (by kernel_rfl) (C := (0 ≤ x1.At ∧ (x0.Out.map e_Lint)[(x1.At).toNat]? = some (e_Lint (nth x0.Out x1.At))) ∧ (Value.int .i64 ((((nth x0.Out x1.At).map e_int).length : Nat) : Int) = .int .i64 (((nth x0.Out x1.At).length : Nat) : Int))) (by kernel_rfl) (⟨⟨g6_3_0.1, spGet (rfl) g6_3_0.1 g6_3_0.2⟩, lenV (spLen (f := e_int) (xs := nth x0.Out x1.At) (rfl))⟩) (rfl)) ?_
  refine s_block ?_
  refine s_loop (fun k_l1 σ => ∃ (h_8_1c3 : Bool) (h_8_r1c5 : List Int) (t_8_18 : Int), slow_part.l1 K x0 x1 k_l1 h_8_1c3 h_8_r1c5 t_8_18 = some r ∧ σ = mk [(1, .a (.c (.bx 1 0))), (2, .a (.c (.bx 2 0))), (4, .a (.c (.p (.v (.int .i64 x1.At))))), (16, .a (.c (.p (.sl 1 ((nth x0.Out x1.At).map e_int))))), (17, .a (.c (.p (.v (.int .i64 (((nth x0.Out x1.At).length : Nat) : Int)))))), (18, .a (.c (.p (.v (.int .i64 t_8_18)))))] [(1, .box [.p (.v (.int .i64 x1.Kind)), .p (.v (.int .i64 x1.A)), .p (.v (.int .i64 x1.At)), .p (.v (.bool h_8_1c3)), .vw 1000104 0 x1.List_.length, .vw 1000105 0 h_8_r1c5.length]), (2, .box [.p (.v (.int .i64 x0.N)), .p (.sl 1 (x0.Out.map e_Lint))]), (1000104, .row 1 (spRow (x1.List_.map e_int))), (1000105, .row 1 (spRow (h_8_r1c5.map e_int)))]) ?_ ?_ K ⟨x1.Move, x1.Out, 0, h, rfl⟩
  · rintro _ ⟨h_8_1c3, h_8_r1c5, t_8_18, h, _⟩
    simp [slow_part.l1] at h
  · rintro k_l1 _ ⟨h_8_1c3, h_8_r1c5, t_8_18, h, rfl⟩
    rw [slow_part.l1] at h
    refine s_seq ?_
    refine s_reg (tr_reg false [] [(1, .a (.c (.bx 1 0))), (2, .a (.c (.bx 2 0))), (4, .a (.c (.p (.v (.int .i64 x1.At))))), (16, .a (.c (.p (.sl 1 ((nth x0.Out x1.At).map e_int))))), (17, .a (.c (.p (.v (.int .i64 (((nth x0.Out x1.At).length : Nat) : Int)))))), (18, .a (.c (.p (.v (.int .i64 t_8_18))))), (19, .a (.c (.p (.v (.bool (decide (t_8_18 < (((nth x0.Out x1.At).length : Nat) : Int))))))))] [(1, .box [.p (.v (.int .i64 x1.Kind)), .p (.v (.int .i64 x1.A)), .p (.v (.int .i64 x1.At)), .p (.v (.bool h_8_1c3)), .vw 1000104 0 x1.List_.length, .vw 1000105 0 h_8_r1c5.length]), (2, .box [.p (.v (.int .i64 x0.N)), .p (.sl 1 (x0.Out.map e_Lint))]), (1000104, .row 1 (spRow (x1.List_.map e_int))), (1000105, .row 1 (spRow (h_8_r1c5.map e_int)))] [(1, 1), (2, 2), (1000104, 1000104), (1000105, 1000105)] fol hH hnt (by kernel_rfl) (by kernel_rfl) (C := True) (by kernel_rfl) (trivial) (rfl)) ?_
    refine s_seq ?_
    refine s_cond (decide (t_8_18 < (((nth x0.Out x1.At).length : Nat) : Int))) (by kernel_rfl) (fun hb => ?_) (fun hb => ?_)
    · replace h := ite_t hb h
      refine s_skip ?_
      refine s_seq ?_
      refine s_block ?_
      refine s_seq ?_
      obtain ⟨g18_0_0, h⟩ := gd_some h
      refine s_reg (tr_reg false [.sps (e_int (nth (nth x0.Out x1.At) t_8_18))] [(1, .a (.c (.bx 1 0))), (2, .a (.c (.bx 2 0))), (4, .a (.c (.p (.v (.int .i64 x1.At))))), (6, .a (.c (.p (.v (.int .i64 (nth (nth x0.Out x1.At) t_8_18)))))), (16, .a (.c (.p (.sl 1 ((nth x0.Out x1.At).map e_int))))), (17, .a (.c (.p (.v (.int .i64 (((nth x0.Out x1.At).length : Nat) : Int)))))), (18, .a (.c (.p (.v (.int .i64 t_8_18)))))] [(1, .box [.p (.v (.int .i64 x1.Kind)), .p (.v (.int .i64 x1.A)), .p (.v (.int .i64 x1.At)), .p (.v (.bool h_8_1c3)), .vw 1000104 0 x1.List_.length, .vw 1000105 0 h_8_r1c5.length]), (2, .box [.p (.v (.int .i64 x0.N)), .p (.sl 1 (x0.Out.map e_Lint))]), (1000104, .row 1 (spRow (x1.List_.map e_int))), (1000105, .row 1 (spRow (h_8_r1c5.map e_int)))] [(1, 1), (2, 2), (1000104, 1000104), (1000105, 1000105)] fol hH hnt (by kernel_rfl) (by kernel_rfl) (C := 0 ≤ t_8_18 ∧ ((nth x0.Out x1.At).map e_int)[(t_8_18).toNat]? = some (e_int (nth (nth x0.Out x1.At) t_8_18))) (by kernel_rfl) (⟨g18_0_0.1, spGet (rfl) g18_0_0.1 g18_0_0.2⟩) (rfl)) ?_
      refine s_seq ?_
      obtain ⟨g20_5_0, h⟩ := gd_some h
      obtain ⟨g20_12_1, h⟩ := gd_some h
      refine s_reg (tr_reg true [.no, .no, .no, .no, .no, .no, .rcs ((e_int (nth h_8_r1c5 x1.At)).map RC.s), .no, .no, .no, .no, .no, .no, .rcs ((e_int (nth h_8_r1c5 (nth (nth x0.Out x1.At) t_8_18))).map RC.s)] [(1, .a (.c (.bx 1 0))), (2, .a (.c (.bx 2 0))), (4, .a (.c (.p (.v (.int .i64 x1.At))))), (6, .a (.c (.p (.v (.int .i64 (nth (nth x0.Out x1.At) t_8_18)))))), (7, .a (.c (.p (.v (.int .i64 (if (nth h_8_r1c5 (nth (nth x0.Out x1.At) t_8_18)) < (nth h_8_r1c5 x1.At) then (nth h_8_r1c5 (nth (nth x0.Out x1.At) t_8_18)) else (nth h_8_r1c5 x1.At))))))), (16, .a (.c (.p (.sl 1 ((nth x0.Out x1.At).map e_int))))), (17, .a (.c (.p (.v (.int .i64 (((nth x0.Out x1.At).length : Nat) : Int)))))), (18, .a (.c (.p (.v (.int .i64 t_8_18)))))] [(1, .box [.p (.v (.int .i64 x1.Kind)), .p (.v (.int .i64 x1.A)), .p (.v (.int .i64 x1.At)), .p (.v (.bool h_8_1c3)), .vw 1000104 0 x1.List_.length, .vw 1000105 0 h_8_r1c5.length]), (2, .box [.p (.v (.int .i64 x0.N)), .p (.sl 1 (x0.Out.map e_Lint))]), (1000104, .row 1 (spRow (x1.List_.map e_int))), (1000105, .row 1 (spRow (h_8_r1c5.map e_int)))] [(1, 1), (2, 2), (1000104, 1000104), (1000105, 1000105)] fol hH hnt (by kernel_rfl) (by kernel_rfl) (C := (0 ≤ x1.At ∧ x1.At < ((h_8_r1c5.length : Nat) : Int)) ∧ ((spRow (h_8_r1c5.map e_int))[0 + (x1.At).toNat]? = some ((e_int (nth h_8_r1c5 x1.At)).map RC.s)) ∧ (0 ≤ (nth (nth x0.Out x1.At) t_8_18) ∧ (nth (nth x0.Out x1.At) t_8_18) < ((h_8_r1c5.length : Nat) : Int)) ∧ ((spRow (h_8_r1c5.map e_int))[0 + ((nth (nth x0.Out x1.At) t_8_18)).toNat]? = some ((e_int (nth h_8_r1c5 (nth (nth x0.Out x1.At) t_8_18))).map RC.s))) (by kernel_rfl) (⟨⟨g20_5_0.1, ltL (rfl) g20_5_0.2⟩, rowGet (rfl) g20_5_0.1 g20_5_0.2, ⟨g20_12_1.1, ltL (rfl) g20_12_1.2⟩, rowGet (rfl) g20_12_1.1 g20_12_1.2⟩) (rfl)) ?_
      refine s_seq ?_
      refine s_joinJ (fun σ => ∃ (h_22_1c3 : Bool), slow_part.j2 K (slow_part.l1 K x0 x1 k_l1) h_8_r1c5 t_8_18 x0 x1 h_22_1c3 = some r ∧ σ = mk [(1, .a (.c (.bx 1 0))), (2, .a (.c (.bx 2 0))), (4, .a (.c (.p (.v (.int .i64 x1.At))))), (6, .a (.c (.p (.v (.int .i64 (nth (nth x0.Out x1.At) t_8_18)))))), (7, .a (.c (.p (.v (.int .i64 (if (nth h_8_r1c5 (nth (nth x0.Out x1.At) t_8_18)) < (nth h_8_r1c5 x1.At) then (nth h_8_r1c5 (nth (nth x0.Out x1.At) t_8_18)) else (nth h_8_r1c5 x1.At))))))), (16, .a (.c (.p (.sl 1 ((nth x0.Out x1.At).map e_int))))), (17, .a (.c (.p (.v (.int .i64 (((nth x0.Out x1.At).length : Nat) : Int)))))), (18, .a (.c (.p (.v (.int .i64 t_8_18)))))] [(1, .box [.p (.v (.int .i64 x1.Kind)), .p (.v (.int .i64 x1.A)), .p (.v (.int .i64 x1.At)), .p (.v (.bool h_22_1c3)), .vw 1000104 0 x1.List_.length, .vw 1000105 0 h_8_r1c5.length]), (2, .box [.p (.v (.int .i64 x0.N)), .p (.sl 1 (x0.Out.map e_Lint))]), (1000104, .row 1 (spRow (x1.List_.map e_int))), (1000105, .row 1 (spRow (h_8_r1c5.map e_int)))]) ?_ ?_
      · by_cases s22_5 : h_8_1c3 = true
        · replace h := ite_t s22_5 h
          refine s_regz (tr_reg true [.no, .no, .no, .no, .no, .is true .no] [(1, .a (.c (.bx 1 0))), (2, .a (.c (.bx 2 0))), (4, .a (.c (.p (.v (.int .i64 x1.At))))), (6, .a (.c (.p (.v (.int .i64 (nth (nth x0.Out x1.At) t_8_18)))))), (7, .a (.c (.p (.v (.int .i64 (if (nth h_8_r1c5 (nth (nth x0.Out x1.At) t_8_18)) < (nth h_8_r1c5 x1.At) then (nth h_8_r1c5 (nth (nth x0.Out x1.At) t_8_18)) else (nth h_8_r1c5 x1.At))))))), (16, .a (.c (.p (.sl 1 ((nth x0.Out x1.At).map e_int))))), (17, .a (.c (.p (.v (.int .i64 (((nth x0.Out x1.At).length : Nat) : Int)))))), (18, .a (.c (.p (.v (.int .i64 t_8_18)))))] [(1, .box [.p (.v (.int .i64 x1.Kind)), .p (.v (.int .i64 x1.A)), .p (.v (.int .i64 x1.At)), .p (.v (.bool true)), .vw 1000104 0 x1.List_.length, .vw 1000105 0 h_8_r1c5.length]), (2, .box [.p (.v (.int .i64 x0.N)), .p (.sl 1 (x0.Out.map e_Lint))]), (1000104, .row 1 (spRow (x1.List_.map e_int))), (1000105, .row 1 (spRow (h_8_r1c5.map e_int)))] [(1, 1), (2, 2), (1000104, 1000104), (1000105, 1000105)] fol hH hnt (by kernel_rfl) (by kernel_rfl) (C := h_8_1c3 = true) (by kernel_rfl) (s22_5) (rfl)) (fun σ1 hs => ?_)
          exact ⟨_, ⟨true, h, rfl⟩, hs.trans (Sub.refl)⟩
        · replace s22_5 := eq_false_of_ne_true s22_5
          replace h := ite_f s22_5 h
          obtain ⟨g22_11_0, h⟩ := gd_some h
          obtain ⟨g22_18_1, h⟩ := gd_some h
          refine s_regz (tr_reg true [.no, .no, .no, .no, .no, .is false .no, .no, .no, .no, .no, .no, .no, .rcs ((e_int (nth h_8_r1c5 x1.At)).map RC.s), .no, .no, .no, .no, .no, .no, .rcs ((e_int (nth h_8_r1c5 (nth (nth x0.Out x1.At) t_8_18))).map RC.s)] [(1, .a (.c (.bx 1 0))), (2, .a (.c (.bx 2 0))), (4, .a (.c (.p (.v (.int .i64 x1.At))))), (6, .a (.c (.p (.v (.int .i64 (nth (nth x0.Out x1.At) t_8_18)))))), (7, .a (.c (.p (.v (.int .i64 (if (nth h_8_r1c5 (nth (nth x0.Out x1.At) t_8_18)) < (nth h_8_r1c5 x1.At) then (nth h_8_r1c5 (nth (nth x0.Out x1.At) t_8_18)) else (nth h_8_r1c5 x1.At))))))), (16, .a (.c (.p (.sl 1 ((nth x0.Out x1.At).map e_int))))), (17, .a (.c (.p (.v (.int .i64 (((nth x0.Out x1.At).length : Nat) : Int)))))), (18, .a (.c (.p (.v (.int .i64 t_8_18)))))] [(1, .box [.p (.v (.int .i64 x1.Kind)), .p (.v (.int .i64 x1.A)), .p (.v (.int .i64 x1.At)), .p (.v (.bool ((nth h_8_r1c5 x1.At) != (nth h_8_r1c5 (nth (nth x0.Out x1.At) t_8_18))))), .vw 1000104 0 x1.List_.length, .vw 1000105 0 h_8_r1c5.length]), (2, .box [.p (.v (.int .i64 x0.N)), .p (.sl 1 (x0.Out.map e_Lint))]), (1000104, .row 1 (spRow (x1.List_.map e_int))), (1000105, .row 1 (spRow (h_8_r1c5.map e_int)))] [(1, 1), (2, 2), (1000104, 1000104), (1000105, 1000105)] fol hH hnt (by kernel_rfl) (by kernel_rfl) (C := (h_8_1c3 = false) ∧ (0 ≤ x1.At ∧ x1.At < ((h_8_r1c5.length : Nat) : Int)) ∧ ((spRow (h_8_r1c5.map e_int))[0 + (x1.At).toNat]? = some ((e_int (nth h_8_r1c5 x1.At)).map RC.s)) ∧ (0 ≤ (nth (nth x0.Out x1.At) t_8_18) ∧ (nth (nth x0.Out x1.At) t_8_18) < ((h_8_r1c5.length : Nat) : Int)) ∧ ((spRow (h_8_r1c5.map e_int))[0 + ((nth (nth x0.Out x1.At) t_8_18)).toNat]? = some ((e_int (nth h_8_r1c5 (nth (nth x0.Out x1.At) t_8_18))).map RC.s))) (by kernel_rfl) (⟨s22_5, ⟨g22_11_0.1, ltL (rfl) g22_11_0.2⟩, rowGet (rfl) g22_11_0.1 g22_11_0.2, ⟨g22_18_1.1, ltL (rfl) g22_18_1.2⟩, rowGet (rfl) g22_18_1.1 g22_18_1.2⟩) (rfl)) (fun σ1 hs => ?_)
          exact ⟨_, ⟨((nth h_8_r1c5 x1.At) != (nth h_8_r1c5 (nth (nth x0.Out x1.At) t_8_18))), h, rfl⟩, hs.trans (Sub.refl)⟩
      · rintro _ ⟨h_22_1c3, h, rfl⟩
        unfold slow_part.j2 at h
        obtain ⟨g23_12_0, h⟩ := gd_some h
        obtain ⟨g23_14_1, h⟩ := gd_some h
        refine s_regz (tr_reg true [.no, .no, .no, .no, .no, .no, .no, .no, .no, .no, .no, .no, .no, .rcs ((e_int (nth h_8_r1c5 x1.At)).map RC.s), .no, .rcs ((e_int (nth ((h_8_r1c5).set x1.At.toNat (if (nth h_8_r1c5 (nth (nth x0.Out x1.At) t_8_18)) < (nth h_8_r1c5 x1.At) then (nth h_8_r1c5 (nth (nth x0.Out x1.At) t_8_18)) else (nth h_8_r1c5 x1.At))) (nth (nth x0.Out x1.At) t_8_18))).map RC.s)] [(1, .a (.c (.bx 1 0))), (2, .a (.c (.bx 2 0))), (4, .a (.c (.p (.v (.int .i64 x1.At))))), (16, .a (.c (.p (.sl 1 ((nth x0.Out x1.At).map e_int))))), (17, .a (.c (.p (.v (.int .i64 (((nth x0.Out x1.At).length : Nat) : Int)))))), (18, .a (.c (.p (.v (.int .i64 t_8_18)))))] [(1, .box [.p (.v (.int .i64 x1.Kind)), .p (.v (.int .i64 x1.A)), .p (.v (.int .i64 x1.At)), .p (.v (.bool h_22_1c3)), .vw 1000104 0 x1.List_.length, .vw 1000105 0 h_8_r1c5.length]), (2, .box [.p (.v (.int .i64 x0.N)), .p (.sl 1 (x0.Out.map e_Lint))]), (1000104, .row 1 (spRow (x1.List_.map e_int))), (1000105, .row 1 (((spRow (h_8_r1c5.map e_int)).set (0 + (x1.At).toNat) ((e_int (if (nth h_8_r1c5 (nth (nth x0.Out x1.At) t_8_18)) < (nth h_8_r1c5 x1.At) then (nth h_8_r1c5 (nth (nth x0.Out x1.At) t_8_18)) else (nth h_8_r1c5 x1.At))).map RC.s)).set (0 + ((nth (nth x0.Out x1.At) t_8_18)).toNat) ((e_int (if (nth h_8_r1c5 (nth (nth x0.Out x1.At) t_8_18)) < (nth h_8_r1c5 x1.At) then (nth h_8_r1c5 (nth (nth x0.Out x1.At) t_8_18)) else (nth h_8_r1c5 x1.At))).map RC.s)))] [(1, 1), (2, 2), (1000104, 1000104), (1000105, 1000105)] fol hH hnt (by kernel_rfl) (by kernel_rfl) (C := (0 ≤ x1.At ∧ x1.At < ((h_8_r1c5.length : Nat) : Int)) ∧ ((spRow (h_8_r1c5.map e_int))[0 + (x1.At).toNat]? = some ((e_int (nth h_8_r1c5 x1.At)).map RC.s)) ∧ (0 ≤ (nth (nth x0.Out x1.At) t_8_18) ∧ (nth (nth x0.Out x1.At) t_8_18) < ((h_8_r1c5.length : Nat) : Int)) ∧ (((spRow (h_8_r1c5.map e_int)).set (0 + (x1.At).toNat) ((e_int (if (nth h_8_r1c5 (nth (nth x0.Out x1.At) t_8_18)) < (nth h_8_r1c5 x1.At) then (nth h_8_r1c5 (nth (nth x0.Out x1.At) t_8_18)) else (nth h_8_r1c5 x1.At))).map RC.s))[0 + ((nth (nth x0.Out x1.At) t_8_18)).toNat]? = some ((e_int (nth ((h_8_r1c5).set x1.At.toNat (if (nth h_8_r1c5 (nth (nth x0.Out x1.At) t_8_18)) < (nth h_8_r1c5 x1.At) then (nth h_8_r1c5 (nth (nth x0.Out x1.At) t_8_18)) else (nth h_8_r1c5 x1.At))) (nth (nth x0.Out x1.At) t_8_18))).map RC.s))) (by kernel_rfl) (⟨⟨g23_12_0.1, ltL (rfl) g23_12_0.2⟩, rowGet (rfl) g23_12_0.1 g23_12_0.2, ⟨g23_14_1.1, ltL (rfl) g23_14_1.2⟩, rowGet (rowSet (rfl) x1.At (if (nth h_8_r1c5 (nth (nth x0.Out x1.At) t_8_18)) < (nth h_8_r1c5 x1.At) then (nth h_8_r1c5 (nth (nth x0.Out x1.At) t_8_18)) else (nth h_8_r1c5 x1.At))) g23_14_1.1 (by have := g23_14_1.2; simpa using this)⟩) (S := mk [(1, .a (.c (.bx 1 0))), (2, .a (.c (.bx 2 0))), (4, .a (.c (.p (.v (.int .i64 x1.At))))), (16, .a (.c (.p (.sl 1 ((nth x0.Out x1.At).map e_int))))), (17, .a (.c (.p (.v (.int .i64 (((nth x0.Out x1.At).length : Nat) : Int)))))), (18, .a (.c (.p (.v (.int .i64 t_8_18)))))] [(1, .box [.p (.v (.int .i64 x1.Kind)), .p (.v (.int .i64 x1.A)), .p (.v (.int .i64 x1.At)), .p (.v (.bool h_22_1c3)), .vw 1000104 0 x1.List_.length, .vw 1000105 0 (((((h_8_r1c5).set x1.At.toNat (if (nth h_8_r1c5 (nth (nth x0.Out x1.At) t_8_18)) < (nth h_8_r1c5 x1.At) then (nth h_8_r1c5 (nth (nth x0.Out x1.At) t_8_18)) else (nth h_8_r1c5 x1.At)))).set (nth (nth x0.Out x1.At) t_8_18).toNat (if (nth h_8_r1c5 (nth (nth x0.Out x1.At) t_8_18)) < (nth h_8_r1c5 x1.At) then (nth h_8_r1c5 (nth (nth x0.Out x1.At) t_8_18)) else (nth h_8_r1c5 x1.At))).length)]), (2, .box [.p (.v (.int .i64 x0.N)), .p (.sl 1 (x0.Out.map e_Lint))]), (1000104, .row 1 (spRow (x1.List_.map e_int))), (1000105, .row 1 (spRow (((((h_8_r1c5).set x1.At.toNat (if (nth h_8_r1c5 (nth (nth x0.Out x1.At) t_8_18)) < (nth h_8_r1c5 x1.At) then (nth h_8_r1c5 (nth (nth x0.Out x1.At) t_8_18)) else (nth h_8_r1c5 x1.At)))).set (nth (nth x0.Out x1.At) t_8_18).toNat (if (nth h_8_r1c5 (nth (nth x0.Out x1.At) t_8_18)) < (nth h_8_r1c5 x1.At) then (nth h_8_r1c5 (nth (nth x0.Out x1.At) t_8_18)) else (nth h_8_r1c5 x1.At))).map e_int)))]) (he2 (fun q0 q1 => mk [(1, .a (.c (.bx 1 0))), (2, .a (.c (.bx 2 0))), (4, .a (.c (.p (.v (.int .i64 x1.At))))), (16, .a (.c (.p (.sl 1 ((nth x0.Out x1.At).map e_int))))), (17, .a (.c (.p (.v (.int .i64 (((nth x0.Out x1.At).length : Nat) : Int)))))), (18, .a (.c (.p (.v (.int .i64 t_8_18)))))] [(1, .box [.p (.v (.int .i64 x1.Kind)), .p (.v (.int .i64 x1.A)), .p (.v (.int .i64 x1.At)), .p (.v (.bool h_22_1c3)), .vw 1000104 0 x1.List_.length, .vw 1000105 0 q0]), (2, .box [.p (.v (.int .i64 x0.N)), .p (.sl 1 (x0.Out.map e_Lint))]), (1000104, .row 1 (spRow (x1.List_.map e_int))), (1000105, .row 1 (q1))]) (k0 := h_8_r1c5.length) (p0 := ((((h_8_r1c5).set x1.At.toNat (if (nth h_8_r1c5 (nth (nth x0.Out x1.At) t_8_18)) < (nth h_8_r1c5 x1.At) then (nth h_8_r1c5 (nth (nth x0.Out x1.At) t_8_18)) else (nth h_8_r1c5 x1.At)))).set (nth (nth x0.Out x1.At) t_8_18).toNat (if (nth h_8_r1c5 (nth (nth x0.Out x1.At) t_8_18)) < (nth h_8_r1c5 x1.At) then (nth h_8_r1c5 (nth (nth x0.Out x1.At) t_8_18)) else (nth h_8_r1c5 x1.At))).length) ((((List.length_set).trans (List.length_set)).symm : h_8_r1c5.length = ((((h_8_r1c5).set x1.At.toNat (if (nth h_8_r1c5 (nth (nth x0.Out x1.At) t_8_18)) < (nth h_8_r1c5 x1.At) then (nth h_8_r1c5 (nth (nth x0.Out x1.At) t_8_18)) else (nth h_8_r1c5 x1.At)))).set (nth (nth x0.Out x1.At) t_8_18).toNat (if (nth h_8_r1c5 (nth (nth x0.Out x1.At) t_8_18)) < (nth h_8_r1c5 x1.At) then (nth h_8_r1c5 (nth (nth x0.Out x1.At) t_8_18)) else (nth h_8_r1c5 x1.At))).length)) (k1 := ((spRow (h_8_r1c5.map e_int)).set (0 + (x1.At).toNat) ((e_int (if (nth h_8_r1c5 (nth (nth x0.Out x1.At) t_8_18)) < (nth h_8_r1c5 x1.At) then (nth h_8_r1c5 (nth (nth x0.Out x1.At) t_8_18)) else (nth h_8_r1c5 x1.At))).map RC.s)).set (0 + ((nth (nth x0.Out x1.At) t_8_18)).toNat) ((e_int (if (nth h_8_r1c5 (nth (nth x0.Out x1.At) t_8_18)) < (nth h_8_r1c5 x1.At) then (nth h_8_r1c5 (nth (nth x0.Out x1.At) t_8_18)) else (nth h_8_r1c5 x1.At))).map RC.s)) (p1 := spRow (((((h_8_r1c5).set x1.At.toNat (if (nth h_8_r1c5 (nth (nth x0.Out x1.At) t_8_18)) < (nth h_8_r1c5 x1.At) then (nth h_8_r1c5 (nth (nth x0.Out x1.At) t_8_18)) else (nth h_8_r1c5 x1.At)))).set (nth (nth x0.Out x1.At) t_8_18).toNat (if (nth h_8_r1c5 (nth (nth x0.Out x1.At) t_8_18)) < (nth h_8_r1c5 x1.At) then (nth h_8_r1c5 (nth (nth x0.Out x1.At) t_8_18)) else (nth h_8_r1c5 x1.At))).map e_int)) (rowSet (rowSet (rfl) x1.At (if (nth h_8_r1c5 (nth (nth x0.Out x1.At) t_8_18)) < (nth h_8_r1c5 x1.At) then (nth h_8_r1c5 (nth (nth x0.Out x1.At) t_8_18)) else (nth h_8_r1c5 x1.At))) (nth (nth x0.Out x1.At) t_8_18) (if (nth h_8_r1c5 (nth (nth x0.Out x1.At) t_8_18)) < (nth h_8_r1c5 x1.At) then (nth h_8_r1c5 (nth (nth x0.Out x1.At) t_8_18)) else (nth h_8_r1c5 x1.At))))) (fun σ1 hs => ?_)
        refine s_subc hs ?_
        refine s_regz (tr_reg false [] [(1, .a (.c (.bx 1 0))), (2, .a (.c (.bx 2 0))), (4, .a (.c (.p (.v (.int .i64 x1.At))))), (16, .a (.c (.p (.sl 1 ((nth x0.Out x1.At).map e_int))))), (17, .a (.c (.p (.v (.int .i64 (((nth x0.Out x1.At).length : Nat) : Int)))))), (18, .a (.c (.p (.v (.int .i64 (wr .i64 (t_8_18 + 1)))))))] [(1, .box [.p (.v (.int .i64 x1.Kind)), .p (.v (.int .i64 x1.A)), .p (.v (.int .i64 x1.At)), .p (.v (.bool h_22_1c3)), .vw 1000104 0 x1.List_.length, .vw 1000105 0 (((((h_8_r1c5).set x1.At.toNat (if (nth h_8_r1c5 (nth (nth x0.Out x1.At) t_8_18)) < (nth h_8_r1c5 x1.At) then (nth h_8_r1c5 (nth (nth x0.Out x1.At) t_8_18)) else (nth h_8_r1c5 x1.At)))).set (nth (nth x0.Out x1.At) t_8_18).toNat (if (nth h_8_r1c5 (nth (nth x0.Out x1.At) t_8_18)) < (nth h_8_r1c5 x1.At) then (nth h_8_r1c5 (nth (nth x0.Out x1.At) t_8_18)) else (nth h_8_r1c5 x1.At))).length)]), (2, .box [.p (.v (.int .i64 x0.N)), .p (.sl 1 (x0.Out.map e_Lint))]), (1000104, .row 1 (spRow (x1.List_.map e_int))), (1000105, .row 1 (spRow (((((h_8_r1c5).set x1.At.toNat (if (nth h_8_r1c5 (nth (nth x0.Out x1.At) t_8_18)) < (nth h_8_r1c5 x1.At) then (nth h_8_r1c5 (nth (nth x0.Out x1.At) t_8_18)) else (nth h_8_r1c5 x1.At)))).set (nth (nth x0.Out x1.At) t_8_18).toNat (if (nth h_8_r1c5 (nth (nth x0.Out x1.At) t_8_18)) < (nth h_8_r1c5 x1.At) then (nth h_8_r1c5 (nth (nth x0.Out x1.At) t_8_18)) else (nth h_8_r1c5 x1.At))).map e_int)))] [(1, 1), (2, 2), (1000104, 1000104), (1000105, 1000105)] fol hH hnt (by kernel_rfl) (by kernel_rfl) (C := True) (by kernel_rfl) (trivial) (rfl)) (fun σ1 hs => ?_)
        exact ⟨_, ⟨h_22_1c3, (((h_8_r1c5).set x1.At.toNat (if (nth h_8_r1c5 (nth (nth x0.Out x1.At) t_8_18)) < (nth h_8_r1c5 x1.At) then (nth h_8_r1c5 (nth (nth x0.Out x1.At) t_8_18)) else (nth h_8_r1c5 x1.At)))).set (nth (nth x0.Out x1.At) t_8_18).toNat (if (nth h_8_r1c5 (nth (nth x0.Out x1.At) t_8_18)) < (nth h_8_r1c5 x1.At) then (nth h_8_r1c5 (nth (nth x0.Out x1.At) t_8_18)) else (nth h_8_r1c5 x1.At)), wr .i64 (t_8_18 + 1), h, rfl⟩, hs.trans (Sub.refl)⟩
    · replace h := ite_f hb h
      refine s_exit ?_
      refine qr_exit ?_
      refine q_hit ?_
      refine s_seq ?_
      refine s_reg (tr_reg false [] [(1, .a (.c (.bx 1 0))), (2, .a (.c (.bx 2 0)))] [(1, .box [.p (.v (.int .i64 x1.Kind)), .p (.v (.int .i64 x1.A)), .p (.v (.int .i64 (wr .i64 (x1.At + 1)))), .p (.v (.bool h_8_1c3)), .vw 1000104 0 x1.List_.length, .vw 1000105 0 h_8_r1c5.length]), (2, .box [.p (.v (.int .i64 x0.N)), .p (.sl 1 (x0.Out.map e_Lint))]), (1000104, .row 1 (spRow (x1.List_.map e_int))), (1000105, .row 1 (spRow (h_8_r1c5.map e_int)))] [(1, 1), (2, 2), (1000104, 1000104), (1000105, 1000105)] fol hH hnt (by kernel_rfl) (by kernel_rfl) (C := True) (by kernel_rfl) (trivial) (rfl)) ?_
      refine s_seq ?_
      refine s_joinJ (fun σ => ∃ (t_28_95 : Bool), slow_part.j3 K h_8_1c3 h_8_r1c5 x1 t_28_95 = some r ∧ σ = mk [(1, .a (.c (.bx 1 0))), (95, .a (.c (.p (.v (.bool t_28_95)))))] [(1, .box [.p (.v (.int .i64 x1.Kind)), .p (.v (.int .i64 x1.A)), .p (.v (.int .i64 (wr .i64 (x1.At + 1)))), .p (.v (.bool h_8_1c3)), .vw 1000104 0 x1.List_.length, .vw 1000105 0 h_8_r1c5.length]), (1000104, .row 1 (spRow (x1.List_.map e_int))), (1000105, .row 1 (spRow (h_8_r1c5.map e_int)))]) ?_ ?_
      · by_cases s28_7 : ((wr .i64 (x1.At + 1)) == x0.N) = true
        · replace h := ite_t s28_7 h
          refine s_regz (tr_reg true [.no, .no, .no, .no, .no, .no, .no, .is true .no] [(1, .a (.c (.bx 1 0))), (95, .a (.c (.p (.v (.bool h_8_1c3)))))] [(1, .box [.p (.v (.int .i64 x1.Kind)), .p (.v (.int .i64 x1.A)), .p (.v (.int .i64 (wr .i64 (x1.At + 1)))), .p (.v (.bool h_8_1c3)), .vw 1000104 0 x1.List_.length, .vw 1000105 0 h_8_r1c5.length]), (1000104, .row 1 (spRow (x1.List_.map e_int))), (1000105, .row 1 (spRow (h_8_r1c5.map e_int)))] [(1, 1), (1000104, 1000104), (1000105, 1000105)] fol hH hnt (by kernel_rfl) (by kernel_rfl) (C := ((wr .i64 (x1.At + 1)) == x0.N) = true) (by kernel_rfl) (s28_7) (rfl)) (fun σ1 hs => ?_)
          exact ⟨_, ⟨h_8_1c3, h, rfl⟩, hs.trans (Sub.refl)⟩
        · replace s28_7 := eq_false_of_ne_true s28_7
          replace h := ite_f s28_7 h
          refine s_regz (tr_reg true [.no, .no, .no, .no, .no, .no, .no, .is false .no] [(1, .a (.c (.bx 1 0))), (95, .a (.c (.p (.v (.bool false)))))] [(1, .box [.p (.v (.int .i64 x1.Kind)), .p (.v (.int .i64 x1.A)), .p (.v (.int .i64 (wr .i64 (x1.At + 1)))), .p (.v (.bool h_8_1c3)), .vw 1000104 0 x1.List_.length, .vw 1000105 0 h_8_r1c5.length]), (1000104, .row 1 (spRow (x1.List_.map e_int))), (1000105, .row 1 (spRow (h_8_r1c5.map e_int)))] [(1, 1), (1000104, 1000104), (1000105, 1000105)] fol hH hnt (by kernel_rfl) (by kernel_rfl) (C := ((wr .i64 (x1.At + 1)) == x0.N) = false) (by kernel_rfl) (s28_7) (rfl)) (fun σ1 hs => ?_)
          exact ⟨_, ⟨false, h, rfl⟩, hs.trans (Sub.refl)⟩
      · rintro _ ⟨t_28_95, h, rfl⟩
        unfold slow_part.j3 at h
        refine s_cond (t_28_95) (by kernel_rfl) (fun hb => ?_) (fun hb => ?_)
        · replace h := ite_t hb h
          refine s_regz (tr_reg false [] [] [(1, .box [.p (.v (.int .i64 x1.Kind)), .p (.v (.int .i64 x1.A)), .p (.v (.int .i64 0)), .p (.v (.bool false)), .vw 1000104 0 x1.List_.length, .vw 1000105 0 h_8_r1c5.length]), (1000104, .row 1 (spRow (x1.List_.map e_int))), (1000105, .row 1 (spRow (h_8_r1c5.map e_int)))] [(1, 1), (1000104, 1000104), (1000105, 1000105)] fol hH hnt (by kernel_rfl) (by kernel_rfl) (C := True) (by kernel_rfl) (trivial) (rfl)) (fun σ1 hs => ?_)
          obtain rfl := Option.some.inj h
          exact ⟨.inl rfl, _, hs, out_of [(3000104, 1000104), (3000105, 1000105), (1, 1)] (by kernel_rfl) (by kernel_rfl) (by kernel_rfl)⟩
        · replace h := ite_f hb h
          refine s_skip ?_
          obtain rfl := Option.some.inj h
          exact ⟨.inl rfl, _, Sub.refl, out_of [(3000104, 1000104), (3000105, 1000105), (1, 1)] (by kernel_rfl) (by kernel_rfl) (by kernel_rfl)⟩
def slices_Clone___int_int_.A (x0 : List Int) : List SV := [.a (.c (.p (.sl 1 (x0.map e_int))))]
def slices_Clone___int_int_.O0 (x0 : List Int) : List (Nat × RS) := []
def slices_Clone___int_int_.R (r : List Int) : SV := .a (.c (.vw 2000000 0 r.length))
def slices_Clone___int_int_.O1 (r : List Int) : List (Nat × RS) := [(2000000, .row 1 (spRow (r.map e_int)))]
theorem slices_Clone___int_int_.nsR (r : List Int) : nsSV (slices_Clone___int_int_.R r) := by simp [slices_Clone___int_int_.R, nsSV, nsAV, nsCV, nsSP]
theorem slices_Clone___int_int_.nsO (r : List Int) : ∀ k, nsRS (ofL (slices_Clone___int_int_.O1 r) k) := by
  refine nsOf fun x hx => ?_
  simp only [slices_Clone___int_int_.O1, List.mem_cons, List.not_mem_nil, or_false] at hx
  rcases hx with rfl
  · exact nsRow e_int_ns _
def slices_Clone___int_int_ (K : Nat) (x0 : List Int) : Option (List Int) :=
  if ((([] : List Int)).length + (x0).length) * 8 ≤ 140737488355328 then
  some (([] : List Int) ++ x0)
  else none
theorem slices_Clone___int_int_.ct (K : Nat) (x0 : List Int) (r : List Int) (h : slices_Clone___int_int_ K x0 = some r) : Ct PP 92 (slices_Clone___int_int_.A x0) (ofL (slices_Clone___int_int_.O0 x0)) (slices_Clone___int_int_.R r) (ofL (slices_Clone___int_int_.O1 r)) := by
  unfold slices_Clone___int_int_ at h
  refine ct_of (fn := Try.f92) (c := Try.f92.body.get!) (by kernel_rfl) (by kernel_rfl) [] (by kernel_rfl) (by kernel_rfl) (by kernel_rfl) fun Γ hnt hH => ?_
  by_cases hx : x0 = []
  · subst hx
    refine s_emp (i := 0) (sz := 1) (by kernel_rfl) fun a0 n0 hn => ?_
    cases a0 with
    | none =>
    · · obtain ⟨_, h⟩ := gd_some h
        refine s_seq ?_
        refine s_reg (tr_reg false [] [(0, .a (.c (.p (.v (.slice none 0 n0)))))] [] [] fol hH hnt (by kernel_rfl) (by kernel_rfl) (C := True) (by kernel_rfl) (trivial) (rfl)) ?_
        refine s_seq ?_
        refine s_seq ?_
        refine s_reg (tr_reg false [] [(0, .a (.c (.p (.v (.slice none 0 n0))))), (4, .a (.c (.p (.v (.bool true)))))] [] [] fol hH hnt (by kernel_rfl) (by kernel_rfl) (C := True) (by kernel_rfl) (trivial) (rfl)) ?_
        refine s_cond true (by kernel_rfl) (fun hb => ?_) (fun hb => ?_)
        · refine s_seq ?_
          refine s_reg (tr_reg false [] [(2, .a (.c (.nl 1)))] [] [] fol hH hnt (by kernel_rfl) (by kernel_rfl) (C := True) (by kernel_rfl) (trivial) (rfl)) ?_
          refine s_ret ?_
          obtain rfl := Option.some.inj h
          exact ⟨.inr rfl, _, sub_nil (i := 2) (d := 8000000) (sz := 1) 1 (by kernel_rfl) (by kernel_rfl), out_of [(2000000, 8000000)] (by kernel_rfl) (by kernel_rfl) (by kernel_rfl)⟩
        · cases hb
    | some a0 =>
    · · refine s_seq ?_
        refine s_reg (tr_reg false [] [(0, .a (.c (.p (.v (.slice (some a0) 0 n0)))))] [] [] fol hH hnt (by kernel_rfl) (by kernel_rfl) (C := True) (by kernel_rfl) (trivial) (rfl)) ?_
        refine s_seq ?_
        refine s_seq ?_
        refine s_reg (tr_reg false [] [(0, .a (.c (.p (.v (.slice (some a0) 0 n0))))), (4, .a (.c (.p (.v (.bool false)))))] [] [] fol hH hnt (by kernel_rfl) (by kernel_rfl) (C := True) (by kernel_rfl) (trivial) (rfl)) ?_
        refine s_cond false (by kernel_rfl) (fun hb => ?_) (fun hb => ?_)
        · cases hb
        · refine s_skip ?_
          refine s_seq ?_
          obtain ⟨g11_2_0, h⟩ := gd_some h
          refine s_reg (tr_reg false [.own false] [(2, .a (.c (.vw 7 0 (((spRow (([] : List Int).map e_int)) ++ ([] : List (List RC))).length))))] [(7, .row 1 ((spRow (([] : List Int).map e_int)) ++ ([] : List (List RC))))] [(7, 7)] fol hH hnt (by kernel_rfl) (by kernel_rfl) (C := ([] : List Int).length = (spRow (([] : List Int).map e_int)).length ∧ ((spRow (([] : List Int).map e_int)).length + (([] : List (List RC))).length) * 8 ≤ 140737488355328) (by kernel_rfl) (⟨((rfl).trans (rowLen (f := e_int) (xs := ([] : List Int)) (rfl)).symm), (bnd2 (rowLen (f := e_int) (xs := ([] : List Int)) (rfl)) (rowLen (f := e_int) (xs := ([] : List Int)) (rfl)) g11_2_0).2⟩) (S := mk [(2, .a (.c (.vw 7 0 ((([] : List Int) ++ ([] : List Int)).length))))] [(7, .row 1 (spRow ((([] : List Int) ++ ([] : List Int)).map e_int)))]) (he2 (fun q0 q1 => mk [(2, .a (.c (.vw 7 0 q0)))] [(7, .row 1 (q1))]) (k0 := ((spRow (([] : List Int).map e_int)) ++ ([] : List (List RC))).length) (p0 := (([] : List Int) ++ ([] : List Int)).length) ((rowLen (rowApp (f := e_int) (xs := ([] : List Int)) (ys := ([] : List Int)) (rfl) (rfl)) : ((spRow (([] : List Int).map e_int)) ++ ([] : List (List RC))).length = (([] : List Int) ++ ([] : List Int)).length)) (k1 := (spRow (([] : List Int).map e_int)) ++ ([] : List (List RC))) (p1 := spRow ((([] : List Int) ++ ([] : List Int)).map e_int)) (rowApp (f := e_int) (xs := ([] : List Int)) (ys := ([] : List Int)) (rfl) (rfl)))) ?_
          refine s_ret ?_
          obtain rfl := Option.some.inj h
          exact ⟨.inr rfl, _, Sub.refl, out_of [(2000000, 7)] (by kernel_rfl) (by kernel_rfl) (by kernel_rfl)⟩
  · refine s_seq ?_
    refine s_reg (tr_reg false [] [(0, .a (.c (.p (.sl 1 (x0.map e_int)))))] [] [] fol hH hnt (by kernel_rfl) (by kernel_rfl) (C := True) (by kernel_rfl) (trivial) (rfl)) ?_
    refine s_seq ?_
    refine s_seq ?_
    refine s_reg (tr_reg false [] [(0, .a (.c (.p (.sl 1 (x0.map e_int))))), (4, .a (.c (.p (.v (.bool false)))))] [] [] fol hH hnt (by kernel_rfl) (by kernel_rfl) (C := (x0.map e_int) ≠ []) (by kernel_rfl) ((by simpa using hx)) (rfl)) ?_
    refine s_cond false (by kernel_rfl) (fun hb => ?_) (fun hb => ?_)
    · cases hb
    · refine s_skip ?_
      refine s_seq ?_
      obtain ⟨g11_2_0, h⟩ := gd_some h
      refine s_reg (tr_reg false [.own false] [(2, .a (.c (.vw 7 0 (((spRow (([] : List Int).map e_int)) ++ (spRow (x0.map e_int))).length))))] [(7, .row 1 ((spRow (([] : List Int).map e_int)) ++ (spRow (x0.map e_int))))] [(7, 7)] fol hH hnt (by kernel_rfl) (by kernel_rfl) (C := ([] : List Int).length = (spRow (([] : List Int).map e_int)).length ∧ ((spRow (([] : List Int).map e_int)).length + (spRow (x0.map e_int)).length) * 8 ≤ 140737488355328) (by kernel_rfl) (⟨((rfl).trans (rowLen (f := e_int) (xs := ([] : List Int)) (rfl)).symm), (bnd2 (rowLen (f := e_int) (xs := ([] : List Int)) (rfl)) (rowLen (f := e_int) (xs := x0) (rfl)) g11_2_0).2⟩) (S := mk [(2, .a (.c (.vw 7 0 ((([] : List Int) ++ x0).length))))] [(7, .row 1 (spRow ((([] : List Int) ++ x0).map e_int)))]) (he2 (fun q0 q1 => mk [(2, .a (.c (.vw 7 0 q0)))] [(7, .row 1 (q1))]) (k0 := ((spRow (([] : List Int).map e_int)) ++ (spRow (x0.map e_int))).length) (p0 := (([] : List Int) ++ x0).length) ((rowLen (rowApp (f := e_int) (xs := ([] : List Int)) (ys := x0) (rfl) (rfl)) : ((spRow (([] : List Int).map e_int)) ++ (spRow (x0.map e_int))).length = (([] : List Int) ++ x0).length)) (k1 := (spRow (([] : List Int).map e_int)) ++ (spRow (x0.map e_int))) (p1 := spRow ((([] : List Int) ++ x0).map e_int)) (rowApp (f := e_int) (xs := ([] : List Int)) (ys := x0) (rfl) (rfl)))) ?_
      refine s_ret ?_
      obtain rfl := Option.some.inj h
      exact ⟨.inr rfl, _, Sub.refl, out_of [(2000000, 7)] (by kernel_rfl) (by kernel_rfl) (by kernel_rfl)⟩
def slices_Index___int_int_.A (x0 : List Int) (x1 : Int) : List SV := [.a (.c (.p (.sl 1 (x0.map e_int)))), .a (.c (.p (.v (.int .i64 x1))))]
def slices_Index___int_int_.O0 (x0 : List Int) (x1 : Int) : List (Nat × RS) := []
def slices_Index___int_int_.R (r : Int) : SV := .a (.c (.p (.v (.int .i64 r))))
def slices_Index___int_int_.O1 (r : Int) : List (Nat × RS) := []
theorem slices_Index___int_int_.nsR (r : Int) : nsSV (slices_Index___int_int_.R r) := by simp [slices_Index___int_int_.R, nsSV, nsAV, nsCV, nsSP]
theorem slices_Index___int_int_.nsO (r : Int) : ∀ k, nsRS (ofL (slices_Index___int_int_.O1 r) k) := by
  refine nsOf fun x hx => ?_
  simp only [slices_Index___int_int_.O1, List.mem_cons, List.not_mem_nil, or_false] at hx
def slices_Index___int_int_.l1 (K : Nat) (x0 : List Int) (x1 : Int) : Nat → Int → Option Int
  | 0, _ => none
  | k + 1, t_6_8 =>
    if decide (t_6_8 < (((x0).length : Nat) : Int)) then
      if 0 ≤ t_6_8 ∧ t_6_8 < ((x0).length : Int) then
      if (x1 == (nth x0 t_6_8)) then
        some t_6_8
      else
        slices_Index___int_int_.l1 K x0 x1 k (wr .i64 (t_6_8 + 1))
      else none
    else
      some (-1)
def slices_Index___int_int_ (K : Nat) (x0 : List Int) (x1 : Int) : Option Int :=
  slices_Index___int_int_.l1 K x0 x1 K 0
theorem slices_Index___int_int_.ct (K : Nat) (x0 : List Int) (x1 : Int) (r : Int) (h : slices_Index___int_int_ K x0 x1 = some r) : Ct PP 122 (slices_Index___int_int_.A x0 x1) (ofL (slices_Index___int_int_.O0 x0 x1)) (slices_Index___int_int_.R r) (ofL (slices_Index___int_int_.O1 r)) := by
  unfold slices_Index___int_int_ at h
  refine ct_of (fn := Try.f122) (c := Try.f122.body.get!) (by kernel_rfl) (by kernel_rfl) [] (by kernel_rfl) (by kernel_rfl) (by kernel_rfl) fun Γ hnt hH => ?_
  refine s_seq ?_
  refine s_reg (tr_reg false [] [(0, .a (.c (.p (.sl 1 (x0.map e_int))))), (1, .a (.c (.p (.v (.int .i64 x1)))))] [] [] fol hH hnt (by kernel_rfl) (by kernel_rfl) (C := True) (by kernel_rfl) (trivial) (rfl)) ?_
  refine s_seq ?_
  refine s_seq ?_
  refine s_reg (tr_reg false [.no, .val (.int .i64 (((x0).length : Nat) : Int))] [(0, .a (.c (.p (.sl 1 (x0.map e_int))))), (1, .a (.c (.p (.v (.int .i64 x1))))), (7, .a (.c (.p (.v (.int .i64 (((x0).length : Nat) : Int)))))), (8, .a (.c (.p (.v (.int .i64 0)))))] [] [] fol hH hnt (by kernel_rfl) (by kernel_rfl) (C := Value.int .i64 (((x0.map e_int).length : Nat) : Int) = .int .i64 (((x0).length : Nat) : Int)) (by kernel_rfl) (lenV (spLen (f := e_int) (xs := x0) (rfl))) (rfl)) ?_
  refine s_block ?_
  refine s_loop (fun k_l1 σ => ∃ (t_6_8 : Int), slices_Index___int_int_.l1 K x0 x1 k_l1 t_6_8 = some r ∧ σ = mk [(0, .a (.c (.p (.sl 1 (x0.map e_int))))), (1, .a (.c (.p (.v (.int .i64 x1))))), (7, .a (.c (.p (.v (.int .i64 (((x0).length : Nat) : Int)))))), (8, .a (.c (.p (.v (.int .i64 t_6_8)))))] []) ?_ ?_ K ⟨0, h, rfl⟩
  · rintro _ ⟨t_6_8, h, _⟩
    simp [slices_Index___int_int_.l1] at h
  · rintro k_l1 _ ⟨t_6_8, h, rfl⟩
    rw [slices_Index___int_int_.l1] at h
    refine s_seq ?_
    refine s_reg (tr_reg false [] [(0, .a (.c (.p (.sl 1 (x0.map e_int))))), (1, .a (.c (.p (.v (.int .i64 x1))))), (7, .a (.c (.p (.v (.int .i64 (((x0).length : Nat) : Int)))))), (8, .a (.c (.p (.v (.int .i64 t_6_8))))), (9, .a (.c (.p (.v (.bool (decide (t_6_8 < (((x0).length : Nat) : Int))))))))] [] [] fol hH hnt (by kernel_rfl) (by kernel_rfl) (C := True) (by kernel_rfl) (trivial) (rfl)) ?_
    refine s_seq ?_
    refine s_cond (decide (t_6_8 < (((x0).length : Nat) : Int))) (by kernel_rfl) (fun hb => ?_) (fun hb => ?_)
    · replace h := ite_t hb h
      refine s_skip ?_
      refine s_seq ?_
      refine s_block ?_
      refine s_seq ?_
      refine s_reg (tr_reg false [] [(0, .a (.c (.p (.sl 1 (x0.map e_int))))), (1, .a (.c (.p (.v (.int .i64 x1))))), (5, .a (.c (.p (.v (.int .i64 t_6_8))))), (7, .a (.c (.p (.v (.int .i64 (((x0).length : Nat) : Int)))))), (8, .a (.c (.p (.v (.int .i64 t_6_8)))))] [] [] fol hH hnt (by kernel_rfl) (by kernel_rfl) (C := True) (by kernel_rfl) (trivial) (rfl)) ?_
      refine s_seq ?_
      obtain ⟨g18_3_0, h⟩ := gd_some h
      refine s_reg (tr_reg false [.no, .no, .no, .sps (e_int (nth x0 t_6_8))] [(0, .a (.c (.p (.sl 1 (x0.map e_int))))), (1, .a (.c (.p (.v (.int .i64 x1))))), (5, .a (.c (.p (.v (.int .i64 t_6_8))))), (7, .a (.c (.p (.v (.int .i64 (((x0).length : Nat) : Int)))))), (8, .a (.c (.p (.v (.int .i64 t_6_8))))), (16, .a (.c (.p (.v (.bool (x1 == (nth x0 t_6_8)))))))] [] [] fol hH hnt (by kernel_rfl) (by kernel_rfl) (C := 0 ≤ t_6_8 ∧ (x0.map e_int)[(t_6_8).toNat]? = some (e_int (nth x0 t_6_8))) (by kernel_rfl) (⟨g18_3_0.1, spGet (rfl) g18_3_0.1 g18_3_0.2⟩) (rfl)) ?_
      refine s_cond ((x1 == (nth x0 t_6_8))) (by kernel_rfl) (fun hb => ?_) (fun hb => ?_)
      · replace h := ite_t hb h
        refine s_seq ?_
        refine s_reg (tr_reg false [] [(4, .a (.c (.p (.v (.int .i64 t_6_8)))))] [] [] fol hH hnt (by kernel_rfl) (by kernel_rfl) (C := True) (by kernel_rfl) (trivial) (rfl)) ?_
        refine s_ret ?_
        obtain rfl := Option.some.inj h
        exact ⟨.inr rfl, _, Sub.refl, out_of [] (by kernel_rfl) (by kernel_rfl) (by kernel_rfl)⟩
      · replace h := ite_f hb h
        refine s_skip ?_
        refine s_regz (tr_reg false [] [(0, .a (.c (.p (.sl 1 (x0.map e_int))))), (1, .a (.c (.p (.v (.int .i64 x1))))), (7, .a (.c (.p (.v (.int .i64 (((x0).length : Nat) : Int)))))), (8, .a (.c (.p (.v (.int .i64 (wr .i64 (t_6_8 + 1)))))))] [] [] fol hH hnt (by kernel_rfl) (by kernel_rfl) (C := True) (by kernel_rfl) (trivial) (rfl)) (fun σ1 hs => ?_)
        exact ⟨_, ⟨wr .i64 (t_6_8 + 1), h, rfl⟩, hs.trans (Sub.refl)⟩
    · replace h := ite_f hb h
      refine s_exit ?_
      refine qr_exit ?_
      refine q_hit ?_
      refine s_seq ?_
      refine s_reg (tr_reg false [] [(4, .a (.c (.p (.v (.int .i64 (-1))))))] [] [] fol hH hnt (by kernel_rfl) (by kernel_rfl) (C := True) (by kernel_rfl) (trivial) (rfl)) ?_
      refine s_ret ?_
      obtain rfl := Option.some.inj h
      exact ⟨.inr rfl, _, Sub.refl, out_of [] (by kernel_rfl) (by kernel_rfl) (by kernel_rfl)⟩
def slices_Contains___int_int_.A (x0 : List Int) (x1 : Int) : List SV := [.a (.c (.p (.sl 1 (x0.map e_int)))), .a (.c (.p (.v (.int .i64 x1))))]
def slices_Contains___int_int_.O0 (x0 : List Int) (x1 : Int) : List (Nat × RS) := []
def slices_Contains___int_int_.R (r : Bool) : SV := .a (.c (.p (.v (.bool r))))
def slices_Contains___int_int_.O1 (r : Bool) : List (Nat × RS) := []
theorem slices_Contains___int_int_.nsR (r : Bool) : nsSV (slices_Contains___int_int_.R r) := by simp [slices_Contains___int_int_.R, nsSV, nsAV, nsCV, nsSP]
theorem slices_Contains___int_int_.nsO (r : Bool) : ∀ k, nsRS (ofL (slices_Contains___int_int_.O1 r) k) := by
  refine nsOf fun x hx => ?_
  simp only [slices_Contains___int_int_.O1, List.mem_cons, List.not_mem_nil, or_false] at hx
def slices_Contains___int_int_ (K : Nat) (x0 : List Int) (x1 : Int) : Option Bool :=
  (slices_Index___int_int_ K x0 x1).bind fun r3_2 =>
  some (decide (r3_2 ≥ 0))
theorem slices_Contains___int_int_.ct (K : Nat) (x0 : List Int) (x1 : Int) (r : Bool) (h : slices_Contains___int_int_ K x0 x1 = some r) : Ct PP 108 (slices_Contains___int_int_.A x0 x1) (ofL (slices_Contains___int_int_.O0 x0 x1)) (slices_Contains___int_int_.R r) (ofL (slices_Contains___int_int_.O1 r)) := by
  unfold slices_Contains___int_int_ at h
  refine ct_of (fn := Try.f108) (c := Try.f108.body.get!) (by kernel_rfl) (by kernel_rfl) [] (by kernel_rfl) (by kernel_rfl) (by kernel_rfl) fun Γ hnt hH => ?_
  refine s_seq ?_
  refine s_reg (tr_reg false [] [(0, .a (.c (.p (.sl 1 (x0.map e_int))))), (1, .a (.c (.p (.v (.int .i64 x1)))))] [] [] fol hH hnt (by kernel_rfl) (by kernel_rfl) (C := True) (by kernel_rfl) (trivial) (rfl)) ?_
  refine s_seq ?_
  obtain ⟨r3_2, c3_2, h⟩ := bd_some h
  refine s_reg (tr_reg false [.no, .no, .call ⟨slices_Index___int_int_.A x0 x1, slices_Index___int_int_.O0 x0 x1, [], [], slices_Index___int_int_.R r3_2, slices_Index___int_int_.O1 r3_2, []⟩] [(4, .a (.c (.p (.v (.bool (decide (r3_2 ≥ 0)))))))] [] [] fol hH hnt (by kernel_rfl) (by kernel_rfl) (C := Ct PP 122 (slices_Index___int_int_.A x0 x1) (ofL (slices_Index___int_int_.O0 x0 x1)) (slices_Index___int_int_.R r3_2) (ofL (slices_Index___int_int_.O1 r3_2)) ∧ ((trCV [] (.p (.sl 1 (x0.map e_int))) = some (.p (.sl 1 (x0.map e_int)))) ∧ (trCV [] (.p (.v (.int .i64 x1))) = some (.p (.v (.int .i64 x1)))) ∧ (True)) ∧ ((True)) ∧ (([] : List Nat) = [] ∨ nsSV (slices_Index___int_int_.R r3_2) ∧ nsAll ⟨slices_Index___int_int_.A x0 x1, slices_Index___int_int_.O0 x0 x1, [], [], slices_Index___int_int_.R r3_2, slices_Index___int_int_.O1 r3_2, []⟩ [])) (by kernel_rfl) (⟨slices_Index___int_int_.ct K x0 x1 _ c3_2, ⟨rfl, rfl, trivial⟩, trivial, Or.inl rfl⟩) (rfl)) ?_
  refine s_ret ?_
  obtain rfl := Option.some.inj h
  exact ⟨.inr rfl, _, Sub.refl, out_of [] (by kernel_rfl) (by kernel_rfl) (by kernel_rfl)⟩
def slow_visit.A (x0 : api_Graph) (x1 : api_Job) : List SV := [.a (.agg [.p (.v (.int .i64 x0.N)), .p (.sl 1 (x0.Out.map e_Lint))]), .a (.c (.bx 1 0))]
def slow_visit.O0 (x0 : api_Graph) (x1 : api_Job) : List (Nat × RS) := [(1000104, .row 1 (spRow (x1.List_.map e_int))), (1000105, .row 1 (spRow (x1.Out.map e_int))), (1, .box [.p (.v (.int .i64 x1.Kind)), .p (.v (.int .i64 x1.A)), .p (.v (.int .i64 x1.At)), .p (.v (.bool x1.Move)), .vw 1000104 0 x1.List_.length, .vw 1000105 0 x1.Out.length])]
def slow_visit.R (r : api_Job) : SV := .tup []
def slow_visit.O1 (r : api_Job) : List (Nat × RS) := [(3000104, .row 1 (spRow (r.List_.map e_int))), (3000105, .row 1 (spRow (r.Out.map e_int))), (1, .box [.p (.v (.int .i64 r.Kind)), .p (.v (.int .i64 r.A)), .p (.v (.int .i64 r.At)), .p (.v (.bool r.Move)), .vw 3000104 0 r.List_.length, .vw 3000105 0 r.Out.length])]
theorem slow_visit.nsR (r : api_Job) : nsSV (slow_visit.R r) := by simp [slow_visit.R, nsSV, nsAV, nsCV, nsSP]
theorem slow_visit.nsO (r : api_Job) : ∀ k, nsRS (ofL (slow_visit.O1 r) k) := by
  refine nsOf fun x hx => ?_
  simp only [slow_visit.O1, List.mem_cons, List.not_mem_nil, or_false] at hx
  rcases hx with rfl | rfl | rfl
  · exact nsRow e_int_ns _
  · exact nsRow e_int_ns _
  · simp [nsRS, nsCV, nsSP]
def slow_visit.l1 (K : Nat) (x0 : api_Graph) (x1 : api_Job) : Nat → (List Int) → Option api_Job
  | 0, _ => none
  | k + 1, h_34_r1c5 =>
    if 0 ≤ x1.At ∧ x1.At < ((x0.Out).length : Int) then
    if decide (((h_34_r1c5.length : Nat) : Int) ≤ (((nth x0.Out x1.At).length : Nat) : Int)) then
      if ((h_34_r1c5).length + (([0] : List Int)).length) * 8 ≤ 140737488355328 then
      slow_visit.l1 K x0 x1 k (h_34_r1c5 ++ ([0] : List Int))
      else none
    else
      if 0 ≤ x1.At ∧ x1.At < ((x0.Out).length : Int) then
      if 0 ≤ (((nth x0.Out x1.At).length : Nat) : Int) ∧ (((nth x0.Out x1.At).length : Nat) : Int) < ((h_34_r1c5.length : Nat) : Int) then
      if 0 ≤ (((nth x0.Out x1.At).length : Nat) : Int) ∧ (((nth x0.Out x1.At).length : Nat) : Int) < ((h_34_r1c5.length : Nat) : Int) then
      some (⟨x1.Kind, x1.A, wr .i64 (x1.At + 1), x1.Move, x1.List_, (h_34_r1c5).set (((nth x0.Out x1.At).length : Nat) : Int).toNat (wr .i64 ((nth h_34_r1c5 (((nth x0.Out x1.At).length : Nat) : Int)) + 1))⟩ : api_Job)
      else none
      else none
      else none
    else none
def slow_visit.l2 (K : Nat) (x0 : api_Graph) (x1 : api_Job) : Nat → (List Int) → (List Int) → Int → Option api_Job
  | 0, _, _, _ => none
  | k + 1, h_52_r1c4, h_52_r1c5, t_52_120 =>
    if decide (t_52_120 < (((nth x0.Out (nth x1.List_ x1.At)).length : Nat) : Int)) then
      if 0 ≤ t_52_120 ∧ t_52_120 < ((nth x0.Out (nth x1.List_ x1.At)).length : Int) then
      if 0 ≤ (nth (nth x0.Out (nth x1.List_ x1.At)) t_52_120) ∧ (nth (nth x0.Out (nth x1.List_ x1.At)) t_52_120) < ((h_52_r1c5.length : Nat) : Int) then
      if decide ((nth h_52_r1c5 (nth (nth x0.Out (nth x1.List_ x1.At)) t_52_120)) < 0) then
        if 0 ≤ (nth x1.List_ x1.At) ∧ (nth x1.List_ x1.At) < ((h_52_r1c5.length : Nat) : Int) then
        if ((h_52_r1c4).length + (([nth (nth x0.Out (nth x1.List_ x1.At)) t_52_120] : List Int)).length) * 8 ≤ 140737488355328 then
        if 0 ≤ (nth (nth x0.Out (nth x1.List_ x1.At)) t_52_120) ∧ (nth (nth x0.Out (nth x1.List_ x1.At)) t_52_120) < ((h_52_r1c5.length : Nat) : Int) then
        slow_visit.l2 K x0 x1 k (h_52_r1c4 ++ ([nth (nth x0.Out (nth x1.List_ x1.At)) t_52_120] : List Int)) ((h_52_r1c5).set (nth (nth x0.Out (nth x1.List_ x1.At)) t_52_120).toNat (wr .i64 ((nth h_52_r1c5 (nth x1.List_ x1.At)) + 1))) (wr .i64 (t_52_120 + 1))
        else none
        else none
        else none
      else
        slow_visit.l2 K x0 x1 k h_52_r1c4 h_52_r1c5 (wr .i64 (t_52_120 + 1))
      else none
      else none
    else
      some (⟨x1.Kind, x1.A, wr .i64 (x1.At + 1), x1.Move, h_52_r1c4, h_52_r1c5⟩ : api_Job)
def slow_visit.l3 (K : Nat) (x0 : api_Graph) (x1 : api_Job) : Nat → (List Int) → Int → Option api_Job
  | 0, _, _ => none
  | k + 1, h_75_r1c5, t_75_165 =>
    if decide (t_75_165 < (((nth x0.Out x1.At).length : Nat) : Int)) then
      if 0 ≤ t_75_165 ∧ t_75_165 < ((nth x0.Out x1.At).length : Int) then
      if ((h_75_r1c5).length + (([x1.At, nth (nth x0.Out x1.At) t_75_165] : List Int)).length) * 8 ≤ 140737488355328 then
      slow_visit.l3 K x0 x1 k (h_75_r1c5 ++ ([x1.At, nth (nth x0.Out x1.At) t_75_165] : List Int)) (wr .i64 (t_75_165 + 1))
      else none
      else none
    else
      some (⟨x1.Kind, x1.A, wr .i64 (x1.At + 1), x1.Move, x1.List_, h_75_r1c5⟩ : api_Job)
def slow_visit (K : Nat) (x0 : api_Graph) (x1 : api_Job) : Option api_Job :=
  if (x1.Kind == 5) then
    (slow_part K x0 x1).bind fun r7_2 =>
    some r7_2
  else
    if (x1.Kind == 1) then
      if 0 ≤ x1.A ∧ x1.A < ((x0.Out).length : Int) then
      (slices_Clone___int_int_ K (nth x0.Out x1.A)).bind fun r20_9 =>
      some (⟨x1.Kind, x1.A, wr .i64 (x1.At + 1), x1.Move, x1.List_, r20_9⟩ : api_Job)
      else none
    else
      if (x1.Kind == 2) then
        if 0 ≤ x1.At ∧ x1.At < ((x0.Out).length : Int) then
        (slices_Contains___int_int_ K (nth x0.Out x1.At) x1.A).bind fun r25_9 =>
        if r25_9 then
          if ((x1.Out).length + (([x1.At] : List Int)).length) * 8 ≤ 140737488355328 then
          some (⟨x1.Kind, x1.A, wr .i64 (x1.At + 1), x1.Move, x1.List_, x1.Out ++ ([x1.At] : List Int)⟩ : api_Job)
          else none
        else
          some (⟨x1.Kind, x1.A, wr .i64 (x1.At + 1), x1.Move, x1.List_, x1.Out⟩ : api_Job)
        else none
      else
        if (x1.Kind == 3) then
          slow_visit.l1 K x0 x1 K x1.Out
        else
          if (x1.Kind == 4) then
            if 0 ≤ x1.At ∧ x1.At < ((x1.List_.length : Nat) : Int) then
            if 0 ≤ (nth x1.List_ x1.At) ∧ (nth x1.List_ x1.At) < ((x0.Out).length : Int) then
            slow_visit.l2 K x0 x1 K x1.List_ x1.Out 0
            else none
            else none
          else
            if (x1.Kind == 6) then
              if 0 ≤ x1.At ∧ x1.At < ((x0.Out).length : Int) then
              slow_visit.l3 K x0 x1 K x1.Out 0
              else none
            else
              some (⟨x1.Kind, x1.A, wr .i64 (x1.At + 1), x1.Move, x1.List_, x1.Out⟩ : api_Job)
end Go.XM
