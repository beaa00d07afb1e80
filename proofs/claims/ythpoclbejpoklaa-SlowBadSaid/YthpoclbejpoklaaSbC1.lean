import Derived.Test.YthpoclbejpoklaaSbC0
namespace Go.XM
open Go.Proofs
set_option linter.all false
set_option maxRecDepth 100000
set_option linter.unusedVariables false
set_option linter.unusedSimpArgs false
theorem slow_visit.ct (K : Nat) (x0 : api_Graph) (x1 : api_Job) (r : api_Job) (h : slow_visit K x0 x1 = some r) : Ct PP 74 (slow_visit.A x0 x1) (ofL (slow_visit.O0 x0 x1)) (slow_visit.R r) (ofL (slow_visit.O1 r)) := by
  unfold slow_visit at h
  refine ct_of (fn := Try.f74) (c := Try.f74.body.get!) (by kernel_rfl) (by kernel_rfl) [1] (by kernel_rfl) (by kernel_rfl) (by kernel_rfl) fun Γ hnt hH => ?_
  refine s_seq ?_
  refine s_reg (tr_reg false [] [(1, .a (.c (.bx 1 0))), (2, .a (.c (.bx 2 0)))] [(1, .box [.p (.v (.int .i64 x1.Kind)), .p (.v (.int .i64 x1.A)), .p (.v (.int .i64 x1.At)), .p (.v (.bool x1.Move)), .vw 1000104 0 x1.List_.length, .vw 1000105 0 x1.Out.length]), (2, .box [.p (.v (.int .i64 x0.N)), .p (.sl 1 (x0.Out.map e_Lint))]), (1000104, .row 1 (spRow (x1.List_.map e_int))), (1000105, .row 1 (spRow (x1.Out.map e_int)))] [(1, 1), (2, 2), (1000104, 1000104), (1000105, 1000105)] fol hH hnt (by kernel_rfl) (by kernel_rfl) (C := True) (by kernel_rfl) (trivial) (rfl)) ?_
  refine s_seq ?_
  refine s_seq ?_
  refine s_reg (tr_reg false [] [(1, .a (.c (.bx 1 0))), (2, .a (.c (.bx 2 0))), (13, .a (.c (.p (.v (.bool (x1.Kind == 5))))))] [(1, .box [.p (.v (.int .i64 x1.Kind)), .p (.v (.int .i64 x1.A)), .p (.v (.int .i64 x1.At)), .p (.v (.bool x1.Move)), .vw 1000104 0 x1.List_.length, .vw 1000105 0 x1.Out.length]), (2, .box [.p (.v (.int .i64 x0.N)), .p (.sl 1 (x0.Out.map e_Lint))]), (1000104, .row 1 (spRow (x1.List_.map e_int))), (1000105, .row 1 (spRow (x1.Out.map e_int)))] [(1, 1), (2, 2), (1000104, 1000104), (1000105, 1000105)] fol hH hnt (by kernel_rfl) (by kernel_rfl) (C := True) (by kernel_rfl) (trivial) (rfl)) ?_
  refine s_cond ((x1.Kind == 5)) (by kernel_rfl) (fun hb => ?_) (fun hb => ?_)
  · replace h := ite_t hb h
    refine s_seq ?_
    obtain ⟨r7_2, c7_2, h⟩ := bd_some h
    refine s_reg (tr_reg false [.no, .no, .call ⟨slow_part.A x0 x1, slow_part.O0 x0 x1, [(1000104, 1000104), (1000105, 1000105), (1, 1)], [], slow_part.R r7_2, slow_part.O1 r7_2, [(3000104, 4070200), (3000105, 4070201), (1, 1)]⟩] [] [(1, .box [.p (.v (.int .i64 r7_2.Kind)), .p (.v (.int .i64 r7_2.A)), .p (.v (.int .i64 r7_2.At)), .p (.v (.bool r7_2.Move)), .vw 4070200 0 r7_2.List_.length, .vw 4070201 0 r7_2.Out.length]), (4070200, .row 1 (spRow (r7_2.List_.map e_int))), (4070201, .row 1 (spRow (r7_2.Out.map e_int)))] [(1, 1), (4070200, 4070200), (4070201, 4070201)] fol hH hnt (by kernel_rfl) (by kernel_rfl) (C := Ct PP 107 (slow_part.A x0 x1) (ofL (slow_part.O0 x0 x1)) (slow_part.R r7_2) (ofL (slow_part.O1 r7_2)) ∧ (((trCV [(1000104, 1000104), (1000105, 1000105), (1, 1)] (.p (.v (.int .i64 x0.N))) = some (.p (.v (.int .i64 x0.N)))) ∧ (trCV [(1000104, 1000104), (1000105, 1000105), (1, 1)] (.p (.sl 1 (x0.Out.map e_Lint))) = some (.p (.sl 1 (x0.Out.map e_Lint)))) ∧ True) ∧ (trCV [(1000104, 1000104), (1000105, 1000105), (1, 1)] (.bx 1 0) = some (.bx 1 0)) ∧ (True)) ∧ ((trRS [(1000104, 1000104), (1000105, 1000105), (1, 1)] (.row 1 (spRow (x1.List_.map e_int))) = some (.row 1 (spRow (x1.List_.map e_int)))) ∧ (trRS [(1000104, 1000104), (1000105, 1000105), (1, 1)] (.row 1 (spRow (x1.Out.map e_int))) = some (.row 1 (spRow (x1.Out.map e_int)))) ∧ (trRS [(1000104, 1000104), (1000105, 1000105), (1, 1)] (.box [.p (.v (.int .i64 x1.Kind)), .p (.v (.int .i64 x1.A)), .p (.v (.int .i64 x1.At)), .p (.v (.bool x1.Move)), .vw 1000104 0 x1.List_.length, .vw 1000105 0 x1.Out.length]) = some (.box [.p (.v (.int .i64 x1.Kind)), .p (.v (.int .i64 x1.A)), .p (.v (.int .i64 x1.At)), .p (.v (.bool x1.Move)), .vw 1000104 0 x1.List_.length, .vw 1000105 0 x1.Out.length])) ∧ (True)) ∧ (([] : List Nat) = [] ∨ nsSV (slow_part.R r7_2) ∧ nsAll ⟨slow_part.A x0 x1, slow_part.O0 x0 x1, [(1000104, 1000104), (1000105, 1000105), (1, 1)], [], slow_part.R r7_2, slow_part.O1 r7_2, [(3000104, 4070200), (3000105, 4070201), (1, 1)]⟩ [(3000104, 4070200), (3000105, 4070201), (1, 1)])) (by kernel_rfl) (⟨slow_part.ct K x0 x1 _ c7_2, ⟨⟨rfl, rfl, trivial⟩, rfl, trivial⟩, ⟨rfl, rfl, rfl, trivial⟩, Or.inl rfl⟩) (rfl)) ?_
    refine s_ret ?_
    obtain rfl := Option.some.inj h
    exact ⟨.inr rfl, _, Sub.refl, out_of [(3000104, 4070200), (3000105, 4070201), (1, 1)] (by kernel_rfl) (by kernel_rfl) (by kernel_rfl)⟩
  · replace h := ite_f hb h
    refine s_skip ?_
    refine s_seq ?_
    refine s_reg (tr_reg false [] [(1, .a (.c (.bx 1 0))), (2, .a (.c (.bx 2 0))), (4, .a (.c (.p (.v (.int .i64 x1.At)))))] [(1, .box [.p (.v (.int .i64 x1.Kind)), .p (.v (.int .i64 x1.A)), .p (.v (.int .i64 x1.At)), .p (.v (.bool x1.Move)), .vw 1000104 0 x1.List_.length, .vw 1000105 0 x1.Out.length]), (2, .box [.p (.v (.int .i64 x0.N)), .p (.sl 1 (x0.Out.map e_Lint))]), (1000104, .row 1 (spRow (x1.List_.map e_int))), (1000105, .row 1 (spRow (x1.Out.map e_int)))] [(1, 1), (2, 2), (1000104, 1000104), (1000105, 1000105)] fol hH hnt (by kernel_rfl) (by kernel_rfl) (C := True) (by kernel_rfl) (trivial) (rfl)) ?_
    refine s_seq ?_
    refine s_reg (tr_reg false [] [(1, .a (.c (.bx 1 0))), (2, .a (.c (.bx 2 0))), (4, .a (.c (.p (.v (.int .i64 x1.At)))))] [(1, .box [.p (.v (.int .i64 x1.Kind)), .p (.v (.int .i64 x1.A)), .p (.v (.int .i64 (wr .i64 (x1.At + 1)))), .p (.v (.bool x1.Move)), .vw 1000104 0 x1.List_.length, .vw 1000105 0 x1.Out.length]), (2, .box [.p (.v (.int .i64 x0.N)), .p (.sl 1 (x0.Out.map e_Lint))]), (1000104, .row 1 (spRow (x1.List_.map e_int))), (1000105, .row 1 (spRow (x1.Out.map e_int)))] [(1, 1), (2, 2), (1000104, 1000104), (1000105, 1000105)] fol hH hnt (by kernel_rfl) (by kernel_rfl) (C := True) (by kernel_rfl) (trivial) (rfl)) ?_
    refine s_seq ?_
    refine s_reg (tr_reg false [] [(1, .a (.c (.bx 1 0))), (2, .a (.c (.bx 2 0))), (4, .a (.c (.p (.v (.int .i64 x1.At))))), (31, .a (.c (.p (.v (.int .i64 x1.Kind)))))] [(1, .box [.p (.v (.int .i64 x1.Kind)), .p (.v (.int .i64 x1.A)), .p (.v (.int .i64 (wr .i64 (x1.At + 1)))), .p (.v (.bool x1.Move)), .vw 1000104 0 x1.List_.length, .vw 1000105 0 x1.Out.length]), (2, .box [.p (.v (.int .i64 x0.N)), .p (.sl 1 (x0.Out.map e_Lint))]), (1000104, .row 1 (spRow (x1.List_.map e_int))), (1000105, .row 1 (spRow (x1.Out.map e_int)))] [(1, 1), (2, 2), (1000104, 1000104), (1000105, 1000105)] fol hH hnt (by kernel_rfl) (by kernel_rfl) (C := True) (by kernel_rfl) (trivial) (rfl)) ?_
    refine s_block ?_
    refine s_seq ?_
    refine s_reg (tr_reg false [] [(1, .a (.c (.bx 1 0))), (2, .a (.c (.bx 2 0))), (4, .a (.c (.p (.v (.int .i64 x1.At))))), (31, .a (.c (.p (.v (.int .i64 x1.Kind))))), (32, .a (.c (.p (.v (.bool (x1.Kind == 1))))))] [(1, .box [.p (.v (.int .i64 x1.Kind)), .p (.v (.int .i64 x1.A)), .p (.v (.int .i64 (wr .i64 (x1.At + 1)))), .p (.v (.bool x1.Move)), .vw 1000104 0 x1.List_.length, .vw 1000105 0 x1.Out.length]), (2, .box [.p (.v (.int .i64 x0.N)), .p (.sl 1 (x0.Out.map e_Lint))]), (1000104, .row 1 (spRow (x1.List_.map e_int))), (1000105, .row 1 (spRow (x1.Out.map e_int)))] [(1, 1), (2, 2), (1000104, 1000104), (1000105, 1000105)] fol hH hnt (by kernel_rfl) (by kernel_rfl) (C := True) (by kernel_rfl) (trivial) (rfl)) ?_
    refine s_cond ((x1.Kind == 1)) (by kernel_rfl) (fun hb => ?_) (fun hb => ?_)
    · replace h := ite_t hb h
      obtain ⟨g20_7_0, h⟩ := gd_some h
      obtain ⟨r20_9, c20_9, h⟩ := bd_some h
      refine s_regz (tr_reg true [.no, .no, .no, .no, .no, .no, .no, .sps (e_Lint (nth x0.Out x1.A)), .no, .call ⟨slices_Clone___int_int_.A (nth x0.Out x1.A), slices_Clone___int_int_.O0 (nth x0.Out x1.A), [], [], slices_Clone___int_int_.R r20_9, slices_Clone___int_int_.O1 r20_9, [(2000000, 4200900)]⟩] [] [(1, .box [.p (.v (.int .i64 x1.Kind)), .p (.v (.int .i64 x1.A)), .p (.v (.int .i64 (wr .i64 (x1.At + 1)))), .p (.v (.bool x1.Move)), .vw 1000104 0 x1.List_.length, .vw 4200900 0 r20_9.length]), (1000104, .row 1 (spRow (x1.List_.map e_int))), (4200900, .row 1 (spRow (r20_9.map e_int)))] [(1, 1), (1000104, 1000104), (4200900, 4200900)] fol hH hnt (by kernel_rfl) (by kernel_rfl) (C := (0 ≤ x1.A ∧ (x0.Out.map e_Lint)[(x1.A).toNat]? = some (e_Lint (nth x0.Out x1.A))) ∧ (Ct PP 92 (slices_Clone___int_int_.A (nth x0.Out x1.A)) (ofL (slices_Clone___int_int_.O0 (nth x0.Out x1.A))) (slices_Clone___int_int_.R r20_9) (ofL (slices_Clone___int_int_.O1 r20_9)) ∧ ((trCV [] (.p (.sl 1 ((nth x0.Out x1.A).map e_int))) = some (.p (.sl 1 ((nth x0.Out x1.A).map e_int)))) ∧ (True)) ∧ ((True)) ∧ (([] : List Nat) = [] ∨ nsSV (slices_Clone___int_int_.R r20_9) ∧ nsAll ⟨slices_Clone___int_int_.A (nth x0.Out x1.A), slices_Clone___int_int_.O0 (nth x0.Out x1.A), [], [], slices_Clone___int_int_.R r20_9, slices_Clone___int_int_.O1 r20_9, [(2000000, 4200900)]⟩ [(2000000, 4200900)]))) (by kernel_rfl) (⟨⟨g20_7_0.1, spGet (rfl) g20_7_0.1 g20_7_0.2⟩, ⟨slices_Clone___int_int_.ct K (nth x0.Out x1.A) _ c20_9, ⟨rfl, trivial⟩, trivial, Or.inl rfl⟩⟩) (rfl)) (fun σ1 hs => ?_)
      obtain rfl := Option.some.inj h
      exact ⟨.inl rfl, _, hs, out_of [(3000104, 1000104), (3000105, 4200900), (1, 1)] (by kernel_rfl) (by kernel_rfl) (by kernel_rfl)⟩
    · replace h := ite_f hb h
      refine s_seq ?_
      refine s_reg (tr_reg false [] [(1, .a (.c (.bx 1 0))), (2, .a (.c (.bx 2 0))), (4, .a (.c (.p (.v (.int .i64 x1.At))))), (31, .a (.c (.p (.v (.int .i64 x1.Kind))))), (46, .a (.c (.p (.v (.bool (x1.Kind == 2))))))] [(1, .box [.p (.v (.int .i64 x1.Kind)), .p (.v (.int .i64 x1.A)), .p (.v (.int .i64 (wr .i64 (x1.At + 1)))), .p (.v (.bool x1.Move)), .vw 1000104 0 x1.List_.length, .vw 1000105 0 x1.Out.length]), (2, .box [.p (.v (.int .i64 x0.N)), .p (.sl 1 (x0.Out.map e_Lint))]), (1000104, .row 1 (spRow (x1.List_.map e_int))), (1000105, .row 1 (spRow (x1.Out.map e_int)))] [(1, 1), (2, 2), (1000104, 1000104), (1000105, 1000105)] fol hH hnt (by kernel_rfl) (by kernel_rfl) (C := True) (by kernel_rfl) (trivial) (rfl)) ?_
      refine s_cond ((x1.Kind == 2)) (by kernel_rfl) (fun hb => ?_) (fun hb => ?_)
      · replace h := ite_t hb h
        refine s_seq ?_
        obtain ⟨g25_3_0, h⟩ := gd_some h
        obtain ⟨r25_9, c25_9, h⟩ := bd_some h
        refine s_reg (tr_reg true [.no, .no, .no, .sps (e_Lint (nth x0.Out x1.At)), .no, .no, .no, .no, .no, .call ⟨slices_Contains___int_int_.A (nth x0.Out x1.At) x1.A, slices_Contains___int_int_.O0 (nth x0.Out x1.At) x1.A, [], [], slices_Contains___int_int_.R r25_9, slices_Contains___int_int_.O1 r25_9, []⟩] [(1, .a (.c (.bx 1 0))), (4, .a (.c (.p (.v (.int .i64 x1.At))))), (57, .a (.c (.p (.v (.bool r25_9)))))] [(1, .box [.p (.v (.int .i64 x1.Kind)), .p (.v (.int .i64 x1.A)), .p (.v (.int .i64 (wr .i64 (x1.At + 1)))), .p (.v (.bool x1.Move)), .vw 1000104 0 x1.List_.length, .vw 1000105 0 x1.Out.length]), (1000104, .row 1 (spRow (x1.List_.map e_int))), (1000105, .row 1 (spRow (x1.Out.map e_int)))] [(1, 1), (1000104, 1000104), (1000105, 1000105)] fol hH hnt (by kernel_rfl) (by kernel_rfl) (C := (0 ≤ x1.At ∧ (x0.Out.map e_Lint)[(x1.At).toNat]? = some (e_Lint (nth x0.Out x1.At))) ∧ (Ct PP 108 (slices_Contains___int_int_.A (nth x0.Out x1.At) x1.A) (ofL (slices_Contains___int_int_.O0 (nth x0.Out x1.At) x1.A)) (slices_Contains___int_int_.R r25_9) (ofL (slices_Contains___int_int_.O1 r25_9)) ∧ ((trCV [] (.p (.sl 1 ((nth x0.Out x1.At).map e_int))) = some (.p (.sl 1 ((nth x0.Out x1.At).map e_int)))) ∧ (trCV [] (.p (.v (.int .i64 x1.A))) = some (.p (.v (.int .i64 x1.A)))) ∧ (True)) ∧ ((True)) ∧ (([] : List Nat) = [] ∨ nsSV (slices_Contains___int_int_.R r25_9) ∧ nsAll ⟨slices_Contains___int_int_.A (nth x0.Out x1.At) x1.A, slices_Contains___int_int_.O0 (nth x0.Out x1.At) x1.A, [], [], slices_Contains___int_int_.R r25_9, slices_Contains___int_int_.O1 r25_9, []⟩ []))) (by kernel_rfl) (⟨⟨g25_3_0.1, spGet (rfl) g25_3_0.1 g25_3_0.2⟩, ⟨slices_Contains___int_int_.ct K (nth x0.Out x1.At) x1.A _ c25_9, ⟨rfl, rfl, trivial⟩, trivial, Or.inl rfl⟩⟩) (rfl)) ?_
        refine s_cond (r25_9) (by kernel_rfl) (fun hb => ?_) (fun hb => ?_)
        · replace h := ite_t hb h
          obtain ⟨g27_7_0, h⟩ := gd_some h
          refine s_regz (tr_reg false [.no, .no, .no, .no, .no, .no, .own false, .news ((([x1.At] : List Int)).map e_int)] [] [(1, .box [.p (.v (.int .i64 x1.Kind)), .p (.v (.int .i64 x1.A)), .p (.v (.int .i64 (wr .i64 (x1.At + 1)))), .p (.v (.bool x1.Move)), .vw 1000104 0 x1.List_.length, .vw 65 0 (((spRow (x1.Out.map e_int)) ++ (spRow ((([x1.At] : List Int)).map e_int))).length)]), (65, .row 1 ((spRow (x1.Out.map e_int)) ++ (spRow ((([x1.At] : List Int)).map e_int)))), (1000104, .row 1 (spRow (x1.List_.map e_int)))] [(1, 1), (65, 65), (1000104, 1000104)] fol hH hnt (by kernel_rfl) (by kernel_rfl) (C := (((spRow (([x1.At] : List Int).map e_int)).drop 0).take (([x1.At] : List Int).length) = spRow ((([x1.At] : List Int)).map e_int)) ∧ (x1.Out.length = (spRow (x1.Out.map e_int)).length ∧ ((spRow (x1.Out.map e_int)).length + (spRow ((([x1.At] : List Int)).map e_int)).length) * 8 ≤ 140737488355328)) (by kernel_rfl) (⟨rowAll (rfl) (lenMap (rfl)), ⟨((rfl).trans (rowLen (f := e_int) (xs := x1.Out) (rfl)).symm), (bnd2 (rowLen (f := e_int) (xs := x1.Out) (rfl)) (rowLen (f := e_int) (xs := ([x1.At] : List Int)) (rfl)) g27_7_0).2⟩⟩) (S := mk [] [(1, .box [.p (.v (.int .i64 x1.Kind)), .p (.v (.int .i64 x1.A)), .p (.v (.int .i64 (wr .i64 (x1.At + 1)))), .p (.v (.bool x1.Move)), .vw 1000104 0 x1.List_.length, .vw 65 0 ((x1.Out ++ ([x1.At] : List Int)).length)]), (65, .row 1 (spRow ((x1.Out ++ ([x1.At] : List Int)).map e_int))), (1000104, .row 1 (spRow (x1.List_.map e_int)))]) (he2 (fun q0 q1 => mk [] [(1, .box [.p (.v (.int .i64 x1.Kind)), .p (.v (.int .i64 x1.A)), .p (.v (.int .i64 (wr .i64 (x1.At + 1)))), .p (.v (.bool x1.Move)), .vw 1000104 0 x1.List_.length, .vw 65 0 q0]), (65, .row 1 (q1)), (1000104, .row 1 (spRow (x1.List_.map e_int)))]) (k0 := ((spRow (x1.Out.map e_int)) ++ (spRow ((([x1.At] : List Int)).map e_int))).length) (p0 := (x1.Out ++ ([x1.At] : List Int)).length) ((rowLen (rowApp (f := e_int) (xs := x1.Out) (ys := ([x1.At] : List Int)) (rfl) (rfl)) : ((spRow (x1.Out.map e_int)) ++ (spRow ((([x1.At] : List Int)).map e_int))).length = (x1.Out ++ ([x1.At] : List Int)).length)) (k1 := (spRow (x1.Out.map e_int)) ++ (spRow ((([x1.At] : List Int)).map e_int))) (p1 := spRow ((x1.Out ++ ([x1.At] : List Int)).map e_int)) (rowApp (f := e_int) (xs := x1.Out) (ys := ([x1.At] : List Int)) (rfl) (rfl)))) (fun σ1 hs => ?_)
          obtain rfl := Option.some.inj h
          exact ⟨.inl rfl, _, hs, out_of [(3000104, 1000104), (3000105, 65), (1, 1)] (by kernel_rfl) (by kernel_rfl) (by kernel_rfl)⟩
        · replace h := ite_f hb h
          refine s_skip ?_
          obtain rfl := Option.some.inj h
          exact ⟨.inl rfl, _, Sub.refl, out_of [(3000104, 1000104), (3000105, 1000105), (1, 1)] (by kernel_rfl) (by kernel_rfl) (by kernel_rfl)⟩
      · replace h := ite_f hb h
        refine s_seq ?_
        refine s_reg (tr_reg false [] [(1, .a (.c (.bx 1 0))), (2, .a (.c (.bx 2 0))), (4, .a (.c (.p (.v (.int .i64 x1.At))))), (31, .a (.c (.p (.v (.int .i64 x1.Kind))))), (68, .a (.c (.p (.v (.bool (x1.Kind == 3))))))] [(1, .box [.p (.v (.int .i64 x1.Kind)), .p (.v (.int .i64 x1.A)), .p (.v (.int .i64 (wr .i64 (x1.At + 1)))), .p (.v (.bool x1.Move)), .vw 1000104 0 x1.List_.length, .vw 1000105 0 x1.Out.length]), (2, .box [.p (.v (.int .i64 x0.N)), .p (.sl 1 (x0.Out.map e_Lint))]), (1000104, .row 1 (spRow (x1.List_.map e_int))), (1000105, .row 1 (spRow (x1.Out.map e_int)))] [(1, 1), (2, 2), (1000104, 1000104), (1000105, 1000105)] fol hH hnt (by kernel_rfl) (by kernel_rfl) (C := True) (by kernel_rfl) (trivial) (rfl)) ?_
        refine s_cond ((x1.Kind == 3)) (by kernel_rfl) (fun hb => ?_) (fun hb => ?_)
        · replace h := ite_t hb h
          refine s_seq ?_
          refine s_block ?_
          refine s_subc (sub_ren (l := [(1, .a (.c (.bx 1 0))), (2, .a (.c (.bx 2 0))), (4, .a (.c (.p (.v (.int .i64 x1.At)))))]) (o := [(1, .box [.p (.v (.int .i64 x1.Kind)), .p (.v (.int .i64 x1.A)), .p (.v (.int .i64 (wr .i64 (x1.At + 1)))), .p (.v (.bool x1.Move)), .vw 1000104 0 x1.List_.length, .vw 1000105 0 x1.Out.length]), (2, .box [.p (.v (.int .i64 x0.N)), .p (.sl 1 (x0.Out.map e_Lint))]), (1000104, .row 1 (spRow (x1.List_.map e_int))), (1000105, .row 1 (spRow (x1.Out.map e_int)))]) [(1, 1), (2, 2), (1000104, 1000104), (1000105, 1000105)] hH (by kernel_rfl) (by kernel_rfl) rfl) ?_
          refine s_loop (fun k_l1 σ => ∃ (h_34_r1c5 : List Int), slow_visit.l1 K x0 x1 k_l1 h_34_r1c5 = some r ∧ σ = mk [(1, .a (.c (.bx 1 0))), (2, .a (.c (.bx 2 0))), (4, .a (.c (.p (.v (.int .i64 x1.At)))))] [(1, .box [.p (.v (.int .i64 x1.Kind)), .p (.v (.int .i64 x1.A)), .p (.v (.int .i64 (wr .i64 (x1.At + 1)))), .p (.v (.bool x1.Move)), .vw 1000104 0 x1.List_.length, .vw 1000105 0 h_34_r1c5.length]), (2, .box [.p (.v (.int .i64 x0.N)), .p (.sl 1 (x0.Out.map e_Lint))]), (1000104, .row 1 (spRow (x1.List_.map e_int))), (1000105, .row 1 (spRow (h_34_r1c5.map e_int)))]) ?_ ?_ K ⟨x1.Out, h, rfl⟩
          · rintro _ ⟨h_34_r1c5, h, _⟩
            simp [slow_visit.l1] at h
          · rintro k_l1 _ ⟨h_34_r1c5, h, rfl⟩
            rw [slow_visit.l1] at h
            refine s_seq ?_
            refine s_seq ?_
            obtain ⟨g37_8_0, h⟩ := gd_some h
            refine s_reg (tr_reg true [.no, .no, .no, .no, .no, .no, .no, .no, .sps (e_Lint (nth x0.Out x1.At)), .no, .val (.int .i64 (((nth x0.Out x1.At).length : Nat) : Int))] [(1, .a (.c (.bx 1 0))), (2, .a (.c (.bx 2 0))), (4, .a (.c (.p (.v (.int .i64 x1.At))))), (81, .a (.c (.p (.v (.bool (decide (((h_34_r1c5.length : Nat) : Int) ≤ (((nth x0.Out x1.At).length : Nat) : Int))))))))] [(1, .box [.p (.v (.int .i64 x1.Kind)), .p (.v (.int .i64 x1.A)), .p (.v (.int .i64 (wr .i64 (x1.At + 1)))), .p (.v (.bool x1.Move)), .vw 1000104 0 x1.List_.length, .vw 1000105 0 h_34_r1c5.length]), (2, .box [.p (.v (.int .i64 x0.N)), .p (.sl 1 (x0.Out.map e_Lint))]), (1000104, .row 1 (spRow (x1.List_.map e_int))), (1000105, .row 1 (spRow (h_34_r1c5.map e_int)))] [(1, 1), (2, 2), (1000104, 1000104), (1000105, 1000105)] fol hH hnt (by kernel_rfl) (by kernel_rfl) (C := (0 ≤ x1.At ∧ (x0.Out.map e_Lint)[(x1.At).toNat]? = some (e_Lint (nth x0.Out x1.At))) ∧ (Value.int .i64 ((((nth x0.Out x1.At).map e_int).length : Nat) : Int) = .int .i64 (((nth x0.Out x1.At).length : Nat) : Int))) (by kernel_rfl) (⟨⟨g37_8_0.1, spGet (rfl) g37_8_0.1 g37_8_0.2⟩, lenV (spLen (f := e_int) (xs := nth x0.Out x1.At) (rfl))⟩) (rfl)) ?_
            refine s_cond (decide (((h_34_r1c5.length : Nat) : Int) ≤ (((nth x0.Out x1.At).length : Nat) : Int))) (by kernel_rfl) (fun hb => ?_) (fun hb => ?_)
            · replace h := ite_t hb h
              refine s_skip ?_
              refine s_block ?_
              obtain ⟨g42_6_0, h⟩ := gd_some h
              refine s_regz (tr_reg false [.no, .no, .no, .no, .no, .own false, .news ((([0] : List Int)).map e_int)] [(1, .a (.c (.bx 1 0))), (2, .a (.c (.bx 2 0))), (4, .a (.c (.p (.v (.int .i64 x1.At)))))] [(1, .box [.p (.v (.int .i64 x1.Kind)), .p (.v (.int .i64 x1.A)), .p (.v (.int .i64 (wr .i64 (x1.At + 1)))), .p (.v (.bool x1.Move)), .vw 1000104 0 x1.List_.length, .vw 88 0 (((spRow (h_34_r1c5.map e_int)) ++ (spRow ((([0] : List Int)).map e_int))).length)]), (2, .box [.p (.v (.int .i64 x0.N)), .p (.sl 1 (x0.Out.map e_Lint))]), (88, .row 1 ((spRow (h_34_r1c5.map e_int)) ++ (spRow ((([0] : List Int)).map e_int)))), (1000104, .row 1 (spRow (x1.List_.map e_int)))] [(1, 1), (2, 2), (88, 88), (1000104, 1000104)] fol hH hnt (by kernel_rfl) (by kernel_rfl) (C := (((spRow (([0] : List Int).map e_int)).drop 0).take (([0] : List Int).length) = spRow ((([0] : List Int)).map e_int)) ∧ (h_34_r1c5.length = (spRow (h_34_r1c5.map e_int)).length ∧ ((spRow (h_34_r1c5.map e_int)).length + (spRow ((([0] : List Int)).map e_int)).length) * 8 ≤ 140737488355328)) (by kernel_rfl) (⟨rowAll (rfl) (lenMap (rfl)), ⟨((rfl).trans (rowLen (f := e_int) (xs := h_34_r1c5) (rfl)).symm), (bnd2 (rowLen (f := e_int) (xs := h_34_r1c5) (rfl)) (rowLen (f := e_int) (xs := ([0] : List Int)) (rfl)) g42_6_0).2⟩⟩) (S := mk [(1, .a (.c (.bx 1 0))), (2, .a (.c (.bx 2 0))), (4, .a (.c (.p (.v (.int .i64 x1.At)))))] [(1, .box [.p (.v (.int .i64 x1.Kind)), .p (.v (.int .i64 x1.A)), .p (.v (.int .i64 (wr .i64 (x1.At + 1)))), .p (.v (.bool x1.Move)), .vw 1000104 0 x1.List_.length, .vw 88 0 ((h_34_r1c5 ++ ([0] : List Int)).length)]), (2, .box [.p (.v (.int .i64 x0.N)), .p (.sl 1 (x0.Out.map e_Lint))]), (88, .row 1 (spRow ((h_34_r1c5 ++ ([0] : List Int)).map e_int))), (1000104, .row 1 (spRow (x1.List_.map e_int)))]) (he2 (fun q0 q1 => mk [(1, .a (.c (.bx 1 0))), (2, .a (.c (.bx 2 0))), (4, .a (.c (.p (.v (.int .i64 x1.At)))))] [(1, .box [.p (.v (.int .i64 x1.Kind)), .p (.v (.int .i64 x1.A)), .p (.v (.int .i64 (wr .i64 (x1.At + 1)))), .p (.v (.bool x1.Move)), .vw 1000104 0 x1.List_.length, .vw 88 0 q0]), (2, .box [.p (.v (.int .i64 x0.N)), .p (.sl 1 (x0.Out.map e_Lint))]), (88, .row 1 (q1)), (1000104, .row 1 (spRow (x1.List_.map e_int)))]) (k0 := ((spRow (h_34_r1c5.map e_int)) ++ (spRow ((([0] : List Int)).map e_int))).length) (p0 := (h_34_r1c5 ++ ([0] : List Int)).length) ((rowLen (rowApp (f := e_int) (xs := h_34_r1c5) (ys := ([0] : List Int)) (rfl) (rfl)) : ((spRow (h_34_r1c5.map e_int)) ++ (spRow ((([0] : List Int)).map e_int))).length = (h_34_r1c5 ++ ([0] : List Int)).length)) (k1 := (spRow (h_34_r1c5.map e_int)) ++ (spRow ((([0] : List Int)).map e_int))) (p1 := spRow ((h_34_r1c5 ++ ([0] : List Int)).map e_int)) (rowApp (f := e_int) (xs := h_34_r1c5) (ys := ([0] : List Int)) (rfl) (rfl)))) (fun σ1 hs => ?_)
              exact ⟨_, ⟨h_34_r1c5 ++ ([0] : List Int), h, rfl⟩, hs.trans (sub_ren (l := [(1, .a (.c (.bx 1 0))), (2, .a (.c (.bx 2 0))), (4, .a (.c (.p (.v (.int .i64 x1.At)))))]) (o := [(1, .box [.p (.v (.int .i64 x1.Kind)), .p (.v (.int .i64 x1.A)), .p (.v (.int .i64 (wr .i64 (x1.At + 1)))), .p (.v (.bool x1.Move)), .vw 1000104 0 x1.List_.length, .vw 1000105 0 ((h_34_r1c5 ++ ([0] : List Int)).length)]), (2, .box [.p (.v (.int .i64 x0.N)), .p (.sl 1 (x0.Out.map e_Lint))]), (1000104, .row 1 (spRow (x1.List_.map e_int))), (1000105, .row 1 (spRow ((h_34_r1c5 ++ ([0] : List Int)).map e_int)))]) [(1, 1), (2, 2), (1000104, 1000104), (1000105, 88)] hH (by kernel_rfl) (by kernel_rfl) rfl)⟩
            · replace h := ite_f hb h
              refine s_exit ?_
              refine qr_exit ?_
              refine q_hit ?_
              obtain ⟨g43_7_0, h⟩ := gd_some h
              obtain ⟨g43_10_1, h⟩ := gd_some h
              obtain ⟨g43_13_2, h⟩ := gd_some h
              refine s_regz (tr_reg true [.no, .no, .no, .no, .no, .no, .no, .sps (e_Lint (nth x0.Out x1.At)), .no, .val (.int .i64 (((nth x0.Out x1.At).length : Nat) : Int)), .no, .rcs ((e_int (nth h_34_r1c5 (((nth x0.Out x1.At).length : Nat) : Int))).map RC.s), .no, .no, .rcs ((e_int (nth h_34_r1c5 (((nth x0.Out x1.At).length : Nat) : Int))).map RC.s)] [] [(1, .box [.p (.v (.int .i64 x1.Kind)), .p (.v (.int .i64 x1.A)), .p (.v (.int .i64 (wr .i64 (x1.At + 1)))), .p (.v (.bool x1.Move)), .vw 1000104 0 x1.List_.length, .vw 1000105 0 h_34_r1c5.length]), (1000104, .row 1 (spRow (x1.List_.map e_int))), (1000105, .row 1 ((spRow (h_34_r1c5.map e_int)).set (0 + ((((nth x0.Out x1.At).length : Nat) : Int)).toNat) ((e_int (wr .i64 ((nth h_34_r1c5 (((nth x0.Out x1.At).length : Nat) : Int)) + 1))).map RC.s)))] [(1, 1), (1000104, 1000104), (1000105, 1000105)] fol hH hnt (by kernel_rfl) (by kernel_rfl) (C := (0 ≤ x1.At ∧ (x0.Out.map e_Lint)[(x1.At).toNat]? = some (e_Lint (nth x0.Out x1.At))) ∧ (Value.int .i64 ((((nth x0.Out x1.At).map e_int).length : Nat) : Int) = .int .i64 (((nth x0.Out x1.At).length : Nat) : Int)) ∧ (0 ≤ (((nth x0.Out x1.At).length : Nat) : Int) ∧ (((nth x0.Out x1.At).length : Nat) : Int) < ((h_34_r1c5.length : Nat) : Int)) ∧ ((spRow (h_34_r1c5.map e_int))[0 + ((((nth x0.Out x1.At).length : Nat) : Int)).toNat]? = some ((e_int (nth h_34_r1c5 (((nth x0.Out x1.At).length : Nat) : Int))).map RC.s)) ∧ (0 ≤ (((nth x0.Out x1.At).length : Nat) : Int) ∧ (((nth x0.Out x1.At).length : Nat) : Int) < ((h_34_r1c5.length : Nat) : Int)) ∧ ((spRow (h_34_r1c5.map e_int))[0 + ((((nth x0.Out x1.At).length : Nat) : Int)).toNat]? = some ((e_int (nth h_34_r1c5 (((nth x0.Out x1.At).length : Nat) : Int))).map RC.s))) (by kernel_rfl) (⟨⟨g43_7_0.1, spGet (rfl) g43_7_0.1 g43_7_0.2⟩, lenV (spLen (f := e_int) (xs := nth x0.Out x1.At) (rfl)), ⟨g43_10_1.1, ltL (rfl) g43_10_1.2⟩, rowGet (rfl) g43_10_1.1 g43_10_1.2, ⟨g43_13_2.1, ltL (rfl) g43_13_2.2⟩, rowGet (rfl) g43_13_2.1 g43_13_2.2⟩) (S := mk [] [(1, .box [.p (.v (.int .i64 x1.Kind)), .p (.v (.int .i64 x1.A)), .p (.v (.int .i64 (wr .i64 (x1.At + 1)))), .p (.v (.bool x1.Move)), .vw 1000104 0 x1.List_.length, .vw 1000105 0 (((h_34_r1c5).set (((nth x0.Out x1.At).length : Nat) : Int).toNat (wr .i64 ((nth h_34_r1c5 (((nth x0.Out x1.At).length : Nat) : Int)) + 1))).length)]), (1000104, .row 1 (spRow (x1.List_.map e_int))), (1000105, .row 1 (spRow (((h_34_r1c5).set (((nth x0.Out x1.At).length : Nat) : Int).toNat (wr .i64 ((nth h_34_r1c5 (((nth x0.Out x1.At).length : Nat) : Int)) + 1))).map e_int)))]) (he2 (fun q0 q1 => mk [] [(1, .box [.p (.v (.int .i64 x1.Kind)), .p (.v (.int .i64 x1.A)), .p (.v (.int .i64 (wr .i64 (x1.At + 1)))), .p (.v (.bool x1.Move)), .vw 1000104 0 x1.List_.length, .vw 1000105 0 q0]), (1000104, .row 1 (spRow (x1.List_.map e_int))), (1000105, .row 1 (q1))]) (k0 := h_34_r1c5.length) (p0 := ((h_34_r1c5).set (((nth x0.Out x1.At).length : Nat) : Int).toNat (wr .i64 ((nth h_34_r1c5 (((nth x0.Out x1.At).length : Nat) : Int)) + 1))).length) (((List.length_set).symm : h_34_r1c5.length = ((h_34_r1c5).set (((nth x0.Out x1.At).length : Nat) : Int).toNat (wr .i64 ((nth h_34_r1c5 (((nth x0.Out x1.At).length : Nat) : Int)) + 1))).length)) (k1 := (spRow (h_34_r1c5.map e_int)).set (0 + ((((nth x0.Out x1.At).length : Nat) : Int)).toNat) ((e_int (wr .i64 ((nth h_34_r1c5 (((nth x0.Out x1.At).length : Nat) : Int)) + 1))).map RC.s)) (p1 := spRow (((h_34_r1c5).set (((nth x0.Out x1.At).length : Nat) : Int).toNat (wr .i64 ((nth h_34_r1c5 (((nth x0.Out x1.At).length : Nat) : Int)) + 1))).map e_int)) (rowSet (rfl) (((nth x0.Out x1.At).length : Nat) : Int) (wr .i64 ((nth h_34_r1c5 (((nth x0.Out x1.At).length : Nat) : Int)) + 1))))) (fun σ1 hs => ?_)
              obtain rfl := Option.some.inj h
              exact ⟨.inl rfl, _, hs, out_of [(3000104, 1000104), (3000105, 1000105), (1, 1)] (by kernel_rfl) (by kernel_rfl) (by kernel_rfl)⟩
        · replace h := ite_f hb h
          refine s_seq ?_
          refine s_reg (tr_reg false [] [(1, .a (.c (.bx 1 0))), (2, .a (.c (.bx 2 0))), (4, .a (.c (.p (.v (.int .i64 x1.At))))), (31, .a (.c (.p (.v (.int .i64 x1.Kind))))), (105, .a (.c (.p (.v (.bool (x1.Kind == 4))))))] [(1, .box [.p (.v (.int .i64 x1.Kind)), .p (.v (.int .i64 x1.A)), .p (.v (.int .i64 (wr .i64 (x1.At + 1)))), .p (.v (.bool x1.Move)), .vw 1000104 0 x1.List_.length, .vw 1000105 0 x1.Out.length]), (2, .box [.p (.v (.int .i64 x0.N)), .p (.sl 1 (x0.Out.map e_Lint))]), (1000104, .row 1 (spRow (x1.List_.map e_int))), (1000105, .row 1 (spRow (x1.Out.map e_int)))] [(1, 1), (2, 2), (1000104, 1000104), (1000105, 1000105)] fol hH hnt (by kernel_rfl) (by kernel_rfl) (C := True) (by kernel_rfl) (trivial) (rfl)) ?_
          refine s_cond ((x1.Kind == 4)) (by kernel_rfl) (fun hb => ?_) (fun hb => ?_)
          · replace h := ite_t hb h
            refine s_seq ?_
            obtain ⟨g48_5_0, h⟩ := gd_some h
            refine s_reg (tr_reg false [.no, .no, .no, .no, .no, .no, .rcs ((e_int (nth x1.List_ x1.At)).map RC.s)] [(1, .a (.c (.bx 1 0))), (2, .a (.c (.bx 2 0))), (4, .a (.c (.p (.v (.int .i64 (nth x1.List_ x1.At))))))] [(1, .box [.p (.v (.int .i64 x1.Kind)), .p (.v (.int .i64 x1.A)), .p (.v (.int .i64 (wr .i64 (x1.At + 1)))), .p (.v (.bool x1.Move)), .vw 1000104 0 x1.List_.length, .vw 1000105 0 x1.Out.length]), (2, .box [.p (.v (.int .i64 x0.N)), .p (.sl 1 (x0.Out.map e_Lint))]), (1000104, .row 1 (spRow (x1.List_.map e_int))), (1000105, .row 1 (spRow (x1.Out.map e_int)))] [(1, 1), (2, 2), (1000104, 1000104), (1000105, 1000105)] fol hH hnt (by kernel_rfl) (by kernel_rfl) (C := (0 ≤ x1.At ∧ x1.At < ((x1.List_.length : Nat) : Int)) ∧ ((spRow (x1.List_.map e_int))[0 + (x1.At).toNat]? = some ((e_int (nth x1.List_ x1.At)).map RC.s))) (by kernel_rfl) (⟨⟨g48_5_0.1, ltL (rfl) g48_5_0.2⟩, rowGet (rfl) g48_5_0.1 g48_5_0.2⟩) (rfl)) ?_
            refine s_seq ?_
            obtain ⟨g50_3_0, h⟩ := gd_some h
            refine s_reg (tr_reg false [.no, .no, .no, .sps (e_Lint (nth x0.Out (nth x1.List_ x1.At))), .no, .val (.int .i64 (((nth x0.Out (nth x1.List_ x1.At)).length : Nat) : Int))] [(1, .a (.c (.bx 1 0))), (4, .a (.c (.p (.v (.int .i64 (nth x1.List_ x1.At)))))), (118, .a (.c (.p (.sl 1 ((nth x0.Out (nth x1.List_ x1.At)).map e_int))))), (119, .a (.c (.p (.v (.int .i64 (((nth x0.Out (nth x1.List_ x1.At)).length : Nat) : Int)))))), (120, .a (.c (.p (.v (.int .i64 0)))))] [(1, .box [.p (.v (.int .i64 x1.Kind)), .p (.v (.int .i64 x1.A)), .p (.v (.int .i64 (wr .i64 (x1.At + 1)))), .p (.v (.bool x1.Move)), .vw 1000104 0 x1.List_.length, .vw 1000105 0 x1.Out.length]), (1000104, .row 1 (spRow (x1.List_.map e_int))), (1000105, .row 1 (spRow (x1.Out.map e_int)))] [(1, 1), (1000104, 1000104), (1000105, 1000105)] fol hH hnt (by kernel_rfl) (by kernel_rfl) (C := (0 ≤ (nth x1.List_ x1.At) ∧ (x0.Out.map e_Lint)[((nth x1.List_ x1.At)).toNat]? = some (e_Lint (nth x0.Out (nth x1.List_ x1.At)))) ∧ (Value.int .i64 ((((nth x0.Out (nth x1.List_ x1.At)).map e_int).length : Nat) : Int) = .int .i64 (((nth x0.Out (nth x1.List_ x1.At)).length : Nat) : Int))) (by kernel_rfl) (⟨⟨g50_3_0.1, spGet (rfl) g50_3_0.1 g50_3_0.2⟩, lenV (spLen (f := e_int) (xs := nth x0.Out (nth x1.List_ x1.At)) (rfl))⟩) (rfl)) ?_
            refine s_block ?_
            refine s_loop (fun k_l2 σ => ∃ (h_52_r1c4 : List Int) (h_52_r1c5 : List Int) (t_52_120 : Int), slow_visit.l2 K x0 x1 k_l2 h_52_r1c4 h_52_r1c5 t_52_120 = some r ∧ σ = mk [(1, .a (.c (.bx 1 0))), (4, .a (.c (.p (.v (.int .i64 (nth x1.List_ x1.At)))))), (118, .a (.c (.p (.sl 1 ((nth x0.Out (nth x1.List_ x1.At)).map e_int))))), (119, .a (.c (.p (.v (.int .i64 (((nth x0.Out (nth x1.List_ x1.At)).length : Nat) : Int)))))), (120, .a (.c (.p (.v (.int .i64 t_52_120)))))] [(1, .box [.p (.v (.int .i64 x1.Kind)), .p (.v (.int .i64 x1.A)), .p (.v (.int .i64 (wr .i64 (x1.At + 1)))), .p (.v (.bool x1.Move)), .vw 1000104 0 h_52_r1c4.length, .vw 1000105 0 h_52_r1c5.length]), (1000104, .row 1 (spRow (h_52_r1c4.map e_int))), (1000105, .row 1 (spRow (h_52_r1c5.map e_int)))]) ?_ ?_ K ⟨x1.List_, x1.Out, 0, h, rfl⟩
            · rintro _ ⟨h_52_r1c4, h_52_r1c5, t_52_120, h, _⟩
              simp [slow_visit.l2] at h
            · rintro k_l2 _ ⟨h_52_r1c4, h_52_r1c5, t_52_120, h, rfl⟩
              rw [slow_visit.l2] at h
              refine s_seq ?_
              refine s_reg (tr_reg false [] [(1, .a (.c (.bx 1 0))), (4, .a (.c (.p (.v (.int .i64 (nth x1.List_ x1.At)))))), (118, .a (.c (.p (.sl 1 ((nth x0.Out (nth x1.List_ x1.At)).map e_int))))), (119, .a (.c (.p (.v (.int .i64 (((nth x0.Out (nth x1.List_ x1.At)).length : Nat) : Int)))))), (120, .a (.c (.p (.v (.int .i64 t_52_120))))), (121, .a (.c (.p (.v (.bool (decide (t_52_120 < (((nth x0.Out (nth x1.List_ x1.At)).length : Nat) : Int))))))))] [(1, .box [.p (.v (.int .i64 x1.Kind)), .p (.v (.int .i64 x1.A)), .p (.v (.int .i64 (wr .i64 (x1.At + 1)))), .p (.v (.bool x1.Move)), .vw 1000104 0 h_52_r1c4.length, .vw 1000105 0 h_52_r1c5.length]), (1000104, .row 1 (spRow (h_52_r1c4.map e_int))), (1000105, .row 1 (spRow (h_52_r1c5.map e_int)))] [(1, 1), (1000104, 1000104), (1000105, 1000105)] fol hH hnt (by kernel_rfl) (by kernel_rfl) (C := True) (by kernel_rfl) (trivial) (rfl)) ?_
              refine s_seq ?_
              refine s_cond (decide (t_52_120 < (((nth x0.Out (nth x1.List_ x1.At)).length : Nat) : Int))) (by kernel_rfl) (fun hb => ?_) (fun hb => ?_)
              · replace h := ite_t hb h
                refine s_skip ?_
                refine s_seq ?_
                refine s_block ?_
                refine s_seq ?_
                obtain ⟨g62_0_0, h⟩ := gd_some h
                refine s_reg (tr_reg false [.sps (e_int (nth (nth x0.Out (nth x1.List_ x1.At)) t_52_120))] [(1, .a (.c (.bx 1 0))), (4, .a (.c (.p (.v (.int .i64 (nth x1.List_ x1.At)))))), (6, .a (.c (.p (.v (.int .i64 (nth (nth x0.Out (nth x1.List_ x1.At)) t_52_120)))))), (118, .a (.c (.p (.sl 1 ((nth x0.Out (nth x1.List_ x1.At)).map e_int))))), (119, .a (.c (.p (.v (.int .i64 (((nth x0.Out (nth x1.List_ x1.At)).length : Nat) : Int)))))), (120, .a (.c (.p (.v (.int .i64 t_52_120)))))] [(1, .box [.p (.v (.int .i64 x1.Kind)), .p (.v (.int .i64 x1.A)), .p (.v (.int .i64 (wr .i64 (x1.At + 1)))), .p (.v (.bool x1.Move)), .vw 1000104 0 h_52_r1c4.length, .vw 1000105 0 h_52_r1c5.length]), (1000104, .row 1 (spRow (h_52_r1c4.map e_int))), (1000105, .row 1 (spRow (h_52_r1c5.map e_int)))] [(1, 1), (1000104, 1000104), (1000105, 1000105)] fol hH hnt (by kernel_rfl) (by kernel_rfl) (C := 0 ≤ t_52_120 ∧ ((nth x0.Out (nth x1.List_ x1.At)).map e_int)[(t_52_120).toNat]? = some (e_int (nth (nth x0.Out (nth x1.List_ x1.At)) t_52_120))) (by kernel_rfl) (⟨g62_0_0.1, spGet (rfl) g62_0_0.1 g62_0_0.2⟩) (rfl)) ?_
                refine s_seq ?_
                obtain ⟨g64_5_0, h⟩ := gd_some h
                refine s_reg (tr_reg false [.no, .no, .no, .no, .no, .no, .rcs ((e_int (nth h_52_r1c5 (nth (nth x0.Out (nth x1.List_ x1.At)) t_52_120))).map RC.s)] [(1, .a (.c (.bx 1 0))), (4, .a (.c (.p (.v (.int .i64 (nth x1.List_ x1.At)))))), (6, .a (.c (.p (.v (.int .i64 (nth (nth x0.Out (nth x1.List_ x1.At)) t_52_120)))))), (118, .a (.c (.p (.sl 1 ((nth x0.Out (nth x1.List_ x1.At)).map e_int))))), (119, .a (.c (.p (.v (.int .i64 (((nth x0.Out (nth x1.List_ x1.At)).length : Nat) : Int)))))), (120, .a (.c (.p (.v (.int .i64 t_52_120))))), (131, .a (.c (.p (.v (.bool (decide ((nth h_52_r1c5 (nth (nth x0.Out (nth x1.List_ x1.At)) t_52_120)) < 0)))))))] [(1, .box [.p (.v (.int .i64 x1.Kind)), .p (.v (.int .i64 x1.A)), .p (.v (.int .i64 (wr .i64 (x1.At + 1)))), .p (.v (.bool x1.Move)), .vw 1000104 0 h_52_r1c4.length, .vw 1000105 0 h_52_r1c5.length]), (1000104, .row 1 (spRow (h_52_r1c4.map e_int))), (1000105, .row 1 (spRow (h_52_r1c5.map e_int)))] [(1, 1), (1000104, 1000104), (1000105, 1000105)] fol hH hnt (by kernel_rfl) (by kernel_rfl) (C := (0 ≤ (nth (nth x0.Out (nth x1.List_ x1.At)) t_52_120) ∧ (nth (nth x0.Out (nth x1.List_ x1.At)) t_52_120) < ((h_52_r1c5.length : Nat) : Int)) ∧ ((spRow (h_52_r1c5.map e_int))[0 + ((nth (nth x0.Out (nth x1.List_ x1.At)) t_52_120)).toNat]? = some ((e_int (nth h_52_r1c5 (nth (nth x0.Out (nth x1.List_ x1.At)) t_52_120))).map RC.s))) (by kernel_rfl) (⟨⟨g64_5_0.1, ltL (rfl) g64_5_0.2⟩, rowGet (rfl) g64_5_0.1 g64_5_0.2⟩) (rfl)) ?_
                refine s_cond (decide ((nth h_52_r1c5 (nth (nth x0.Out (nth x1.List_ x1.At)) t_52_120)) < 0)) (by kernel_rfl) (fun hb => ?_) (fun hb => ?_)
                · replace h := ite_t hb h
                  obtain ⟨g66_11_0, h⟩ := gd_some h
                  obtain ⟨g66_20_1, h⟩ := gd_some h
                  obtain ⟨g66_21_2, h⟩ := gd_some h
                  refine s_regz (tr_reg true [.no, .no, .no, .no, .no, .no, .no, .no, .no, .no, .no, .no, .rcs ((e_int (nth h_52_r1c5 (nth x1.List_ x1.At))).map RC.s), .no, .no, .no, .no, .no, .no, .own false, .news ((([nth (nth x0.Out (nth x1.List_ x1.At)) t_52_120] : List Int)).map e_int), .no, .rcs ((e_int (nth h_52_r1c5 (nth (nth x0.Out (nth x1.List_ x1.At)) t_52_120))).map RC.s)] [(1, .a (.c (.bx 1 0))), (4, .a (.c (.p (.v (.int .i64 (nth x1.List_ x1.At)))))), (118, .a (.c (.p (.sl 1 ((nth x0.Out (nth x1.List_ x1.At)).map e_int))))), (119, .a (.c (.p (.v (.int .i64 (((nth x0.Out (nth x1.List_ x1.At)).length : Nat) : Int)))))), (120, .a (.c (.p (.v (.int .i64 t_52_120)))))] [(1, .box [.p (.v (.int .i64 x1.Kind)), .p (.v (.int .i64 x1.A)), .p (.v (.int .i64 (wr .i64 (x1.At + 1)))), .p (.v (.bool x1.Move)), .vw 152 0 (((spRow (h_52_r1c4.map e_int)) ++ (spRow ((([nth (nth x0.Out (nth x1.List_ x1.At)) t_52_120] : List Int)).map e_int))).length), .vw 1000105 0 h_52_r1c5.length]), (152, .row 1 ((spRow (h_52_r1c4.map e_int)) ++ (spRow ((([nth (nth x0.Out (nth x1.List_ x1.At)) t_52_120] : List Int)).map e_int)))), (1000105, .row 1 ((spRow (h_52_r1c5.map e_int)).set (0 + ((nth (nth x0.Out (nth x1.List_ x1.At)) t_52_120)).toNat) ((e_int (wr .i64 ((nth h_52_r1c5 (nth x1.List_ x1.At)) + 1))).map RC.s)))] [(1, 1), (152, 152), (1000105, 1000105)] fol hH hnt (by kernel_rfl) (by kernel_rfl) (C := (0 ≤ (nth x1.List_ x1.At) ∧ (nth x1.List_ x1.At) < ((h_52_r1c5.length : Nat) : Int)) ∧ ((spRow (h_52_r1c5.map e_int))[0 + ((nth x1.List_ x1.At)).toNat]? = some ((e_int (nth h_52_r1c5 (nth x1.List_ x1.At))).map RC.s)) ∧ ((((spRow (([nth (nth x0.Out (nth x1.List_ x1.At)) t_52_120] : List Int).map e_int)).drop 0).take (([nth (nth x0.Out (nth x1.List_ x1.At)) t_52_120] : List Int).length) = spRow ((([nth (nth x0.Out (nth x1.List_ x1.At)) t_52_120] : List Int)).map e_int)) ∧ (h_52_r1c4.length = (spRow (h_52_r1c4.map e_int)).length ∧ ((spRow (h_52_r1c4.map e_int)).length + (spRow ((([nth (nth x0.Out (nth x1.List_ x1.At)) t_52_120] : List Int)).map e_int)).length) * 8 ≤ 140737488355328)) ∧ (0 ≤ (nth (nth x0.Out (nth x1.List_ x1.At)) t_52_120) ∧ (nth (nth x0.Out (nth x1.List_ x1.At)) t_52_120) < ((h_52_r1c5.length : Nat) : Int)) ∧ ((spRow (h_52_r1c5.map e_int))[0 + ((nth (nth x0.Out (nth x1.List_ x1.At)) t_52_120)).toNat]? = some ((e_int (nth h_52_r1c5 (nth (nth x0.Out (nth x1.List_ x1.At)) t_52_120))).map RC.s))) (by kernel_rfl) (⟨⟨g66_11_0.1, ltL (rfl) g66_11_0.2⟩, rowGet (rfl) g66_11_0.1 g66_11_0.2, ⟨rowAll (rfl) (lenMap (rfl)), ⟨((rfl).trans (rowLen (f := e_int) (xs := h_52_r1c4) (rfl)).symm), (bnd2 (rowLen (f := e_int) (xs := h_52_r1c4) (rfl)) (rowLen (f := e_int) (xs := ([nth (nth x0.Out (nth x1.List_ x1.At)) t_52_120] : List Int)) (rfl)) g66_20_1).2⟩⟩, ⟨g66_21_2.1, ltL (rfl) g66_21_2.2⟩, rowGet (rfl) g66_21_2.1 g66_21_2.2⟩) (S := mk [(1, .a (.c (.bx 1 0))), (4, .a (.c (.p (.v (.int .i64 (nth x1.List_ x1.At)))))), (118, .a (.c (.p (.sl 1 ((nth x0.Out (nth x1.List_ x1.At)).map e_int))))), (119, .a (.c (.p (.v (.int .i64 (((nth x0.Out (nth x1.List_ x1.At)).length : Nat) : Int)))))), (120, .a (.c (.p (.v (.int .i64 t_52_120)))))] [(1, .box [.p (.v (.int .i64 x1.Kind)), .p (.v (.int .i64 x1.A)), .p (.v (.int .i64 (wr .i64 (x1.At + 1)))), .p (.v (.bool x1.Move)), .vw 152 0 ((h_52_r1c4 ++ ([nth (nth x0.Out (nth x1.List_ x1.At)) t_52_120] : List Int)).length), .vw 1000105 0 (((h_52_r1c5).set (nth (nth x0.Out (nth x1.List_ x1.At)) t_52_120).toNat (wr .i64 ((nth h_52_r1c5 (nth x1.List_ x1.At)) + 1))).length)]), (152, .row 1 (spRow ((h_52_r1c4 ++ ([nth (nth x0.Out (nth x1.List_ x1.At)) t_52_120] : List Int)).map e_int))), (1000105, .row 1 (spRow (((h_52_r1c5).set (nth (nth x0.Out (nth x1.List_ x1.At)) t_52_120).toNat (wr .i64 ((nth h_52_r1c5 (nth x1.List_ x1.At)) + 1))).map e_int)))]) (he4 (fun q0 q1 q2 q3 => mk [(1, .a (.c (.bx 1 0))), (4, .a (.c (.p (.v (.int .i64 (nth x1.List_ x1.At)))))), (118, .a (.c (.p (.sl 1 ((nth x0.Out (nth x1.List_ x1.At)).map e_int))))), (119, .a (.c (.p (.v (.int .i64 (((nth x0.Out (nth x1.List_ x1.At)).length : Nat) : Int)))))), (120, .a (.c (.p (.v (.int .i64 t_52_120)))))] [(1, .box [.p (.v (.int .i64 x1.Kind)), .p (.v (.int .i64 x1.A)), .p (.v (.int .i64 (wr .i64 (x1.At + 1)))), .p (.v (.bool x1.Move)), .vw 152 0 q0, .vw 1000105 0 q1]), (152, .row 1 (q2)), (1000105, .row 1 (q3))]) (k0 := ((spRow (h_52_r1c4.map e_int)) ++ (spRow ((([nth (nth x0.Out (nth x1.List_ x1.At)) t_52_120] : List Int)).map e_int))).length) (p0 := (h_52_r1c4 ++ ([nth (nth x0.Out (nth x1.List_ x1.At)) t_52_120] : List Int)).length) ((rowLen (rowApp (f := e_int) (xs := h_52_r1c4) (ys := ([nth (nth x0.Out (nth x1.List_ x1.At)) t_52_120] : List Int)) (rfl) (rfl)) : ((spRow (h_52_r1c4.map e_int)) ++ (spRow ((([nth (nth x0.Out (nth x1.List_ x1.At)) t_52_120] : List Int)).map e_int))).length = (h_52_r1c4 ++ ([nth (nth x0.Out (nth x1.List_ x1.At)) t_52_120] : List Int)).length)) (k1 := h_52_r1c5.length) (p1 := ((h_52_r1c5).set (nth (nth x0.Out (nth x1.List_ x1.At)) t_52_120).toNat (wr .i64 ((nth h_52_r1c5 (nth x1.List_ x1.At)) + 1))).length) (((List.length_set).symm : h_52_r1c5.length = ((h_52_r1c5).set (nth (nth x0.Out (nth x1.List_ x1.At)) t_52_120).toNat (wr .i64 ((nth h_52_r1c5 (nth x1.List_ x1.At)) + 1))).length)) (k2 := (spRow (h_52_r1c4.map e_int)) ++ (spRow ((([nth (nth x0.Out (nth x1.List_ x1.At)) t_52_120] : List Int)).map e_int))) (p2 := spRow ((h_52_r1c4 ++ ([nth (nth x0.Out (nth x1.List_ x1.At)) t_52_120] : List Int)).map e_int)) (rowApp (f := e_int) (xs := h_52_r1c4) (ys := ([nth (nth x0.Out (nth x1.List_ x1.At)) t_52_120] : List Int)) (rfl) (rfl)) (k3 := (spRow (h_52_r1c5.map e_int)).set (0 + ((nth (nth x0.Out (nth x1.List_ x1.At)) t_52_120)).toNat) ((e_int (wr .i64 ((nth h_52_r1c5 (nth x1.List_ x1.At)) + 1))).map RC.s)) (p3 := spRow (((h_52_r1c5).set (nth (nth x0.Out (nth x1.List_ x1.At)) t_52_120).toNat (wr .i64 ((nth h_52_r1c5 (nth x1.List_ x1.At)) + 1))).map e_int)) (rowSet (rfl) (nth (nth x0.Out (nth x1.List_ x1.At)) t_52_120) (wr .i64 ((nth h_52_r1c5 (nth x1.List_ x1.At)) + 1))))) (fun σ1 hs => ?_)
                  refine s_subc hs ?_
                  refine s_regz (tr_reg false [] [(1, .a (.c (.bx 1 0))), (4, .a (.c (.p (.v (.int .i64 (nth x1.List_ x1.At)))))), (118, .a (.c (.p (.sl 1 ((nth x0.Out (nth x1.List_ x1.At)).map e_int))))), (119, .a (.c (.p (.v (.int .i64 (((nth x0.Out (nth x1.List_ x1.At)).length : Nat) : Int)))))), (120, .a (.c (.p (.v (.int .i64 (wr .i64 (t_52_120 + 1)))))))] [(1, .box [.p (.v (.int .i64 x1.Kind)), .p (.v (.int .i64 x1.A)), .p (.v (.int .i64 (wr .i64 (x1.At + 1)))), .p (.v (.bool x1.Move)), .vw 152 0 ((h_52_r1c4 ++ ([nth (nth x0.Out (nth x1.List_ x1.At)) t_52_120] : List Int)).length), .vw 1000105 0 (((h_52_r1c5).set (nth (nth x0.Out (nth x1.List_ x1.At)) t_52_120).toNat (wr .i64 ((nth h_52_r1c5 (nth x1.List_ x1.At)) + 1))).length)]), (152, .row 1 (spRow ((h_52_r1c4 ++ ([nth (nth x0.Out (nth x1.List_ x1.At)) t_52_120] : List Int)).map e_int))), (1000105, .row 1 (spRow (((h_52_r1c5).set (nth (nth x0.Out (nth x1.List_ x1.At)) t_52_120).toNat (wr .i64 ((nth h_52_r1c5 (nth x1.List_ x1.At)) + 1))).map e_int)))] [(1, 1), (152, 152), (1000105, 1000105)] fol hH hnt (by kernel_rfl) (by kernel_rfl) (C := True) (by kernel_rfl) (trivial) (rfl)) (fun σ1 hs => ?_)
                  exact ⟨_, ⟨h_52_r1c4 ++ ([nth (nth x0.Out (nth x1.List_ x1.At)) t_52_120] : List Int), (h_52_r1c5).set (nth (nth x0.Out (nth x1.List_ x1.At)) t_52_120).toNat (wr .i64 ((nth h_52_r1c5 (nth x1.List_ x1.At)) + 1)), wr .i64 (t_52_120 + 1), h, rfl⟩, hs.trans (sub_ren (l := [(1, .a (.c (.bx 1 0))), (4, .a (.c (.p (.v (.int .i64 (nth x1.List_ x1.At)))))), (118, .a (.c (.p (.sl 1 ((nth x0.Out (nth x1.List_ x1.At)).map e_int))))), (119, .a (.c (.p (.v (.int .i64 (((nth x0.Out (nth x1.List_ x1.At)).length : Nat) : Int)))))), (120, .a (.c (.p (.v (.int .i64 (wr .i64 (t_52_120 + 1)))))))]) (o := [(1, .box [.p (.v (.int .i64 x1.Kind)), .p (.v (.int .i64 x1.A)), .p (.v (.int .i64 (wr .i64 (x1.At + 1)))), .p (.v (.bool x1.Move)), .vw 1000104 0 ((h_52_r1c4 ++ ([nth (nth x0.Out (nth x1.List_ x1.At)) t_52_120] : List Int)).length), .vw 1000105 0 (((h_52_r1c5).set (nth (nth x0.Out (nth x1.List_ x1.At)) t_52_120).toNat (wr .i64 ((nth h_52_r1c5 (nth x1.List_ x1.At)) + 1))).length)]), (1000104, .row 1 (spRow ((h_52_r1c4 ++ ([nth (nth x0.Out (nth x1.List_ x1.At)) t_52_120] : List Int)).map e_int))), (1000105, .row 1 (spRow (((h_52_r1c5).set (nth (nth x0.Out (nth x1.List_ x1.At)) t_52_120).toNat (wr .i64 ((nth h_52_r1c5 (nth x1.List_ x1.At)) + 1))).map e_int)))]) [(1, 1), (1000104, 152), (1000105, 1000105)] hH (by kernel_rfl) (by kernel_rfl) rfl)⟩
                · replace h := ite_f hb h
                  refine s_skip ?_
                  refine s_regz (tr_reg false [] [(1, .a (.c (.bx 1 0))), (4, .a (.c (.p (.v (.int .i64 (nth x1.List_ x1.At)))))), (118, .a (.c (.p (.sl 1 ((nth x0.Out (nth x1.List_ x1.At)).map e_int))))), (119, .a (.c (.p (.v (.int .i64 (((nth x0.Out (nth x1.List_ x1.At)).length : Nat) : Int)))))), (120, .a (.c (.p (.v (.int .i64 (wr .i64 (t_52_120 + 1)))))))] [(1, .box [.p (.v (.int .i64 x1.Kind)), .p (.v (.int .i64 x1.A)), .p (.v (.int .i64 (wr .i64 (x1.At + 1)))), .p (.v (.bool x1.Move)), .vw 1000104 0 h_52_r1c4.length, .vw 1000105 0 h_52_r1c5.length]), (1000104, .row 1 (spRow (h_52_r1c4.map e_int))), (1000105, .row 1 (spRow (h_52_r1c5.map e_int)))] [(1, 1), (1000104, 1000104), (1000105, 1000105)] fol hH hnt (by kernel_rfl) (by kernel_rfl) (C := True) (by kernel_rfl) (trivial) (rfl)) (fun σ1 hs => ?_)
                  exact ⟨_, ⟨h_52_r1c4, h_52_r1c5, wr .i64 (t_52_120 + 1), h, rfl⟩, hs.trans (Sub.refl)⟩
              · replace h := ite_f hb h
                refine s_exit ?_
                refine qr_exit ?_
                refine q_hit ?_
                obtain rfl := Option.some.inj h
                exact ⟨.inl rfl, _, Sub.refl, out_of [(3000104, 1000104), (3000105, 1000105), (1, 1)] (by kernel_rfl) (by kernel_rfl) (by kernel_rfl)⟩
          · replace h := ite_f hb h
            refine s_seq ?_
            refine s_reg (tr_reg false [] [(1, .a (.c (.bx 1 0))), (2, .a (.c (.bx 2 0))), (4, .a (.c (.p (.v (.int .i64 x1.At))))), (157, .a (.c (.p (.v (.bool (x1.Kind == 6))))))] [(1, .box [.p (.v (.int .i64 x1.Kind)), .p (.v (.int .i64 x1.A)), .p (.v (.int .i64 (wr .i64 (x1.At + 1)))), .p (.v (.bool x1.Move)), .vw 1000104 0 x1.List_.length, .vw 1000105 0 x1.Out.length]), (2, .box [.p (.v (.int .i64 x0.N)), .p (.sl 1 (x0.Out.map e_Lint))]), (1000104, .row 1 (spRow (x1.List_.map e_int))), (1000105, .row 1 (spRow (x1.Out.map e_int)))] [(1, 1), (2, 2), (1000104, 1000104), (1000105, 1000105)] fol hH hnt (by kernel_rfl) (by kernel_rfl) (C := True) (by kernel_rfl) (trivial) (rfl)) ?_
            refine s_cond ((x1.Kind == 6)) (by kernel_rfl) (fun hb => ?_) (fun hb => ?_)
            · replace h := ite_t hb h
              refine s_seq ?_
              obtain ⟨g73_3_0, h⟩ := gd_some h
              refine s_reg (tr_reg false [.no, .no, .no, .sps (e_Lint (nth x0.Out x1.At)), .no, .val (.int .i64 (((nth x0.Out x1.At).length : Nat) : Int))] [(1, .a (.c (.bx 1 0))), (4, .a (.c (.p (.v (.int .i64 x1.At))))), (163, .a (.c (.p (.sl 1 ((nth x0.Out x1.At).map e_int))))), (164, .a (.c (.p (.v (.int .i64 (((nth x0.Out x1.At).length : Nat) : Int)))))), (165, .a (.c (.p (.v (.int .i64 0)))))] [(1, .box [.p (.v (.int .i64 x1.Kind)), .p (.v (.int .i64 x1.A)), .p (.v (.int .i64 (wr .i64 (x1.At + 1)))), .p (.v (.bool x1.Move)), .vw 1000104 0 x1.List_.length, .vw 1000105 0 x1.Out.length]), (1000104, .row 1 (spRow (x1.List_.map e_int))), (1000105, .row 1 (spRow (x1.Out.map e_int)))] [(1, 1), (1000104, 1000104), (1000105, 1000105)] fol hH hnt (by kernel_rfl) (by kernel_rfl) (C := (0 ≤ x1.At ∧ (x0.Out.map e_Lint)[(x1.At).toNat]? = some (e_Lint (nth x0.Out x1.At))) ∧ (Value.int .i64 ((((nth x0.Out x1.At).map e_int).length : Nat) : Int) = .int .i64 (((nth x0.Out x1.At).length : Nat) : Int))) (by kernel_rfl) (⟨⟨g73_3_0.1, spGet (rfl) g73_3_0.1 g73_3_0.2⟩, lenV (spLen (f := e_int) (xs := nth x0.Out x1.At) (rfl))⟩) (rfl)) ?_
              refine s_block ?_
              refine s_loop (fun k_l3 σ => ∃ (h_75_r1c5 : List Int) (t_75_165 : Int), slow_visit.l3 K x0 x1 k_l3 h_75_r1c5 t_75_165 = some r ∧ σ = mk [(1, .a (.c (.bx 1 0))), (4, .a (.c (.p (.v (.int .i64 x1.At))))), (163, .a (.c (.p (.sl 1 ((nth x0.Out x1.At).map e_int))))), (164, .a (.c (.p (.v (.int .i64 (((nth x0.Out x1.At).length : Nat) : Int)))))), (165, .a (.c (.p (.v (.int .i64 t_75_165)))))] [(1, .box [.p (.v (.int .i64 x1.Kind)), .p (.v (.int .i64 x1.A)), .p (.v (.int .i64 (wr .i64 (x1.At + 1)))), .p (.v (.bool x1.Move)), .vw 1000104 0 x1.List_.length, .vw 1000105 0 h_75_r1c5.length]), (1000104, .row 1 (spRow (x1.List_.map e_int))), (1000105, .row 1 (spRow (h_75_r1c5.map e_int)))]) ?_ ?_ K ⟨x1.Out, 0, h, rfl⟩
              · rintro _ ⟨h_75_r1c5, t_75_165, h, _⟩
                simp [slow_visit.l3] at h
              · rintro k_l3 _ ⟨h_75_r1c5, t_75_165, h, rfl⟩
                rw [slow_visit.l3] at h
                refine s_seq ?_
                refine s_reg (tr_reg false [] [(1, .a (.c (.bx 1 0))), (4, .a (.c (.p (.v (.int .i64 x1.At))))), (163, .a (.c (.p (.sl 1 ((nth x0.Out x1.At).map e_int))))), (164, .a (.c (.p (.v (.int .i64 (((nth x0.Out x1.At).length : Nat) : Int)))))), (165, .a (.c (.p (.v (.int .i64 t_75_165))))), (166, .a (.c (.p (.v (.bool (decide (t_75_165 < (((nth x0.Out x1.At).length : Nat) : Int))))))))] [(1, .box [.p (.v (.int .i64 x1.Kind)), .p (.v (.int .i64 x1.A)), .p (.v (.int .i64 (wr .i64 (x1.At + 1)))), .p (.v (.bool x1.Move)), .vw 1000104 0 x1.List_.length, .vw 1000105 0 h_75_r1c5.length]), (1000104, .row 1 (spRow (x1.List_.map e_int))), (1000105, .row 1 (spRow (h_75_r1c5.map e_int)))] [(1, 1), (1000104, 1000104), (1000105, 1000105)] fol hH hnt (by kernel_rfl) (by kernel_rfl) (C := True) (by kernel_rfl) (trivial) (rfl)) ?_
                refine s_seq ?_
                refine s_cond (decide (t_75_165 < (((nth x0.Out x1.At).length : Nat) : Int))) (by kernel_rfl) (fun hb => ?_) (fun hb => ?_)
                · replace h := ite_t hb h
                  refine s_skip ?_
                  refine s_seq ?_
                  refine s_block ?_
                  refine s_seq ?_
                  obtain ⟨g85_0_0, h⟩ := gd_some h
                  refine s_reg (tr_reg false [.sps (e_int (nth (nth x0.Out x1.At) t_75_165))] [(1, .a (.c (.bx 1 0))), (4, .a (.c (.p (.v (.int .i64 x1.At))))), (8, .a (.c (.p (.v (.int .i64 (nth (nth x0.Out x1.At) t_75_165)))))), (163, .a (.c (.p (.sl 1 ((nth x0.Out x1.At).map e_int))))), (164, .a (.c (.p (.v (.int .i64 (((nth x0.Out x1.At).length : Nat) : Int)))))), (165, .a (.c (.p (.v (.int .i64 t_75_165)))))] [(1, .box [.p (.v (.int .i64 x1.Kind)), .p (.v (.int .i64 x1.A)), .p (.v (.int .i64 (wr .i64 (x1.At + 1)))), .p (.v (.bool x1.Move)), .vw 1000104 0 x1.List_.length, .vw 1000105 0 h_75_r1c5.length]), (1000104, .row 1 (spRow (x1.List_.map e_int))), (1000105, .row 1 (spRow (h_75_r1c5.map e_int)))] [(1, 1), (1000104, 1000104), (1000105, 1000105)] fol hH hnt (by kernel_rfl) (by kernel_rfl) (C := 0 ≤ t_75_165 ∧ ((nth x0.Out x1.At).map e_int)[(t_75_165).toNat]? = some (e_int (nth (nth x0.Out x1.At) t_75_165))) (by kernel_rfl) (⟨g85_0_0.1, spGet (rfl) g85_0_0.1 g85_0_0.2⟩) (rfl)) ?_
                  obtain ⟨g86_8_0, h⟩ := gd_some h
                  refine s_regz (tr_reg false [.no, .no, .no, .no, .no, .no, .no, .own false, .news ((([x1.At, nth (nth x0.Out x1.At) t_75_165] : List Int)).map e_int)] [(1, .a (.c (.bx 1 0))), (4, .a (.c (.p (.v (.int .i64 x1.At))))), (163, .a (.c (.p (.sl 1 ((nth x0.Out x1.At).map e_int))))), (164, .a (.c (.p (.v (.int .i64 (((nth x0.Out x1.At).length : Nat) : Int)))))), (165, .a (.c (.p (.v (.int .i64 t_75_165)))))] [(1, .box [.p (.v (.int .i64 x1.Kind)), .p (.v (.int .i64 x1.A)), .p (.v (.int .i64 (wr .i64 (x1.At + 1)))), .p (.v (.bool x1.Move)), .vw 1000104 0 x1.List_.length, .vw 177 0 (((spRow (h_75_r1c5.map e_int)) ++ (spRow ((([x1.At, nth (nth x0.Out x1.At) t_75_165] : List Int)).map e_int))).length)]), (177, .row 1 ((spRow (h_75_r1c5.map e_int)) ++ (spRow ((([x1.At, nth (nth x0.Out x1.At) t_75_165] : List Int)).map e_int)))), (1000104, .row 1 (spRow (x1.List_.map e_int)))] [(1, 1), (177, 177), (1000104, 1000104)] fol hH hnt (by kernel_rfl) (by kernel_rfl) (C := (((spRow (([x1.At, nth (nth x0.Out x1.At) t_75_165] : List Int).map e_int)).drop 0).take (([x1.At, nth (nth x0.Out x1.At) t_75_165] : List Int).length) = spRow ((([x1.At, nth (nth x0.Out x1.At) t_75_165] : List Int)).map e_int)) ∧ (h_75_r1c5.length = (spRow (h_75_r1c5.map e_int)).length ∧ ((spRow (h_75_r1c5.map e_int)).length + (spRow ((([x1.At, nth (nth x0.Out x1.At) t_75_165] : List Int)).map e_int)).length) * 8 ≤ 140737488355328)) (by kernel_rfl) (⟨rowAll (rfl) (lenMap (rfl)), ⟨((rfl).trans (rowLen (f := e_int) (xs := h_75_r1c5) (rfl)).symm), (bnd2 (rowLen (f := e_int) (xs := h_75_r1c5) (rfl)) (rowLen (f := e_int) (xs := ([x1.At, nth (nth x0.Out x1.At) t_75_165] : List Int)) (rfl)) g86_8_0).2⟩⟩) (S := mk [(1, .a (.c (.bx 1 0))), (4, .a (.c (.p (.v (.int .i64 x1.At))))), (163, .a (.c (.p (.sl 1 ((nth x0.Out x1.At).map e_int))))), (164, .a (.c (.p (.v (.int .i64 (((nth x0.Out x1.At).length : Nat) : Int)))))), (165, .a (.c (.p (.v (.int .i64 t_75_165)))))] [(1, .box [.p (.v (.int .i64 x1.Kind)), .p (.v (.int .i64 x1.A)), .p (.v (.int .i64 (wr .i64 (x1.At + 1)))), .p (.v (.bool x1.Move)), .vw 1000104 0 x1.List_.length, .vw 177 0 ((h_75_r1c5 ++ ([x1.At, nth (nth x0.Out x1.At) t_75_165] : List Int)).length)]), (177, .row 1 (spRow ((h_75_r1c5 ++ ([x1.At, nth (nth x0.Out x1.At) t_75_165] : List Int)).map e_int))), (1000104, .row 1 (spRow (x1.List_.map e_int)))]) (he2 (fun q0 q1 => mk [(1, .a (.c (.bx 1 0))), (4, .a (.c (.p (.v (.int .i64 x1.At))))), (163, .a (.c (.p (.sl 1 ((nth x0.Out x1.At).map e_int))))), (164, .a (.c (.p (.v (.int .i64 (((nth x0.Out x1.At).length : Nat) : Int)))))), (165, .a (.c (.p (.v (.int .i64 t_75_165)))))] [(1, .box [.p (.v (.int .i64 x1.Kind)), .p (.v (.int .i64 x1.A)), .p (.v (.int .i64 (wr .i64 (x1.At + 1)))), .p (.v (.bool x1.Move)), .vw 1000104 0 x1.List_.length, .vw 177 0 q0]), (177, .row 1 (q1)), (1000104, .row 1 (spRow (x1.List_.map e_int)))]) (k0 := ((spRow (h_75_r1c5.map e_int)) ++ (spRow ((([x1.At, nth (nth x0.Out x1.At) t_75_165] : List Int)).map e_int))).length) (p0 := (h_75_r1c5 ++ ([x1.At, nth (nth x0.Out x1.At) t_75_165] : List Int)).length) ((rowLen (rowApp (f := e_int) (xs := h_75_r1c5) (ys := ([x1.At, nth (nth x0.Out x1.At) t_75_165] : List Int)) (rfl) (rfl)) : ((spRow (h_75_r1c5.map e_int)) ++ (spRow ((([x1.At, nth (nth x0.Out x1.At) t_75_165] : List Int)).map e_int))).length = (h_75_r1c5 ++ ([x1.At, nth (nth x0.Out x1.At) t_75_165] : List Int)).length)) (k1 := (spRow (h_75_r1c5.map e_int)) ++ (spRow ((([x1.At, nth (nth x0.Out x1.At) t_75_165] : List Int)).map e_int))) (p1 := spRow ((h_75_r1c5 ++ ([x1.At, nth (nth x0.Out x1.At) t_75_165] : List Int)).map e_int)) (rowApp (f := e_int) (xs := h_75_r1c5) (ys := ([x1.At, nth (nth x0.Out x1.At) t_75_165] : List Int)) (rfl) (rfl)))) (fun σ1 hs => ?_)
                  refine s_subc hs ?_
                  refine s_regz (tr_reg false [] [(1, .a (.c (.bx 1 0))), (4, .a (.c (.p (.v (.int .i64 x1.At))))), (163, .a (.c (.p (.sl 1 ((nth x0.Out x1.At).map e_int))))), (164, .a (.c (.p (.v (.int .i64 (((nth x0.Out x1.At).length : Nat) : Int)))))), (165, .a (.c (.p (.v (.int .i64 (wr .i64 (t_75_165 + 1)))))))] [(1, .box [.p (.v (.int .i64 x1.Kind)), .p (.v (.int .i64 x1.A)), .p (.v (.int .i64 (wr .i64 (x1.At + 1)))), .p (.v (.bool x1.Move)), .vw 1000104 0 x1.List_.length, .vw 177 0 ((h_75_r1c5 ++ ([x1.At, nth (nth x0.Out x1.At) t_75_165] : List Int)).length)]), (177, .row 1 (spRow ((h_75_r1c5 ++ ([x1.At, nth (nth x0.Out x1.At) t_75_165] : List Int)).map e_int))), (1000104, .row 1 (spRow (x1.List_.map e_int)))] [(1, 1), (177, 177), (1000104, 1000104)] fol hH hnt (by kernel_rfl) (by kernel_rfl) (C := True) (by kernel_rfl) (trivial) (rfl)) (fun σ1 hs => ?_)
                  exact ⟨_, ⟨h_75_r1c5 ++ ([x1.At, nth (nth x0.Out x1.At) t_75_165] : List Int), wr .i64 (t_75_165 + 1), h, rfl⟩, hs.trans (sub_ren (l := [(1, .a (.c (.bx 1 0))), (4, .a (.c (.p (.v (.int .i64 x1.At))))), (163, .a (.c (.p (.sl 1 ((nth x0.Out x1.At).map e_int))))), (164, .a (.c (.p (.v (.int .i64 (((nth x0.Out x1.At).length : Nat) : Int)))))), (165, .a (.c (.p (.v (.int .i64 (wr .i64 (t_75_165 + 1)))))))]) (o := [(1, .box [.p (.v (.int .i64 x1.Kind)), .p (.v (.int .i64 x1.A)), .p (.v (.int .i64 (wr .i64 (x1.At + 1)))), .p (.v (.bool x1.Move)), .vw 1000104 0 x1.List_.length, .vw 1000105 0 ((h_75_r1c5 ++ ([x1.At, nth (nth x0.Out x1.At) t_75_165] : List Int)).length)]), (1000104, .row 1 (spRow (x1.List_.map e_int))), (1000105, .row 1 (spRow ((h_75_r1c5 ++ ([x1.At, nth (nth x0.Out x1.At) t_75_165] : List Int)).map e_int)))]) [(1, 1), (1000104, 1000104), (1000105, 177)] hH (by kernel_rfl) (by kernel_rfl) rfl)⟩
                · replace h := ite_f hb h
                  refine s_exit ?_
                  refine qr_exit ?_
                  refine q_hit ?_
                  obtain rfl := Option.some.inj h
                  exact ⟨.inl rfl, _, Sub.refl, out_of [(3000104, 1000104), (3000105, 1000105), (1, 1)] (by kernel_rfl) (by kernel_rfl) (by kernel_rfl)⟩
            · replace h := ite_f hb h
              refine s_skip ?_
              obtain rfl := Option.some.inj h
              exact ⟨.inl rfl, _, Sub.refl, out_of [(3000104, 1000104), (3000105, 1000105), (1, 1)] (by kernel_rfl) (by kernel_rfl) (by kernel_rfl)⟩
def slow_May.A (x0 : api_Graph) (x1 : api_Job) : List SV := [.a (.agg [.p (.v (.int .i64 x0.N)), .p (.sl 1 (x0.Out.map e_Lint))]), .a (.agg [.p (.v (.int .i64 x1.Kind)), .p (.v (.int .i64 x1.A)), .p (.v (.int .i64 x1.At)), .p (.v (.bool x1.Move)), .p (.sl 1 (x1.List_.map e_int)), .p (.sl 1 (x1.Out.map e_int))])]
def slow_May.O0 (x0 : api_Graph) (x1 : api_Job) : List (Nat × RS) := []
def slow_May.R (r : Bool) : SV := .a (.c (.p (.v (.bool r))))
def slow_May.O1 (r : Bool) : List (Nat × RS) := []
theorem slow_May.nsR (r : Bool) : nsSV (slow_May.R r) := by simp [slow_May.R, nsSV, nsAV, nsCV, nsSP]
theorem slow_May.nsO (r : Bool) : ∀ k, nsRS (ofL (slow_May.O1 r) k) := by
  refine nsOf fun x hx => ?_
  simp only [slow_May.O1, List.mem_cons, List.not_mem_nil, or_false] at hx
def slow_May.l1 (K : Nat) (x0 : api_Graph) (x1 : api_Job) : Nat → Int → Int → Int → Bool → (List Int) → (List Int) → Option Bool
  | 0, _, _, _, _, _, _ => none
  | k + 1, x_17_5c0, x_17_5c1, x_17_5c2, x_17_5c3, x_17_r5c4, x_17_r5c5 =>
    (slow_same K (⟨x_17_5c0, x_17_5c1, x_17_5c2, x_17_5c3, x_17_r5c4, x_17_r5c5⟩ : api_Job) x1).bind fun r22_2 =>
    if r22_2 then
      some true
    else
      (slow_Over K x0 (⟨x_17_5c0, x_17_5c1, x_17_5c2, x_17_5c3, x_17_r5c4, x_17_r5c5⟩ : api_Job)).bind fun r28_2 =>
      if r28_2 then
        some false
      else
        (slow_visit K x0 (⟨x_17_5c0, x_17_5c1, x_17_5c2, x_17_5c3, x_17_r5c4, x_17_r5c5⟩ : api_Job)).bind fun r32_1 =>
        slow_May.l1 K x0 x1 k r32_1.Kind r32_1.A r32_1.At r32_1.Move r32_1.List_ r32_1.Out
def slow_May (K : Nat) (x0 : api_Graph) (x1 : api_Job) : Option Bool :=
  (slow_Begin K x0 x1.Kind x1.A).bind fun r4_5 =>
  if (r4_5.2 != 0) then
    some false
  else
    slow_May.l1 K x0 x1 K r4_5.1.Kind r4_5.1.A r4_5.1.At r4_5.1.Move r4_5.1.List_ r4_5.1.Out
theorem slow_May.ct (K : Nat) (x0 : api_Graph) (x1 : api_Job) (r : Bool) (h : slow_May K x0 x1 = some r) : Ct PP 65 (slow_May.A x0 x1) (ofL (slow_May.O0 x0 x1)) (slow_May.R r) (ofL (slow_May.O1 r)) := by
  unfold slow_May at h
  refine ct_of (fn := Try.f65) (c := Try.f65.body.get!) (by kernel_rfl) (by kernel_rfl) [] (by kernel_rfl) (by kernel_rfl) (by kernel_rfl) fun Γ hnt hH => ?_
  refine s_seq ?_
  refine s_reg (tr_reg false [] [(2, .a (.c (.bx 2 0))), (3, .a (.c (.bx 3 0)))] [(2, .box [.p (.v (.int .i64 x0.N)), .p (.sl 1 (x0.Out.map e_Lint))]), (3, .box [.p (.v (.int .i64 x1.Kind)), .p (.v (.int .i64 x1.A)), .p (.v (.int .i64 x1.At)), .p (.v (.bool x1.Move)), .p (.sl 1 (x1.List_.map e_int)), .p (.sl 1 (x1.Out.map e_int))])] [(2, 2), (3, 3)] fol hH hnt (by kernel_rfl) (by kernel_rfl) (C := True) (by kernel_rfl) (trivial) (rfl)) ?_
  refine s_scope ?_
  refine s_seq ?_
  obtain ⟨r4_5, c4_5, h⟩ := bd_some h
  refine s_reg (tr_reg false [.no, .no, .no, .no, .no, .call ⟨slow_Begin.A x0 x1.Kind x1.A, slow_Begin.O0 x0 x1.Kind x1.A, [], [], slow_Begin.R r4_5, slow_Begin.O1 r4_5, [(2000004, 4040500), (2000005, 4040501)]⟩] [(2, .a (.c (.bx 2 0))), (3, .a (.c (.bx 3 0))), (5, .a (.c (.bx 5 0))), (6, .a (.c (.p (.v (.int .i64 r4_5.2)))))] [(2, .box [.p (.v (.int .i64 x0.N)), .p (.sl 1 (x0.Out.map e_Lint))]), (3, .box [.p (.v (.int .i64 x1.Kind)), .p (.v (.int .i64 x1.A)), .p (.v (.int .i64 x1.At)), .p (.v (.bool x1.Move)), .p (.sl 1 (x1.List_.map e_int)), .p (.sl 1 (x1.Out.map e_int))]), (5, .box [.p (.v (.int .i64 r4_5.1.Kind)), .p (.v (.int .i64 r4_5.1.A)), .p (.v (.int .i64 r4_5.1.At)), .p (.v (.bool r4_5.1.Move)), .vw 4040500 0 r4_5.1.List_.length, .vw 4040501 0 r4_5.1.Out.length]), (4040500, .row 1 (spRow (r4_5.1.List_.map e_int))), (4040501, .row 1 (spRow (r4_5.1.Out.map e_int)))] [(2, 2), (3, 3), (5, 5), (4040500, 4040500), (4040501, 4040501)] fol hH hnt (by kernel_rfl) (by kernel_rfl) (C := Ct PP 20 (slow_Begin.A x0 x1.Kind x1.A) (ofL (slow_Begin.O0 x0 x1.Kind x1.A)) (slow_Begin.R r4_5) (ofL (slow_Begin.O1 r4_5)) ∧ (((trCV [] (.p (.v (.int .i64 x0.N))) = some (.p (.v (.int .i64 x0.N)))) ∧ (trCV [] (.p (.sl 1 (x0.Out.map e_Lint))) = some (.p (.sl 1 (x0.Out.map e_Lint)))) ∧ True) ∧ (trCV [] (.p (.v (.int .i64 x1.Kind))) = some (.p (.v (.int .i64 x1.Kind)))) ∧ (trCV [] (.p (.v (.int .i64 x1.A))) = some (.p (.v (.int .i64 x1.A)))) ∧ (True)) ∧ ((True)) ∧ (([] : List Nat) = [] ∨ nsSV (slow_Begin.R r4_5) ∧ nsAll ⟨slow_Begin.A x0 x1.Kind x1.A, slow_Begin.O0 x0 x1.Kind x1.A, [], [], slow_Begin.R r4_5, slow_Begin.O1 r4_5, [(2000004, 4040500), (2000005, 4040501)]⟩ [(2000004, 4040500), (2000005, 4040501)])) (by kernel_rfl) (⟨slow_Begin.ct K x0 x1.Kind x1.A _ c4_5, ⟨⟨rfl, rfl, trivial⟩, rfl, rfl, trivial⟩, trivial, Or.inl rfl⟩) (rfl)) ?_
  refine s_seq ?_
  refine s_seq ?_
  refine s_reg (tr_reg false [] [(2, .a (.c (.bx 2 0))), (3, .a (.c (.bx 3 0))), (5, .a (.c (.bx 5 0))), (17, .a (.c (.p (.v (.bool (r4_5.2 != 0))))))] [(2, .box [.p (.v (.int .i64 x0.N)), .p (.sl 1 (x0.Out.map e_Lint))]), (3, .box [.p (.v (.int .i64 x1.Kind)), .p (.v (.int .i64 x1.A)), .p (.v (.int .i64 x1.At)), .p (.v (.bool x1.Move)), .p (.sl 1 (x1.List_.map e_int)), .p (.sl 1 (x1.Out.map e_int))]), (5, .box [.p (.v (.int .i64 r4_5.1.Kind)), .p (.v (.int .i64 r4_5.1.A)), .p (.v (.int .i64 r4_5.1.At)), .p (.v (.bool r4_5.1.Move)), .vw 4040500 0 r4_5.1.List_.length, .vw 4040501 0 r4_5.1.Out.length]), (4040500, .row 1 (spRow (r4_5.1.List_.map e_int))), (4040501, .row 1 (spRow (r4_5.1.Out.map e_int)))] [(2, 2), (3, 3), (5, 5), (4040500, 4040500), (4040501, 4040501)] fol hH hnt (by kernel_rfl) (by kernel_rfl) (C := True) (by kernel_rfl) (trivial) (rfl)) ?_
  refine s_cond ((r4_5.2 != 0)) (by kernel_rfl) (fun hb => ?_) (fun hb => ?_)
  · replace h := ite_t hb h
    refine s_seq ?_
    refine s_reg (tr_reg false [] [(4, .a (.c (.p (.v (.bool false)))))] [] [] fol hH hnt (by kernel_rfl) (by kernel_rfl) (C := True) (by kernel_rfl) (trivial) (rfl)) ?_
    refine s_ret ?_
    obtain rfl := Option.some.inj h
    exact ⟨.inr rfl, _, Sub.refl, out_of [] (by kernel_rfl) (by kernel_rfl) (by kernel_rfl)⟩
  · replace h := ite_f hb h
    refine s_skip ?_
    refine s_seq ?_
    refine s_label ?_
    refine s_seq ?_
    refine s_block ?_
    refine s_subc (sub_ren (l := [(2, .a (.c (.bx 2 0))), (3, .a (.c (.bx 3 0))), (5, .a (.c (.bx 5 0)))]) (o := [(2, .box [.p (.v (.int .i64 x0.N)), .p (.sl 1 (x0.Out.map e_Lint))]), (3, .box [.p (.v (.int .i64 x1.Kind)), .p (.v (.int .i64 x1.A)), .p (.v (.int .i64 x1.At)), .p (.v (.bool x1.Move)), .p (.sl 1 (x1.List_.map e_int)), .p (.sl 1 (x1.Out.map e_int))]), (5, .box [.p (.v (.int .i64 r4_5.1.Kind)), .p (.v (.int .i64 r4_5.1.A)), .p (.v (.int .i64 r4_5.1.At)), .p (.v (.bool r4_5.1.Move)), .vw 4040500 0 r4_5.1.List_.length, .vw 4040501 0 r4_5.1.Out.length]), (4040500, .row 1 (spRow (r4_5.1.List_.map e_int))), (4040501, .row 1 (spRow (r4_5.1.Out.map e_int)))]) [(2, 2), (3, 3), (5, 5), (4040500, 4040500), (4040501, 4040501)] hH (by kernel_rfl) (by kernel_rfl) rfl) ?_
    refine s_loop (fun k_l1 σ => ∃ (x_17_5c0 : Int) (x_17_5c1 : Int) (x_17_5c2 : Int) (x_17_5c3 : Bool) (x_17_r5c4 : List Int) (x_17_r5c5 : List Int), slow_May.l1 K x0 x1 k_l1 x_17_5c0 x_17_5c1 x_17_5c2 x_17_5c3 x_17_r5c4 x_17_r5c5 = some r ∧ σ = mk [(2, .a (.c (.bx 2 0))), (3, .a (.c (.bx 3 0))), (5, .a (.c (.bx 5 0)))] [(2, .box [.p (.v (.int .i64 x0.N)), .p (.sl 1 (x0.Out.map e_Lint))]), (3, .box [.p (.v (.int .i64 x1.Kind)), .p (.v (.int .i64 x1.A)), .p (.v (.int .i64 x1.At)), .p (.v (.bool x1.Move)), .p (.sl 1 (x1.List_.map e_int)), .p (.sl 1 (x1.Out.map e_int))]), (5, .box [.p (.v (.int .i64 x_17_5c0)), .p (.v (.int .i64 x_17_5c1)), .p (.v (.int .i64 x_17_5c2)), .p (.v (.bool x_17_5c3)), .vw 4040500 0 x_17_r5c4.length, .vw 4040501 0 x_17_r5c5.length]), (4040500, .row 1 (spRow (x_17_r5c4.map e_int))), (4040501, .row 1 (spRow (x_17_r5c5.map e_int)))]) ?_ ?_ K ⟨r4_5.1.Kind, r4_5.1.A, r4_5.1.At, r4_5.1.Move, r4_5.1.List_, r4_5.1.Out, h, rfl⟩
    · rintro _ ⟨x_17_5c0, x_17_5c1, x_17_5c2, x_17_5c3, x_17_r5c4, x_17_r5c5, h, _⟩
      simp [slow_May.l1] at h
    · rintro k_l1 _ ⟨x_17_5c0, x_17_5c1, x_17_5c2, x_17_5c3, x_17_r5c4, x_17_r5c5, h, rfl⟩
      rw [slow_May.l1] at h
      refine s_block ?_
      refine s_seq ?_
      refine s_block ?_
      refine s_seq ?_
      obtain ⟨r22_2, c22_2, h⟩ := bd_some h
      refine s_reg (tr_reg false [.no, .no, .call ⟨slow_same.A (⟨x_17_5c0, x_17_5c1, x_17_5c2, x_17_5c3, x_17_r5c4, x_17_r5c5⟩ : api_Job) x1, slow_same.O0 (⟨x_17_5c0, x_17_5c1, x_17_5c2, x_17_5c3, x_17_r5c4, x_17_r5c5⟩ : api_Job) x1, [], [4040500, 4040501], slow_same.R r22_2, slow_same.O1 r22_2, []⟩] [(2, .a (.c (.bx 2 0))), (3, .a (.c (.bx 3 0))), (5, .a (.c (.bx 5 0))), (18, .a (.c (.p (.v (.bool r22_2)))))] [(2, .box [.p (.v (.int .i64 x0.N)), .p (.sl 1 (x0.Out.map e_Lint))]), (3, .box [.p (.v (.int .i64 x1.Kind)), .p (.v (.int .i64 x1.A)), .p (.v (.int .i64 x1.At)), .p (.v (.bool x1.Move)), .p (.sl 1 (x1.List_.map e_int)), .p (.sl 1 (x1.Out.map e_int))]), (5, .box [.p (.v (.int .i64 x_17_5c0)), .p (.v (.int .i64 x_17_5c1)), .p (.v (.int .i64 x_17_5c2)), .p (.v (.bool x_17_5c3)), .vw 4040500 0 x_17_r5c4.length, .vw 4040501 0 x_17_r5c5.length]), (4040500, .row 1 (spRow (x_17_r5c4.map e_int))), (4040501, .row 1 (spRow (x_17_r5c5.map e_int)))] [(2, 2), (3, 3), (5, 5), (4040500, 4040500), (4040501, 4040501)] fol hH hnt (by kernel_rfl) (by kernel_rfl) (C := Ct PP 103 (slow_same.A (⟨x_17_5c0, x_17_5c1, x_17_5c2, x_17_5c3, x_17_r5c4, x_17_r5c5⟩ : api_Job) x1) (ofL (slow_same.O0 (⟨x_17_5c0, x_17_5c1, x_17_5c2, x_17_5c3, x_17_r5c4, x_17_r5c5⟩ : api_Job) x1)) (slow_same.R r22_2) (ofL (slow_same.O1 r22_2)) ∧ (((trCV [] (.p (.v (.int .i64 ((⟨x_17_5c0, x_17_5c1, x_17_5c2, x_17_5c3, x_17_r5c4, x_17_r5c5⟩ : api_Job).Kind)))) = some (.p (.v (.int .i64 x_17_5c0)))) ∧ (trCV [] (.p (.v (.int .i64 ((⟨x_17_5c0, x_17_5c1, x_17_5c2, x_17_5c3, x_17_r5c4, x_17_r5c5⟩ : api_Job).A)))) = some (.p (.v (.int .i64 x_17_5c1)))) ∧ (trCV [] (.p (.v (.int .i64 ((⟨x_17_5c0, x_17_5c1, x_17_5c2, x_17_5c3, x_17_r5c4, x_17_r5c5⟩ : api_Job).At)))) = some (.p (.v (.int .i64 x_17_5c2)))) ∧ (trCV [] (.p (.v (.bool ((⟨x_17_5c0, x_17_5c1, x_17_5c2, x_17_5c3, x_17_r5c4, x_17_r5c5⟩ : api_Job).Move)))) = some (.p (.v (.bool x_17_5c3)))) ∧ (([4040500, 4040501] : List Nat).elem 4040500 = true ∧ (1 = 1 ∧ ((((spRow (x_17_r5c4.map e_int)).drop 0).take x_17_r5c4.length).map (fun x => x.map frc)) = ((((⟨x_17_5c0, x_17_5c1, x_17_5c2, x_17_5c3, x_17_r5c4, x_17_r5c5⟩ : api_Job).List_).map e_int).map (fun x => x.map some)))) ∧ (([4040500, 4040501] : List Nat).elem 4040501 = true ∧ (1 = 1 ∧ ((((spRow (x_17_r5c5.map e_int)).drop 0).take x_17_r5c5.length).map (fun x => x.map frc)) = ((((⟨x_17_5c0, x_17_5c1, x_17_5c2, x_17_5c3, x_17_r5c4, x_17_r5c5⟩ : api_Job).Out).map e_int).map (fun x => x.map some)))) ∧ True) ∧ ((trCV [] (.p (.v (.int .i64 x1.Kind))) = some (.p (.v (.int .i64 x1.Kind)))) ∧ (trCV [] (.p (.v (.int .i64 x1.A))) = some (.p (.v (.int .i64 x1.A)))) ∧ (trCV [] (.p (.v (.int .i64 x1.At))) = some (.p (.v (.int .i64 x1.At)))) ∧ (trCV [] (.p (.v (.bool x1.Move))) = some (.p (.v (.bool x1.Move)))) ∧ (trCV [] (.p (.sl 1 (x1.List_.map e_int))) = some (.p (.sl 1 (x1.List_.map e_int)))) ∧ (trCV [] (.p (.sl 1 (x1.Out.map e_int))) = some (.p (.sl 1 (x1.Out.map e_int)))) ∧ True) ∧ (True)) ∧ ((True)) ∧ (([4040500, 4040501] : List Nat) = [] ∨ nsSV (slow_same.R r22_2) ∧ nsAll ⟨slow_same.A (⟨x_17_5c0, x_17_5c1, x_17_5c2, x_17_5c3, x_17_r5c4, x_17_r5c5⟩ : api_Job) x1, slow_same.O0 (⟨x_17_5c0, x_17_5c1, x_17_5c2, x_17_5c3, x_17_r5c4, x_17_r5c5⟩ : api_Job) x1, [], [4040500, 4040501], slow_same.R r22_2, slow_same.O1 r22_2, []⟩ [])) (by kernel_rfl) (⟨slow_same.ct K (⟨x_17_5c0, x_17_5c1, x_17_5c2, x_17_5c3, x_17_r5c4, x_17_r5c5⟩ : api_Job) x1 _ c22_2, ⟨⟨rfl, rfl, rfl, rfl, ⟨rfl, rfl, frz (rfl) ((rfl).trans (rfl))⟩, ⟨rfl, rfl, frz (rfl) ((rfl).trans (rfl))⟩, trivial⟩, ⟨rfl, rfl, rfl, rfl, rfl, rfl, trivial⟩, trivial⟩, trivial, Or.inr ⟨slow_same.nsR r22_2, nsAll_of (slow_same.nsO r22_2)⟩⟩) (rfl)) ?_
      refine s_cond (r22_2) (by kernel_rfl) (fun hb => ?_) (fun hb => ?_)
      · replace h := ite_t hb h
        refine s_seq ?_
        refine s_reg (tr_reg false [] [(4, .a (.c (.p (.v (.bool true)))))] [] [] fol hH hnt (by kernel_rfl) (by kernel_rfl) (C := True) (by kernel_rfl) (trivial) (rfl)) ?_
        refine s_ret ?_
        obtain rfl := Option.some.inj h
        exact ⟨.inr rfl, _, Sub.refl, out_of [] (by kernel_rfl) (by kernel_rfl) (by kernel_rfl)⟩
      · replace h := ite_f hb h
        refine s_seq ?_
        obtain ⟨r28_2, c28_2, h⟩ := bd_some h
        refine s_reg (tr_reg false [.no, .no, .call ⟨slow_Over.A x0 (⟨x_17_5c0, x_17_5c1, x_17_5c2, x_17_5c3, x_17_r5c4, x_17_r5c5⟩ : api_Job), slow_Over.O0 x0 (⟨x_17_5c0, x_17_5c1, x_17_5c2, x_17_5c3, x_17_r5c4, x_17_r5c5⟩ : api_Job), [], [4040500, 4040501], slow_Over.R r28_2, slow_Over.O1 r28_2, []⟩] [(2, .a (.c (.bx 2 0))), (3, .a (.c (.bx 3 0))), (5, .a (.c (.bx 5 0))), (22, .a (.c (.p (.v (.bool r28_2)))))] [(2, .box [.p (.v (.int .i64 x0.N)), .p (.sl 1 (x0.Out.map e_Lint))]), (3, .box [.p (.v (.int .i64 x1.Kind)), .p (.v (.int .i64 x1.A)), .p (.v (.int .i64 x1.At)), .p (.v (.bool x1.Move)), .p (.sl 1 (x1.List_.map e_int)), .p (.sl 1 (x1.Out.map e_int))]), (5, .box [.p (.v (.int .i64 x_17_5c0)), .p (.v (.int .i64 x_17_5c1)), .p (.v (.int .i64 x_17_5c2)), .p (.v (.bool x_17_5c3)), .vw 4040500 0 x_17_r5c4.length, .vw 4040501 0 x_17_r5c5.length]), (4040500, .row 1 (spRow (x_17_r5c4.map e_int))), (4040501, .row 1 (spRow (x_17_r5c5.map e_int)))] [(2, 2), (3, 3), (5, 5), (4040500, 4040500), (4040501, 4040501)] fol hH hnt (by kernel_rfl) (by kernel_rfl) (C := Ct PP 73 (slow_Over.A x0 (⟨x_17_5c0, x_17_5c1, x_17_5c2, x_17_5c3, x_17_r5c4, x_17_r5c5⟩ : api_Job)) (ofL (slow_Over.O0 x0 (⟨x_17_5c0, x_17_5c1, x_17_5c2, x_17_5c3, x_17_r5c4, x_17_r5c5⟩ : api_Job))) (slow_Over.R r28_2) (ofL (slow_Over.O1 r28_2)) ∧ (((trCV [] (.p (.v (.int .i64 x0.N))) = some (.p (.v (.int .i64 x0.N)))) ∧ (trCV [] (.p (.sl 1 (x0.Out.map e_Lint))) = some (.p (.sl 1 (x0.Out.map e_Lint)))) ∧ True) ∧ ((trCV [] (.p (.v (.int .i64 ((⟨x_17_5c0, x_17_5c1, x_17_5c2, x_17_5c3, x_17_r5c4, x_17_r5c5⟩ : api_Job).Kind)))) = some (.p (.v (.int .i64 x_17_5c0)))) ∧ (trCV [] (.p (.v (.int .i64 ((⟨x_17_5c0, x_17_5c1, x_17_5c2, x_17_5c3, x_17_r5c4, x_17_r5c5⟩ : api_Job).A)))) = some (.p (.v (.int .i64 x_17_5c1)))) ∧ (trCV [] (.p (.v (.int .i64 ((⟨x_17_5c0, x_17_5c1, x_17_5c2, x_17_5c3, x_17_r5c4, x_17_r5c5⟩ : api_Job).At)))) = some (.p (.v (.int .i64 x_17_5c2)))) ∧ (trCV [] (.p (.v (.bool ((⟨x_17_5c0, x_17_5c1, x_17_5c2, x_17_5c3, x_17_r5c4, x_17_r5c5⟩ : api_Job).Move)))) = some (.p (.v (.bool x_17_5c3)))) ∧ (([4040500, 4040501] : List Nat).elem 4040500 = true ∧ (1 = 1 ∧ ((((spRow (x_17_r5c4.map e_int)).drop 0).take x_17_r5c4.length).map (fun x => x.map frc)) = ((((⟨x_17_5c0, x_17_5c1, x_17_5c2, x_17_5c3, x_17_r5c4, x_17_r5c5⟩ : api_Job).List_).map e_int).map (fun x => x.map some)))) ∧ (([4040500, 4040501] : List Nat).elem 4040501 = true ∧ (1 = 1 ∧ ((((spRow (x_17_r5c5.map e_int)).drop 0).take x_17_r5c5.length).map (fun x => x.map frc)) = ((((⟨x_17_5c0, x_17_5c1, x_17_5c2, x_17_5c3, x_17_r5c4, x_17_r5c5⟩ : api_Job).Out).map e_int).map (fun x => x.map some)))) ∧ True) ∧ (True)) ∧ ((True)) ∧ (([4040500, 4040501] : List Nat) = [] ∨ nsSV (slow_Over.R r28_2) ∧ nsAll ⟨slow_Over.A x0 (⟨x_17_5c0, x_17_5c1, x_17_5c2, x_17_5c3, x_17_r5c4, x_17_r5c5⟩ : api_Job), slow_Over.O0 x0 (⟨x_17_5c0, x_17_5c1, x_17_5c2, x_17_5c3, x_17_r5c4, x_17_r5c5⟩ : api_Job), [], [4040500, 4040501], slow_Over.R r28_2, slow_Over.O1 r28_2, []⟩ [])) (by kernel_rfl) (⟨slow_Over.ct K x0 (⟨x_17_5c0, x_17_5c1, x_17_5c2, x_17_5c3, x_17_r5c4, x_17_r5c5⟩ : api_Job) _ c28_2, ⟨⟨rfl, rfl, trivial⟩, ⟨rfl, rfl, rfl, rfl, ⟨rfl, rfl, frz (rfl) ((rfl).trans (rfl))⟩, ⟨rfl, rfl, frz (rfl) ((rfl).trans (rfl))⟩, trivial⟩, trivial⟩, trivial, Or.inr ⟨slow_Over.nsR r28_2, nsAll_of (slow_Over.nsO r28_2)⟩⟩) (rfl)) ?_
        refine s_cond (r28_2) (by kernel_rfl) (fun hb => ?_) (fun hb => ?_)
        · replace h := ite_t hb h
          refine s_exit ?_
          refine q_miss rfl ?_
          refine q_miss rfl ?_
          refine qr_exit ?_
          refine q_hit ?_
          refine s_seq ?_
          refine s_reg (tr_reg false [] [(4, .a (.c (.p (.v (.bool false)))))] [] [] fol hH hnt (by kernel_rfl) (by kernel_rfl) (C := True) (by kernel_rfl) (trivial) (rfl)) ?_
          refine s_ret ?_
          obtain rfl := Option.some.inj h
          exact ⟨.inr rfl, _, Sub.refl, out_of [] (by kernel_rfl) (by kernel_rfl) (by kernel_rfl)⟩
        · replace h := ite_f hb h
          refine s_skip ?_
          obtain ⟨r32_1, c32_1, h⟩ := bd_some h
          refine s_regz (tr_reg false [.no, .call ⟨slow_visit.A x0 (⟨x_17_5c0, x_17_5c1, x_17_5c2, x_17_5c3, x_17_r5c4, x_17_r5c5⟩ : api_Job), slow_visit.O0 x0 (⟨x_17_5c0, x_17_5c1, x_17_5c2, x_17_5c3, x_17_r5c4, x_17_r5c5⟩ : api_Job), [(1000104, 4040500), (1000105, 4040501), (1, 5)], [], slow_visit.R r32_1, slow_visit.O1 r32_1, [(3000104, 4320100), (3000105, 4320101), (1, 5)]⟩] [(2, .a (.c (.bx 2 0))), (3, .a (.c (.bx 3 0))), (5, .a (.c (.bx 5 0)))] [(2, .box [.p (.v (.int .i64 x0.N)), .p (.sl 1 (x0.Out.map e_Lint))]), (3, .box [.p (.v (.int .i64 x1.Kind)), .p (.v (.int .i64 x1.A)), .p (.v (.int .i64 x1.At)), .p (.v (.bool x1.Move)), .p (.sl 1 (x1.List_.map e_int)), .p (.sl 1 (x1.Out.map e_int))]), (5, .box [.p (.v (.int .i64 r32_1.Kind)), .p (.v (.int .i64 r32_1.A)), .p (.v (.int .i64 r32_1.At)), .p (.v (.bool r32_1.Move)), .vw 4320100 0 r32_1.List_.length, .vw 4320101 0 r32_1.Out.length]), (4320100, .row 1 (spRow (r32_1.List_.map e_int))), (4320101, .row 1 (spRow (r32_1.Out.map e_int)))] [(2, 2), (3, 3), (5, 5), (4320100, 4320100), (4320101, 4320101)] fol hH hnt (by kernel_rfl) (by kernel_rfl) (C := Ct PP 74 (slow_visit.A x0 (⟨x_17_5c0, x_17_5c1, x_17_5c2, x_17_5c3, x_17_r5c4, x_17_r5c5⟩ : api_Job)) (ofL (slow_visit.O0 x0 (⟨x_17_5c0, x_17_5c1, x_17_5c2, x_17_5c3, x_17_r5c4, x_17_r5c5⟩ : api_Job))) (slow_visit.R r32_1) (ofL (slow_visit.O1 r32_1)) ∧ (((trCV [(1000104, 4040500), (1000105, 4040501), (1, 5)] (.p (.v (.int .i64 x0.N))) = some (.p (.v (.int .i64 x0.N)))) ∧ (trCV [(1000104, 4040500), (1000105, 4040501), (1, 5)] (.p (.sl 1 (x0.Out.map e_Lint))) = some (.p (.sl 1 (x0.Out.map e_Lint)))) ∧ True) ∧ (trCV [(1000104, 4040500), (1000105, 4040501), (1, 5)] (.bx 1 0) = some (.bx 5 0)) ∧ (True)) ∧ ((trRS [(1000104, 4040500), (1000105, 4040501), (1, 5)] (.row 1 (spRow (((⟨x_17_5c0, x_17_5c1, x_17_5c2, x_17_5c3, x_17_r5c4, x_17_r5c5⟩ : api_Job).List_).map e_int))) = some (.row 1 (spRow (x_17_r5c4.map e_int)))) ∧ (trRS [(1000104, 4040500), (1000105, 4040501), (1, 5)] (.row 1 (spRow (((⟨x_17_5c0, x_17_5c1, x_17_5c2, x_17_5c3, x_17_r5c4, x_17_r5c5⟩ : api_Job).Out).map e_int))) = some (.row 1 (spRow (x_17_r5c5.map e_int)))) ∧ (trRS [(1000104, 4040500), (1000105, 4040501), (1, 5)] (.box [.p (.v (.int .i64 ((⟨x_17_5c0, x_17_5c1, x_17_5c2, x_17_5c3, x_17_r5c4, x_17_r5c5⟩ : api_Job).Kind))), .p (.v (.int .i64 ((⟨x_17_5c0, x_17_5c1, x_17_5c2, x_17_5c3, x_17_r5c4, x_17_r5c5⟩ : api_Job).A))), .p (.v (.int .i64 ((⟨x_17_5c0, x_17_5c1, x_17_5c2, x_17_5c3, x_17_r5c4, x_17_r5c5⟩ : api_Job).At))), .p (.v (.bool ((⟨x_17_5c0, x_17_5c1, x_17_5c2, x_17_5c3, x_17_r5c4, x_17_r5c5⟩ : api_Job).Move))), .vw 1000104 0 (((⟨x_17_5c0, x_17_5c1, x_17_5c2, x_17_5c3, x_17_r5c4, x_17_r5c5⟩ : api_Job).List_).length), .vw 1000105 0 (((⟨x_17_5c0, x_17_5c1, x_17_5c2, x_17_5c3, x_17_r5c4, x_17_r5c5⟩ : api_Job).Out).length)]) = some (.box [.p (.v (.int .i64 x_17_5c0)), .p (.v (.int .i64 x_17_5c1)), .p (.v (.int .i64 x_17_5c2)), .p (.v (.bool x_17_5c3)), .vw 4040500 0 x_17_r5c4.length, .vw 4040501 0 x_17_r5c5.length])) ∧ (True)) ∧ (([] : List Nat) = [] ∨ nsSV (slow_visit.R r32_1) ∧ nsAll ⟨slow_visit.A x0 (⟨x_17_5c0, x_17_5c1, x_17_5c2, x_17_5c3, x_17_r5c4, x_17_r5c5⟩ : api_Job), slow_visit.O0 x0 (⟨x_17_5c0, x_17_5c1, x_17_5c2, x_17_5c3, x_17_r5c4, x_17_r5c5⟩ : api_Job), [(1000104, 4040500), (1000105, 4040501), (1, 5)], [], slow_visit.R r32_1, slow_visit.O1 r32_1, [(3000104, 4320100), (3000105, 4320101), (1, 5)]⟩ [(3000104, 4320100), (3000105, 4320101), (1, 5)])) (by kernel_rfl) (⟨slow_visit.ct K x0 (⟨x_17_5c0, x_17_5c1, x_17_5c2, x_17_5c3, x_17_r5c4, x_17_r5c5⟩ : api_Job) _ c32_1, ⟨⟨rfl, rfl, trivial⟩, rfl, trivial⟩, ⟨rfl, rfl, rfl, trivial⟩, Or.inl rfl⟩) (rfl)) (fun σ1 hs => ?_)
          exact ⟨_, ⟨r32_1.Kind, r32_1.A, r32_1.At, r32_1.Move, r32_1.List_, r32_1.Out, h, rfl⟩, hs.trans (sub_ren (l := [(2, .a (.c (.bx 2 0))), (3, .a (.c (.bx 3 0))), (5, .a (.c (.bx 5 0)))]) (o := [(2, .box [.p (.v (.int .i64 x0.N)), .p (.sl 1 (x0.Out.map e_Lint))]), (3, .box [.p (.v (.int .i64 x1.Kind)), .p (.v (.int .i64 x1.A)), .p (.v (.int .i64 x1.At)), .p (.v (.bool x1.Move)), .p (.sl 1 (x1.List_.map e_int)), .p (.sl 1 (x1.Out.map e_int))]), (5, .box [.p (.v (.int .i64 r32_1.Kind)), .p (.v (.int .i64 r32_1.A)), .p (.v (.int .i64 r32_1.At)), .p (.v (.bool r32_1.Move)), .vw 4040500 0 r32_1.List_.length, .vw 4040501 0 r32_1.Out.length]), (4040500, .row 1 (spRow (r32_1.List_.map e_int))), (4040501, .row 1 (spRow (r32_1.Out.map e_int)))]) [(2, 2), (3, 3), (5, 5), (4040500, 4320100), (4040501, 4320101)] hH (by kernel_rfl) (by kernel_rfl) rfl)⟩
def slow_Own.A (x0 : api_Job) : List SV := [.a (.agg [.p (.v (.int .i64 x0.Kind)), .p (.v (.int .i64 x0.A)), .p (.v (.int .i64 x0.At)), .p (.v (.bool x0.Move)), .p (.sl 1 (x0.List_.map e_int)), .p (.sl 1 (x0.Out.map e_int))])]
def slow_Own.O0 (x0 : api_Job) : List (Nat × RS) := []
def slow_Own.R (r : api_Job) : SV := .a (.agg [.p (.v (.int .i64 r.Kind)), .p (.v (.int .i64 r.A)), .p (.v (.int .i64 r.At)), .p (.v (.bool r.Move)), .vw 2000004 0 r.List_.length, .vw 2000005 0 r.Out.length])
def slow_Own.O1 (r : api_Job) : List (Nat × RS) := [(2000004, .row 1 (spRow (r.List_.map e_int))), (2000005, .row 1 (spRow (r.Out.map e_int)))]
theorem slow_Own.nsR (r : api_Job) : nsSV (slow_Own.R r) := by simp [slow_Own.R, nsSV, nsAV, nsCV, nsSP]
theorem slow_Own.nsO (r : api_Job) : ∀ k, nsRS (ofL (slow_Own.O1 r) k) := by
  refine nsOf fun x hx => ?_
  simp only [slow_Own.O1, List.mem_cons, List.not_mem_nil, or_false] at hx
  rcases hx with rfl | rfl
  · exact nsRow e_int_ns _
  · exact nsRow e_int_ns _
def slow_Own (K : Nat) (x0 : api_Job) : Option api_Job :=
  (slices_Clone___int_int_ K x0.List_).bind fun r3_2 =>
  (slices_Clone___int_int_ K x0.Out).bind fun r3_5 =>
  some (⟨x0.Kind, x0.A, x0.At, x0.Move, r3_2, r3_5⟩ : api_Job)
theorem slow_Own.ct (K : Nat) (x0 : api_Job) (r : api_Job) (h : slow_Own K x0 = some r) : Ct PP 104 (slow_Own.A x0) (ofL (slow_Own.O0 x0)) (slow_Own.R r) (ofL (slow_Own.O1 r)) := by
  unfold slow_Own at h
  refine ct_of (fn := Try.f104) (c := Try.f104.body.get!) (by kernel_rfl) (by kernel_rfl) [] (by kernel_rfl) (by kernel_rfl) (by kernel_rfl) fun Γ hnt hH => ?_
  refine s_seq ?_
  refine s_reg (tr_reg false [] [(1, .a (.c (.bx 1 0))), (2, .a (.c (.bx 2 0)))] [(1, .box [.p (.v (.int .i64 x0.Kind)), .p (.v (.int .i64 x0.A)), .p (.v (.int .i64 x0.At)), .p (.v (.bool x0.Move)), .p (.sl 1 (x0.List_.map e_int)), .p (.sl 1 (x0.Out.map e_int))]), (2, .box [.p (.v (.int .i64 0)), .p (.v (.int .i64 0)), .p (.v (.int .i64 0)), .p (.v (.bool false)), .nl 1, .nl 1])] [(1, 1), (2, 2)] fol hH hnt (by kernel_rfl) (by kernel_rfl) (C := True) (by kernel_rfl) (trivial) (rfl)) ?_
  refine s_seq ?_
  obtain ⟨r3_2, c3_2, h⟩ := bd_some h
  obtain ⟨r3_5, c3_5, h⟩ := bd_some h
  refine s_reg (tr_reg true [.no, .no, .call ⟨slices_Clone___int_int_.A x0.List_, slices_Clone___int_int_.O0 x0.List_, [], [], slices_Clone___int_int_.R r3_2, slices_Clone___int_int_.O1 r3_2, [(2000000, 4030200)]⟩, .no, .no, .call ⟨slices_Clone___int_int_.A x0.Out, slices_Clone___int_int_.O0 x0.Out, [], [], slices_Clone___int_int_.R r3_5, slices_Clone___int_int_.O1 r3_5, [(2000000, 4030500)]⟩] [(1, .a (.c (.bx 1 0))), (2, .a (.c (.bx 2 0)))] [(1, .box [.p (.v (.int .i64 x0.Kind)), .p (.v (.int .i64 x0.A)), .p (.v (.int .i64 x0.At)), .p (.v (.bool x0.Move)), .vw 4030200 0 r3_2.length, .vw 4030500 0 r3_5.length]), (2, .box [.p (.v (.int .i64 0)), .p (.v (.int .i64 0)), .p (.v (.int .i64 0)), .p (.v (.bool false)), .nl 1, .nl 1]), (4030200, .row 1 (spRow (r3_2.map e_int))), (4030500, .row 1 (spRow (r3_5.map e_int)))] [(1, 1), (2, 2), (4030200, 4030200), (4030500, 4030500)] fol hH hnt (by kernel_rfl) (by kernel_rfl) (C := (Ct PP 92 (slices_Clone___int_int_.A x0.List_) (ofL (slices_Clone___int_int_.O0 x0.List_)) (slices_Clone___int_int_.R r3_2) (ofL (slices_Clone___int_int_.O1 r3_2)) ∧ ((trCV [] (.p (.sl 1 (x0.List_.map e_int))) = some (.p (.sl 1 (x0.List_.map e_int)))) ∧ (True)) ∧ ((True)) ∧ (([] : List Nat) = [] ∨ nsSV (slices_Clone___int_int_.R r3_2) ∧ nsAll ⟨slices_Clone___int_int_.A x0.List_, slices_Clone___int_int_.O0 x0.List_, [], [], slices_Clone___int_int_.R r3_2, slices_Clone___int_int_.O1 r3_2, [(2000000, 4030200)]⟩ [(2000000, 4030200)])) ∧ (Ct PP 92 (slices_Clone___int_int_.A x0.Out) (ofL (slices_Clone___int_int_.O0 x0.Out)) (slices_Clone___int_int_.R r3_5) (ofL (slices_Clone___int_int_.O1 r3_5)) ∧ ((trCV [] (.p (.sl 1 (x0.Out.map e_int))) = some (.p (.sl 1 (x0.Out.map e_int)))) ∧ (True)) ∧ ((True)) ∧ (([] : List Nat) = [] ∨ nsSV (slices_Clone___int_int_.R r3_5) ∧ nsAll ⟨slices_Clone___int_int_.A x0.Out, slices_Clone___int_int_.O0 x0.Out, [], [], slices_Clone___int_int_.R r3_5, slices_Clone___int_int_.O1 r3_5, [(2000000, 4030500)]⟩ [(2000000, 4030500)]))) (by kernel_rfl) (⟨⟨slices_Clone___int_int_.ct K x0.List_ _ c3_2, ⟨rfl, trivial⟩, trivial, Or.inl rfl⟩, ⟨slices_Clone___int_int_.ct K x0.Out _ c3_5, ⟨rfl, trivial⟩, trivial, Or.inl rfl⟩⟩) (rfl)) ?_
  refine s_seq ?_
  refine s_reg (tr_reg false [] [(2, .a (.c (.bx 2 0)))] [(2, .box [.p (.v (.int .i64 x0.Kind)), .p (.v (.int .i64 x0.A)), .p (.v (.int .i64 x0.At)), .p (.v (.bool x0.Move)), .vw 4030200 0 r3_2.length, .vw 4030500 0 r3_5.length]), (4030200, .row 1 (spRow (r3_2.map e_int))), (4030500, .row 1 (spRow (r3_5.map e_int)))] [(2, 2), (4030200, 4030200), (4030500, 4030500)] fol hH hnt (by kernel_rfl) (by kernel_rfl) (C := True) (by kernel_rfl) (trivial) (rfl)) ?_
  refine s_ret ?_
  obtain rfl := Option.some.inj h
  exact ⟨.inr rfl, _, Sub.refl, out_of [(2000004, 4030200), (2000005, 4030500)] (by kernel_rfl) (by kernel_rfl) (by kernel_rfl)⟩
def slow_Go.A (x0 : api_Graph) (x1 : api_Job) (x2 : Int) : List SV := [.a (.agg [.p (.v (.int .i64 x0.N)), .p (.sl 1 (x0.Out.map e_Lint))]), .a (.agg [.p (.v (.int .i64 x1.Kind)), .p (.v (.int .i64 x1.A)), .p (.v (.int .i64 x1.At)), .p (.v (.bool x1.Move)), .p (.sl 1 (x1.List_.map e_int)), .p (.sl 1 (x1.Out.map e_int))]), .a (.c (.p (.v (.int .i64 x2))))]
def slow_Go.O0 (x0 : api_Graph) (x1 : api_Job) (x2 : Int) : List (Nat × RS) := []
def slow_Go.R (r : api_Job) : SV := .a (.agg [.p (.v (.int .i64 r.Kind)), .p (.v (.int .i64 r.A)), .p (.v (.int .i64 r.At)), .p (.v (.bool r.Move)), .vw 2000004 0 r.List_.length, .vw 2000005 0 r.Out.length])
def slow_Go.O1 (r : api_Job) : List (Nat × RS) := [(2000004, .row 1 (spRow (r.List_.map e_int))), (2000005, .row 1 (spRow (r.Out.map e_int)))]
theorem slow_Go.nsR (r : api_Job) : nsSV (slow_Go.R r) := by simp [slow_Go.R, nsSV, nsAV, nsCV, nsSP]
theorem slow_Go.nsO (r : api_Job) : ∀ k, nsRS (ofL (slow_Go.O1 r) k) := by
  refine nsOf fun x hx => ?_
  simp only [slow_Go.O1, List.mem_cons, List.not_mem_nil, or_false] at hx
  rcases hx with rfl | rfl
  · exact nsRow e_int_ns _
  · exact nsRow e_int_ns _
def slow_Go.j2 (K : Nat) (go_l1 : Int → Int → Int → Int → Bool → (List Int) → (List Int) → Option api_Job) (j_6_4c0 : Int) (j_6_4c1 : Int) (j_6_4c2 : Int) (j_6_4c3 : Bool) (j_6_r4c4 : List Int) (j_6_r4c5 : List Int) (n_6_2 : Int) (x0 : api_Graph) (t_9_16 : Bool) : Option api_Job :=
  if t_9_16 then
    (slow_visit K x0 (⟨j_6_4c0, j_6_4c1, j_6_4c2, j_6_4c3, j_6_r4c4, j_6_r4c5⟩ : api_Job)).bind fun r15_1 =>
    go_l1 (wr .i64 (n_6_2 - 1)) r15_1.Kind r15_1.A r15_1.At r15_1.Move r15_1.List_ r15_1.Out
  else
    some (⟨j_6_4c0, j_6_4c1, j_6_4c2, j_6_4c3, j_6_r4c4, j_6_r4c5⟩ : api_Job)
def slow_Go.l1 (K : Nat) (x0 : api_Graph) : Nat → Int → Int → Int → Int → Bool → (List Int) → (List Int) → Option api_Job
  | 0, _, _, _, _, _, _, _ => none
  | k + 1, n_6_2, j_6_4c0, j_6_4c1, j_6_4c2, j_6_4c3, j_6_r4c4, j_6_r4c5 =>
    if decide (n_6_2 > 0) then
      (slow_Over K x0 (⟨j_6_4c0, j_6_4c1, j_6_4c2, j_6_4c3, j_6_r4c4, j_6_r4c5⟩ : api_Job)).bind fun r9_5 =>
      slow_Go.j2 K (slow_Go.l1 K x0 k) j_6_4c0 j_6_4c1 j_6_4c2 j_6_4c3 j_6_r4c4 j_6_r4c5 n_6_2 x0 (!r9_5)
    else
      slow_Go.j2 K (slow_Go.l1 K x0 k) j_6_4c0 j_6_4c1 j_6_4c2 j_6_4c3 j_6_r4c4 j_6_r4c5 n_6_2 x0 false
def slow_Go (K : Nat) (x0 : api_Graph) (x1 : api_Job) (x2 : Int) : Option api_Job :=
  (slow_Own K x1).bind fun r3_1 =>
  slow_Go.l1 K x0 K x2 r3_1.Kind r3_1.A r3_1.At r3_1.Move r3_1.List_ r3_1.Out
theorem slow_Go.ct (K : Nat) (x0 : api_Graph) (x1 : api_Job) (x2 : Int) (r : api_Job) (h : slow_Go K x0 x1 x2 = some r) : Ct PP 66 (slow_Go.A x0 x1 x2) (ofL (slow_Go.O0 x0 x1 x2)) (slow_Go.R r) (ofL (slow_Go.O1 r)) := by
  unfold slow_Go at h
  refine ct_of (fn := Try.f66) (c := Try.f66.body.get!) (by kernel_rfl) (by kernel_rfl) [] (by kernel_rfl) (by kernel_rfl) (by kernel_rfl) fun Γ hnt hH => ?_
  refine s_seq ?_
  refine s_reg (tr_reg false [] [(2, .a (.c (.p (.v (.int .i64 x2))))), (3, .a (.c (.bx 3 0))), (4, .a (.c (.bx 4 0))), (6, .a (.c (.bx 6 0)))] [(3, .box [.p (.v (.int .i64 x0.N)), .p (.sl 1 (x0.Out.map e_Lint))]), (4, .box [.p (.v (.int .i64 x1.Kind)), .p (.v (.int .i64 x1.A)), .p (.v (.int .i64 x1.At)), .p (.v (.bool x1.Move)), .p (.sl 1 (x1.List_.map e_int)), .p (.sl 1 (x1.Out.map e_int))]), (6, .box [.p (.v (.int .i64 0)), .p (.v (.int .i64 0)), .p (.v (.int .i64 0)), .p (.v (.bool false)), .nl 1, .nl 1])] [(3, 3), (4, 4), (6, 6)] fol hH hnt (by kernel_rfl) (by kernel_rfl) (C := True) (by kernel_rfl) (trivial) (rfl)) ?_
  refine s_seq ?_
  obtain ⟨r3_1, c3_1, h⟩ := bd_some h
  refine s_reg (tr_reg false [.no, .call ⟨slow_Own.A x1, slow_Own.O0 x1, [], [], slow_Own.R r3_1, slow_Own.O1 r3_1, [(2000004, 4030100), (2000005, 4030101)]⟩] [(2, .a (.c (.p (.v (.int .i64 x2))))), (3, .a (.c (.bx 3 0))), (4, .a (.c (.bx 4 0))), (6, .a (.c (.bx 6 0)))] [(3, .box [.p (.v (.int .i64 x0.N)), .p (.sl 1 (x0.Out.map e_Lint))]), (4, .box [.p (.v (.int .i64 r3_1.Kind)), .p (.v (.int .i64 r3_1.A)), .p (.v (.int .i64 r3_1.At)), .p (.v (.bool r3_1.Move)), .vw 4030100 0 r3_1.List_.length, .vw 4030101 0 r3_1.Out.length]), (6, .box [.p (.v (.int .i64 0)), .p (.v (.int .i64 0)), .p (.v (.int .i64 0)), .p (.v (.bool false)), .nl 1, .nl 1]), (4030100, .row 1 (spRow (r3_1.List_.map e_int))), (4030101, .row 1 (spRow (r3_1.Out.map e_int)))] [(3, 3), (4, 4), (6, 6), (4030100, 4030100), (4030101, 4030101)] fol hH hnt (by kernel_rfl) (by kernel_rfl) (C := Ct PP 104 (slow_Own.A x1) (ofL (slow_Own.O0 x1)) (slow_Own.R r3_1) (ofL (slow_Own.O1 r3_1)) ∧ (((trCV [] (.p (.v (.int .i64 x1.Kind))) = some (.p (.v (.int .i64 x1.Kind)))) ∧ (trCV [] (.p (.v (.int .i64 x1.A))) = some (.p (.v (.int .i64 x1.A)))) ∧ (trCV [] (.p (.v (.int .i64 x1.At))) = some (.p (.v (.int .i64 x1.At)))) ∧ (trCV [] (.p (.v (.bool x1.Move))) = some (.p (.v (.bool x1.Move)))) ∧ (trCV [] (.p (.sl 1 (x1.List_.map e_int))) = some (.p (.sl 1 (x1.List_.map e_int)))) ∧ (trCV [] (.p (.sl 1 (x1.Out.map e_int))) = some (.p (.sl 1 (x1.Out.map e_int)))) ∧ True) ∧ (True)) ∧ ((True)) ∧ (([] : List Nat) = [] ∨ nsSV (slow_Own.R r3_1) ∧ nsAll ⟨slow_Own.A x1, slow_Own.O0 x1, [], [], slow_Own.R r3_1, slow_Own.O1 r3_1, [(2000004, 4030100), (2000005, 4030101)]⟩ [(2000004, 4030100), (2000005, 4030101)])) (by kernel_rfl) (⟨slow_Own.ct K x1 _ c3_1, ⟨⟨rfl, rfl, rfl, rfl, rfl, rfl, trivial⟩, trivial⟩, trivial, Or.inl rfl⟩) (rfl)) ?_
  refine s_seq ?_
  refine s_block ?_
  refine s_loop (fun k_l1 σ => ∃ (n_6_2 : Int) (j_6_4c0 : Int) (j_6_4c1 : Int) (j_6_4c2 : Int) (j_6_4c3 : Bool) (j_6_r4c4 : List Int) (j_6_r4c5 : List Int), slow_Go.l1 K x0 k_l1 n_6_2 j_6_4c0 j_6_4c1 j_6_4c2 j_6_4c3 j_6_r4c4 j_6_r4c5 = some r ∧ σ = mk [(2, .a (.c (.p (.v (.int .i64 n_6_2))))), (3, .a (.c (.bx 3 0))), (4, .a (.c (.bx 4 0))), (6, .a (.c (.bx 6 0)))] [(3, .box [.p (.v (.int .i64 x0.N)), .p (.sl 1 (x0.Out.map e_Lint))]), (4, .box [.p (.v (.int .i64 j_6_4c0)), .p (.v (.int .i64 j_6_4c1)), .p (.v (.int .i64 j_6_4c2)), .p (.v (.bool j_6_4c3)), .vw 4030100 0 j_6_r4c4.length, .vw 4030101 0 j_6_r4c5.length]), (6, .box [.p (.v (.int .i64 0)), .p (.v (.int .i64 0)), .p (.v (.int .i64 0)), .p (.v (.bool false)), .nl 1, .nl 1]), (4030100, .row 1 (spRow (j_6_r4c4.map e_int))), (4030101, .row 1 (spRow (j_6_r4c5.map e_int)))]) ?_ ?_ K ⟨x2, r3_1.Kind, r3_1.A, r3_1.At, r3_1.Move, r3_1.List_, r3_1.Out, h, rfl⟩
  · rintro _ ⟨n_6_2, j_6_4c0, j_6_4c1, j_6_4c2, j_6_4c3, j_6_r4c4, j_6_r4c5, h, _⟩
    simp [slow_Go.l1] at h
  · rintro k_l1 _ ⟨n_6_2, j_6_4c0, j_6_4c1, j_6_4c2, j_6_4c3, j_6_r4c4, j_6_r4c5, h, rfl⟩
    rw [slow_Go.l1] at h
    refine s_seq ?_
    refine s_seq ?_
    refine s_joinJ (fun σ => ∃ (t_9_16 : Bool), slow_Go.j2 K (slow_Go.l1 K x0 k_l1) j_6_4c0 j_6_4c1 j_6_4c2 j_6_4c3 j_6_r4c4 j_6_r4c5 n_6_2 x0 t_9_16 = some r ∧ σ = mk [(2, .a (.c (.p (.v (.int .i64 n_6_2))))), (3, .a (.c (.bx 3 0))), (4, .a (.c (.bx 4 0))), (6, .a (.c (.bx 6 0))), (16, .a (.c (.p (.v (.bool t_9_16)))))] [(3, .box [.p (.v (.int .i64 x0.N)), .p (.sl 1 (x0.Out.map e_Lint))]), (4, .box [.p (.v (.int .i64 j_6_4c0)), .p (.v (.int .i64 j_6_4c1)), .p (.v (.int .i64 j_6_4c2)), .p (.v (.bool j_6_4c3)), .vw 4030100 0 j_6_r4c4.length, .vw 4030101 0 j_6_r4c5.length]), (6, .box [.p (.v (.int .i64 0)), .p (.v (.int .i64 0)), .p (.v (.int .i64 0)), .p (.v (.bool false)), .nl 1, .nl 1]), (4030100, .row 1 (spRow (j_6_r4c4.map e_int))), (4030101, .row 1 (spRow (j_6_r4c5.map e_int)))]) ?_ ?_
    · by_cases s9_2 : (decide (n_6_2 > 0)) = true
      · replace h := ite_t s9_2 h
        obtain ⟨r9_5, c9_5, h⟩ := bd_some h
        refine s_regz (tr_reg false [.no, .no, .is true .no, .no, .no, .call ⟨slow_Over.A x0 (⟨j_6_4c0, j_6_4c1, j_6_4c2, j_6_4c3, j_6_r4c4, j_6_r4c5⟩ : api_Job), slow_Over.O0 x0 (⟨j_6_4c0, j_6_4c1, j_6_4c2, j_6_4c3, j_6_r4c4, j_6_r4c5⟩ : api_Job), [], [4030100, 4030101], slow_Over.R r9_5, slow_Over.O1 r9_5, []⟩] [(2, .a (.c (.p (.v (.int .i64 n_6_2))))), (3, .a (.c (.bx 3 0))), (4, .a (.c (.bx 4 0))), (6, .a (.c (.bx 6 0))), (16, .a (.c (.p (.v (.bool (!r9_5))))))] [(3, .box [.p (.v (.int .i64 x0.N)), .p (.sl 1 (x0.Out.map e_Lint))]), (4, .box [.p (.v (.int .i64 j_6_4c0)), .p (.v (.int .i64 j_6_4c1)), .p (.v (.int .i64 j_6_4c2)), .p (.v (.bool j_6_4c3)), .vw 4030100 0 j_6_r4c4.length, .vw 4030101 0 j_6_r4c5.length]), (6, .box [.p (.v (.int .i64 0)), .p (.v (.int .i64 0)), .p (.v (.int .i64 0)), .p (.v (.bool false)), .nl 1, .nl 1]), (4030100, .row 1 (spRow (j_6_r4c4.map e_int))), (4030101, .row 1 (spRow (j_6_r4c5.map e_int)))] [(3, 3), (4, 4), (6, 6), (4030100, 4030100), (4030101, 4030101)] fol hH hnt (by kernel_rfl) (by kernel_rfl) (C := ((decide (n_6_2 > 0)) = true) ∧ (Ct PP 73 (slow_Over.A x0 (⟨j_6_4c0, j_6_4c1, j_6_4c2, j_6_4c3, j_6_r4c4, j_6_r4c5⟩ : api_Job)) (ofL (slow_Over.O0 x0 (⟨j_6_4c0, j_6_4c1, j_6_4c2, j_6_4c3, j_6_r4c4, j_6_r4c5⟩ : api_Job))) (slow_Over.R r9_5) (ofL (slow_Over.O1 r9_5)) ∧ (((trCV [] (.p (.v (.int .i64 x0.N))) = some (.p (.v (.int .i64 x0.N)))) ∧ (trCV [] (.p (.sl 1 (x0.Out.map e_Lint))) = some (.p (.sl 1 (x0.Out.map e_Lint)))) ∧ True) ∧ ((trCV [] (.p (.v (.int .i64 ((⟨j_6_4c0, j_6_4c1, j_6_4c2, j_6_4c3, j_6_r4c4, j_6_r4c5⟩ : api_Job).Kind)))) = some (.p (.v (.int .i64 j_6_4c0)))) ∧ (trCV [] (.p (.v (.int .i64 ((⟨j_6_4c0, j_6_4c1, j_6_4c2, j_6_4c3, j_6_r4c4, j_6_r4c5⟩ : api_Job).A)))) = some (.p (.v (.int .i64 j_6_4c1)))) ∧ (trCV [] (.p (.v (.int .i64 ((⟨j_6_4c0, j_6_4c1, j_6_4c2, j_6_4c3, j_6_r4c4, j_6_r4c5⟩ : api_Job).At)))) = some (.p (.v (.int .i64 j_6_4c2)))) ∧ (trCV [] (.p (.v (.bool ((⟨j_6_4c0, j_6_4c1, j_6_4c2, j_6_4c3, j_6_r4c4, j_6_r4c5⟩ : api_Job).Move)))) = some (.p (.v (.bool j_6_4c3)))) ∧ (([4030100, 4030101] : List Nat).elem 4030100 = true ∧ (1 = 1 ∧ ((((spRow (j_6_r4c4.map e_int)).drop 0).take j_6_r4c4.length).map (fun x => x.map frc)) = ((((⟨j_6_4c0, j_6_4c1, j_6_4c2, j_6_4c3, j_6_r4c4, j_6_r4c5⟩ : api_Job).List_).map e_int).map (fun x => x.map some)))) ∧ (([4030100, 4030101] : List Nat).elem 4030101 = true ∧ (1 = 1 ∧ ((((spRow (j_6_r4c5.map e_int)).drop 0).take j_6_r4c5.length).map (fun x => x.map frc)) = ((((⟨j_6_4c0, j_6_4c1, j_6_4c2, j_6_4c3, j_6_r4c4, j_6_r4c5⟩ : api_Job).Out).map e_int).map (fun x => x.map some)))) ∧ True) ∧ (True)) ∧ ((True)) ∧ (([4030100, 4030101] : List Nat) = [] ∨ nsSV (slow_Over.R r9_5) ∧ nsAll ⟨slow_Over.A x0 (⟨j_6_4c0, j_6_4c1, j_6_4c2, j_6_4c3, j_6_r4c4, j_6_r4c5⟩ : api_Job), slow_Over.O0 x0 (⟨j_6_4c0, j_6_4c1, j_6_4c2, j_6_4c3, j_6_r4c4, j_6_r4c5⟩ : api_Job), [], [4030100, 4030101], slow_Over.R r9_5, slow_Over.O1 r9_5, []⟩ []))) (by kernel_rfl) (⟨s9_2, ⟨slow_Over.ct K x0 (⟨j_6_4c0, j_6_4c1, j_6_4c2, j_6_4c3, j_6_r4c4, j_6_r4c5⟩ : api_Job) _ c9_5, ⟨⟨rfl, rfl, trivial⟩, ⟨rfl, rfl, rfl, rfl, ⟨rfl, rfl, frz (rfl) ((rfl).trans (rfl))⟩, ⟨rfl, rfl, frz (rfl) ((rfl).trans (rfl))⟩, trivial⟩, trivial⟩, trivial, Or.inr ⟨slow_Over.nsR r9_5, nsAll_of (slow_Over.nsO r9_5)⟩⟩⟩) (rfl)) (fun σ1 hs => ?_)
        exact ⟨_, ⟨!r9_5, h, rfl⟩, hs.trans (Sub.refl)⟩
      · replace s9_2 := eq_false_of_ne_true s9_2
        replace h := ite_f s9_2 h
        refine s_regz (tr_reg false [.no, .no, .is false .no] [(2, .a (.c (.p (.v (.int .i64 n_6_2))))), (3, .a (.c (.bx 3 0))), (4, .a (.c (.bx 4 0))), (6, .a (.c (.bx 6 0))), (16, .a (.c (.p (.v (.bool false)))))] [(3, .box [.p (.v (.int .i64 x0.N)), .p (.sl 1 (x0.Out.map e_Lint))]), (4, .box [.p (.v (.int .i64 j_6_4c0)), .p (.v (.int .i64 j_6_4c1)), .p (.v (.int .i64 j_6_4c2)), .p (.v (.bool j_6_4c3)), .vw 4030100 0 j_6_r4c4.length, .vw 4030101 0 j_6_r4c5.length]), (6, .box [.p (.v (.int .i64 0)), .p (.v (.int .i64 0)), .p (.v (.int .i64 0)), .p (.v (.bool false)), .nl 1, .nl 1]), (4030100, .row 1 (spRow (j_6_r4c4.map e_int))), (4030101, .row 1 (spRow (j_6_r4c5.map e_int)))] [(3, 3), (4, 4), (6, 6), (4030100, 4030100), (4030101, 4030101)] fol hH hnt (by kernel_rfl) (by kernel_rfl) (C := (decide (n_6_2 > 0)) = false) (by kernel_rfl) (s9_2) (rfl)) (fun σ1 hs => ?_)
        exact ⟨_, ⟨false, h, rfl⟩, hs.trans (Sub.refl)⟩
    · rintro _ ⟨t_9_16, h, rfl⟩
      unfold slow_Go.j2 at h
      refine s_cond (t_9_16) (by kernel_rfl) (fun hb => ?_) (fun hb => ?_)
      · replace h := ite_t hb h
        refine s_skip ?_
        refine s_seq ?_
        refine s_block ?_
        obtain ⟨r15_1, c15_1, h⟩ := bd_some h
        refine s_regz (tr_reg false [.no, .call ⟨slow_visit.A x0 (⟨j_6_4c0, j_6_4c1, j_6_4c2, j_6_4c3, j_6_r4c4, j_6_r4c5⟩ : api_Job), slow_visit.O0 x0 (⟨j_6_4c0, j_6_4c1, j_6_4c2, j_6_4c3, j_6_r4c4, j_6_r4c5⟩ : api_Job), [(1000104, 4030100), (1000105, 4030101), (1, 4)], [], slow_visit.R r15_1, slow_visit.O1 r15_1, [(3000104, 4150100), (3000105, 4150101), (1, 4)]⟩] [(2, .a (.c (.p (.v (.int .i64 n_6_2))))), (3, .a (.c (.bx 3 0))), (4, .a (.c (.bx 4 0))), (6, .a (.c (.bx 6 0)))] [(3, .box [.p (.v (.int .i64 x0.N)), .p (.sl 1 (x0.Out.map e_Lint))]), (4, .box [.p (.v (.int .i64 r15_1.Kind)), .p (.v (.int .i64 r15_1.A)), .p (.v (.int .i64 r15_1.At)), .p (.v (.bool r15_1.Move)), .vw 4150100 0 r15_1.List_.length, .vw 4150101 0 r15_1.Out.length]), (6, .box [.p (.v (.int .i64 0)), .p (.v (.int .i64 0)), .p (.v (.int .i64 0)), .p (.v (.bool false)), .nl 1, .nl 1]), (4150100, .row 1 (spRow (r15_1.List_.map e_int))), (4150101, .row 1 (spRow (r15_1.Out.map e_int)))] [(3, 3), (4, 4), (6, 6), (4150100, 4150100), (4150101, 4150101)] fol hH hnt (by kernel_rfl) (by kernel_rfl) (C := Ct PP 74 (slow_visit.A x0 (⟨j_6_4c0, j_6_4c1, j_6_4c2, j_6_4c3, j_6_r4c4, j_6_r4c5⟩ : api_Job)) (ofL (slow_visit.O0 x0 (⟨j_6_4c0, j_6_4c1, j_6_4c2, j_6_4c3, j_6_r4c4, j_6_r4c5⟩ : api_Job))) (slow_visit.R r15_1) (ofL (slow_visit.O1 r15_1)) ∧ (((trCV [(1000104, 4030100), (1000105, 4030101), (1, 4)] (.p (.v (.int .i64 x0.N))) = some (.p (.v (.int .i64 x0.N)))) ∧ (trCV [(1000104, 4030100), (1000105, 4030101), (1, 4)] (.p (.sl 1 (x0.Out.map e_Lint))) = some (.p (.sl 1 (x0.Out.map e_Lint)))) ∧ True) ∧ (trCV [(1000104, 4030100), (1000105, 4030101), (1, 4)] (.bx 1 0) = some (.bx 4 0)) ∧ (True)) ∧ ((trRS [(1000104, 4030100), (1000105, 4030101), (1, 4)] (.row 1 (spRow (((⟨j_6_4c0, j_6_4c1, j_6_4c2, j_6_4c3, j_6_r4c4, j_6_r4c5⟩ : api_Job).List_).map e_int))) = some (.row 1 (spRow (j_6_r4c4.map e_int)))) ∧ (trRS [(1000104, 4030100), (1000105, 4030101), (1, 4)] (.row 1 (spRow (((⟨j_6_4c0, j_6_4c1, j_6_4c2, j_6_4c3, j_6_r4c4, j_6_r4c5⟩ : api_Job).Out).map e_int))) = some (.row 1 (spRow (j_6_r4c5.map e_int)))) ∧ (trRS [(1000104, 4030100), (1000105, 4030101), (1, 4)] (.box [.p (.v (.int .i64 ((⟨j_6_4c0, j_6_4c1, j_6_4c2, j_6_4c3, j_6_r4c4, j_6_r4c5⟩ : api_Job).Kind))), .p (.v (.int .i64 ((⟨j_6_4c0, j_6_4c1, j_6_4c2, j_6_4c3, j_6_r4c4, j_6_r4c5⟩ : api_Job).A))), .p (.v (.int .i64 ((⟨j_6_4c0, j_6_4c1, j_6_4c2, j_6_4c3, j_6_r4c4, j_6_r4c5⟩ : api_Job).At))), .p (.v (.bool ((⟨j_6_4c0, j_6_4c1, j_6_4c2, j_6_4c3, j_6_r4c4, j_6_r4c5⟩ : api_Job).Move))), .vw 1000104 0 (((⟨j_6_4c0, j_6_4c1, j_6_4c2, j_6_4c3, j_6_r4c4, j_6_r4c5⟩ : api_Job).List_).length), .vw 1000105 0 (((⟨j_6_4c0, j_6_4c1, j_6_4c2, j_6_4c3, j_6_r4c4, j_6_r4c5⟩ : api_Job).Out).length)]) = some (.box [.p (.v (.int .i64 j_6_4c0)), .p (.v (.int .i64 j_6_4c1)), .p (.v (.int .i64 j_6_4c2)), .p (.v (.bool j_6_4c3)), .vw 4030100 0 j_6_r4c4.length, .vw 4030101 0 j_6_r4c5.length])) ∧ (True)) ∧ (([] : List Nat) = [] ∨ nsSV (slow_visit.R r15_1) ∧ nsAll ⟨slow_visit.A x0 (⟨j_6_4c0, j_6_4c1, j_6_4c2, j_6_4c3, j_6_r4c4, j_6_r4c5⟩ : api_Job), slow_visit.O0 x0 (⟨j_6_4c0, j_6_4c1, j_6_4c2, j_6_4c3, j_6_r4c4, j_6_r4c5⟩ : api_Job), [(1000104, 4030100), (1000105, 4030101), (1, 4)], [], slow_visit.R r15_1, slow_visit.O1 r15_1, [(3000104, 4150100), (3000105, 4150101), (1, 4)]⟩ [(3000104, 4150100), (3000105, 4150101), (1, 4)])) (by kernel_rfl) (⟨slow_visit.ct K x0 (⟨j_6_4c0, j_6_4c1, j_6_4c2, j_6_4c3, j_6_r4c4, j_6_r4c5⟩ : api_Job) _ c15_1, ⟨⟨rfl, rfl, trivial⟩, rfl, trivial⟩, ⟨rfl, rfl, rfl, trivial⟩, Or.inl rfl⟩) (rfl)) (fun σ1 hs => ?_)
        refine s_subc hs ?_
        refine s_regz (tr_reg false [] [(2, .a (.c (.p (.v (.int .i64 (wr .i64 (n_6_2 - 1))))))), (3, .a (.c (.bx 3 0))), (4, .a (.c (.bx 4 0))), (6, .a (.c (.bx 6 0)))] [(3, .box [.p (.v (.int .i64 x0.N)), .p (.sl 1 (x0.Out.map e_Lint))]), (4, .box [.p (.v (.int .i64 r15_1.Kind)), .p (.v (.int .i64 r15_1.A)), .p (.v (.int .i64 r15_1.At)), .p (.v (.bool r15_1.Move)), .vw 4150100 0 r15_1.List_.length, .vw 4150101 0 r15_1.Out.length]), (6, .box [.p (.v (.int .i64 0)), .p (.v (.int .i64 0)), .p (.v (.int .i64 0)), .p (.v (.bool false)), .nl 1, .nl 1]), (4150100, .row 1 (spRow (r15_1.List_.map e_int))), (4150101, .row 1 (spRow (r15_1.Out.map e_int)))] [(3, 3), (4, 4), (6, 6), (4150100, 4150100), (4150101, 4150101)] fol hH hnt (by kernel_rfl) (by kernel_rfl) (C := True) (by kernel_rfl) (trivial) (rfl)) (fun σ1 hs => ?_)
        exact ⟨_, ⟨wr .i64 (n_6_2 - 1), r15_1.Kind, r15_1.A, r15_1.At, r15_1.Move, r15_1.List_, r15_1.Out, h, rfl⟩, hs.trans (sub_ren (l := [(2, .a (.c (.p (.v (.int .i64 (wr .i64 (n_6_2 - 1))))))), (3, .a (.c (.bx 3 0))), (4, .a (.c (.bx 4 0))), (6, .a (.c (.bx 6 0)))]) (o := [(3, .box [.p (.v (.int .i64 x0.N)), .p (.sl 1 (x0.Out.map e_Lint))]), (4, .box [.p (.v (.int .i64 r15_1.Kind)), .p (.v (.int .i64 r15_1.A)), .p (.v (.int .i64 r15_1.At)), .p (.v (.bool r15_1.Move)), .vw 4030100 0 r15_1.List_.length, .vw 4030101 0 r15_1.Out.length]), (6, .box [.p (.v (.int .i64 0)), .p (.v (.int .i64 0)), .p (.v (.int .i64 0)), .p (.v (.bool false)), .nl 1, .nl 1]), (4030100, .row 1 (spRow (r15_1.List_.map e_int))), (4030101, .row 1 (spRow (r15_1.Out.map e_int)))]) [(3, 3), (4, 4), (6, 6), (4030100, 4150100), (4030101, 4150101)] hH (by kernel_rfl) (by kernel_rfl) rfl)⟩
      · replace h := ite_f hb h
        refine s_exit ?_
        refine qr_exit ?_
        refine q_hit ?_
        refine s_seq ?_
        refine s_reg (tr_reg false [] [(6, .a (.c (.bx 6 0)))] [(6, .box [.p (.v (.int .i64 j_6_4c0)), .p (.v (.int .i64 j_6_4c1)), .p (.v (.int .i64 j_6_4c2)), .p (.v (.bool j_6_4c3)), .vw 4030100 0 j_6_r4c4.length, .vw 4030101 0 j_6_r4c5.length]), (4030100, .row 1 (spRow (j_6_r4c4.map e_int))), (4030101, .row 1 (spRow (j_6_r4c5.map e_int)))] [(6, 6), (4030100, 4030100), (4030101, 4030101)] fol hH hnt (by kernel_rfl) (by kernel_rfl) (C := True) (by kernel_rfl) (trivial) (rfl)) ?_
        refine s_ret ?_
        obtain rfl := Option.some.inj h
        exact ⟨.inr rfl, _, Sub.refl, out_of [(2000004, 4030100), (2000005, 4030101)] (by kernel_rfl) (by kernel_rfl) (by kernel_rfl)⟩
def slow_Step.A (x0 : api_Graph) (x1 : api_Job) (x2 : Int) : List SV := [.a (.agg [.p (.v (.int .i64 x0.N)), .p (.sl 1 (x0.Out.map e_Lint))]), .a (.agg [.p (.v (.int .i64 x1.Kind)), .p (.v (.int .i64 x1.A)), .p (.v (.int .i64 x1.At)), .p (.v (.bool x1.Move)), .p (.sl 1 (x1.List_.map e_int)), .p (.sl 1 (x1.Out.map e_int))]), .a (.c (.p (.v (.int .i64 x2))))]
def slow_Step.O0 (x0 : api_Graph) (x1 : api_Job) (x2 : Int) : List (Nat × RS) := []
def slow_Step.R (r : api_Job × Int) : SV := .tup [.agg [.p (.v (.int .i64 r.1.Kind)), .p (.v (.int .i64 r.1.A)), .p (.v (.int .i64 r.1.At)), .p (.v (.bool r.1.Move)), .vw 2000004 0 r.1.List_.length, .vw 2000005 0 r.1.Out.length], .c (.p (.v (.int .i64 r.2)))]
def slow_Step.O1 (r : api_Job × Int) : List (Nat × RS) := [(2000004, .row 1 (spRow (r.1.List_.map e_int))), (2000005, .row 1 (spRow (r.1.Out.map e_int)))]
theorem slow_Step.nsR (r : api_Job × Int) : nsSV (slow_Step.R r) := by simp [slow_Step.R, nsSV, nsAV, nsCV, nsSP]
theorem slow_Step.nsO (r : api_Job × Int) : ∀ k, nsRS (ofL (slow_Step.O1 r) k) := by
  refine nsOf fun x hx => ?_
  simp only [slow_Step.O1, List.mem_cons, List.not_mem_nil, or_false] at hx
  rcases hx with rfl | rfl
  · exact nsRow e_int_ns _
  · exact nsRow e_int_ns _
def slow_Step.j1 (K : Nat) (x0 : api_Graph) (x1 : api_Job) (x2 : Int) (t_4_19 : Bool) : Option (api_Job × Int) :=
  if t_4_19 then
    some ((⟨0, 0, 0, false, ([] : List Int), ([] : List Int)⟩ : api_Job), 1)
  else
    (slow_Go K x0 x1 x2).bind fun r11_3 =>
    some (r11_3, 0)
def slow_Step (K : Nat) (x0 : api_Graph) (x1 : api_Job) (x2 : Int) : Option (api_Job × Int) :=
  (slow_May K x0 x1).bind fun r4_2 =>
  if !r4_2 then
    slow_Step.j1 K x0 x1 x2 true
  else
    if decide (x2 < 0) then
      slow_Step.j1 K x0 x1 x2 true
    else
      slow_Step.j1 K x0 x1 x2 (decide (x2 > 1000))
theorem slow_Step.ct (K : Nat) (x0 : api_Graph) (x1 : api_Job) (x2 : Int) (r : api_Job × Int) (h : slow_Step K x0 x1 x2 = some r) : Ct PP 21 (slow_Step.A x0 x1 x2) (ofL (slow_Step.O0 x0 x1 x2)) (slow_Step.R r) (ofL (slow_Step.O1 r)) := by
  unfold slow_Step at h
  refine ct_of (fn := Try.f21) (c := Try.f21.body.get!) (by kernel_rfl) (by kernel_rfl) [] (by kernel_rfl) (by kernel_rfl) (by kernel_rfl) fun Γ hnt hH => ?_
  refine s_seq ?_
  refine s_reg (tr_reg false [] [(2, .a (.c (.p (.v (.int .i64 x2))))), (3, .a (.c (.bx 3 0))), (4, .a (.c (.bx 4 0))), (6, .a (.c (.bx 6 0)))] [(3, .box [.p (.v (.int .i64 x0.N)), .p (.sl 1 (x0.Out.map e_Lint))]), (4, .box [.p (.v (.int .i64 x1.Kind)), .p (.v (.int .i64 x1.A)), .p (.v (.int .i64 x1.At)), .p (.v (.bool x1.Move)), .p (.sl 1 (x1.List_.map e_int)), .p (.sl 1 (x1.Out.map e_int))]), (6, .box [.p (.v (.int .i64 0)), .p (.v (.int .i64 0)), .p (.v (.int .i64 0)), .p (.v (.bool false)), .nl 1, .nl 1])] [(3, 3), (4, 4), (6, 6)] fol hH hnt (by kernel_rfl) (by kernel_rfl) (C := True) (by kernel_rfl) (trivial) (rfl)) ?_
  refine s_seq ?_
  refine s_seq ?_
  refine s_joinJ (fun σ => ∃ (t_4_19 : Bool), slow_Step.j1 K x0 x1 x2 t_4_19 = some r ∧ σ = mk [(2, .a (.c (.p (.v (.int .i64 x2))))), (3, .a (.c (.bx 3 0))), (4, .a (.c (.bx 4 0))), (6, .a (.c (.bx 6 0))), (19, .a (.c (.p (.v (.bool t_4_19)))))] [(3, .box [.p (.v (.int .i64 x0.N)), .p (.sl 1 (x0.Out.map e_Lint))]), (4, .box [.p (.v (.int .i64 x1.Kind)), .p (.v (.int .i64 x1.A)), .p (.v (.int .i64 x1.At)), .p (.v (.bool x1.Move)), .p (.sl 1 (x1.List_.map e_int)), .p (.sl 1 (x1.Out.map e_int))]), (6, .box [.p (.v (.int .i64 0)), .p (.v (.int .i64 0)), .p (.v (.int .i64 0)), .p (.v (.bool false)), .nl 1, .nl 1])]) ?_ ?_
  · obtain ⟨r4_2, c4_2, h⟩ := bd_some h
    by_cases s4_4 : (!r4_2) = true
    · replace h := ite_t s4_4 h
      refine s_regz (tr_reg false [.no, .no, .call ⟨slow_May.A x0 x1, slow_May.O0 x0 x1, [], [], slow_May.R r4_2, slow_May.O1 r4_2, []⟩, .no, .is true .no] [(2, .a (.c (.p (.v (.int .i64 x2))))), (3, .a (.c (.bx 3 0))), (4, .a (.c (.bx 4 0))), (6, .a (.c (.bx 6 0))), (19, .a (.c (.p (.v (.bool true)))))] [(3, .box [.p (.v (.int .i64 x0.N)), .p (.sl 1 (x0.Out.map e_Lint))]), (4, .box [.p (.v (.int .i64 x1.Kind)), .p (.v (.int .i64 x1.A)), .p (.v (.int .i64 x1.At)), .p (.v (.bool x1.Move)), .p (.sl 1 (x1.List_.map e_int)), .p (.sl 1 (x1.Out.map e_int))]), (6, .box [.p (.v (.int .i64 0)), .p (.v (.int .i64 0)), .p (.v (.int .i64 0)), .p (.v (.bool false)), .nl 1, .nl 1])] [(3, 3), (4, 4), (6, 6)] fol hH hnt (by kernel_rfl) (by kernel_rfl) (C := (Ct PP 65 (slow_May.A x0 x1) (ofL (slow_May.O0 x0 x1)) (slow_May.R r4_2) (ofL (slow_May.O1 r4_2)) ∧ (((trCV [] (.p (.v (.int .i64 x0.N))) = some (.p (.v (.int .i64 x0.N)))) ∧ (trCV [] (.p (.sl 1 (x0.Out.map e_Lint))) = some (.p (.sl 1 (x0.Out.map e_Lint)))) ∧ True) ∧ ((trCV [] (.p (.v (.int .i64 x1.Kind))) = some (.p (.v (.int .i64 x1.Kind)))) ∧ (trCV [] (.p (.v (.int .i64 x1.A))) = some (.p (.v (.int .i64 x1.A)))) ∧ (trCV [] (.p (.v (.int .i64 x1.At))) = some (.p (.v (.int .i64 x1.At)))) ∧ (trCV [] (.p (.v (.bool x1.Move))) = some (.p (.v (.bool x1.Move)))) ∧ (trCV [] (.p (.sl 1 (x1.List_.map e_int))) = some (.p (.sl 1 (x1.List_.map e_int)))) ∧ (trCV [] (.p (.sl 1 (x1.Out.map e_int))) = some (.p (.sl 1 (x1.Out.map e_int)))) ∧ True) ∧ (True)) ∧ ((True)) ∧ (([] : List Nat) = [] ∨ nsSV (slow_May.R r4_2) ∧ nsAll ⟨slow_May.A x0 x1, slow_May.O0 x0 x1, [], [], slow_May.R r4_2, slow_May.O1 r4_2, []⟩ [])) ∧ ((!r4_2) = true)) (by kernel_rfl) (⟨⟨slow_May.ct K x0 x1 _ c4_2, ⟨⟨rfl, rfl, trivial⟩, ⟨rfl, rfl, rfl, rfl, rfl, rfl, trivial⟩, trivial⟩, trivial, Or.inl rfl⟩, s4_4⟩) (rfl)) (fun σ1 hs => ?_)
      exact ⟨_, ⟨true, h, rfl⟩, hs.trans (Sub.refl)⟩
    · replace s4_4 := eq_false_of_ne_true s4_4
      replace h := ite_f s4_4 h
      by_cases s4_8 : (decide (x2 < 0)) = true
      · replace h := ite_t s4_8 h
        refine s_regz (tr_reg false [.no, .no, .call ⟨slow_May.A x0 x1, slow_May.O0 x0 x1, [], [], slow_May.R r4_2, slow_May.O1 r4_2, []⟩, .no, .is false .no, .no, .no, .no, .is true .no] [(2, .a (.c (.p (.v (.int .i64 x2))))), (3, .a (.c (.bx 3 0))), (4, .a (.c (.bx 4 0))), (6, .a (.c (.bx 6 0))), (19, .a (.c (.p (.v (.bool true)))))] [(3, .box [.p (.v (.int .i64 x0.N)), .p (.sl 1 (x0.Out.map e_Lint))]), (4, .box [.p (.v (.int .i64 x1.Kind)), .p (.v (.int .i64 x1.A)), .p (.v (.int .i64 x1.At)), .p (.v (.bool x1.Move)), .p (.sl 1 (x1.List_.map e_int)), .p (.sl 1 (x1.Out.map e_int))]), (6, .box [.p (.v (.int .i64 0)), .p (.v (.int .i64 0)), .p (.v (.int .i64 0)), .p (.v (.bool false)), .nl 1, .nl 1])] [(3, 3), (4, 4), (6, 6)] fol hH hnt (by kernel_rfl) (by kernel_rfl) (C := (Ct PP 65 (slow_May.A x0 x1) (ofL (slow_May.O0 x0 x1)) (slow_May.R r4_2) (ofL (slow_May.O1 r4_2)) ∧ (((trCV [] (.p (.v (.int .i64 x0.N))) = some (.p (.v (.int .i64 x0.N)))) ∧ (trCV [] (.p (.sl 1 (x0.Out.map e_Lint))) = some (.p (.sl 1 (x0.Out.map e_Lint)))) ∧ True) ∧ ((trCV [] (.p (.v (.int .i64 x1.Kind))) = some (.p (.v (.int .i64 x1.Kind)))) ∧ (trCV [] (.p (.v (.int .i64 x1.A))) = some (.p (.v (.int .i64 x1.A)))) ∧ (trCV [] (.p (.v (.int .i64 x1.At))) = some (.p (.v (.int .i64 x1.At)))) ∧ (trCV [] (.p (.v (.bool x1.Move))) = some (.p (.v (.bool x1.Move)))) ∧ (trCV [] (.p (.sl 1 (x1.List_.map e_int))) = some (.p (.sl 1 (x1.List_.map e_int)))) ∧ (trCV [] (.p (.sl 1 (x1.Out.map e_int))) = some (.p (.sl 1 (x1.Out.map e_int)))) ∧ True) ∧ (True)) ∧ ((True)) ∧ (([] : List Nat) = [] ∨ nsSV (slow_May.R r4_2) ∧ nsAll ⟨slow_May.A x0 x1, slow_May.O0 x0 x1, [], [], slow_May.R r4_2, slow_May.O1 r4_2, []⟩ [])) ∧ ((!r4_2) = false) ∧ ((decide (x2 < 0)) = true)) (by kernel_rfl) (⟨⟨slow_May.ct K x0 x1 _ c4_2, ⟨⟨rfl, rfl, trivial⟩, ⟨rfl, rfl, rfl, rfl, rfl, rfl, trivial⟩, trivial⟩, trivial, Or.inl rfl⟩, s4_4, s4_8⟩) (rfl)) (fun σ1 hs => ?_)
        exact ⟨_, ⟨true, h, rfl⟩, hs.trans (Sub.refl)⟩
      · replace s4_8 := eq_false_of_ne_true s4_8
        replace h := ite_f s4_8 h
        refine s_regz (tr_reg false [.no, .no, .call ⟨slow_May.A x0 x1, slow_May.O0 x0 x1, [], [], slow_May.R r4_2, slow_May.O1 r4_2, []⟩, .no, .is false .no, .no, .no, .no, .is false .no] [(2, .a (.c (.p (.v (.int .i64 x2))))), (3, .a (.c (.bx 3 0))), (4, .a (.c (.bx 4 0))), (6, .a (.c (.bx 6 0))), (19, .a (.c (.p (.v (.bool (decide (x2 > 1000)))))))] [(3, .box [.p (.v (.int .i64 x0.N)), .p (.sl 1 (x0.Out.map e_Lint))]), (4, .box [.p (.v (.int .i64 x1.Kind)), .p (.v (.int .i64 x1.A)), .p (.v (.int .i64 x1.At)), .p (.v (.bool x1.Move)), .p (.sl 1 (x1.List_.map e_int)), .p (.sl 1 (x1.Out.map e_int))]), (6, .box [.p (.v (.int .i64 0)), .p (.v (.int .i64 0)), .p (.v (.int .i64 0)), .p (.v (.bool false)), .nl 1, .nl 1])] [(3, 3), (4, 4), (6, 6)] fol hH hnt (by kernel_rfl) (by kernel_rfl) (C := (Ct PP 65 (slow_May.A x0 x1) (ofL (slow_May.O0 x0 x1)) (slow_May.R r4_2) (ofL (slow_May.O1 r4_2)) ∧ (((trCV [] (.p (.v (.int .i64 x0.N))) = some (.p (.v (.int .i64 x0.N)))) ∧ (trCV [] (.p (.sl 1 (x0.Out.map e_Lint))) = some (.p (.sl 1 (x0.Out.map e_Lint)))) ∧ True) ∧ ((trCV [] (.p (.v (.int .i64 x1.Kind))) = some (.p (.v (.int .i64 x1.Kind)))) ∧ (trCV [] (.p (.v (.int .i64 x1.A))) = some (.p (.v (.int .i64 x1.A)))) ∧ (trCV [] (.p (.v (.int .i64 x1.At))) = some (.p (.v (.int .i64 x1.At)))) ∧ (trCV [] (.p (.v (.bool x1.Move))) = some (.p (.v (.bool x1.Move)))) ∧ (trCV [] (.p (.sl 1 (x1.List_.map e_int))) = some (.p (.sl 1 (x1.List_.map e_int)))) ∧ (trCV [] (.p (.sl 1 (x1.Out.map e_int))) = some (.p (.sl 1 (x1.Out.map e_int)))) ∧ True) ∧ (True)) ∧ ((True)) ∧ (([] : List Nat) = [] ∨ nsSV (slow_May.R r4_2) ∧ nsAll ⟨slow_May.A x0 x1, slow_May.O0 x0 x1, [], [], slow_May.R r4_2, slow_May.O1 r4_2, []⟩ [])) ∧ ((!r4_2) = false) ∧ ((decide (x2 < 0)) = false)) (by kernel_rfl) (⟨⟨slow_May.ct K x0 x1 _ c4_2, ⟨⟨rfl, rfl, trivial⟩, ⟨rfl, rfl, rfl, rfl, rfl, rfl, trivial⟩, trivial⟩, trivial, Or.inl rfl⟩, s4_4, s4_8⟩) (rfl)) (fun σ1 hs => ?_)
        exact ⟨_, ⟨decide (x2 > 1000), h, rfl⟩, hs.trans (Sub.refl)⟩
  · rintro _ ⟨t_4_19, h, rfl⟩
    unfold slow_Step.j1 at h
    refine s_cond (t_4_19) (by kernel_rfl) (fun hb => ?_) (fun hb => ?_)
    · replace h := ite_t hb h
      refine s_seq ?_
      refine s_reg (tr_reg false [] [(6, .a (.c (.bx 6 0))), (7, .a (.c (.p (.v (.int .i64 1)))))] [(6, .box [.p (.v (.int .i64 0)), .p (.v (.int .i64 0)), .p (.v (.int .i64 0)), .p (.v (.bool false)), .nl 1, .nl 1])] [(6, 6)] fol hH hnt (by kernel_rfl) (by kernel_rfl) (C := True) (by kernel_rfl) (trivial) (rfl)) ?_
      refine s_ret ?_
      obtain rfl := Option.some.inj h
      exact ⟨.inr rfl, _, (sub_nilB (a := 6) (c := 4) (d := 8000000) (sz := 1) (l := [.p (.v (.int .i64 0)), .p (.v (.int .i64 0)), .p (.v (.int .i64 0)), .p (.v (.bool false)), .nl 1, .nl 1]) 1 (by kernel_rfl) (by kernel_rfl) (by kernel_rfl)).trans (sub_nilB (a := 6) (c := 5) (d := 8000001) (sz := 1) (l := [.p (.v (.int .i64 0)), .p (.v (.int .i64 0)), .p (.v (.int .i64 0)), .p (.v (.bool false)), .vw 8000000 0 0, .nl 1]) 1 (by kernel_rfl) (by kernel_rfl) (by kernel_rfl)), out_of [(2000004, 8000000), (2000005, 8000001)] (by kernel_rfl) (by kernel_rfl) (by kernel_rfl)⟩
    · replace h := ite_f hb h
      refine s_skip ?_
      refine s_seq ?_
      obtain ⟨r11_3, c11_3, h⟩ := bd_some h
      refine s_reg (tr_reg false [.no, .no, .no, .call ⟨slow_Go.A x0 x1 x2, slow_Go.O0 x0 x1 x2, [], [], slow_Go.R r11_3, slow_Go.O1 r11_3, [(2000004, 4110300), (2000005, 4110301)]⟩] [(6, .a (.c (.bx 6 0))), (7, .a (.c (.p (.v (.int .i64 0)))))] [(6, .box [.p (.v (.int .i64 r11_3.Kind)), .p (.v (.int .i64 r11_3.A)), .p (.v (.int .i64 r11_3.At)), .p (.v (.bool r11_3.Move)), .vw 4110300 0 r11_3.List_.length, .vw 4110301 0 r11_3.Out.length]), (4110300, .row 1 (spRow (r11_3.List_.map e_int))), (4110301, .row 1 (spRow (r11_3.Out.map e_int)))] [(6, 6), (4110300, 4110300), (4110301, 4110301)] fol hH hnt (by kernel_rfl) (by kernel_rfl) (C := Ct PP 66 (slow_Go.A x0 x1 x2) (ofL (slow_Go.O0 x0 x1 x2)) (slow_Go.R r11_3) (ofL (slow_Go.O1 r11_3)) ∧ (((trCV [] (.p (.v (.int .i64 x0.N))) = some (.p (.v (.int .i64 x0.N)))) ∧ (trCV [] (.p (.sl 1 (x0.Out.map e_Lint))) = some (.p (.sl 1 (x0.Out.map e_Lint)))) ∧ True) ∧ ((trCV [] (.p (.v (.int .i64 x1.Kind))) = some (.p (.v (.int .i64 x1.Kind)))) ∧ (trCV [] (.p (.v (.int .i64 x1.A))) = some (.p (.v (.int .i64 x1.A)))) ∧ (trCV [] (.p (.v (.int .i64 x1.At))) = some (.p (.v (.int .i64 x1.At)))) ∧ (trCV [] (.p (.v (.bool x1.Move))) = some (.p (.v (.bool x1.Move)))) ∧ (trCV [] (.p (.sl 1 (x1.List_.map e_int))) = some (.p (.sl 1 (x1.List_.map e_int)))) ∧ (trCV [] (.p (.sl 1 (x1.Out.map e_int))) = some (.p (.sl 1 (x1.Out.map e_int)))) ∧ True) ∧ (trCV [] (.p (.v (.int .i64 x2))) = some (.p (.v (.int .i64 x2)))) ∧ (True)) ∧ ((True)) ∧ (([] : List Nat) = [] ∨ nsSV (slow_Go.R r11_3) ∧ nsAll ⟨slow_Go.A x0 x1 x2, slow_Go.O0 x0 x1 x2, [], [], slow_Go.R r11_3, slow_Go.O1 r11_3, [(2000004, 4110300), (2000005, 4110301)]⟩ [(2000004, 4110300), (2000005, 4110301)])) (by kernel_rfl) (⟨slow_Go.ct K x0 x1 x2 _ c11_3, ⟨⟨rfl, rfl, trivial⟩, ⟨rfl, rfl, rfl, rfl, rfl, rfl, trivial⟩, rfl, trivial⟩, trivial, Or.inl rfl⟩) (rfl)) ?_
      refine s_ret ?_
      obtain rfl := Option.some.inj h
      exact ⟨.inr rfl, _, Sub.refl, out_of [(2000004, 4110300), (2000005, 4110301)] (by kernel_rfl) (by kernel_rfl) (by kernel_rfl)⟩
def herbariumlaw11_num.A (x0 : Int) : List SV := [.a (.c (.p (.v (.int .i64 x0))))]
def herbariumlaw11_num.O0 (x0 : Int) : List (Nat × RS) := []
def herbariumlaw11_num.R (r : Int) : SV := .a (.c (.p (.v (.int .i64 r))))
def herbariumlaw11_num.O1 (r : Int) : List (Nat × RS) := []
theorem herbariumlaw11_num.nsR (r : Int) : nsSV (herbariumlaw11_num.R r) := by simp [herbariumlaw11_num.R, nsSV, nsAV, nsCV, nsSP]
theorem herbariumlaw11_num.nsO (r : Int) : ∀ k, nsRS (ofL (herbariumlaw11_num.O1 r) k) := by
  refine nsOf fun x hx => ?_
  simp only [herbariumlaw11_num.O1, List.mem_cons, List.not_mem_nil, or_false] at hx
def herbariumlaw11_num (K : Nat) (x0 : Int) : Option Int :=
  some x0
theorem herbariumlaw11_num.ct (K : Nat) (x0 : Int) (r : Int) (h : herbariumlaw11_num K x0 = some r) : Ct PP 22 (herbariumlaw11_num.A x0) (ofL (herbariumlaw11_num.O0 x0)) (herbariumlaw11_num.R r) (ofL (herbariumlaw11_num.O1 r)) := by
  unfold herbariumlaw11_num at h
  refine ct_of (fn := Try.f22) (c := Try.f22.body.get!) (by kernel_rfl) (by kernel_rfl) [] (by kernel_rfl) (by kernel_rfl) (by kernel_rfl) fun Γ hnt hH => ?_
  refine s_seq ?_
  refine s_reg (tr_reg false [] [(0, .a (.c (.p (.v (.int .i64 x0)))))] [] [] fol hH hnt (by kernel_rfl) (by kernel_rfl) (C := True) (by kernel_rfl) (trivial) (rfl)) ?_
  refine s_seq ?_
  refine s_reg (tr_reg false [] [(2, .a (.c (.p (.v (.int .i64 x0)))))] [] [] fol hH hnt (by kernel_rfl) (by kernel_rfl) (C := True) (by kernel_rfl) (trivial) (rfl)) ?_
  refine s_ret ?_
  obtain rfl := Option.some.inj h
  exact ⟨.inr rfl, _, Sub.refl, out_of [] (by kernel_rfl) (by kernel_rfl) (by kernel_rfl)⟩
def herbariumref0_CopyNumbers.A (x0 : List Int) : List SV := [.a (.c (.p (.sl 1 (x0.map e_int))))]
def herbariumref0_CopyNumbers.O0 (x0 : List Int) : List (Nat × RS) := []
def herbariumref0_CopyNumbers.R (r : List Int) : SV := .a (.c (.vw 2000000 0 r.length))
def herbariumref0_CopyNumbers.O1 (r : List Int) : List (Nat × RS) := [(2000000, .row 1 (spRow (r.map e_int)))]
theorem herbariumref0_CopyNumbers.nsR (r : List Int) : nsSV (herbariumref0_CopyNumbers.R r) := by simp [herbariumref0_CopyNumbers.R, nsSV, nsAV, nsCV, nsSP]
theorem herbariumref0_CopyNumbers.nsO (r : List Int) : ∀ k, nsRS (ofL (herbariumref0_CopyNumbers.O1 r) k) := by
  refine nsOf fun x hx => ?_
  simp only [herbariumref0_CopyNumbers.O1, List.mem_cons, List.not_mem_nil, or_false] at hx
  rcases hx with rfl
  · exact nsRow e_int_ns _
def herbariumref0_CopyNumbers.l1 (K : Nat) (x0 : List Int) : Nat → (List Int) → Int → Option (List Int)
  | 0, _, _ => none
  | k + 1, m_8_r3, i_8_4 =>
    if decide (i_8_4 < (((x0).length : Nat) : Int)) then
      if 0 ≤ i_8_4 ∧ i_8_4 < ((x0).length : Int) then
      if ((m_8_r3).length + (([nth x0 i_8_4] : List Int)).length) * 8 ≤ 140737488355328 then
      herbariumref0_CopyNumbers.l1 K x0 k (m_8_r3 ++ ([nth x0 i_8_4] : List Int)) (wr .i64 (i_8_4 + 1))
      else none
      else none
    else
      some m_8_r3
def herbariumref0_CopyNumbers (K : Nat) (x0 : List Int) : Option (List Int) :=
  herbariumref0_CopyNumbers.l1 K x0 K ([] : List Int) 0
theorem herbariumref0_CopyNumbers.ct (K : Nat) (x0 : List Int) (r : List Int) (h : herbariumref0_CopyNumbers K x0 = some r) : Ct PP 67 (herbariumref0_CopyNumbers.A x0) (ofL (herbariumref0_CopyNumbers.O0 x0)) (herbariumref0_CopyNumbers.R r) (ofL (herbariumref0_CopyNumbers.O1 r)) := by
  unfold herbariumref0_CopyNumbers at h
  refine ct_of (fn := Try.f67) (c := Try.f67.body.get!) (by kernel_rfl) (by kernel_rfl) [] (by kernel_rfl) (by kernel_rfl) (by kernel_rfl) fun Γ hnt hH => ?_
  refine s_seq ?_
  refine s_reg (tr_reg false [] [(0, .a (.c (.p (.sl 1 (x0.map e_int)))))] [] [] fol hH hnt (by kernel_rfl) (by kernel_rfl) (C := True) (by kernel_rfl) (trivial) (rfl)) ?_
  refine s_seq ?_
  refine s_reg (tr_reg false [] [(0, .a (.c (.p (.sl 1 (x0.map e_int))))), (3, .a (.c (.nl 1)))] [] [] fol hH hnt (by kernel_rfl) (by kernel_rfl) (C := True) (by kernel_rfl) (trivial) (rfl)) ?_
  refine s_seq ?_
  refine s_seq ?_
  refine s_reg (tr_reg false [] [(0, .a (.c (.p (.sl 1 (x0.map e_int))))), (3, .a (.c (.nl 1))), (4, .a (.c (.p (.v (.int .i64 0)))))] [] [] fol hH hnt (by kernel_rfl) (by kernel_rfl) (C := True) (by kernel_rfl) (trivial) (rfl)) ?_
  refine s_block ?_
  refine s_subc ((sub_nil (i := 3) (d := 6008001) (sz := 1) 1 (by kernel_rfl) (by kernel_rfl)).trans (sub_ren (l := [(0, .a (.c (.p (.sl 1 (x0.map e_int))))), (3, .a (.c (.vw 5008000 0 (([] : List Int).length)))), (4, .a (.c (.p (.v (.int .i64 0)))))]) (o := [(5008000, .row 1 (spRow (([] : List Int).map e_int)))]) [(5008000, 6008001)] hH (by kernel_rfl) (by kernel_rfl) rfl)) ?_
  refine s_loop (fun k_l1 σ => ∃ (m_8_r3 : List Int) (i_8_4 : Int), herbariumref0_CopyNumbers.l1 K x0 k_l1 m_8_r3 i_8_4 = some r ∧ σ = mk [(0, .a (.c (.p (.sl 1 (x0.map e_int))))), (3, .a (.c (.vw 5008000 0 m_8_r3.length))), (4, .a (.c (.p (.v (.int .i64 i_8_4)))))] [(5008000, .row 1 (spRow (m_8_r3.map e_int)))]) ?_ ?_ K ⟨([] : List Int), 0, h, rfl⟩
  · rintro _ ⟨m_8_r3, i_8_4, h, _⟩
    simp [herbariumref0_CopyNumbers.l1] at h
  · rintro k_l1 _ ⟨m_8_r3, i_8_4, h, rfl⟩
    rw [herbariumref0_CopyNumbers.l1] at h
    refine s_seq ?_
    refine s_seq ?_
    refine s_reg (tr_reg false [.no, .no, .val (.int .i64 (((x0).length : Nat) : Int))] [(0, .a (.c (.p (.sl 1 (x0.map e_int))))), (3, .a (.c (.vw 5008000 0 m_8_r3.length))), (4, .a (.c (.p (.v (.int .i64 i_8_4))))), (8, .a (.c (.p (.v (.bool (decide (i_8_4 < (((x0).length : Nat) : Int))))))))] [(5008000, .row 1 (spRow (m_8_r3.map e_int)))] [(5008000, 5008000)] fol hH hnt (by kernel_rfl) (by kernel_rfl) (C := Value.int .i64 (((x0.map e_int).length : Nat) : Int) = .int .i64 (((x0).length : Nat) : Int)) (by kernel_rfl) (lenV (spLen (f := e_int) (xs := x0) (rfl))) (rfl)) ?_
    refine s_cond (decide (i_8_4 < (((x0).length : Nat) : Int))) (by kernel_rfl) (fun hb => ?_) (fun hb => ?_)
    · replace h := ite_t hb h
      refine s_skip ?_
      refine s_seq ?_
      refine s_block ?_
      obtain ⟨g17_3_0, h⟩ := gd_some h
      obtain ⟨g17_6_1, h⟩ := gd_some h
      refine s_regz (tr_reg false [.no, .no, .no, .sps (e_int (nth x0 i_8_4)), .no, .own false, .news ((([nth x0 i_8_4] : List Int)).map e_int)] [(0, .a (.c (.p (.sl 1 (x0.map e_int))))), (3, .a (.c (.vw 17 0 (((spRow (m_8_r3.map e_int)) ++ (spRow ((([nth x0 i_8_4] : List Int)).map e_int))).length)))), (4, .a (.c (.p (.v (.int .i64 i_8_4)))))] [(17, .row 1 ((spRow (m_8_r3.map e_int)) ++ (spRow ((([nth x0 i_8_4] : List Int)).map e_int))))] [(17, 17)] fol hH hnt (by kernel_rfl) (by kernel_rfl) (C := (0 ≤ i_8_4 ∧ (x0.map e_int)[(i_8_4).toNat]? = some (e_int (nth x0 i_8_4))) ∧ ((((spRow (([nth x0 i_8_4] : List Int).map e_int)).drop 0).take (([nth x0 i_8_4] : List Int).length) = spRow ((([nth x0 i_8_4] : List Int)).map e_int)) ∧ (m_8_r3.length = (spRow (m_8_r3.map e_int)).length ∧ ((spRow (m_8_r3.map e_int)).length + (spRow ((([nth x0 i_8_4] : List Int)).map e_int)).length) * 8 ≤ 140737488355328))) (by kernel_rfl) (⟨⟨g17_3_0.1, spGet (rfl) g17_3_0.1 g17_3_0.2⟩, ⟨rowAll (rfl) (lenMap (rfl)), ⟨((rfl).trans (rowLen (f := e_int) (xs := m_8_r3) (rfl)).symm), (bnd2 (rowLen (f := e_int) (xs := m_8_r3) (rfl)) (rowLen (f := e_int) (xs := ([nth x0 i_8_4] : List Int)) (rfl)) g17_6_1).2⟩⟩⟩) (S := mk [(0, .a (.c (.p (.sl 1 (x0.map e_int))))), (3, .a (.c (.vw 17 0 ((m_8_r3 ++ ([nth x0 i_8_4] : List Int)).length)))), (4, .a (.c (.p (.v (.int .i64 i_8_4)))))] [(17, .row 1 (spRow ((m_8_r3 ++ ([nth x0 i_8_4] : List Int)).map e_int)))]) (he2 (fun q0 q1 => mk [(0, .a (.c (.p (.sl 1 (x0.map e_int))))), (3, .a (.c (.vw 17 0 q0))), (4, .a (.c (.p (.v (.int .i64 i_8_4)))))] [(17, .row 1 (q1))]) (k0 := ((spRow (m_8_r3.map e_int)) ++ (spRow ((([nth x0 i_8_4] : List Int)).map e_int))).length) (p0 := (m_8_r3 ++ ([nth x0 i_8_4] : List Int)).length) ((rowLen (rowApp (f := e_int) (xs := m_8_r3) (ys := ([nth x0 i_8_4] : List Int)) (rfl) (rfl)) : ((spRow (m_8_r3.map e_int)) ++ (spRow ((([nth x0 i_8_4] : List Int)).map e_int))).length = (m_8_r3 ++ ([nth x0 i_8_4] : List Int)).length)) (k1 := (spRow (m_8_r3.map e_int)) ++ (spRow ((([nth x0 i_8_4] : List Int)).map e_int))) (p1 := spRow ((m_8_r3 ++ ([nth x0 i_8_4] : List Int)).map e_int)) (rowApp (f := e_int) (xs := m_8_r3) (ys := ([nth x0 i_8_4] : List Int)) (rfl) (rfl)))) (fun σ1 hs => ?_)
      refine s_subc hs ?_
      refine s_regz (tr_reg false [] [(0, .a (.c (.p (.sl 1 (x0.map e_int))))), (3, .a (.c (.vw 17 0 ((m_8_r3 ++ ([nth x0 i_8_4] : List Int)).length)))), (4, .a (.c (.p (.v (.int .i64 (wr .i64 (i_8_4 + 1)))))))] [(17, .row 1 (spRow ((m_8_r3 ++ ([nth x0 i_8_4] : List Int)).map e_int)))] [(17, 17)] fol hH hnt (by kernel_rfl) (by kernel_rfl) (C := True) (by kernel_rfl) (trivial) (rfl)) (fun σ1 hs => ?_)
      exact ⟨_, ⟨m_8_r3 ++ ([nth x0 i_8_4] : List Int), wr .i64 (i_8_4 + 1), h, rfl⟩, hs.trans (sub_ren (l := [(0, .a (.c (.p (.sl 1 (x0.map e_int))))), (3, .a (.c (.vw 5008000 0 ((m_8_r3 ++ ([nth x0 i_8_4] : List Int)).length)))), (4, .a (.c (.p (.v (.int .i64 (wr .i64 (i_8_4 + 1)))))))]) (o := [(5008000, .row 1 (spRow ((m_8_r3 ++ ([nth x0 i_8_4] : List Int)).map e_int)))]) [(5008000, 17)] hH (by kernel_rfl) (by kernel_rfl) rfl)⟩
    · replace h := ite_f hb h
      refine s_exit ?_
      refine qr_exit ?_
      refine q_hit ?_
      refine s_seq ?_
      refine s_reg (tr_reg false [] [(2, .a (.c (.vw 5008000 0 m_8_r3.length)))] [(5008000, .row 1 (spRow (m_8_r3.map e_int)))] [(5008000, 5008000)] fol hH hnt (by kernel_rfl) (by kernel_rfl) (C := True) (by kernel_rfl) (trivial) (rfl)) ?_
      refine s_ret ?_
      obtain rfl := Option.some.inj h
      exact ⟨.inr rfl, _, Sub.refl, out_of [(2000000, 5008000)] (by kernel_rfl) (by kernel_rfl) (by kernel_rfl)⟩
def herbariumref0_CopyJob.A (x0 : api_Job) : List SV := [.a (.agg [.p (.v (.int .i64 x0.Kind)), .p (.v (.int .i64 x0.A)), .p (.v (.int .i64 x0.At)), .p (.v (.bool x0.Move)), .p (.sl 1 (x0.List_.map e_int)), .p (.sl 1 (x0.Out.map e_int))])]
def herbariumref0_CopyJob.O0 (x0 : api_Job) : List (Nat × RS) := []
def herbariumref0_CopyJob.R (r : api_Job) : SV := .a (.agg [.p (.v (.int .i64 r.Kind)), .p (.v (.int .i64 r.A)), .p (.v (.int .i64 r.At)), .p (.v (.bool r.Move)), .vw 2000004 0 r.List_.length, .vw 2000005 0 r.Out.length])
def herbariumref0_CopyJob.O1 (r : api_Job) : List (Nat × RS) := [(2000004, .row 1 (spRow (r.List_.map e_int))), (2000005, .row 1 (spRow (r.Out.map e_int)))]
theorem herbariumref0_CopyJob.nsR (r : api_Job) : nsSV (herbariumref0_CopyJob.R r) := by simp [herbariumref0_CopyJob.R, nsSV, nsAV, nsCV, nsSP]
theorem herbariumref0_CopyJob.nsO (r : api_Job) : ∀ k, nsRS (ofL (herbariumref0_CopyJob.O1 r) k) := by
  refine nsOf fun x hx => ?_
  simp only [herbariumref0_CopyJob.O1, List.mem_cons, List.not_mem_nil, or_false] at hx
  rcases hx with rfl | rfl
  · exact nsRow e_int_ns _
  · exact nsRow e_int_ns _
def herbariumref0_CopyJob (K : Nat) (x0 : api_Job) : Option api_Job :=
  (herbariumref0_CopyNumbers K x0.List_).bind fun r5_2 =>
  (herbariumref0_CopyNumbers K x0.Out).bind fun r7_2 =>
  some (⟨x0.Kind, x0.A, x0.At, x0.Move, r5_2, r7_2⟩ : api_Job)
theorem herbariumref0_CopyJob.ct (K : Nat) (x0 : api_Job) (r : api_Job) (h : herbariumref0_CopyJob K x0 = some r) : Ct PP 23 (herbariumref0_CopyJob.A x0) (ofL (herbariumref0_CopyJob.O0 x0)) (herbariumref0_CopyJob.R r) (ofL (herbariumref0_CopyJob.O1 r)) := by
  unfold herbariumref0_CopyJob at h
  refine ct_of (fn := Try.f23) (c := Try.f23.body.get!) (by kernel_rfl) (by kernel_rfl) [] (by kernel_rfl) (by kernel_rfl) (by kernel_rfl) fun Γ hnt hH => ?_
  refine s_seq ?_
  refine s_reg (tr_reg false [] [(1, .a (.c (.bx 1 0))), (2, .a (.c (.bx 2 0)))] [(1, .box [.p (.v (.int .i64 x0.Kind)), .p (.v (.int .i64 x0.A)), .p (.v (.int .i64 x0.At)), .p (.v (.bool x0.Move)), .p (.sl 1 (x0.List_.map e_int)), .p (.sl 1 (x0.Out.map e_int))]), (2, .box [.p (.v (.int .i64 0)), .p (.v (.int .i64 0)), .p (.v (.int .i64 0)), .p (.v (.bool false)), .nl 1, .nl 1])] [(1, 1), (2, 2)] fol hH hnt (by kernel_rfl) (by kernel_rfl) (C := True) (by kernel_rfl) (trivial) (rfl)) ?_
  refine s_seq ?_
  refine s_reg (tr_reg false [] [(1, .a (.c (.bx 1 0))), (2, .a (.c (.bx 2 0))), (3, .a (.c (.bx 3 0)))] [(1, .box [.p (.v (.int .i64 x0.Kind)), .p (.v (.int .i64 x0.A)), .p (.v (.int .i64 x0.At)), .p (.v (.bool x0.Move)), .p (.sl 1 (x0.List_.map e_int)), .p (.sl 1 (x0.Out.map e_int))]), (2, .box [.p (.v (.int .i64 0)), .p (.v (.int .i64 0)), .p (.v (.int .i64 0)), .p (.v (.bool false)), .nl 1, .nl 1]), (3, .box [.p (.v (.int .i64 x0.Kind)), .p (.v (.int .i64 x0.A)), .p (.v (.int .i64 x0.At)), .p (.v (.bool x0.Move)), .p (.sl 1 (x0.List_.map e_int)), .p (.sl 1 (x0.Out.map e_int))])] [(1, 1), (2, 2), (3, 3)] fol hH hnt (by kernel_rfl) (by kernel_rfl) (C := True) (by kernel_rfl) (trivial) (rfl)) ?_
  refine s_seq ?_
  obtain ⟨r5_2, c5_2, h⟩ := bd_some h
  refine s_reg (tr_reg false [.no, .no, .call ⟨herbariumref0_CopyNumbers.A x0.List_, herbariumref0_CopyNumbers.O0 x0.List_, [], [], herbariumref0_CopyNumbers.R r5_2, herbariumref0_CopyNumbers.O1 r5_2, [(2000000, 4050200)]⟩] [(1, .a (.c (.bx 1 0))), (2, .a (.c (.bx 2 0))), (3, .a (.c (.bx 3 0)))] [(1, .box [.p (.v (.int .i64 x0.Kind)), .p (.v (.int .i64 x0.A)), .p (.v (.int .i64 x0.At)), .p (.v (.bool x0.Move)), .p (.sl 1 (x0.List_.map e_int)), .p (.sl 1 (x0.Out.map e_int))]), (2, .box [.p (.v (.int .i64 0)), .p (.v (.int .i64 0)), .p (.v (.int .i64 0)), .p (.v (.bool false)), .nl 1, .nl 1]), (3, .box [.p (.v (.int .i64 x0.Kind)), .p (.v (.int .i64 x0.A)), .p (.v (.int .i64 x0.At)), .p (.v (.bool x0.Move)), .vw 4050200 0 r5_2.length, .p (.sl 1 (x0.Out.map e_int))]), (4050200, .row 1 (spRow (r5_2.map e_int)))] [(1, 1), (2, 2), (3, 3), (4050200, 4050200)] fol hH hnt (by kernel_rfl) (by kernel_rfl) (C := Ct PP 67 (herbariumref0_CopyNumbers.A x0.List_) (ofL (herbariumref0_CopyNumbers.O0 x0.List_)) (herbariumref0_CopyNumbers.R r5_2) (ofL (herbariumref0_CopyNumbers.O1 r5_2)) ∧ ((trCV [] (.p (.sl 1 (x0.List_.map e_int))) = some (.p (.sl 1 (x0.List_.map e_int)))) ∧ (True)) ∧ ((True)) ∧ (([] : List Nat) = [] ∨ nsSV (herbariumref0_CopyNumbers.R r5_2) ∧ nsAll ⟨herbariumref0_CopyNumbers.A x0.List_, herbariumref0_CopyNumbers.O0 x0.List_, [], [], herbariumref0_CopyNumbers.R r5_2, herbariumref0_CopyNumbers.O1 r5_2, [(2000000, 4050200)]⟩ [(2000000, 4050200)])) (by kernel_rfl) (⟨herbariumref0_CopyNumbers.ct K x0.List_ _ c5_2, ⟨rfl, trivial⟩, trivial, Or.inl rfl⟩) (rfl)) ?_
  refine s_seq ?_
  obtain ⟨r7_2, c7_2, h⟩ := bd_some h
  refine s_reg (tr_reg false [.no, .no, .call ⟨herbariumref0_CopyNumbers.A x0.Out, herbariumref0_CopyNumbers.O0 x0.Out, [], [], herbariumref0_CopyNumbers.R r7_2, herbariumref0_CopyNumbers.O1 r7_2, [(2000000, 4070200)]⟩] [(2, .a (.c (.bx 2 0))), (3, .a (.c (.bx 3 0)))] [(2, .box [.p (.v (.int .i64 0)), .p (.v (.int .i64 0)), .p (.v (.int .i64 0)), .p (.v (.bool false)), .nl 1, .nl 1]), (3, .box [.p (.v (.int .i64 x0.Kind)), .p (.v (.int .i64 x0.A)), .p (.v (.int .i64 x0.At)), .p (.v (.bool x0.Move)), .vw 4050200 0 r5_2.length, .vw 4070200 0 r7_2.length]), (4050200, .row 1 (spRow (r5_2.map e_int))), (4070200, .row 1 (spRow (r7_2.map e_int)))] [(2, 2), (3, 3), (4050200, 4050200), (4070200, 4070200)] fol hH hnt (by kernel_rfl) (by kernel_rfl) (C := Ct PP 67 (herbariumref0_CopyNumbers.A x0.Out) (ofL (herbariumref0_CopyNumbers.O0 x0.Out)) (herbariumref0_CopyNumbers.R r7_2) (ofL (herbariumref0_CopyNumbers.O1 r7_2)) ∧ ((trCV [] (.p (.sl 1 (x0.Out.map e_int))) = some (.p (.sl 1 (x0.Out.map e_int)))) ∧ (True)) ∧ ((True)) ∧ (([] : List Nat) = [] ∨ nsSV (herbariumref0_CopyNumbers.R r7_2) ∧ nsAll ⟨herbariumref0_CopyNumbers.A x0.Out, herbariumref0_CopyNumbers.O0 x0.Out, [], [], herbariumref0_CopyNumbers.R r7_2, herbariumref0_CopyNumbers.O1 r7_2, [(2000000, 4070200)]⟩ [(2000000, 4070200)])) (by kernel_rfl) (⟨herbariumref0_CopyNumbers.ct K x0.Out _ c7_2, ⟨rfl, trivial⟩, trivial, Or.inl rfl⟩) (rfl)) ?_
  refine s_seq ?_
  refine s_reg (tr_reg false [] [(2, .a (.c (.bx 2 0)))] [(2, .box [.p (.v (.int .i64 x0.Kind)), .p (.v (.int .i64 x0.A)), .p (.v (.int .i64 x0.At)), .p (.v (.bool x0.Move)), .vw 4050200 0 r5_2.length, .vw 4070200 0 r7_2.length]), (4050200, .row 1 (spRow (r5_2.map e_int))), (4070200, .row 1 (spRow (r7_2.map e_int)))] [(2, 2), (4050200, 4050200), (4070200, 4070200)] fol hH hnt (by kernel_rfl) (by kernel_rfl) (C := True) (by kernel_rfl) (trivial) (rfl)) ?_
  refine s_ret ?_
  obtain rfl := Option.some.inj h
  exact ⟨.inr rfl, _, Sub.refl, out_of [(2000004, 4050200), (2000005, 4070200)] (by kernel_rfl) (by kernel_rfl) (by kernel_rfl)⟩
def herbariumref0_Between.A (x0 : Int) (x1 : Int) (x2 : Int) : List SV := [.a (.c (.p (.v (.int .i64 x0)))), .a (.c (.p (.v (.int .i64 x1)))), .a (.c (.p (.v (.int .i64 x2))))]
def herbariumref0_Between.O0 (x0 : Int) (x1 : Int) (x2 : Int) : List (Nat × RS) := []
def herbariumref0_Between.R (r : Bool) : SV := .a (.c (.p (.v (.bool r))))
def herbariumref0_Between.O1 (r : Bool) : List (Nat × RS) := []
theorem herbariumref0_Between.nsR (r : Bool) : nsSV (herbariumref0_Between.R r) := by simp [herbariumref0_Between.R, nsSV, nsAV, nsCV, nsSP]
theorem herbariumref0_Between.nsO (r : Bool) : ∀ k, nsRS (ofL (herbariumref0_Between.O1 r) k) := by
  refine nsOf fun x hx => ?_
  simp only [herbariumref0_Between.O1, List.mem_cons, List.not_mem_nil, or_false] at hx
def herbariumref0_Between (K : Nat) (x0 : Int) (x1 : Int) (x2 : Int) : Option Bool :=
  if decide (x0 ≥ x1) then
    some (decide (x0 ≤ x2))
  else
    some false
theorem herbariumref0_Between.ct (K : Nat) (x0 : Int) (x1 : Int) (x2 : Int) (r : Bool) (h : herbariumref0_Between K x0 x1 x2 = some r) : Ct PP 39 (herbariumref0_Between.A x0 x1 x2) (ofL (herbariumref0_Between.O0 x0 x1 x2)) (herbariumref0_Between.R r) (ofL (herbariumref0_Between.O1 r)) := by
  unfold herbariumref0_Between at h
  refine ct_of (fn := Try.f39) (c := Try.f39.body.get!) (by kernel_rfl) (by kernel_rfl) [] (by kernel_rfl) (by kernel_rfl) (by kernel_rfl) fun Γ hnt hH => ?_
  refine s_seq ?_
  refine s_reg (tr_reg false [] [(0, .a (.c (.p (.v (.int .i64 x0))))), (1, .a (.c (.p (.v (.int .i64 x1))))), (2, .a (.c (.p (.v (.int .i64 x2)))))] [] [] fol hH hnt (by kernel_rfl) (by kernel_rfl) (C := True) (by kernel_rfl) (trivial) (rfl)) ?_
  refine s_seq ?_
  by_cases s3_3 : (decide (x0 ≥ x1)) = true
  · replace h := ite_t s3_3 h
    refine s_reg (tr_reg false [.no, .no, .no, .is true .no] [(6, .a (.c (.p (.v (.bool (decide (x0 ≤ x2)))))))] [] [] fol hH hnt (by kernel_rfl) (by kernel_rfl) (C := (decide (x0 ≥ x1)) = true) (by kernel_rfl) (s3_3) (rfl)) ?_
    refine s_ret ?_
    obtain rfl := Option.some.inj h
    exact ⟨.inr rfl, _, Sub.refl, out_of [] (by kernel_rfl) (by kernel_rfl) (by kernel_rfl)⟩
  · replace s3_3 := eq_false_of_ne_true s3_3
    replace h := ite_f s3_3 h
    refine s_reg (tr_reg false [.no, .no, .no, .is false .no] [(6, .a (.c (.p (.v (.bool false)))))] [] [] fol hH hnt (by kernel_rfl) (by kernel_rfl) (C := (decide (x0 ≥ x1)) = false) (by kernel_rfl) (s3_3) (rfl)) ?_
    refine s_ret ?_
    obtain rfl := Option.some.inj h
    exact ⟨.inr rfl, _, Sub.refl, out_of [] (by kernel_rfl) (by kernel_rfl) (by kernel_rfl)⟩
def herbariumref10_Named.A (x0 : Int) : List SV := [.a (.c (.p (.v (.int .i64 x0))))]
def herbariumref10_Named.O0 (x0 : Int) : List (Nat × RS) := []
def herbariumref10_Named.R (r : Bool) : SV := .a (.c (.p (.v (.bool r))))
def herbariumref10_Named.O1 (r : Bool) : List (Nat × RS) := []
theorem herbariumref10_Named.nsR (r : Bool) : nsSV (herbariumref10_Named.R r) := by simp [herbariumref10_Named.R, nsSV, nsAV, nsCV, nsSP]
theorem herbariumref10_Named.nsO (r : Bool) : ∀ k, nsRS (ofL (herbariumref10_Named.O1 r) k) := by
  refine nsOf fun x hx => ?_
  simp only [herbariumref10_Named.O1, List.mem_cons, List.not_mem_nil, or_false] at hx
def herbariumref10_Named (K : Nat) (x0 : Int) : Option Bool :=
  if (x0 == 1) then
    some true
  else
    if (x0 == 2) then
      some true
    else
      some (x0 == 4)
theorem herbariumref10_Named.ct (K : Nat) (x0 : Int) (r : Bool) (h : herbariumref10_Named K x0 = some r) : Ct PP 68 (herbariumref10_Named.A x0) (ofL (herbariumref10_Named.O0 x0)) (herbariumref10_Named.R r) (ofL (herbariumref10_Named.O1 r)) := by
  unfold herbariumref10_Named at h
  refine ct_of (fn := Try.f68) (c := Try.f68.body.get!) (by kernel_rfl) (by kernel_rfl) [] (by kernel_rfl) (by kernel_rfl) (by kernel_rfl) fun Γ hnt hH => ?_
  refine s_seq ?_
  refine s_reg (tr_reg false [] [(0, .a (.c (.p (.v (.int .i64 x0)))))] [] [] fol hH hnt (by kernel_rfl) (by kernel_rfl) (C := True) (by kernel_rfl) (trivial) (rfl)) ?_
  refine s_seq ?_
  by_cases s3_2 : (x0 == 1) = true
  · replace h := ite_t s3_2 h
    refine s_reg (tr_reg false [.no, .no, .is true .no] [(2, .a (.c (.p (.v (.bool true)))))] [] [] fol hH hnt (by kernel_rfl) (by kernel_rfl) (C := (x0 == 1) = true) (by kernel_rfl) (s3_2) (rfl)) ?_
    refine s_ret ?_
    obtain rfl := Option.some.inj h
    exact ⟨.inr rfl, _, Sub.refl, out_of [] (by kernel_rfl) (by kernel_rfl) (by kernel_rfl)⟩
  · replace s3_2 := eq_false_of_ne_true s3_2
    replace h := ite_f s3_2 h
    by_cases s3_6 : (x0 == 2) = true
    · replace h := ite_t s3_6 h
      refine s_reg (tr_reg false [.no, .no, .is false .no, .no, .no, .no, .is true .no] [(2, .a (.c (.p (.v (.bool true)))))] [] [] fol hH hnt (by kernel_rfl) (by kernel_rfl) (C := ((x0 == 1) = false) ∧ ((x0 == 2) = true)) (by kernel_rfl) (⟨s3_2, s3_6⟩) (rfl)) ?_
      refine s_ret ?_
      obtain rfl := Option.some.inj h
      exact ⟨.inr rfl, _, Sub.refl, out_of [] (by kernel_rfl) (by kernel_rfl) (by kernel_rfl)⟩
    · replace s3_6 := eq_false_of_ne_true s3_6
      replace h := ite_f s3_6 h
      refine s_reg (tr_reg false [.no, .no, .is false .no, .no, .no, .no, .is false .no] [(2, .a (.c (.p (.v (.bool (x0 == 4))))))] [] [] fol hH hnt (by kernel_rfl) (by kernel_rfl) (C := ((x0 == 1) = false) ∧ ((x0 == 2) = false)) (by kernel_rfl) (⟨s3_2, s3_6⟩) (rfl)) ?_
      refine s_ret ?_
      obtain rfl := Option.some.inj h
      exact ⟨.inr rfl, _, Sub.refl, out_of [] (by kernel_rfl) (by kernel_rfl) (by kernel_rfl)⟩
def herbariumref0_Num.A (x0 : Int) (x1 : Int) : List SV := [.a (.c (.p (.v (.int .i64 x0)))), .a (.c (.p (.v (.int .i64 x1))))]
def herbariumref0_Num.O0 (x0 : Int) (x1 : Int) : List (Nat × RS) := []
def herbariumref0_Num.R (r : Bool) : SV := .a (.c (.p (.v (.bool r))))
def herbariumref0_Num.O1 (r : Bool) : List (Nat × RS) := []
theorem herbariumref0_Num.nsR (r : Bool) : nsSV (herbariumref0_Num.R r) := by simp [herbariumref0_Num.R, nsSV, nsAV, nsCV, nsSP]
theorem herbariumref0_Num.nsO (r : Bool) : ∀ k, nsRS (ofL (herbariumref0_Num.O1 r) k) := by
  refine nsOf fun x hx => ?_
  simp only [herbariumref0_Num.O1, List.mem_cons, List.not_mem_nil, or_false] at hx
def herbariumref0_Num (K : Nat) (x0 : Int) (x1 : Int) : Option Bool :=
  if decide (x0 ≥ 0) then
    some (decide (x0 ≤ x1))
  else
    some false
theorem herbariumref0_Num.ct (K : Nat) (x0 : Int) (x1 : Int) (r : Bool) (h : herbariumref0_Num K x0 x1 = some r) : Ct PP 34 (herbariumref0_Num.A x0 x1) (ofL (herbariumref0_Num.O0 x0 x1)) (herbariumref0_Num.R r) (ofL (herbariumref0_Num.O1 r)) := by
  unfold herbariumref0_Num at h
  refine ct_of (fn := Try.f34) (c := Try.f34.body.get!) (by kernel_rfl) (by kernel_rfl) [] (by kernel_rfl) (by kernel_rfl) (by kernel_rfl) fun Γ hnt hH => ?_
  refine s_seq ?_
  refine s_reg (tr_reg false [] [(0, .a (.c (.p (.v (.int .i64 x0))))), (1, .a (.c (.p (.v (.int .i64 x1)))))] [] [] fol hH hnt (by kernel_rfl) (by kernel_rfl) (C := True) (by kernel_rfl) (trivial) (rfl)) ?_
  refine s_seq ?_
  by_cases s3_2 : (decide (x0 ≥ 0)) = true
  · replace h := ite_t s3_2 h
    refine s_reg (tr_reg false [.no, .no, .is true .no] [(4, .a (.c (.p (.v (.bool (decide (x0 ≤ x1)))))))] [] [] fol hH hnt (by kernel_rfl) (by kernel_rfl) (C := (decide (x0 ≥ 0)) = true) (by kernel_rfl) (s3_2) (rfl)) ?_
    refine s_ret ?_
    obtain rfl := Option.some.inj h
    exact ⟨.inr rfl, _, Sub.refl, out_of [] (by kernel_rfl) (by kernel_rfl) (by kernel_rfl)⟩
  · replace s3_2 := eq_false_of_ne_true s3_2
    replace h := ite_f s3_2 h
    refine s_reg (tr_reg false [.no, .no, .is false .no] [(4, .a (.c (.p (.v (.bool false)))))] [] [] fol hH hnt (by kernel_rfl) (by kernel_rfl) (C := (decide (x0 ≥ 0)) = false) (by kernel_rfl) (s3_2) (rfl)) ?_
    refine s_ret ?_
    obtain rfl := Option.some.inj h
    exact ⟨.inr rfl, _, Sub.refl, out_of [] (by kernel_rfl) (by kernel_rfl) (by kernel_rfl)⟩
def herbariumref10_May.A (x0 : api_Graph) (x1 : Int) (x2 : Int) : List SV := [.a (.agg [.p (.v (.int .i64 x0.N)), .p (.sl 1 (x0.Out.map e_Lint))]), .a (.c (.p (.v (.int .i64 x1)))), .a (.c (.p (.v (.int .i64 x2))))]
def herbariumref10_May.O0 (x0 : api_Graph) (x1 : Int) (x2 : Int) : List (Nat × RS) := []
def herbariumref10_May.R (r : Int) : SV := .a (.c (.p (.v (.int .i64 r))))
def herbariumref10_May.O1 (r : Int) : List (Nat × RS) := []
theorem herbariumref10_May.nsR (r : Int) : nsSV (herbariumref10_May.R r) := by simp [herbariumref10_May.R, nsSV, nsAV, nsCV, nsSP]
theorem herbariumref10_May.nsO (r : Int) : ∀ k, nsRS (ofL (herbariumref10_May.O1 r) k) := by
  refine nsOf fun x hx => ?_
  simp only [herbariumref10_May.O1, List.mem_cons, List.not_mem_nil, or_false] at hx
def herbariumref10_May (K : Nat) (x0 : api_Graph) (x1 : Int) (x2 : Int) : Option Int :=
  (herbariumref0_Between K x1 1 6).bind fun r4_1 =>
  if !r4_1 then
    some 1
  else
    (herbariumref10_Named K x1).bind fun r12_1 =>
    if r12_1 then
      (herbariumref0_Num K x2 (wr .i64 (x0.N - 1))).bind fun r12_7 =>
      if !r12_7 then
        some 3
      else
        some 0
    else
      some 0
theorem herbariumref10_May.ct (K : Nat) (x0 : api_Graph) (x1 : Int) (x2 : Int) (r : Int) (h : herbariumref10_May K x0 x1 x2 = some r) : Ct PP 30 (herbariumref10_May.A x0 x1 x2) (ofL (herbariumref10_May.O0 x0 x1 x2)) (herbariumref10_May.R r) (ofL (herbariumref10_May.O1 r)) := by
  unfold herbariumref10_May at h
  refine ct_of (fn := Try.f30) (c := Try.f30.body.get!) (by kernel_rfl) (by kernel_rfl) [] (by kernel_rfl) (by kernel_rfl) (by kernel_rfl) fun Γ hnt hH => ?_
  refine s_seq ?_
  refine s_reg (tr_reg false [] [(1, .a (.c (.p (.v (.int .i64 x1))))), (2, .a (.c (.p (.v (.int .i64 x2))))), (3, .a (.c (.bx 3 0)))] [(3, .box [.p (.v (.int .i64 x0.N)), .p (.sl 1 (x0.Out.map e_Lint))])] [(3, 3)] fol hH hnt (by kernel_rfl) (by kernel_rfl) (C := True) (by kernel_rfl) (trivial) (rfl)) ?_
  refine s_seq ?_
  refine s_seq ?_
  obtain ⟨r4_1, c4_1, h⟩ := bd_some h
  refine s_reg (tr_reg false [.no, .call ⟨herbariumref0_Between.A x1 1 6, herbariumref0_Between.O0 x1 1 6, [], [], herbariumref0_Between.R r4_1, herbariumref0_Between.O1 r4_1, []⟩] [(1, .a (.c (.p (.v (.int .i64 x1))))), (2, .a (.c (.p (.v (.int .i64 x2))))), (3, .a (.c (.bx 3 0))), (9, .a (.c (.p (.v (.bool (!r4_1))))))] [(3, .box [.p (.v (.int .i64 x0.N)), .p (.sl 1 (x0.Out.map e_Lint))])] [(3, 3)] fol hH hnt (by kernel_rfl) (by kernel_rfl) (C := Ct PP 39 (herbariumref0_Between.A x1 1 6) (ofL (herbariumref0_Between.O0 x1 1 6)) (herbariumref0_Between.R r4_1) (ofL (herbariumref0_Between.O1 r4_1)) ∧ ((trCV [] (.p (.v (.int .i64 x1))) = some (.p (.v (.int .i64 x1)))) ∧ (trCV [] (.p (.v (.int .i64 1))) = some (.p (.v (.int .i64 1)))) ∧ (trCV [] (.p (.v (.int .i64 6))) = some (.p (.v (.int .i64 6)))) ∧ (True)) ∧ ((True)) ∧ (([] : List Nat) = [] ∨ nsSV (herbariumref0_Between.R r4_1) ∧ nsAll ⟨herbariumref0_Between.A x1 1 6, herbariumref0_Between.O0 x1 1 6, [], [], herbariumref0_Between.R r4_1, herbariumref0_Between.O1 r4_1, []⟩ [])) (by kernel_rfl) (⟨herbariumref0_Between.ct K x1 1 6 _ c4_1, ⟨rfl, rfl, rfl, trivial⟩, trivial, Or.inl rfl⟩) (rfl)) ?_
  refine s_cond (!r4_1) (by kernel_rfl) (fun hb => ?_) (fun hb => ?_)
  · replace h := ite_t hb h
    refine s_seq ?_
    refine s_reg (tr_reg false [] [(6, .a (.c (.p (.v (.int .i64 1)))))] [] [] fol hH hnt (by kernel_rfl) (by kernel_rfl) (C := True) (by kernel_rfl) (trivial) (rfl)) ?_
    refine s_ret ?_
    obtain rfl := Option.some.inj h
    exact ⟨.inr rfl, _, Sub.refl, out_of [] (by kernel_rfl) (by kernel_rfl) (by kernel_rfl)⟩
  · replace h := ite_f hb h
    refine s_skip ?_
    refine s_seq ?_
    refine s_seq ?_
    obtain ⟨r12_1, c12_1, h⟩ := bd_some h
    by_cases s12_2 : r12_1 = true
    · replace h := ite_t s12_2 h
      obtain ⟨r12_7, c12_7, h⟩ := bd_some h
      refine s_reg (tr_reg false [.no, .call ⟨herbariumref10_Named.A x1, herbariumref10_Named.O0 x1, [], [], herbariumref10_Named.R r12_1, herbariumref10_Named.O1 r12_1, []⟩, .is true .no, .no, .no, .no, .no, .call ⟨herbariumref0_Num.A x2 (wr .i64 (x0.N - 1)), herbariumref0_Num.O0 x2 (wr .i64 (x0.N - 1)), [], [], herbariumref0_Num.R r12_7, herbariumref0_Num.O1 r12_7, []⟩] [(19, .a (.c (.p (.v (.bool (!r12_7))))))] [] [] fol hH hnt (by kernel_rfl) (by kernel_rfl) (C := (Ct PP 68 (herbariumref10_Named.A x1) (ofL (herbariumref10_Named.O0 x1)) (herbariumref10_Named.R r12_1) (ofL (herbariumref10_Named.O1 r12_1)) ∧ ((trCV [] (.p (.v (.int .i64 x1))) = some (.p (.v (.int .i64 x1)))) ∧ (True)) ∧ ((True)) ∧ (([] : List Nat) = [] ∨ nsSV (herbariumref10_Named.R r12_1) ∧ nsAll ⟨herbariumref10_Named.A x1, herbariumref10_Named.O0 x1, [], [], herbariumref10_Named.R r12_1, herbariumref10_Named.O1 r12_1, []⟩ [])) ∧ (r12_1 = true) ∧ (Ct PP 34 (herbariumref0_Num.A x2 (wr .i64 (x0.N - 1))) (ofL (herbariumref0_Num.O0 x2 (wr .i64 (x0.N - 1)))) (herbariumref0_Num.R r12_7) (ofL (herbariumref0_Num.O1 r12_7)) ∧ ((trCV [] (.p (.v (.int .i64 x2))) = some (.p (.v (.int .i64 x2)))) ∧ (trCV [] (.p (.v (.int .i64 (wr .i64 (x0.N - 1))))) = some (.p (.v (.int .i64 (wr .i64 (x0.N - 1)))))) ∧ (True)) ∧ ((True)) ∧ (([] : List Nat) = [] ∨ nsSV (herbariumref0_Num.R r12_7) ∧ nsAll ⟨herbariumref0_Num.A x2 (wr .i64 (x0.N - 1)), herbariumref0_Num.O0 x2 (wr .i64 (x0.N - 1)), [], [], herbariumref0_Num.R r12_7, herbariumref0_Num.O1 r12_7, []⟩ []))) (by kernel_rfl) (⟨⟨herbariumref10_Named.ct K x1 _ c12_1, ⟨rfl, trivial⟩, trivial, Or.inl rfl⟩, s12_2, ⟨herbariumref0_Num.ct K x2 (wr .i64 (x0.N - 1)) _ c12_7, ⟨rfl, rfl, trivial⟩, trivial, Or.inl rfl⟩⟩) (rfl)) ?_
      refine s_cond (!r12_7) (by kernel_rfl) (fun hb => ?_) (fun hb => ?_)
      · replace h := ite_t hb h
        refine s_seq ?_
        refine s_reg (tr_reg false [] [(6, .a (.c (.p (.v (.int .i64 3)))))] [] [] fol hH hnt (by kernel_rfl) (by kernel_rfl) (C := True) (by kernel_rfl) (trivial) (rfl)) ?_
        refine s_ret ?_
        obtain rfl := Option.some.inj h
        exact ⟨.inr rfl, _, Sub.refl, out_of [] (by kernel_rfl) (by kernel_rfl) (by kernel_rfl)⟩
      · replace h := ite_f hb h
        refine s_skip ?_
        refine s_seq ?_
        refine s_reg (tr_reg false [] [(6, .a (.c (.p (.v (.int .i64 0)))))] [] [] fol hH hnt (by kernel_rfl) (by kernel_rfl) (C := True) (by kernel_rfl) (trivial) (rfl)) ?_
        refine s_ret ?_
        obtain rfl := Option.some.inj h
        exact ⟨.inr rfl, _, Sub.refl, out_of [] (by kernel_rfl) (by kernel_rfl) (by kernel_rfl)⟩
    · replace s12_2 := eq_false_of_ne_true s12_2
      replace h := ite_f s12_2 h
      refine s_reg (tr_reg false [.no, .call ⟨herbariumref10_Named.A x1, herbariumref10_Named.O0 x1, [], [], herbariumref10_Named.R r12_1, herbariumref10_Named.O1 r12_1, []⟩, .is false .no] [(19, .a (.c (.p (.v (.bool false)))))] [] [] fol hH hnt (by kernel_rfl) (by kernel_rfl) (C := (Ct PP 68 (herbariumref10_Named.A x1) (ofL (herbariumref10_Named.O0 x1)) (herbariumref10_Named.R r12_1) (ofL (herbariumref10_Named.O1 r12_1)) ∧ ((trCV [] (.p (.v (.int .i64 x1))) = some (.p (.v (.int .i64 x1)))) ∧ (True)) ∧ ((True)) ∧ (([] : List Nat) = [] ∨ nsSV (herbariumref10_Named.R r12_1) ∧ nsAll ⟨herbariumref10_Named.A x1, herbariumref10_Named.O0 x1, [], [], herbariumref10_Named.R r12_1, herbariumref10_Named.O1 r12_1, []⟩ [])) ∧ (r12_1 = false)) (by kernel_rfl) (⟨⟨herbariumref10_Named.ct K x1 _ c12_1, ⟨rfl, trivial⟩, trivial, Or.inl rfl⟩, s12_2⟩) (rfl)) ?_
      refine s_cond false (by kernel_rfl) (fun hb => ?_) (fun hb => ?_)
      · cases hb
      · refine s_skip ?_
        refine s_seq ?_
        refine s_reg (tr_reg false [] [(6, .a (.c (.p (.v (.int .i64 0)))))] [] [] fol hH hnt (by kernel_rfl) (by kernel_rfl) (C := True) (by kernel_rfl) (trivial) (rfl)) ?_
        refine s_ret ?_
        obtain rfl := Option.some.inj h
        exact ⟨.inr rfl, _, Sub.refl, out_of [] (by kernel_rfl) (by kernel_rfl) (by kernel_rfl)⟩
def herbariumref10_Begin.A (x0 : api_Graph) (x1 : Int) (x2 : Int) : List SV := [.a (.agg [.p (.v (.int .i64 x0.N)), .p (.sl 1 (x0.Out.map e_Lint))]), .a (.c (.p (.v (.int .i64 x1)))), .a (.c (.p (.v (.int .i64 x2))))]
def herbariumref10_Begin.O0 (x0 : api_Graph) (x1 : Int) (x2 : Int) : List (Nat × RS) := []
def herbariumref10_Begin.R (r : api_Job) : SV := .a (.agg [.p (.v (.int .i64 r.Kind)), .p (.v (.int .i64 r.A)), .p (.v (.int .i64 r.At)), .p (.v (.bool r.Move)), .vw 2000004 0 r.List_.length, .vw 2000005 0 r.Out.length])
def herbariumref10_Begin.O1 (r : api_Job) : List (Nat × RS) := [(2000004, .row 1 (spRow (r.List_.map e_int))), (2000005, .row 1 (spRow (r.Out.map e_int)))]
theorem herbariumref10_Begin.nsR (r : api_Job) : nsSV (herbariumref10_Begin.R r) := by simp [herbariumref10_Begin.R, nsSV, nsAV, nsCV, nsSP]
theorem herbariumref10_Begin.nsO (r : api_Job) : ∀ k, nsRS (ofL (herbariumref10_Begin.O1 r) k) := by
  refine nsOf fun x hx => ?_
  simp only [herbariumref10_Begin.O1, List.mem_cons, List.not_mem_nil, or_false] at hx
  rcases hx with rfl | rfl
  · exact nsRow e_int_ns _
  · exact nsRow e_int_ns _
def herbariumref10_Begin.l2 (K : Nat) (j_7_7c1 : Int) (x0 : api_Graph) (x1 : Int) (x2 : Int) : Nat → (List Int) → Int → Option api_Job
  | 0, _, _ => none
  | k + 1, j_14_r7c5, v_14_8 =>
    if decide (v_14_8 < x0.N) then
      if (x1 == 4) then
        if ((j_14_r7c5).length + (([(-1)] : List Int)).length) * 8 ≤ 140737488355328 then
        herbariumref10_Begin.l2 K j_7_7c1 x0 x1 x2 k (j_14_r7c5 ++ ([(-1)] : List Int)) (wr .i64 (v_14_8 + 1))
        else none
      else
        if (x1 == 5) then
          if ((j_14_r7c5).length + (([v_14_8] : List Int)).length) * 8 ≤ 140737488355328 then
          herbariumref10_Begin.l2 K j_7_7c1 x0 x1 x2 k (j_14_r7c5 ++ ([v_14_8] : List Int)) (wr .i64 (v_14_8 + 1))
          else none
        else
          herbariumref10_Begin.l2 K j_7_7c1 x0 x1 x2 k j_14_r7c5 (wr .i64 (v_14_8 + 1))
    else
      if (x1 == 4) then
        if 0 ≤ x2 ∧ x2 < ((j_14_r7c5.length : Nat) : Int) then
        some (⟨x1, j_7_7c1, 0, false, ([x2] : List Int), (j_14_r7c5).set x2.toNat 0⟩ : api_Job)
        else none
      else
        some (⟨x1, j_7_7c1, 0, false, ([] : List Int), j_14_r7c5⟩ : api_Job)
def herbariumref10_Begin.j1 (K : Nat) (x0 : api_Graph) (x1 : Int) (x2 : Int) (j_7_7c1 : Int) : Option api_Job :=
  herbariumref10_Begin.l2 K j_7_7c1 x0 x1 x2 K ([] : List Int) 0
def herbariumref10_Begin (K : Nat) (x0 : api_Graph) (x1 : Int) (x2 : Int) : Option api_Job :=
  (herbariumref10_Named K x1).bind fun r6_1 =>
  if r6_1 then
    herbariumref10_Begin.j1 K x0 x1 x2 x2
  else
    herbariumref10_Begin.j1 K x0 x1 x2 0
theorem herbariumref10_Begin.ct (K : Nat) (x0 : api_Graph) (x1 : Int) (x2 : Int) (r : api_Job) (h : herbariumref10_Begin K x0 x1 x2 = some r) : Ct PP 31 (herbariumref10_Begin.A x0 x1 x2) (ofL (herbariumref10_Begin.O0 x0 x1 x2)) (herbariumref10_Begin.R r) (ofL (herbariumref10_Begin.O1 r)) := by
  unfold herbariumref10_Begin at h
  refine ct_of (fn := Try.f31) (c := Try.f31.body.get!) (by kernel_rfl) (by kernel_rfl) [] (by kernel_rfl) (by kernel_rfl) (by kernel_rfl) fun Γ hnt hH => ?_
  refine s_seq ?_
  refine s_reg (tr_reg false [] [(1, .a (.c (.p (.v (.int .i64 x1))))), (2, .a (.c (.p (.v (.int .i64 x2))))), (3, .a (.c (.bx 3 0))), (6, .a (.c (.bx 6 0)))] [(3, .box [.p (.v (.int .i64 x0.N)), .p (.sl 1 (x0.Out.map e_Lint))]), (6, .box [.p (.v (.int .i64 0)), .p (.v (.int .i64 0)), .p (.v (.int .i64 0)), .p (.v (.bool false)), .nl 1, .nl 1])] [(3, 3), (6, 6)] fol hH hnt (by kernel_rfl) (by kernel_rfl) (C := True) (by kernel_rfl) (trivial) (rfl)) ?_
  refine s_seq ?_
  refine s_reg (tr_reg false [] [(1, .a (.c (.p (.v (.int .i64 x1))))), (2, .a (.c (.p (.v (.int .i64 x2))))), (3, .a (.c (.bx 3 0))), (6, .a (.c (.bx 6 0))), (7, .a (.c (.bx 7 0)))] [(3, .box [.p (.v (.int .i64 x0.N)), .p (.sl 1 (x0.Out.map e_Lint))]), (6, .box [.p (.v (.int .i64 0)), .p (.v (.int .i64 0)), .p (.v (.int .i64 0)), .p (.v (.bool false)), .nl 1, .nl 1]), (7, .box [.p (.v (.int .i64 x1)), .p (.v (.int .i64 0)), .p (.v (.int .i64 0)), .p (.v (.bool false)), .nl 1, .nl 1])] [(3, 3), (6, 6), (7, 7)] fol hH hnt (by kernel_rfl) (by kernel_rfl) (C := True) (by kernel_rfl) (trivial) (rfl)) ?_
  refine s_seq ?_
  refine s_seq ?_
  obtain ⟨r6_1, c6_1, h⟩ := bd_some h
  refine s_reg (tr_reg false [.no, .call ⟨herbariumref10_Named.A x1, herbariumref10_Named.O0 x1, [], [], herbariumref10_Named.R r6_1, herbariumref10_Named.O1 r6_1, []⟩] [(1, .a (.c (.p (.v (.int .i64 x1))))), (2, .a (.c (.p (.v (.int .i64 x2))))), (3, .a (.c (.bx 3 0))), (6, .a (.c (.bx 6 0))), (7, .a (.c (.bx 7 0))), (12, .a (.c (.p (.v (.bool r6_1)))))] [(3, .box [.p (.v (.int .i64 x0.N)), .p (.sl 1 (x0.Out.map e_Lint))]), (6, .box [.p (.v (.int .i64 0)), .p (.v (.int .i64 0)), .p (.v (.int .i64 0)), .p (.v (.bool false)), .nl 1, .nl 1]), (7, .box [.p (.v (.int .i64 x1)), .p (.v (.int .i64 0)), .p (.v (.int .i64 0)), .p (.v (.bool false)), .nl 1, .nl 1])] [(3, 3), (6, 6), (7, 7)] fol hH hnt (by kernel_rfl) (by kernel_rfl) (C := Ct PP 68 (herbariumref10_Named.A x1) (ofL (herbariumref10_Named.O0 x1)) (herbariumref10_Named.R r6_1) (ofL (herbariumref10_Named.O1 r6_1)) ∧ ((trCV [] (.p (.v (.int .i64 x1))) = some (.p (.v (.int .i64 x1)))) ∧ (True)) ∧ ((True)) ∧ (([] : List Nat) = [] ∨ nsSV (herbariumref10_Named.R r6_1) ∧ nsAll ⟨herbariumref10_Named.A x1, herbariumref10_Named.O0 x1, [], [], herbariumref10_Named.R r6_1, herbariumref10_Named.O1 r6_1, []⟩ [])) (by kernel_rfl) (⟨herbariumref10_Named.ct K x1 _ c6_1, ⟨rfl, trivial⟩, trivial, Or.inl rfl⟩) (rfl)) ?_
  refine s_joinJ (fun σ => ∃ (j_7_7c1 : Int), herbariumref10_Begin.j1 K x0 x1 x2 j_7_7c1 = some r ∧ σ = mk [(1, .a (.c (.p (.v (.int .i64 x1))))), (2, .a (.c (.p (.v (.int .i64 x2))))), (3, .a (.c (.bx 3 0))), (6, .a (.c (.bx 6 0))), (7, .a (.c (.bx 7 0)))] [(3, .box [.p (.v (.int .i64 x0.N)), .p (.sl 1 (x0.Out.map e_Lint))]), (6, .box [.p (.v (.int .i64 0)), .p (.v (.int .i64 0)), .p (.v (.int .i64 0)), .p (.v (.bool false)), .nl 1, .nl 1]), (7, .box [.p (.v (.int .i64 x1)), .p (.v (.int .i64 j_7_7c1)), .p (.v (.int .i64 0)), .p (.v (.bool false)), .nl 1, .nl 1])]) ?_ ?_
  · refine s_cond (r6_1) (by kernel_rfl) (fun hb => ?_) (fun hb => ?_)
    · replace h := ite_t hb h
      refine s_regz (tr_reg false [] [(1, .a (.c (.p (.v (.int .i64 x1))))), (2, .a (.c (.p (.v (.int .i64 x2))))), (3, .a (.c (.bx 3 0))), (6, .a (.c (.bx 6 0))), (7, .a (.c (.bx 7 0)))] [(3, .box [.p (.v (.int .i64 x0.N)), .p (.sl 1 (x0.Out.map e_Lint))]), (6, .box [.p (.v (.int .i64 0)), .p (.v (.int .i64 0)), .p (.v (.int .i64 0)), .p (.v (.bool false)), .nl 1, .nl 1]), (7, .box [.p (.v (.int .i64 x1)), .p (.v (.int .i64 x2)), .p (.v (.int .i64 0)), .p (.v (.bool false)), .nl 1, .nl 1])] [(3, 3), (6, 6), (7, 7)] fol hH hnt (by kernel_rfl) (by kernel_rfl) (C := True) (by kernel_rfl) (trivial) (rfl)) (fun σ1 hs => ?_)
      exact ⟨_, ⟨x2, h, rfl⟩, hs.trans (Sub.refl)⟩
    · replace h := ite_f hb h
      refine s_skip ?_
      exact ⟨_, ⟨0, h, rfl⟩, sub_ren (l := [(1, .a (.c (.p (.v (.int .i64 x1))))), (2, .a (.c (.p (.v (.int .i64 x2))))), (3, .a (.c (.bx 3 0))), (6, .a (.c (.bx 6 0))), (7, .a (.c (.bx 7 0)))]) (o := [(3, .box [.p (.v (.int .i64 x0.N)), .p (.sl 1 (x0.Out.map e_Lint))]), (6, .box [.p (.v (.int .i64 0)), .p (.v (.int .i64 0)), .p (.v (.int .i64 0)), .p (.v (.bool false)), .nl 1, .nl 1]), (7, .box [.p (.v (.int .i64 x1)), .p (.v (.int .i64 0)), .p (.v (.int .i64 0)), .p (.v (.bool false)), .nl 1, .nl 1])]) [(3, 3), (6, 6), (7, 7)] hH (by kernel_rfl) (by kernel_rfl) rfl⟩
  · rintro _ ⟨j_7_7c1, h, rfl⟩
    unfold herbariumref10_Begin.j1 at h
    refine s_seq ?_
    refine s_seq ?_
    refine s_reg (tr_reg false [] [(1, .a (.c (.p (.v (.int .i64 x1))))), (2, .a (.c (.p (.v (.int .i64 x2))))), (3, .a (.c (.bx 3 0))), (6, .a (.c (.bx 6 0))), (7, .a (.c (.bx 7 0))), (8, .a (.c (.p (.v (.int .i64 0)))))] [(3, .box [.p (.v (.int .i64 x0.N)), .p (.sl 1 (x0.Out.map e_Lint))]), (6, .box [.p (.v (.int .i64 0)), .p (.v (.int .i64 0)), .p (.v (.int .i64 0)), .p (.v (.bool false)), .nl 1, .nl 1]), (7, .box [.p (.v (.int .i64 x1)), .p (.v (.int .i64 j_7_7c1)), .p (.v (.int .i64 0)), .p (.v (.bool false)), .nl 1, .nl 1])] [(3, 3), (6, 6), (7, 7)] fol hH hnt (by kernel_rfl) (by kernel_rfl) (C := True) (by kernel_rfl) (trivial) (rfl)) ?_
    refine s_block ?_
    refine s_subc ((sub_nilB (a := 7) (c := 5) (d := 6014001) (sz := 1) (l := [.p (.v (.int .i64 x1)), .p (.v (.int .i64 j_7_7c1)), .p (.v (.int .i64 0)), .p (.v (.bool false)), .nl 1, .nl 1]) 1 (by kernel_rfl) (by kernel_rfl) (by kernel_rfl)).trans (sub_ren (l := [(1, .a (.c (.p (.v (.int .i64 x1))))), (2, .a (.c (.p (.v (.int .i64 x2))))), (3, .a (.c (.bx 3 0))), (6, .a (.c (.bx 6 0))), (7, .a (.c (.bx 7 0))), (8, .a (.c (.p (.v (.int .i64 0)))))]) (o := [(3, .box [.p (.v (.int .i64 x0.N)), .p (.sl 1 (x0.Out.map e_Lint))]), (6, .box [.p (.v (.int .i64 0)), .p (.v (.int .i64 0)), .p (.v (.int .i64 0)), .p (.v (.bool false)), .nl 1, .nl 1]), (7, .box [.p (.v (.int .i64 x1)), .p (.v (.int .i64 j_7_7c1)), .p (.v (.int .i64 0)), .p (.v (.bool false)), .nl 1, .vw 5014000 0 (([] : List Int).length)]), (5014000, .row 1 (spRow (([] : List Int).map e_int)))]) [(3, 3), (6, 6), (7, 7), (5014000, 6014001)] hH (by kernel_rfl) (by kernel_rfl) rfl)) ?_
    refine s_loop (fun k_l2 σ => ∃ (j_14_r7c5 : List Int) (v_14_8 : Int), herbariumref10_Begin.l2 K j_7_7c1 x0 x1 x2 k_l2 j_14_r7c5 v_14_8 = some r ∧ σ = mk [(1, .a (.c (.p (.v (.int .i64 x1))))), (2, .a (.c (.p (.v (.int .i64 x2))))), (3, .a (.c (.bx 3 0))), (6, .a (.c (.bx 6 0))), (7, .a (.c (.bx 7 0))), (8, .a (.c (.p (.v (.int .i64 v_14_8)))))] [(3, .box [.p (.v (.int .i64 x0.N)), .p (.sl 1 (x0.Out.map e_Lint))]), (6, .box [.p (.v (.int .i64 0)), .p (.v (.int .i64 0)), .p (.v (.int .i64 0)), .p (.v (.bool false)), .nl 1, .nl 1]), (7, .box [.p (.v (.int .i64 x1)), .p (.v (.int .i64 j_7_7c1)), .p (.v (.int .i64 0)), .p (.v (.bool false)), .nl 1, .vw 5014000 0 j_14_r7c5.length]), (5014000, .row 1 (spRow (j_14_r7c5.map e_int)))]) ?_ ?_ K ⟨([] : List Int), 0, h, rfl⟩
    · rintro _ ⟨j_14_r7c5, v_14_8, h, _⟩
      simp [herbariumref10_Begin.l2] at h
    · rintro k_l2 _ ⟨j_14_r7c5, v_14_8, h, rfl⟩
      rw [herbariumref10_Begin.l2] at h
      refine s_seq ?_
      refine s_seq ?_
      refine s_reg (tr_reg false [] [(1, .a (.c (.p (.v (.int .i64 x1))))), (2, .a (.c (.p (.v (.int .i64 x2))))), (3, .a (.c (.bx 3 0))), (6, .a (.c (.bx 6 0))), (7, .a (.c (.bx 7 0))), (8, .a (.c (.p (.v (.int .i64 v_14_8))))), (18, .a (.c (.p (.v (.bool (decide (v_14_8 < x0.N)))))))] [(3, .box [.p (.v (.int .i64 x0.N)), .p (.sl 1 (x0.Out.map e_Lint))]), (6, .box [.p (.v (.int .i64 0)), .p (.v (.int .i64 0)), .p (.v (.int .i64 0)), .p (.v (.bool false)), .nl 1, .nl 1]), (7, .box [.p (.v (.int .i64 x1)), .p (.v (.int .i64 j_7_7c1)), .p (.v (.int .i64 0)), .p (.v (.bool false)), .nl 1, .vw 5014000 0 j_14_r7c5.length]), (5014000, .row 1 (spRow (j_14_r7c5.map e_int)))] [(3, 3), (6, 6), (7, 7), (5014000, 5014000)] fol hH hnt (by kernel_rfl) (by kernel_rfl) (C := True) (by kernel_rfl) (trivial) (rfl)) ?_
      refine s_cond (decide (v_14_8 < x0.N)) (by kernel_rfl) (fun hb => ?_) (fun hb => ?_)
      · replace h := ite_t hb h
        refine s_skip ?_
        refine s_seq ?_
        refine s_block ?_
        refine s_seq ?_
        refine s_reg (tr_reg false [] [(1, .a (.c (.p (.v (.int .i64 x1))))), (2, .a (.c (.p (.v (.int .i64 x2))))), (3, .a (.c (.bx 3 0))), (6, .a (.c (.bx 6 0))), (7, .a (.c (.bx 7 0))), (8, .a (.c (.p (.v (.int .i64 v_14_8))))), (21, .a (.c (.p (.v (.int .i64 x1)))))] [(3, .box [.p (.v (.int .i64 x0.N)), .p (.sl 1 (x0.Out.map e_Lint))]), (6, .box [.p (.v (.int .i64 0)), .p (.v (.int .i64 0)), .p (.v (.int .i64 0)), .p (.v (.bool false)), .nl 1, .nl 1]), (7, .box [.p (.v (.int .i64 x1)), .p (.v (.int .i64 j_7_7c1)), .p (.v (.int .i64 0)), .p (.v (.bool false)), .nl 1, .vw 5014000 0 j_14_r7c5.length]), (5014000, .row 1 (spRow (j_14_r7c5.map e_int)))] [(3, 3), (6, 6), (7, 7), (5014000, 5014000)] fol hH hnt (by kernel_rfl) (by kernel_rfl) (C := True) (by kernel_rfl) (trivial) (rfl)) ?_
        refine s_block ?_
        refine s_seq ?_
        refine s_reg (tr_reg false [] [(1, .a (.c (.p (.v (.int .i64 x1))))), (2, .a (.c (.p (.v (.int .i64 x2))))), (3, .a (.c (.bx 3 0))), (6, .a (.c (.bx 6 0))), (7, .a (.c (.bx 7 0))), (8, .a (.c (.p (.v (.int .i64 v_14_8))))), (21, .a (.c (.p (.v (.int .i64 x1))))), (22, .a (.c (.p (.v (.bool (x1 == 4))))))] [(3, .box [.p (.v (.int .i64 x0.N)), .p (.sl 1 (x0.Out.map e_Lint))]), (6, .box [.p (.v (.int .i64 0)), .p (.v (.int .i64 0)), .p (.v (.int .i64 0)), .p (.v (.bool false)), .nl 1, .nl 1]), (7, .box [.p (.v (.int .i64 x1)), .p (.v (.int .i64 j_7_7c1)), .p (.v (.int .i64 0)), .p (.v (.bool false)), .nl 1, .vw 5014000 0 j_14_r7c5.length]), (5014000, .row 1 (spRow (j_14_r7c5.map e_int)))] [(3, 3), (6, 6), (7, 7), (5014000, 5014000)] fol hH hnt (by kernel_rfl) (by kernel_rfl) (C := True) (by kernel_rfl) (trivial) (rfl)) ?_
        refine s_cond ((x1 == 4)) (by kernel_rfl) (fun hb => ?_) (fun hb => ?_)
        · replace h := ite_t hb h
          obtain ⟨g29_3_0, h⟩ := gd_some h
          refine s_regz (tr_reg false [.no, .no, .own false, .news ((([(-1)] : List Int)).map e_int)] [(1, .a (.c (.p (.v (.int .i64 x1))))), (2, .a (.c (.p (.v (.int .i64 x2))))), (3, .a (.c (.bx 3 0))), (6, .a (.c (.bx 6 0))), (7, .a (.c (.bx 7 0))), (8, .a (.c (.p (.v (.int .i64 v_14_8)))))] [(3, .box [.p (.v (.int .i64 x0.N)), .p (.sl 1 (x0.Out.map e_Lint))]), (6, .box [.p (.v (.int .i64 0)), .p (.v (.int .i64 0)), .p (.v (.int .i64 0)), .p (.v (.bool false)), .nl 1, .nl 1]), (7, .box [.p (.v (.int .i64 x1)), .p (.v (.int .i64 j_7_7c1)), .p (.v (.int .i64 0)), .p (.v (.bool false)), .nl 1, .vw 27 0 (((spRow (j_14_r7c5.map e_int)) ++ (spRow ((([(-1)] : List Int)).map e_int))).length)]), (27, .row 1 ((spRow (j_14_r7c5.map e_int)) ++ (spRow ((([(-1)] : List Int)).map e_int))))] [(3, 3), (6, 6), (7, 7), (27, 27)] fol hH hnt (by kernel_rfl) (by kernel_rfl) (C := (((spRow (([(-1)] : List Int).map e_int)).drop 0).take (([(-1)] : List Int).length) = spRow ((([(-1)] : List Int)).map e_int)) ∧ (j_14_r7c5.length = (spRow (j_14_r7c5.map e_int)).length ∧ ((spRow (j_14_r7c5.map e_int)).length + (spRow ((([(-1)] : List Int)).map e_int)).length) * 8 ≤ 140737488355328)) (by kernel_rfl) (⟨rowAll (rfl) (lenMap (rfl)), ⟨((rfl).trans (rowLen (f := e_int) (xs := j_14_r7c5) (rfl)).symm), (bnd2 (rowLen (f := e_int) (xs := j_14_r7c5) (rfl)) (rowLen (f := e_int) (xs := ([(-1)] : List Int)) (rfl)) g29_3_0).2⟩⟩) (S := mk [(1, .a (.c (.p (.v (.int .i64 x1))))), (2, .a (.c (.p (.v (.int .i64 x2))))), (3, .a (.c (.bx 3 0))), (6, .a (.c (.bx 6 0))), (7, .a (.c (.bx 7 0))), (8, .a (.c (.p (.v (.int .i64 v_14_8)))))] [(3, .box [.p (.v (.int .i64 x0.N)), .p (.sl 1 (x0.Out.map e_Lint))]), (6, .box [.p (.v (.int .i64 0)), .p (.v (.int .i64 0)), .p (.v (.int .i64 0)), .p (.v (.bool false)), .nl 1, .nl 1]), (7, .box [.p (.v (.int .i64 x1)), .p (.v (.int .i64 j_7_7c1)), .p (.v (.int .i64 0)), .p (.v (.bool false)), .nl 1, .vw 27 0 ((j_14_r7c5 ++ ([(-1)] : List Int)).length)]), (27, .row 1 (spRow ((j_14_r7c5 ++ ([(-1)] : List Int)).map e_int)))]) (he2 (fun q0 q1 => mk [(1, .a (.c (.p (.v (.int .i64 x1))))), (2, .a (.c (.p (.v (.int .i64 x2))))), (3, .a (.c (.bx 3 0))), (6, .a (.c (.bx 6 0))), (7, .a (.c (.bx 7 0))), (8, .a (.c (.p (.v (.int .i64 v_14_8)))))] [(3, .box [.p (.v (.int .i64 x0.N)), .p (.sl 1 (x0.Out.map e_Lint))]), (6, .box [.p (.v (.int .i64 0)), .p (.v (.int .i64 0)), .p (.v (.int .i64 0)), .p (.v (.bool false)), .nl 1, .nl 1]), (7, .box [.p (.v (.int .i64 x1)), .p (.v (.int .i64 j_7_7c1)), .p (.v (.int .i64 0)), .p (.v (.bool false)), .nl 1, .vw 27 0 q0]), (27, .row 1 (q1))]) (k0 := ((spRow (j_14_r7c5.map e_int)) ++ (spRow ((([(-1)] : List Int)).map e_int))).length) (p0 := (j_14_r7c5 ++ ([(-1)] : List Int)).length) ((rowLen (rowApp (f := e_int) (xs := j_14_r7c5) (ys := ([(-1)] : List Int)) (rfl) (rfl)) : ((spRow (j_14_r7c5.map e_int)) ++ (spRow ((([(-1)] : List Int)).map e_int))).length = (j_14_r7c5 ++ ([(-1)] : List Int)).length)) (k1 := (spRow (j_14_r7c5.map e_int)) ++ (spRow ((([(-1)] : List Int)).map e_int))) (p1 := spRow ((j_14_r7c5 ++ ([(-1)] : List Int)).map e_int)) (rowApp (f := e_int) (xs := j_14_r7c5) (ys := ([(-1)] : List Int)) (rfl) (rfl)))) (fun σ1 hs => ?_)
          refine s_subc hs ?_
          refine s_regz (tr_reg false [] [(1, .a (.c (.p (.v (.int .i64 x1))))), (2, .a (.c (.p (.v (.int .i64 x2))))), (3, .a (.c (.bx 3 0))), (6, .a (.c (.bx 6 0))), (7, .a (.c (.bx 7 0))), (8, .a (.c (.p (.v (.int .i64 (wr .i64 (v_14_8 + 1)))))))] [(3, .box [.p (.v (.int .i64 x0.N)), .p (.sl 1 (x0.Out.map e_Lint))]), (6, .box [.p (.v (.int .i64 0)), .p (.v (.int .i64 0)), .p (.v (.int .i64 0)), .p (.v (.bool false)), .nl 1, .nl 1]), (7, .box [.p (.v (.int .i64 x1)), .p (.v (.int .i64 j_7_7c1)), .p (.v (.int .i64 0)), .p (.v (.bool false)), .nl 1, .vw 27 0 ((j_14_r7c5 ++ ([(-1)] : List Int)).length)]), (27, .row 1 (spRow ((j_14_r7c5 ++ ([(-1)] : List Int)).map e_int)))] [(3, 3), (6, 6), (7, 7), (27, 27)] fol hH hnt (by kernel_rfl) (by kernel_rfl) (C := True) (by kernel_rfl) (trivial) (rfl)) (fun σ1 hs => ?_)
          exact ⟨_, ⟨j_14_r7c5 ++ ([(-1)] : List Int), wr .i64 (v_14_8 + 1), h, rfl⟩, hs.trans (sub_ren (l := [(1, .a (.c (.p (.v (.int .i64 x1))))), (2, .a (.c (.p (.v (.int .i64 x2))))), (3, .a (.c (.bx 3 0))), (6, .a (.c (.bx 6 0))), (7, .a (.c (.bx 7 0))), (8, .a (.c (.p (.v (.int .i64 (wr .i64 (v_14_8 + 1)))))))]) (o := [(3, .box [.p (.v (.int .i64 x0.N)), .p (.sl 1 (x0.Out.map e_Lint))]), (6, .box [.p (.v (.int .i64 0)), .p (.v (.int .i64 0)), .p (.v (.int .i64 0)), .p (.v (.bool false)), .nl 1, .nl 1]), (7, .box [.p (.v (.int .i64 x1)), .p (.v (.int .i64 j_7_7c1)), .p (.v (.int .i64 0)), .p (.v (.bool false)), .nl 1, .vw 5014000 0 ((j_14_r7c5 ++ ([(-1)] : List Int)).length)]), (5014000, .row 1 (spRow ((j_14_r7c5 ++ ([(-1)] : List Int)).map e_int)))]) [(3, 3), (6, 6), (7, 7), (5014000, 27)] hH (by kernel_rfl) (by kernel_rfl) rfl)⟩
        · replace h := ite_f hb h
          refine s_seq ?_
          refine s_reg (tr_reg false [] [(1, .a (.c (.p (.v (.int .i64 x1))))), (2, .a (.c (.p (.v (.int .i64 x2))))), (3, .a (.c (.bx 3 0))), (6, .a (.c (.bx 6 0))), (7, .a (.c (.bx 7 0))), (8, .a (.c (.p (.v (.int .i64 v_14_8))))), (29, .a (.c (.p (.v (.bool (x1 == 5))))))] [(3, .box [.p (.v (.int .i64 x0.N)), .p (.sl 1 (x0.Out.map e_Lint))]), (6, .box [.p (.v (.int .i64 0)), .p (.v (.int .i64 0)), .p (.v (.int .i64 0)), .p (.v (.bool false)), .nl 1, .nl 1]), (7, .box [.p (.v (.int .i64 x1)), .p (.v (.int .i64 j_7_7c1)), .p (.v (.int .i64 0)), .p (.v (.bool false)), .nl 1, .vw 5014000 0 j_14_r7c5.length]), (5014000, .row 1 (spRow (j_14_r7c5.map e_int)))] [(3, 3), (6, 6), (7, 7), (5014000, 5014000)] fol hH hnt (by kernel_rfl) (by kernel_rfl) (C := True) (by kernel_rfl) (trivial) (rfl)) ?_
          refine s_cond ((x1 == 5)) (by kernel_rfl) (fun hb => ?_) (fun hb => ?_)
          · replace h := ite_t hb h
            obtain ⟨g33_4_0, h⟩ := gd_some h
            refine s_regz (tr_reg false [.no, .no, .no, .own false, .news ((([v_14_8] : List Int)).map e_int)] [(1, .a (.c (.p (.v (.int .i64 x1))))), (2, .a (.c (.p (.v (.int .i64 x2))))), (3, .a (.c (.bx 3 0))), (6, .a (.c (.bx 6 0))), (7, .a (.c (.bx 7 0))), (8, .a (.c (.p (.v (.int .i64 v_14_8)))))] [(3, .box [.p (.v (.int .i64 x0.N)), .p (.sl 1 (x0.Out.map e_Lint))]), (6, .box [.p (.v (.int .i64 0)), .p (.v (.int .i64 0)), .p (.v (.int .i64 0)), .p (.v (.bool false)), .nl 1, .nl 1]), (7, .box [.p (.v (.int .i64 x1)), .p (.v (.int .i64 j_7_7c1)), .p (.v (.int .i64 0)), .p (.v (.bool false)), .nl 1, .vw 35 0 (((spRow (j_14_r7c5.map e_int)) ++ (spRow ((([v_14_8] : List Int)).map e_int))).length)]), (35, .row 1 ((spRow (j_14_r7c5.map e_int)) ++ (spRow ((([v_14_8] : List Int)).map e_int))))] [(3, 3), (6, 6), (7, 7), (35, 35)] fol hH hnt (by kernel_rfl) (by kernel_rfl) (C := (((spRow (([v_14_8] : List Int).map e_int)).drop 0).take (([v_14_8] : List Int).length) = spRow ((([v_14_8] : List Int)).map e_int)) ∧ (j_14_r7c5.length = (spRow (j_14_r7c5.map e_int)).length ∧ ((spRow (j_14_r7c5.map e_int)).length + (spRow ((([v_14_8] : List Int)).map e_int)).length) * 8 ≤ 140737488355328)) (by kernel_rfl) (⟨rowAll (rfl) (lenMap (rfl)), ⟨((rfl).trans (rowLen (f := e_int) (xs := j_14_r7c5) (rfl)).symm), (bnd2 (rowLen (f := e_int) (xs := j_14_r7c5) (rfl)) (rowLen (f := e_int) (xs := ([v_14_8] : List Int)) (rfl)) g33_4_0).2⟩⟩) (S := mk [(1, .a (.c (.p (.v (.int .i64 x1))))), (2, .a (.c (.p (.v (.int .i64 x2))))), (3, .a (.c (.bx 3 0))), (6, .a (.c (.bx 6 0))), (7, .a (.c (.bx 7 0))), (8, .a (.c (.p (.v (.int .i64 v_14_8)))))] [(3, .box [.p (.v (.int .i64 x0.N)), .p (.sl 1 (x0.Out.map e_Lint))]), (6, .box [.p (.v (.int .i64 0)), .p (.v (.int .i64 0)), .p (.v (.int .i64 0)), .p (.v (.bool false)), .nl 1, .nl 1]), (7, .box [.p (.v (.int .i64 x1)), .p (.v (.int .i64 j_7_7c1)), .p (.v (.int .i64 0)), .p (.v (.bool false)), .nl 1, .vw 35 0 ((j_14_r7c5 ++ ([v_14_8] : List Int)).length)]), (35, .row 1 (spRow ((j_14_r7c5 ++ ([v_14_8] : List Int)).map e_int)))]) (he2 (fun q0 q1 => mk [(1, .a (.c (.p (.v (.int .i64 x1))))), (2, .a (.c (.p (.v (.int .i64 x2))))), (3, .a (.c (.bx 3 0))), (6, .a (.c (.bx 6 0))), (7, .a (.c (.bx 7 0))), (8, .a (.c (.p (.v (.int .i64 v_14_8)))))] [(3, .box [.p (.v (.int .i64 x0.N)), .p (.sl 1 (x0.Out.map e_Lint))]), (6, .box [.p (.v (.int .i64 0)), .p (.v (.int .i64 0)), .p (.v (.int .i64 0)), .p (.v (.bool false)), .nl 1, .nl 1]), (7, .box [.p (.v (.int .i64 x1)), .p (.v (.int .i64 j_7_7c1)), .p (.v (.int .i64 0)), .p (.v (.bool false)), .nl 1, .vw 35 0 q0]), (35, .row 1 (q1))]) (k0 := ((spRow (j_14_r7c5.map e_int)) ++ (spRow ((([v_14_8] : List Int)).map e_int))).length) (p0 := (j_14_r7c5 ++ ([v_14_8] : List Int)).length) ((rowLen (rowApp (f := e_int) (xs := j_14_r7c5) (ys := ([v_14_8] : List Int)) (rfl) (rfl)) : ((spRow (j_14_r7c5.map e_int)) ++ (spRow ((([v_14_8] : List Int)).map e_int))).length = (j_14_r7c5 ++ ([v_14_8] : List Int)).length)) (k1 := (spRow (j_14_r7c5.map e_int)) ++ (spRow ((([v_14_8] : List Int)).map e_int))) (p1 := spRow ((j_14_r7c5 ++ ([v_14_8] : List Int)).map e_int)) (rowApp (f := e_int) (xs := j_14_r7c5) (ys := ([v_14_8] : List Int)) (rfl) (rfl)))) (fun σ1 hs => ?_)
            refine s_subc hs ?_
            refine s_regz (tr_reg false [] [(1, .a (.c (.p (.v (.int .i64 x1))))), (2, .a (.c (.p (.v (.int .i64 x2))))), (3, .a (.c (.bx 3 0))), (6, .a (.c (.bx 6 0))), (7, .a (.c (.bx 7 0))), (8, .a (.c (.p (.v (.int .i64 (wr .i64 (v_14_8 + 1)))))))] [(3, .box [.p (.v (.int .i64 x0.N)), .p (.sl 1 (x0.Out.map e_Lint))]), (6, .box [.p (.v (.int .i64 0)), .p (.v (.int .i64 0)), .p (.v (.int .i64 0)), .p (.v (.bool false)), .nl 1, .nl 1]), (7, .box [.p (.v (.int .i64 x1)), .p (.v (.int .i64 j_7_7c1)), .p (.v (.int .i64 0)), .p (.v (.bool false)), .nl 1, .vw 35 0 ((j_14_r7c5 ++ ([v_14_8] : List Int)).length)]), (35, .row 1 (spRow ((j_14_r7c5 ++ ([v_14_8] : List Int)).map e_int)))] [(3, 3), (6, 6), (7, 7), (35, 35)] fol hH hnt (by kernel_rfl) (by kernel_rfl) (C := True) (by kernel_rfl) (trivial) (rfl)) (fun σ1 hs => ?_)
            exact ⟨_, ⟨j_14_r7c5 ++ ([v_14_8] : List Int), wr .i64 (v_14_8 + 1), h, rfl⟩, hs.trans (sub_ren (l := [(1, .a (.c (.p (.v (.int .i64 x1))))), (2, .a (.c (.p (.v (.int .i64 x2))))), (3, .a (.c (.bx 3 0))), (6, .a (.c (.bx 6 0))), (7, .a (.c (.bx 7 0))), (8, .a (.c (.p (.v (.int .i64 (wr .i64 (v_14_8 + 1)))))))]) (o := [(3, .box [.p (.v (.int .i64 x0.N)), .p (.sl 1 (x0.Out.map e_Lint))]), (6, .box [.p (.v (.int .i64 0)), .p (.v (.int .i64 0)), .p (.v (.int .i64 0)), .p (.v (.bool false)), .nl 1, .nl 1]), (7, .box [.p (.v (.int .i64 x1)), .p (.v (.int .i64 j_7_7c1)), .p (.v (.int .i64 0)), .p (.v (.bool false)), .nl 1, .vw 5014000 0 ((j_14_r7c5 ++ ([v_14_8] : List Int)).length)]), (5014000, .row 1 (spRow ((j_14_r7c5 ++ ([v_14_8] : List Int)).map e_int)))]) [(3, 3), (6, 6), (7, 7), (5014000, 35)] hH (by kernel_rfl) (by kernel_rfl) rfl)⟩
          · replace h := ite_f hb h
            refine s_skip ?_
            refine s_regz (tr_reg false [] [(1, .a (.c (.p (.v (.int .i64 x1))))), (2, .a (.c (.p (.v (.int .i64 x2))))), (3, .a (.c (.bx 3 0))), (6, .a (.c (.bx 6 0))), (7, .a (.c (.bx 7 0))), (8, .a (.c (.p (.v (.int .i64 (wr .i64 (v_14_8 + 1)))))))] [(3, .box [.p (.v (.int .i64 x0.N)), .p (.sl 1 (x0.Out.map e_Lint))]), (6, .box [.p (.v (.int .i64 0)), .p (.v (.int .i64 0)), .p (.v (.int .i64 0)), .p (.v (.bool false)), .nl 1, .nl 1]), (7, .box [.p (.v (.int .i64 x1)), .p (.v (.int .i64 j_7_7c1)), .p (.v (.int .i64 0)), .p (.v (.bool false)), .nl 1, .vw 5014000 0 j_14_r7c5.length]), (5014000, .row 1 (spRow (j_14_r7c5.map e_int)))] [(3, 3), (6, 6), (7, 7), (5014000, 5014000)] fol hH hnt (by kernel_rfl) (by kernel_rfl) (C := True) (by kernel_rfl) (trivial) (rfl)) (fun σ1 hs => ?_)
            exact ⟨_, ⟨j_14_r7c5, wr .i64 (v_14_8 + 1), h, rfl⟩, hs.trans (Sub.refl)⟩
      · replace h := ite_f hb h
        refine s_exit ?_
        refine qr_exit ?_
        refine q_hit ?_
        refine s_seq ?_
        refine s_seq ?_
        refine s_reg (tr_reg false [] [(2, .a (.c (.p (.v (.int .i64 x2))))), (6, .a (.c (.bx 6 0))), (7, .a (.c (.bx 7 0))), (38, .a (.c (.p (.v (.bool (x1 == 4))))))] [(6, .box [.p (.v (.int .i64 0)), .p (.v (.int .i64 0)), .p (.v (.int .i64 0)), .p (.v (.bool false)), .nl 1, .nl 1]), (7, .box [.p (.v (.int .i64 x1)), .p (.v (.int .i64 j_7_7c1)), .p (.v (.int .i64 0)), .p (.v (.bool false)), .nl 1, .vw 5014000 0 j_14_r7c5.length]), (5014000, .row 1 (spRow (j_14_r7c5.map e_int)))] [(6, 6), (7, 7), (5014000, 5014000)] fol hH hnt (by kernel_rfl) (by kernel_rfl) (C := True) (by kernel_rfl) (trivial) (rfl)) ?_
        refine s_cond ((x1 == 4)) (by kernel_rfl) (fun hb => ?_) (fun hb => ?_)
        · replace h := ite_t hb h
          refine s_seq ?_
          obtain ⟨g41_3_0, h⟩ := gd_some h
          refine s_reg (tr_reg false [.no, .no, .no, .no, .rcs ((e_int (nth j_14_r7c5 x2)).map RC.s)] [(2, .a (.c (.p (.v (.int .i64 x2))))), (6, .a (.c (.bx 6 0))), (7, .a (.c (.bx 7 0)))] [(6, .box [.p (.v (.int .i64 0)), .p (.v (.int .i64 0)), .p (.v (.int .i64 0)), .p (.v (.bool false)), .nl 1, .nl 1]), (7, .box [.p (.v (.int .i64 x1)), .p (.v (.int .i64 j_7_7c1)), .p (.v (.int .i64 0)), .p (.v (.bool false)), .nl 1, .vw 5014000 0 j_14_r7c5.length]), (5014000, .row 1 ((spRow (j_14_r7c5.map e_int)).set (0 + (x2).toNat) ((e_int 0).map RC.s)))] [(6, 6), (7, 7), (5014000, 5014000)] fol hH hnt (by kernel_rfl) (by kernel_rfl) (C := (0 ≤ x2 ∧ x2 < ((j_14_r7c5.length : Nat) : Int)) ∧ ((spRow (j_14_r7c5.map e_int))[0 + (x2).toNat]? = some ((e_int (nth j_14_r7c5 x2)).map RC.s))) (by kernel_rfl) (⟨⟨g41_3_0.1, ltL (rfl) g41_3_0.2⟩, rowGet (rfl) g41_3_0.1 g41_3_0.2⟩) (S := mk [(2, .a (.c (.p (.v (.int .i64 x2))))), (6, .a (.c (.bx 6 0))), (7, .a (.c (.bx 7 0)))] [(6, .box [.p (.v (.int .i64 0)), .p (.v (.int .i64 0)), .p (.v (.int .i64 0)), .p (.v (.bool false)), .nl 1, .nl 1]), (7, .box [.p (.v (.int .i64 x1)), .p (.v (.int .i64 j_7_7c1)), .p (.v (.int .i64 0)), .p (.v (.bool false)), .nl 1, .vw 5014000 0 (((j_14_r7c5).set x2.toNat 0).length)]), (5014000, .row 1 (spRow (((j_14_r7c5).set x2.toNat 0).map e_int)))]) (he2 (fun q0 q1 => mk [(2, .a (.c (.p (.v (.int .i64 x2))))), (6, .a (.c (.bx 6 0))), (7, .a (.c (.bx 7 0)))] [(6, .box [.p (.v (.int .i64 0)), .p (.v (.int .i64 0)), .p (.v (.int .i64 0)), .p (.v (.bool false)), .nl 1, .nl 1]), (7, .box [.p (.v (.int .i64 x1)), .p (.v (.int .i64 j_7_7c1)), .p (.v (.int .i64 0)), .p (.v (.bool false)), .nl 1, .vw 5014000 0 q0]), (5014000, .row 1 (q1))]) (k0 := j_14_r7c5.length) (p0 := ((j_14_r7c5).set x2.toNat 0).length) (((List.length_set).symm : j_14_r7c5.length = ((j_14_r7c5).set x2.toNat 0).length)) (k1 := (spRow (j_14_r7c5.map e_int)).set (0 + (x2).toNat) ((e_int 0).map RC.s)) (p1 := spRow (((j_14_r7c5).set x2.toNat 0).map e_int)) (rowSet (rfl) x2 0))) ?_
          refine s_reg (tr_reg false [.no, .own false] [(6, .a (.c (.bx 6 0))), (7, .a (.c (.bx 7 0)))] [(6, .box [.p (.v (.int .i64 0)), .p (.v (.int .i64 0)), .p (.v (.int .i64 0)), .p (.v (.bool false)), .nl 1, .nl 1]), (7, .box [.p (.v (.int .i64 x1)), .p (.v (.int .i64 j_7_7c1)), .p (.v (.int .i64 0)), .p (.v (.bool false)), .vw 44 0 (([x2] : List Int).length), .vw 5014000 0 (((j_14_r7c5).set x2.toNat 0).length)]), (44, .row 1 (spRow (([x2] : List Int).map e_int))), (5014000, .row 1 (spRow (((j_14_r7c5).set x2.toNat 0).map e_int)))] [(6, 6), (7, 7), (44, 44), (5014000, 5014000)] fol hH hnt (by kernel_rfl) (by kernel_rfl) (C := True) (by kernel_rfl) (trivial) (rfl)) ?_
          refine s_seq ?_
          refine s_reg (tr_reg false [] [(6, .a (.c (.bx 6 0)))] [(6, .box [.p (.v (.int .i64 x1)), .p (.v (.int .i64 j_7_7c1)), .p (.v (.int .i64 0)), .p (.v (.bool false)), .vw 44 0 (([x2] : List Int).length), .vw 5014000 0 (((j_14_r7c5).set x2.toNat 0).length)]), (44, .row 1 (spRow (([x2] : List Int).map e_int))), (5014000, .row 1 (spRow (((j_14_r7c5).set x2.toNat 0).map e_int)))] [(6, 6), (44, 44), (5014000, 5014000)] fol hH hnt (by kernel_rfl) (by kernel_rfl) (C := True) (by kernel_rfl) (trivial) (rfl)) ?_
          refine s_ret ?_
          obtain rfl := Option.some.inj h
          exact ⟨.inr rfl, _, Sub.refl, out_of [(2000004, 44), (2000005, 5014000)] (by kernel_rfl) (by kernel_rfl) (by kernel_rfl)⟩
        · replace h := ite_f hb h
          refine s_skip ?_
          refine s_seq ?_
          refine s_reg (tr_reg false [] [(6, .a (.c (.bx 6 0)))] [(6, .box [.p (.v (.int .i64 x1)), .p (.v (.int .i64 j_7_7c1)), .p (.v (.int .i64 0)), .p (.v (.bool false)), .nl 1, .vw 5014000 0 j_14_r7c5.length]), (5014000, .row 1 (spRow (j_14_r7c5.map e_int)))] [(6, 6), (5014000, 5014000)] fol hH hnt (by kernel_rfl) (by kernel_rfl) (C := True) (by kernel_rfl) (trivial) (rfl)) ?_
          refine s_ret ?_
          obtain rfl := Option.some.inj h
          exact ⟨.inr rfl, _, sub_nilB (a := 6) (c := 4) (d := 8000000) (sz := 1) (l := [.p (.v (.int .i64 x1)), .p (.v (.int .i64 j_7_7c1)), .p (.v (.int .i64 0)), .p (.v (.bool false)), .nl 1, .vw 5014000 0 j_14_r7c5.length]) 1 (by kernel_rfl) (by kernel_rfl) (by kernel_rfl), out_of [(2000004, 8000000), (2000005, 5014000)] (by kernel_rfl) (by kernel_rfl) (by kernel_rfl)⟩
def herbariumref0_EqNumbers.A (x0 : List Int) (x1 : List Int) : List SV := [.a (.c (.p (.sl 1 (x0.map e_int)))), .a (.c (.p (.sl 1 (x1.map e_int))))]
def herbariumref0_EqNumbers.O0 (x0 : List Int) (x1 : List Int) : List (Nat × RS) := []
def herbariumref0_EqNumbers.R (r : Bool) : SV := .a (.c (.p (.v (.bool r))))
def herbariumref0_EqNumbers.O1 (r : Bool) : List (Nat × RS) := []
theorem herbariumref0_EqNumbers.nsR (r : Bool) : nsSV (herbariumref0_EqNumbers.R r) := by simp [herbariumref0_EqNumbers.R, nsSV, nsAV, nsCV, nsSP]
theorem herbariumref0_EqNumbers.nsO (r : Bool) : ∀ k, nsRS (ofL (herbariumref0_EqNumbers.O1 r) k) := by
  refine nsOf fun x hx => ?_
  simp only [herbariumref0_EqNumbers.O1, List.mem_cons, List.not_mem_nil, or_false] at hx
def herbariumref0_EqNumbers.l1 (K : Nat) (x0 : List Int) (x1 : List Int) : Nat → Int → Option Bool
  | 0, _ => none
  | k + 1, i_14_5 =>
    if decide (i_14_5 < (((x0).length : Nat) : Int)) then
      if 0 ≤ i_14_5 ∧ i_14_5 < ((x0).length : Int) then
      if 0 ≤ i_14_5 ∧ i_14_5 < ((x1).length : Int) then
      if ((nth x0 i_14_5) != (nth x1 i_14_5)) then
        some false
      else
        herbariumref0_EqNumbers.l1 K x0 x1 k (wr .i64 (i_14_5 + 1))
      else none
      else none
    else
      some true
def herbariumref0_EqNumbers (K : Nat) (x0 : List Int) (x1 : List Int) : Option Bool :=
  if ((((x0).length : Nat) : Int) != (((x1).length : Nat) : Int)) then
    some false
  else
    herbariumref0_EqNumbers.l1 K x0 x1 K 0
theorem herbariumref0_EqNumbers.ct (K : Nat) (x0 : List Int) (x1 : List Int) (r : Bool) (h : herbariumref0_EqNumbers K x0 x1 = some r) : Ct PP 61 (herbariumref0_EqNumbers.A x0 x1) (ofL (herbariumref0_EqNumbers.O0 x0 x1)) (herbariumref0_EqNumbers.R r) (ofL (herbariumref0_EqNumbers.O1 r)) := by
  unfold herbariumref0_EqNumbers at h
  refine ct_of (fn := Try.f61) (c := Try.f61.body.get!) (by kernel_rfl) (by kernel_rfl) [] (by kernel_rfl) (by kernel_rfl) (by kernel_rfl) fun Γ hnt hH => ?_
  refine s_seq ?_
  refine s_reg (tr_reg false [] [(0, .a (.c (.p (.sl 1 (x0.map e_int))))), (1, .a (.c (.p (.sl 1 (x1.map e_int)))))] [] [] fol hH hnt (by kernel_rfl) (by kernel_rfl) (C := True) (by kernel_rfl) (trivial) (rfl)) ?_
  refine s_seq ?_
  refine s_seq ?_
  refine s_reg (tr_reg false [.no, .val (.int .i64 (((x0).length : Nat) : Int)), .no, .val (.int .i64 (((x1).length : Nat) : Int))] [(0, .a (.c (.p (.sl 1 (x0.map e_int))))), (1, .a (.c (.p (.sl 1 (x1.map e_int))))), (10, .a (.c (.p (.v (.bool ((((x0).length : Nat) : Int) != (((x1).length : Nat) : Int)))))))] [] [] fol hH hnt (by kernel_rfl) (by kernel_rfl) (C := (Value.int .i64 (((x0.map e_int).length : Nat) : Int) = .int .i64 (((x0).length : Nat) : Int)) ∧ (Value.int .i64 (((x1.map e_int).length : Nat) : Int) = .int .i64 (((x1).length : Nat) : Int))) (by kernel_rfl) (⟨lenV (spLen (f := e_int) (xs := x0) (rfl)), lenV (spLen (f := e_int) (xs := x1) (rfl))⟩) (rfl)) ?_
  refine s_cond (((((x0).length : Nat) : Int) != (((x1).length : Nat) : Int))) (by kernel_rfl) (fun hb => ?_) (fun hb => ?_)
  · replace h := ite_t hb h
    refine s_seq ?_
    refine s_reg (tr_reg false [] [(4, .a (.c (.p (.v (.bool false)))))] [] [] fol hH hnt (by kernel_rfl) (by kernel_rfl) (C := True) (by kernel_rfl) (trivial) (rfl)) ?_
    refine s_ret ?_
    obtain rfl := Option.some.inj h
    exact ⟨.inr rfl, _, Sub.refl, out_of [] (by kernel_rfl) (by kernel_rfl) (by kernel_rfl)⟩
  · replace h := ite_f hb h
    refine s_skip ?_
    refine s_seq ?_
    refine s_seq ?_
    refine s_reg (tr_reg false [] [(0, .a (.c (.p (.sl 1 (x0.map e_int))))), (1, .a (.c (.p (.sl 1 (x1.map e_int))))), (5, .a (.c (.p (.v (.int .i64 0)))))] [] [] fol hH hnt (by kernel_rfl) (by kernel_rfl) (C := True) (by kernel_rfl) (trivial) (rfl)) ?_
    refine s_block ?_
    refine s_loop (fun k_l1 σ => ∃ (i_14_5 : Int), herbariumref0_EqNumbers.l1 K x0 x1 k_l1 i_14_5 = some r ∧ σ = mk [(0, .a (.c (.p (.sl 1 (x0.map e_int))))), (1, .a (.c (.p (.sl 1 (x1.map e_int))))), (5, .a (.c (.p (.v (.int .i64 i_14_5)))))] []) ?_ ?_ K ⟨0, h, rfl⟩
    · rintro _ ⟨i_14_5, h, _⟩
      simp [herbariumref0_EqNumbers.l1] at h
    · rintro k_l1 _ ⟨i_14_5, h, rfl⟩
      rw [herbariumref0_EqNumbers.l1] at h
      refine s_seq ?_
      refine s_seq ?_
      refine s_reg (tr_reg false [.no, .no, .val (.int .i64 (((x0).length : Nat) : Int))] [(0, .a (.c (.p (.sl 1 (x0.map e_int))))), (1, .a (.c (.p (.sl 1 (x1.map e_int))))), (5, .a (.c (.p (.v (.int .i64 i_14_5))))), (14, .a (.c (.p (.v (.bool (decide (i_14_5 < (((x0).length : Nat) : Int))))))))] [] [] fol hH hnt (by kernel_rfl) (by kernel_rfl) (C := Value.int .i64 (((x0.map e_int).length : Nat) : Int) = .int .i64 (((x0).length : Nat) : Int)) (by kernel_rfl) (lenV (spLen (f := e_int) (xs := x0) (rfl))) (rfl)) ?_
      refine s_cond (decide (i_14_5 < (((x0).length : Nat) : Int))) (by kernel_rfl) (fun hb => ?_) (fun hb => ?_)
      · replace h := ite_t hb h
        refine s_skip ?_
        refine s_seq ?_
        refine s_block ?_
        refine s_seq ?_
        obtain ⟨g24_2_0, h⟩ := gd_some h
        obtain ⟨g24_6_1, h⟩ := gd_some h
        refine s_reg (tr_reg true [.no, .no, .sps (e_int (nth x0 i_14_5)), .no, .no, .no, .sps (e_int (nth x1 i_14_5))] [(0, .a (.c (.p (.sl 1 (x0.map e_int))))), (1, .a (.c (.p (.sl 1 (x1.map e_int))))), (5, .a (.c (.p (.v (.int .i64 i_14_5))))), (25, .a (.c (.p (.v (.bool ((nth x0 i_14_5) != (nth x1 i_14_5)))))))] [] [] fol hH hnt (by kernel_rfl) (by kernel_rfl) (C := (0 ≤ i_14_5 ∧ (x0.map e_int)[(i_14_5).toNat]? = some (e_int (nth x0 i_14_5))) ∧ (0 ≤ i_14_5 ∧ (x1.map e_int)[(i_14_5).toNat]? = some (e_int (nth x1 i_14_5)))) (by kernel_rfl) (⟨⟨g24_2_0.1, spGet (rfl) g24_2_0.1 g24_2_0.2⟩, ⟨g24_6_1.1, spGet (rfl) g24_6_1.1 g24_6_1.2⟩⟩) (rfl)) ?_
        refine s_cond (((nth x0 i_14_5) != (nth x1 i_14_5))) (by kernel_rfl) (fun hb => ?_) (fun hb => ?_)
        · replace h := ite_t hb h
          refine s_seq ?_
          refine s_reg (tr_reg false [] [(4, .a (.c (.p (.v (.bool false)))))] [] [] fol hH hnt (by kernel_rfl) (by kernel_rfl) (C := True) (by kernel_rfl) (trivial) (rfl)) ?_
          refine s_ret ?_
          obtain rfl := Option.some.inj h
          exact ⟨.inr rfl, _, Sub.refl, out_of [] (by kernel_rfl) (by kernel_rfl) (by kernel_rfl)⟩
        · replace h := ite_f hb h
          refine s_skip ?_
          refine s_regz (tr_reg false [] [(0, .a (.c (.p (.sl 1 (x0.map e_int))))), (1, .a (.c (.p (.sl 1 (x1.map e_int))))), (5, .a (.c (.p (.v (.int .i64 (wr .i64 (i_14_5 + 1)))))))] [] [] fol hH hnt (by kernel_rfl) (by kernel_rfl) (C := True) (by kernel_rfl) (trivial) (rfl)) (fun σ1 hs => ?_)
          exact ⟨_, ⟨wr .i64 (i_14_5 + 1), h, rfl⟩, hs.trans (Sub.refl)⟩
      · replace h := ite_f hb h
        refine s_exit ?_
        refine qr_exit ?_
        refine q_hit ?_
        refine s_seq ?_
        refine s_reg (tr_reg false [] [(4, .a (.c (.p (.v (.bool true)))))] [] [] fol hH hnt (by kernel_rfl) (by kernel_rfl) (C := True) (by kernel_rfl) (trivial) (rfl)) ?_
        refine s_ret ?_
        obtain rfl := Option.some.inj h
        exact ⟨.inr rfl, _, Sub.refl, out_of [] (by kernel_rfl) (by kernel_rfl) (by kernel_rfl)⟩
def herbariumref0_EqJob.A (x0 : api_Job) (x1 : api_Job) : List SV := [.a (.agg [.p (.v (.int .i64 x0.Kind)), .p (.v (.int .i64 x0.A)), .p (.v (.int .i64 x0.At)), .p (.v (.bool x0.Move)), .p (.sl 1 (x0.List_.map e_int)), .p (.sl 1 (x0.Out.map e_int))]), .a (.agg [.p (.v (.int .i64 x1.Kind)), .p (.v (.int .i64 x1.A)), .p (.v (.int .i64 x1.At)), .p (.v (.bool x1.Move)), .p (.sl 1 (x1.List_.map e_int)), .p (.sl 1 (x1.Out.map e_int))])]
def herbariumref0_EqJob.O0 (x0 : api_Job) (x1 : api_Job) : List (Nat × RS) := []
def herbariumref0_EqJob.R (r : Bool) : SV := .a (.c (.p (.v (.bool r))))
def herbariumref0_EqJob.O1 (r : Bool) : List (Nat × RS) := []
theorem herbariumref0_EqJob.nsR (r : Bool) : nsSV (herbariumref0_EqJob.R r) := by simp [herbariumref0_EqJob.R, nsSV, nsAV, nsCV, nsSP]
theorem herbariumref0_EqJob.nsO (r : Bool) : ∀ k, nsRS (ofL (herbariumref0_EqJob.O1 r) k) := by
  refine nsOf fun x hx => ?_
  simp only [herbariumref0_EqJob.O1, List.mem_cons, List.not_mem_nil, or_false] at hx
def herbariumref0_EqJob (K : Nat) (x0 : api_Job) (x1 : api_Job) : Option Bool :=
  if (x0.Kind == x1.Kind) then
    if (x0.A == x1.A) then
      if (x0.At == x1.At) then
        if (x0.Move == x1.Move) then
          (herbariumref0_EqNumbers K x0.List_ x1.List_).bind fun r3_31 =>
          if r3_31 then
            (herbariumref0_EqNumbers K x0.Out x1.Out).bind fun r3_38 =>
            some r3_38
          else
            some false
        else
          some false
      else
        some false
    else
      some false
  else
    some false
theorem herbariumref0_EqJob.ct (K : Nat) (x0 : api_Job) (x1 : api_Job) (r : Bool) (h : herbariumref0_EqJob K x0 x1 = some r) : Ct PP 33 (herbariumref0_EqJob.A x0 x1) (ofL (herbariumref0_EqJob.O0 x0 x1)) (herbariumref0_EqJob.R r) (ofL (herbariumref0_EqJob.O1 r)) := by
  unfold herbariumref0_EqJob at h
  refine ct_of (fn := Try.f33) (c := Try.f33.body.get!) (by kernel_rfl) (by kernel_rfl) [] (by kernel_rfl) (by kernel_rfl) (by kernel_rfl) fun Γ hnt hH => ?_
  refine s_seq ?_
  refine s_reg (tr_reg false [] [(2, .a (.c (.bx 2 0))), (3, .a (.c (.bx 3 0)))] [(2, .box [.p (.v (.int .i64 x0.Kind)), .p (.v (.int .i64 x0.A)), .p (.v (.int .i64 x0.At)), .p (.v (.bool x0.Move)), .p (.sl 1 (x0.List_.map e_int)), .p (.sl 1 (x0.Out.map e_int))]), (3, .box [.p (.v (.int .i64 x1.Kind)), .p (.v (.int .i64 x1.A)), .p (.v (.int .i64 x1.At)), .p (.v (.bool x1.Move)), .p (.sl 1 (x1.List_.map e_int)), .p (.sl 1 (x1.Out.map e_int))])] [(2, 2), (3, 3)] fol hH hnt (by kernel_rfl) (by kernel_rfl) (C := True) (by kernel_rfl) (trivial) (rfl)) ?_
  refine s_seq ?_
  by_cases s3_5 : (x0.Kind == x1.Kind) = true
  · replace h := ite_t s3_5 h
    by_cases s3_12 : (x0.A == x1.A) = true
    · replace h := ite_t s3_12 h
      by_cases s3_19 : (x0.At == x1.At) = true
      · replace h := ite_t s3_19 h
        by_cases s3_26 : (x0.Move == x1.Move) = true
        · replace h := ite_t s3_26 h
          obtain ⟨r3_31, c3_31, h⟩ := bd_some h
          by_cases s3_33 : r3_31 = true
          · replace h := ite_t s3_33 h
            obtain ⟨r3_38, c3_38, h⟩ := bd_some h
            refine s_reg (tr_reg false [.no, .no, .no, .no, .no, .is true .no, .no, .no, .no, .no, .no, .no, .is true .no, .no, .no, .no, .no, .no, .no, .is true .no, .no, .no, .no, .no, .no, .no, .is true .no, .no, .no, .no, .no, .call ⟨herbariumref0_EqNumbers.A x0.List_ x1.List_, herbariumref0_EqNumbers.O0 x0.List_ x1.List_, [], [], herbariumref0_EqNumbers.R r3_31, herbariumref0_EqNumbers.O1 r3_31, []⟩, .no, .is true .no, .no, .no, .no, .no, .call ⟨herbariumref0_EqNumbers.A x0.Out x1.Out, herbariumref0_EqNumbers.O0 x0.Out x1.Out, [], [], herbariumref0_EqNumbers.R r3_38, herbariumref0_EqNumbers.O1 r3_38, []⟩] [(4, .a (.c (.p (.v (.bool r3_38)))))] [] [] fol hH hnt (by kernel_rfl) (by kernel_rfl) (C := ((x0.Kind == x1.Kind) = true) ∧ ((x0.A == x1.A) = true) ∧ ((x0.At == x1.At) = true) ∧ ((x0.Move == x1.Move) = true) ∧ (Ct PP 61 (herbariumref0_EqNumbers.A x0.List_ x1.List_) (ofL (herbariumref0_EqNumbers.O0 x0.List_ x1.List_)) (herbariumref0_EqNumbers.R r3_31) (ofL (herbariumref0_EqNumbers.O1 r3_31)) ∧ ((trCV [] (.p (.sl 1 (x0.List_.map e_int))) = some (.p (.sl 1 (x0.List_.map e_int)))) ∧ (trCV [] (.p (.sl 1 (x1.List_.map e_int))) = some (.p (.sl 1 (x1.List_.map e_int)))) ∧ (True)) ∧ ((True)) ∧ (([] : List Nat) = [] ∨ nsSV (herbariumref0_EqNumbers.R r3_31) ∧ nsAll ⟨herbariumref0_EqNumbers.A x0.List_ x1.List_, herbariumref0_EqNumbers.O0 x0.List_ x1.List_, [], [], herbariumref0_EqNumbers.R r3_31, herbariumref0_EqNumbers.O1 r3_31, []⟩ [])) ∧ (r3_31 = true) ∧ (Ct PP 61 (herbariumref0_EqNumbers.A x0.Out x1.Out) (ofL (herbariumref0_EqNumbers.O0 x0.Out x1.Out)) (herbariumref0_EqNumbers.R r3_38) (ofL (herbariumref0_EqNumbers.O1 r3_38)) ∧ ((trCV [] (.p (.sl 1 (x0.Out.map e_int))) = some (.p (.sl 1 (x0.Out.map e_int)))) ∧ (trCV [] (.p (.sl 1 (x1.Out.map e_int))) = some (.p (.sl 1 (x1.Out.map e_int)))) ∧ (True)) ∧ ((True)) ∧ (([] : List Nat) = [] ∨ nsSV (herbariumref0_EqNumbers.R r3_38) ∧ nsAll ⟨herbariumref0_EqNumbers.A x0.Out x1.Out, herbariumref0_EqNumbers.O0 x0.Out x1.Out, [], [], herbariumref0_EqNumbers.R r3_38, herbariumref0_EqNumbers.O1 r3_38, []⟩ []))) (by kernel_rfl) (⟨s3_5, s3_12, s3_19, s3_26, ⟨herbariumref0_EqNumbers.ct K x0.List_ x1.List_ _ c3_31, ⟨rfl, rfl, trivial⟩, trivial, Or.inl rfl⟩, s3_33, ⟨herbariumref0_EqNumbers.ct K x0.Out x1.Out _ c3_38, ⟨rfl, rfl, trivial⟩, trivial, Or.inl rfl⟩⟩) (rfl)) ?_
            refine s_ret ?_
            obtain rfl := Option.some.inj h
            exact ⟨.inr rfl, _, Sub.refl, out_of [] (by kernel_rfl) (by kernel_rfl) (by kernel_rfl)⟩
          · replace s3_33 := eq_false_of_ne_true s3_33
            replace h := ite_f s3_33 h
            refine s_reg (tr_reg false [.no, .no, .no, .no, .no, .is true .no, .no, .no, .no, .no, .no, .no, .is true .no, .no, .no, .no, .no, .no, .no, .is true .no, .no, .no, .no, .no, .no, .no, .is true .no, .no, .no, .no, .no, .call ⟨herbariumref0_EqNumbers.A x0.List_ x1.List_, herbariumref0_EqNumbers.O0 x0.List_ x1.List_, [], [], herbariumref0_EqNumbers.R r3_31, herbariumref0_EqNumbers.O1 r3_31, []⟩, .no, .is false .no] [(4, .a (.c (.p (.v (.bool false)))))] [] [] fol hH hnt (by kernel_rfl) (by kernel_rfl) (C := ((x0.Kind == x1.Kind) = true) ∧ ((x0.A == x1.A) = true) ∧ ((x0.At == x1.At) = true) ∧ ((x0.Move == x1.Move) = true) ∧ (Ct PP 61 (herbariumref0_EqNumbers.A x0.List_ x1.List_) (ofL (herbariumref0_EqNumbers.O0 x0.List_ x1.List_)) (herbariumref0_EqNumbers.R r3_31) (ofL (herbariumref0_EqNumbers.O1 r3_31)) ∧ ((trCV [] (.p (.sl 1 (x0.List_.map e_int))) = some (.p (.sl 1 (x0.List_.map e_int)))) ∧ (trCV [] (.p (.sl 1 (x1.List_.map e_int))) = some (.p (.sl 1 (x1.List_.map e_int)))) ∧ (True)) ∧ ((True)) ∧ (([] : List Nat) = [] ∨ nsSV (herbariumref0_EqNumbers.R r3_31) ∧ nsAll ⟨herbariumref0_EqNumbers.A x0.List_ x1.List_, herbariumref0_EqNumbers.O0 x0.List_ x1.List_, [], [], herbariumref0_EqNumbers.R r3_31, herbariumref0_EqNumbers.O1 r3_31, []⟩ [])) ∧ (r3_31 = false)) (by kernel_rfl) (⟨s3_5, s3_12, s3_19, s3_26, ⟨herbariumref0_EqNumbers.ct K x0.List_ x1.List_ _ c3_31, ⟨rfl, rfl, trivial⟩, trivial, Or.inl rfl⟩, s3_33⟩) (rfl)) ?_
            refine s_ret ?_
            obtain rfl := Option.some.inj h
            exact ⟨.inr rfl, _, Sub.refl, out_of [] (by kernel_rfl) (by kernel_rfl) (by kernel_rfl)⟩
        · replace s3_26 := eq_false_of_ne_true s3_26
          replace h := ite_f s3_26 h
          refine s_reg (tr_reg false [.no, .no, .no, .no, .no, .is true .no, .no, .no, .no, .no, .no, .no, .is true .no, .no, .no, .no, .no, .no, .no, .is true .no, .no, .no, .no, .no, .no, .no, .is false .no] [(4, .a (.c (.p (.v (.bool false)))))] [] [] fol hH hnt (by kernel_rfl) (by kernel_rfl) (C := ((x0.Kind == x1.Kind) = true) ∧ ((x0.A == x1.A) = true) ∧ ((x0.At == x1.At) = true) ∧ ((x0.Move == x1.Move) = false)) (by kernel_rfl) (⟨s3_5, s3_12, s3_19, s3_26⟩) (rfl)) ?_
          refine s_ret ?_
          obtain rfl := Option.some.inj h
          exact ⟨.inr rfl, _, Sub.refl, out_of [] (by kernel_rfl) (by kernel_rfl) (by kernel_rfl)⟩
      · replace s3_19 := eq_false_of_ne_true s3_19
        replace h := ite_f s3_19 h
        refine s_reg (tr_reg false [.no, .no, .no, .no, .no, .is true .no, .no, .no, .no, .no, .no, .no, .is true .no, .no, .no, .no, .no, .no, .no, .is false .no] [(4, .a (.c (.p (.v (.bool false)))))] [] [] fol hH hnt (by kernel_rfl) (by kernel_rfl) (C := ((x0.Kind == x1.Kind) = true) ∧ ((x0.A == x1.A) = true) ∧ ((x0.At == x1.At) = false)) (by kernel_rfl) (⟨s3_5, s3_12, s3_19⟩) (rfl)) ?_
        refine s_ret ?_
        obtain rfl := Option.some.inj h
        exact ⟨.inr rfl, _, Sub.refl, out_of [] (by kernel_rfl) (by kernel_rfl) (by kernel_rfl)⟩
    · replace s3_12 := eq_false_of_ne_true s3_12
      replace h := ite_f s3_12 h
      refine s_reg (tr_reg false [.no, .no, .no, .no, .no, .is true .no, .no, .no, .no, .no, .no, .no, .is false .no] [(4, .a (.c (.p (.v (.bool false)))))] [] [] fol hH hnt (by kernel_rfl) (by kernel_rfl) (C := ((x0.Kind == x1.Kind) = true) ∧ ((x0.A == x1.A) = false)) (by kernel_rfl) (⟨s3_5, s3_12⟩) (rfl)) ?_
      refine s_ret ?_
      obtain rfl := Option.some.inj h
      exact ⟨.inr rfl, _, Sub.refl, out_of [] (by kernel_rfl) (by kernel_rfl) (by kernel_rfl)⟩
  · replace s3_5 := eq_false_of_ne_true s3_5
    replace h := ite_f s3_5 h
    refine s_reg (tr_reg false [.no, .no, .no, .no, .no, .is false .no] [(4, .a (.c (.p (.v (.bool false)))))] [] [] fol hH hnt (by kernel_rfl) (by kernel_rfl) (C := (x0.Kind == x1.Kind) = false) (by kernel_rfl) (s3_5) (rfl)) ?_
    refine s_ret ?_
    obtain rfl := Option.some.inj h
    exact ⟨.inr rfl, _, Sub.refl, out_of [] (by kernel_rfl) (by kernel_rfl) (by kernel_rfl)⟩
def herbariumref10_Ended.A (x0 : api_Graph) (x1 : api_Job) : List SV := [.a (.agg [.p (.v (.int .i64 x0.N)), .p (.sl 1 (x0.Out.map e_Lint))]), .a (.agg [.p (.v (.int .i64 x1.Kind)), .p (.v (.int .i64 x1.A)), .p (.v (.int .i64 x1.At)), .p (.v (.bool x1.Move)), .p (.sl 1 (x1.List_.map e_int)), .p (.sl 1 (x1.Out.map e_int))])]
def herbariumref10_Ended.O0 (x0 : api_Graph) (x1 : api_Job) : List (Nat × RS) := []
def herbariumref10_Ended.R (r : Bool) : SV := .a (.c (.p (.v (.bool r))))
def herbariumref10_Ended.O1 (r : Bool) : List (Nat × RS) := []
theorem herbariumref10_Ended.nsR (r : Bool) : nsSV (herbariumref10_Ended.R r) := by simp [herbariumref10_Ended.R, nsSV, nsAV, nsCV, nsSP]
theorem herbariumref10_Ended.nsO (r : Bool) : ∀ k, nsRS (ofL (herbariumref10_Ended.O1 r) k) := by
  refine nsOf fun x hx => ?_
  simp only [herbariumref10_Ended.O1, List.mem_cons, List.not_mem_nil, or_false] at hx
def herbariumref10_Ended (K : Nat) (x0 : api_Graph) (x1 : api_Job) : Option Bool :=
  if (x1.Kind == 1) then
    some (decide (x1.At ≥ 1))
  else
    if (x1.Kind == 4) then
      some (decide (x1.At ≥ (((x1.List_).length : Nat) : Int)))
    else
      some (decide (x1.At ≥ x0.N))
theorem herbariumref10_Ended.ct (K : Nat) (x0 : api_Graph) (x1 : api_Job) (r : Bool) (h : herbariumref10_Ended K x0 x1 = some r) : Ct PP 37 (herbariumref10_Ended.A x0 x1) (ofL (herbariumref10_Ended.O0 x0 x1)) (herbariumref10_Ended.R r) (ofL (herbariumref10_Ended.O1 r)) := by
  unfold herbariumref10_Ended at h
  refine ct_of (fn := Try.f37) (c := Try.f37.body.get!) (by kernel_rfl) (by kernel_rfl) [] (by kernel_rfl) (by kernel_rfl) (by kernel_rfl) fun Γ hnt hH => ?_
  refine s_seq ?_
  refine s_reg (tr_reg false [] [(2, .a (.c (.bx 2 0))), (3, .a (.c (.bx 3 0)))] [(2, .box [.p (.v (.int .i64 x0.N)), .p (.sl 1 (x0.Out.map e_Lint))]), (3, .box [.p (.v (.int .i64 x1.Kind)), .p (.v (.int .i64 x1.A)), .p (.v (.int .i64 x1.At)), .p (.v (.bool x1.Move)), .p (.sl 1 (x1.List_.map e_int)), .p (.sl 1 (x1.Out.map e_int))])] [(2, 2), (3, 3)] fol hH hnt (by kernel_rfl) (by kernel_rfl) (C := True) (by kernel_rfl) (trivial) (rfl)) ?_
  refine s_seq ?_
  refine s_seq ?_
  refine s_reg (tr_reg false [] [(2, .a (.c (.bx 2 0))), (3, .a (.c (.bx 3 0))), (6, .a (.c (.p (.v (.int .i64 x1.Kind)))))] [(2, .box [.p (.v (.int .i64 x0.N)), .p (.sl 1 (x0.Out.map e_Lint))]), (3, .box [.p (.v (.int .i64 x1.Kind)), .p (.v (.int .i64 x1.A)), .p (.v (.int .i64 x1.At)), .p (.v (.bool x1.Move)), .p (.sl 1 (x1.List_.map e_int)), .p (.sl 1 (x1.Out.map e_int))])] [(2, 2), (3, 3)] fol hH hnt (by kernel_rfl) (by kernel_rfl) (C := True) (by kernel_rfl) (trivial) (rfl)) ?_
  refine s_block ?_
  refine s_seq ?_
  refine s_reg (tr_reg false [] [(2, .a (.c (.bx 2 0))), (3, .a (.c (.bx 3 0))), (6, .a (.c (.p (.v (.int .i64 x1.Kind))))), (7, .a (.c (.p (.v (.bool (x1.Kind == 1))))))] [(2, .box [.p (.v (.int .i64 x0.N)), .p (.sl 1 (x0.Out.map e_Lint))]), (3, .box [.p (.v (.int .i64 x1.Kind)), .p (.v (.int .i64 x1.A)), .p (.v (.int .i64 x1.At)), .p (.v (.bool x1.Move)), .p (.sl 1 (x1.List_.map e_int)), .p (.sl 1 (x1.Out.map e_int))])] [(2, 2), (3, 3)] fol hH hnt (by kernel_rfl) (by kernel_rfl) (C := True) (by kernel_rfl) (trivial) (rfl)) ?_
  refine s_cond ((x1.Kind == 1)) (by kernel_rfl) (fun hb => ?_) (fun hb => ?_)
  · replace h := ite_t hb h
    refine s_seq ?_
    refine s_reg (tr_reg false [] [(4, .a (.c (.p (.v (.bool (decide (x1.At ≥ 1)))))))] [] [] fol hH hnt (by kernel_rfl) (by kernel_rfl) (C := True) (by kernel_rfl) (trivial) (rfl)) ?_
    refine s_ret ?_
    obtain rfl := Option.some.inj h
    exact ⟨.inr rfl, _, Sub.refl, out_of [] (by kernel_rfl) (by kernel_rfl) (by kernel_rfl)⟩
  · replace h := ite_f hb h
    refine s_seq ?_
    refine s_reg (tr_reg false [] [(2, .a (.c (.bx 2 0))), (3, .a (.c (.bx 3 0))), (12, .a (.c (.p (.v (.bool (x1.Kind == 4))))))] [(2, .box [.p (.v (.int .i64 x0.N)), .p (.sl 1 (x0.Out.map e_Lint))]), (3, .box [.p (.v (.int .i64 x1.Kind)), .p (.v (.int .i64 x1.A)), .p (.v (.int .i64 x1.At)), .p (.v (.bool x1.Move)), .p (.sl 1 (x1.List_.map e_int)), .p (.sl 1 (x1.Out.map e_int))])] [(2, 2), (3, 3)] fol hH hnt (by kernel_rfl) (by kernel_rfl) (C := True) (by kernel_rfl) (trivial) (rfl)) ?_
    refine s_cond ((x1.Kind == 4)) (by kernel_rfl) (fun hb => ?_) (fun hb => ?_)
    · replace h := ite_t hb h
      refine s_seq ?_
      refine s_reg (tr_reg false [.no, .no, .no, .no, .val (.int .i64 (((x1.List_).length : Nat) : Int))] [(4, .a (.c (.p (.v (.bool (decide (x1.At ≥ (((x1.List_).length : Nat) : Int))))))))] [] [] fol hH hnt (by kernel_rfl) (by kernel_rfl) (C := Value.int .i64 (((x1.List_.map e_int).length : Nat) : Int) = .int .i64 (((x1.List_).length : Nat) : Int)) (by kernel_rfl) (lenV (spLen (f := e_int) (xs := x1.List_) (rfl))) (rfl)) ?_
      refine s_ret ?_
      obtain rfl := Option.some.inj h
      exact ⟨.inr rfl, _, Sub.refl, out_of [] (by kernel_rfl) (by kernel_rfl) (by kernel_rfl)⟩
    · replace h := ite_f hb h
      refine s_skip ?_
      refine s_seq ?_
      refine s_reg (tr_reg false [] [(4, .a (.c (.p (.v (.bool (decide (x1.At ≥ x0.N)))))))] [] [] fol hH hnt (by kernel_rfl) (by kernel_rfl) (C := True) (by kernel_rfl) (trivial) (rfl)) ?_
      refine s_ret ?_
      obtain rfl := Option.some.inj h
      exact ⟨.inr rfl, _, Sub.refl, out_of [] (by kernel_rfl) (by kernel_rfl) (by kernel_rfl)⟩
def herbariumref0_In.A (x0 : List Int) (x1 : Int) : List SV := [.a (.c (.p (.sl 1 (x0.map e_int)))), .a (.c (.p (.v (.int .i64 x1))))]
def herbariumref0_In.O0 (x0 : List Int) (x1 : Int) : List (Nat × RS) := []
def herbariumref0_In.R (r : Int) : SV := .a (.c (.p (.v (.int .i64 r))))
def herbariumref0_In.O1 (r : Int) : List (Nat × RS) := []
theorem herbariumref0_In.nsR (r : Int) : nsSV (herbariumref0_In.R r) := by simp [herbariumref0_In.R, nsSV, nsAV, nsCV, nsSP]
theorem herbariumref0_In.nsO (r : Int) : ∀ k, nsRS (ofL (herbariumref0_In.O1 r) k) := by
  refine nsOf fun x hx => ?_
  simp only [herbariumref0_In.O1, List.mem_cons, List.not_mem_nil, or_false] at hx
def herbariumref0_In.l1 (K : Nat) (x0 : List Int) (x1 : Int) : Nat → Int → Option Int
  | 0, _ => none
  | k + 1, i_6_5 =>
    if decide (i_6_5 < (((x0).length : Nat) : Int)) then
      if 0 ≤ i_6_5 ∧ i_6_5 < ((x0).length : Int) then
      if ((nth x0 i_6_5) == x1) then
        some i_6_5
      else
        herbariumref0_In.l1 K x0 x1 k (wr .i64 (i_6_5 + 1))
      else none
    else
      some (-1)
def herbariumref0_In (K : Nat) (x0 : List Int) (x1 : Int) : Option Int :=
  herbariumref0_In.l1 K x0 x1 K 0
theorem herbariumref0_In.ct (K : Nat) (x0 : List Int) (x1 : Int) (r : Int) (h : herbariumref0_In K x0 x1 = some r) : Ct PP 105 (herbariumref0_In.A x0 x1) (ofL (herbariumref0_In.O0 x0 x1)) (herbariumref0_In.R r) (ofL (herbariumref0_In.O1 r)) := by
  unfold herbariumref0_In at h
  refine ct_of (fn := Try.f105) (c := Try.f105.body.get!) (by kernel_rfl) (by kernel_rfl) [] (by kernel_rfl) (by kernel_rfl) (by kernel_rfl) fun Γ hnt hH => ?_
  refine s_seq ?_
  refine s_reg (tr_reg false [] [(0, .a (.c (.p (.sl 1 (x0.map e_int))))), (1, .a (.c (.p (.v (.int .i64 x1)))))] [] [] fol hH hnt (by kernel_rfl) (by kernel_rfl) (C := True) (by kernel_rfl) (trivial) (rfl)) ?_
  refine s_seq ?_
  refine s_seq ?_
  refine s_reg (tr_reg false [] [(0, .a (.c (.p (.sl 1 (x0.map e_int))))), (1, .a (.c (.p (.v (.int .i64 x1))))), (5, .a (.c (.p (.v (.int .i64 0)))))] [] [] fol hH hnt (by kernel_rfl) (by kernel_rfl) (C := True) (by kernel_rfl) (trivial) (rfl)) ?_
  refine s_block ?_
  refine s_loop (fun k_l1 σ => ∃ (i_6_5 : Int), herbariumref0_In.l1 K x0 x1 k_l1 i_6_5 = some r ∧ σ = mk [(0, .a (.c (.p (.sl 1 (x0.map e_int))))), (1, .a (.c (.p (.v (.int .i64 x1))))), (5, .a (.c (.p (.v (.int .i64 i_6_5)))))] []) ?_ ?_ K ⟨0, h, rfl⟩
  · rintro _ ⟨i_6_5, h, _⟩
    simp [herbariumref0_In.l1] at h
  · rintro k_l1 _ ⟨i_6_5, h, rfl⟩
    rw [herbariumref0_In.l1] at h
    refine s_seq ?_
    refine s_seq ?_
    refine s_reg (tr_reg false [.no, .no, .val (.int .i64 (((x0).length : Nat) : Int))] [(0, .a (.c (.p (.sl 1 (x0.map e_int))))), (1, .a (.c (.p (.v (.int .i64 x1))))), (5, .a (.c (.p (.v (.int .i64 i_6_5))))), (9, .a (.c (.p (.v (.bool (decide (i_6_5 < (((x0).length : Nat) : Int))))))))] [] [] fol hH hnt (by kernel_rfl) (by kernel_rfl) (C := Value.int .i64 (((x0.map e_int).length : Nat) : Int) = .int .i64 (((x0).length : Nat) : Int)) (by kernel_rfl) (lenV (spLen (f := e_int) (xs := x0) (rfl))) (rfl)) ?_
    refine s_cond (decide (i_6_5 < (((x0).length : Nat) : Int))) (by kernel_rfl) (fun hb => ?_) (fun hb => ?_)
    · replace h := ite_t hb h
      refine s_skip ?_
      refine s_seq ?_
      refine s_block ?_
      refine s_seq ?_
      obtain ⟨g16_2_0, h⟩ := gd_some h
      refine s_reg (tr_reg false [.no, .no, .sps (e_int (nth x0 i_6_5))] [(0, .a (.c (.p (.sl 1 (x0.map e_int))))), (1, .a (.c (.p (.v (.int .i64 x1))))), (5, .a (.c (.p (.v (.int .i64 i_6_5))))), (17, .a (.c (.p (.v (.bool ((nth x0 i_6_5) == x1))))))] [] [] fol hH hnt (by kernel_rfl) (by kernel_rfl) (C := 0 ≤ i_6_5 ∧ (x0.map e_int)[(i_6_5).toNat]? = some (e_int (nth x0 i_6_5))) (by kernel_rfl) (⟨g16_2_0.1, spGet (rfl) g16_2_0.1 g16_2_0.2⟩) (rfl)) ?_
      refine s_cond (((nth x0 i_6_5) == x1)) (by kernel_rfl) (fun hb => ?_) (fun hb => ?_)
      · replace h := ite_t hb h
        refine s_seq ?_
        refine s_reg (tr_reg false [] [(4, .a (.c (.p (.v (.int .i64 i_6_5)))))] [] [] fol hH hnt (by kernel_rfl) (by kernel_rfl) (C := True) (by kernel_rfl) (trivial) (rfl)) ?_
        refine s_ret ?_
        obtain rfl := Option.some.inj h
        exact ⟨.inr rfl, _, Sub.refl, out_of [] (by kernel_rfl) (by kernel_rfl) (by kernel_rfl)⟩
      · replace h := ite_f hb h
        refine s_skip ?_
        refine s_regz (tr_reg false [] [(0, .a (.c (.p (.sl 1 (x0.map e_int))))), (1, .a (.c (.p (.v (.int .i64 x1))))), (5, .a (.c (.p (.v (.int .i64 (wr .i64 (i_6_5 + 1)))))))] [] [] fol hH hnt (by kernel_rfl) (by kernel_rfl) (C := True) (by kernel_rfl) (trivial) (rfl)) (fun σ1 hs => ?_)
        exact ⟨_, ⟨wr .i64 (i_6_5 + 1), h, rfl⟩, hs.trans (Sub.refl)⟩
    · replace h := ite_f hb h
      refine s_exit ?_
      refine qr_exit ?_
      refine q_hit ?_
      refine s_seq ?_
      refine s_reg (tr_reg false [] [(4, .a (.c (.p (.v (.int .i64 (-1))))))] [] [] fol hH hnt (by kernel_rfl) (by kernel_rfl) (C := True) (by kernel_rfl) (trivial) (rfl)) ?_
      refine s_ret ?_
      obtain rfl := Option.some.inj h
      exact ⟨.inr rfl, _, Sub.refl, out_of [] (by kernel_rfl) (by kernel_rfl) (by kernel_rfl)⟩
def herbariumref10_Visit.A (x0 : api_Graph) (x1 : api_Job) : List SV := [.a (.agg [.p (.v (.int .i64 x0.N)), .p (.sl 1 (x0.Out.map e_Lint))]), .a (.agg [.p (.v (.int .i64 x1.Kind)), .p (.v (.int .i64 x1.A)), .p (.v (.int .i64 x1.At)), .p (.v (.bool x1.Move)), .p (.sl 1 (x1.List_.map e_int)), .p (.sl 1 (x1.Out.map e_int))])]
def herbariumref10_Visit.O0 (x0 : api_Graph) (x1 : api_Job) : List (Nat × RS) := []
def herbariumref10_Visit.R (r : api_Job) : SV := .a (.agg [.p (.v (.int .i64 r.Kind)), .p (.v (.int .i64 r.A)), .p (.v (.int .i64 r.At)), .p (.v (.bool r.Move)), .vw 2000004 0 r.List_.length, .vw 2000005 0 r.Out.length])
def herbariumref10_Visit.O1 (r : api_Job) : List (Nat × RS) := [(2000004, .row 1 (spRow (r.List_.map e_int))), (2000005, .row 1 (spRow (r.Out.map e_int)))]
theorem herbariumref10_Visit.nsR (r : api_Job) : nsSV (herbariumref10_Visit.R r) := by simp [herbariumref10_Visit.R, nsSV, nsAV, nsCV, nsSP]
theorem herbariumref10_Visit.nsO (r : api_Job) : ∀ k, nsRS (ofL (herbariumref10_Visit.O1 r) k) := by
  refine nsOf fun x hx => ?_
  simp only [herbariumref10_Visit.O1, List.mem_cons, List.not_mem_nil, or_false] at hx
  rcases hx with rfl | rfl
  · exact nsRow e_int_ns _
  · exact nsRow e_int_ns _
def herbariumref10_Visit.l1 (K : Nat) (r3_1 : api_Job) (x0 : api_Graph) : Nat → (List Int) → Option api_Job
  | 0, _ => none
  | k + 1, t_29_r3c5 =>
    if 0 ≤ r3_1.At ∧ r3_1.At < ((x0.Out).length : Int) then
    if decide (((t_29_r3c5.length : Nat) : Int) ≤ (((nth x0.Out r3_1.At).length : Nat) : Int)) then
      if ((t_29_r3c5).length + (([0] : List Int)).length) * 8 ≤ 140737488355328 then
      herbariumref10_Visit.l1 K r3_1 x0 k (t_29_r3c5 ++ ([0] : List Int))
      else none
    else
      if 0 ≤ r3_1.At ∧ r3_1.At < ((x0.Out).length : Int) then
      if 0 ≤ (((nth x0.Out r3_1.At).length : Nat) : Int) ∧ (((nth x0.Out r3_1.At).length : Nat) : Int) < ((t_29_r3c5.length : Nat) : Int) then
      if 0 ≤ (((nth x0.Out r3_1.At).length : Nat) : Int) ∧ (((nth x0.Out r3_1.At).length : Nat) : Int) < ((t_29_r3c5.length : Nat) : Int) then
      some (⟨r3_1.Kind, r3_1.A, wr .i64 (r3_1.At + 1), r3_1.Move, r3_1.List_, (t_29_r3c5).set (((nth x0.Out r3_1.At).length : Nat) : Int).toNat (wr .i64 ((nth t_29_r3c5 (((nth x0.Out r3_1.At).length : Nat) : Int)) + 1))⟩ : api_Job)
      else none
      else none
      else none
    else none
def herbariumref10_Visit.l2 (K : Nat) (r3_1 : api_Job) (x0 : api_Graph) : Nat → (List Int) → Int → Option api_Job
  | 0, _, _ => none
  | k + 1, t_45_r3c5, t_45_6 =>
    if 0 ≤ r3_1.At ∧ r3_1.At < ((x0.Out).length : Int) then
    if decide (t_45_6 < (((nth x0.Out r3_1.At).length : Nat) : Int)) then
      if 0 ≤ r3_1.At ∧ r3_1.At < ((x0.Out).length : Int) then
      if 0 ≤ t_45_6 ∧ t_45_6 < ((nth x0.Out r3_1.At).length : Int) then
      if ((t_45_r3c5).length + (([r3_1.At, nth (nth x0.Out r3_1.At) t_45_6] : List Int)).length) * 8 ≤ 140737488355328 then
      herbariumref10_Visit.l2 K r3_1 x0 k (t_45_r3c5 ++ ([r3_1.At, nth (nth x0.Out r3_1.At) t_45_6] : List Int)) (wr .i64 (t_45_6 + 1))
      else none
      else none
      else none
    else
      some (⟨r3_1.Kind, r3_1.A, wr .i64 (r3_1.At + 1), r3_1.Move, r3_1.List_, t_45_r3c5⟩ : api_Job)
    else none
def herbariumref10_Visit.l3 (K : Nat) (r3_1 : api_Job) (x0 : api_Graph) : Nat → (List Int) → (List Int) → Int → Option api_Job
  | 0, _, _, _ => none
  | k + 1, t_64_r3c4, t_64_r3c5, t_64_7 =>
    if 0 ≤ (nth r3_1.List_ r3_1.At) ∧ (nth r3_1.List_ r3_1.At) < ((x0.Out).length : Int) then
    if decide (t_64_7 < (((nth x0.Out (nth r3_1.List_ r3_1.At)).length : Nat) : Int)) then
      if 0 ≤ (nth r3_1.List_ r3_1.At) ∧ (nth r3_1.List_ r3_1.At) < ((x0.Out).length : Int) then
      if 0 ≤ t_64_7 ∧ t_64_7 < ((nth x0.Out (nth r3_1.List_ r3_1.At)).length : Int) then
      if 0 ≤ (nth (nth x0.Out (nth r3_1.List_ r3_1.At)) t_64_7) ∧ (nth (nth x0.Out (nth r3_1.List_ r3_1.At)) t_64_7) < ((t_64_r3c5.length : Nat) : Int) then
      if decide ((nth t_64_r3c5 (nth (nth x0.Out (nth r3_1.List_ r3_1.At)) t_64_7)) < 0) then
        if 0 ≤ (nth r3_1.List_ r3_1.At) ∧ (nth r3_1.List_ r3_1.At) < ((t_64_r3c5.length : Nat) : Int) then
        if 0 ≤ (nth (nth x0.Out (nth r3_1.List_ r3_1.At)) t_64_7) ∧ (nth (nth x0.Out (nth r3_1.List_ r3_1.At)) t_64_7) < ((t_64_r3c5.length : Nat) : Int) then
        if ((t_64_r3c4).length + (([nth (nth x0.Out (nth r3_1.List_ r3_1.At)) t_64_7] : List Int)).length) * 8 ≤ 140737488355328 then
        herbariumref10_Visit.l3 K r3_1 x0 k (t_64_r3c4 ++ ([nth (nth x0.Out (nth r3_1.List_ r3_1.At)) t_64_7] : List Int)) ((t_64_r3c5).set (nth (nth x0.Out (nth r3_1.List_ r3_1.At)) t_64_7).toNat (wr .i64 ((nth t_64_r3c5 (nth r3_1.List_ r3_1.At)) + 1))) (wr .i64 (t_64_7 + 1))
        else none
        else none
        else none
      else
        herbariumref10_Visit.l3 K r3_1 x0 k t_64_r3c4 t_64_r3c5 (wr .i64 (t_64_7 + 1))
      else none
      else none
      else none
    else
      some (⟨r3_1.Kind, r3_1.A, wr .i64 (r3_1.At + 1), r3_1.Move, t_64_r3c4, t_64_r3c5⟩ : api_Job)
    else none
def herbariumref10_Visit.j5 (K : Nat) (go_l4 : Bool → (List Int) → Int → Option api_Job) (r3_1 : api_Job) (t_87_9 : Int) (t_87_r3c5 : List Int) (x0 : api_Graph) (t_99_3c3 : Bool) : Option api_Job :=
  if 0 ≤ r3_1.At ∧ r3_1.At < ((t_87_r3c5.length : Nat) : Int) then
  if 0 ≤ (nth (nth x0.Out r3_1.At) t_87_9) ∧ (nth (nth x0.Out r3_1.At) t_87_9) < ((t_87_r3c5.length : Nat) : Int) then
  if 0 ≤ r3_1.At ∧ r3_1.At < ((t_87_r3c5.length : Nat) : Int) then
  if 0 ≤ (nth (nth x0.Out r3_1.At) t_87_9) ∧ (nth (nth x0.Out r3_1.At) t_87_9) < ((t_87_r3c5.length : Nat) : Int) then
  go_l4 t_99_3c3 ((((t_87_r3c5).set r3_1.At.toNat (if (nth t_87_r3c5 (nth (nth x0.Out r3_1.At) t_87_9)) < (nth t_87_r3c5 r3_1.At) then (nth t_87_r3c5 (nth (nth x0.Out r3_1.At) t_87_9)) else (nth t_87_r3c5 r3_1.At)))).set (nth (nth x0.Out r3_1.At) t_87_9).toNat (if (nth t_87_r3c5 (nth (nth x0.Out r3_1.At) t_87_9)) < (nth t_87_r3c5 r3_1.At) then (nth t_87_r3c5 (nth (nth x0.Out r3_1.At) t_87_9)) else (nth t_87_r3c5 r3_1.At))) (wr .i64 (t_87_9 + 1))
  else none
  else none
  else none
  else none
def herbariumref10_Visit.l4 (K : Nat) (r3_1 : api_Job) (x0 : api_Graph) : Nat → Bool → (List Int) → Int → Option api_Job
  | 0, _, _, _ => none
  | k + 1, t_87_3c3, t_87_r3c5, t_87_9 =>
    if 0 ≤ r3_1.At ∧ r3_1.At < ((x0.Out).length : Int) then
    if decide (t_87_9 < (((nth x0.Out r3_1.At).length : Nat) : Int)) then
      if 0 ≤ r3_1.At ∧ r3_1.At < ((x0.Out).length : Int) then
      if 0 ≤ t_87_9 ∧ t_87_9 < ((nth x0.Out r3_1.At).length : Int) then
      if t_87_3c3 then
        herbariumref10_Visit.j5 K (herbariumref10_Visit.l4 K r3_1 x0 k) r3_1 t_87_9 t_87_r3c5 x0 true
      else
        if 0 ≤ r3_1.At ∧ r3_1.At < ((t_87_r3c5.length : Nat) : Int) then
        if 0 ≤ (nth (nth x0.Out r3_1.At) t_87_9) ∧ (nth (nth x0.Out r3_1.At) t_87_9) < ((t_87_r3c5.length : Nat) : Int) then
        herbariumref10_Visit.j5 K (herbariumref10_Visit.l4 K r3_1 x0 k) r3_1 t_87_9 t_87_r3c5 x0 ((nth t_87_r3c5 r3_1.At) != (nth t_87_r3c5 (nth (nth x0.Out r3_1.At) t_87_9)))
        else none
        else none
      else none
      else none
    else
      if decide ((wr .i64 (r3_1.At + 1)) ≥ x0.N) then
        if t_87_3c3 then
          some (⟨r3_1.Kind, r3_1.A, 0, false, r3_1.List_, t_87_r3c5⟩ : api_Job)
        else
          some (⟨r3_1.Kind, r3_1.A, wr .i64 (r3_1.At + 1), t_87_3c3, r3_1.List_, t_87_r3c5⟩ : api_Job)
      else
        some (⟨r3_1.Kind, r3_1.A, wr .i64 (r3_1.At + 1), t_87_3c3, r3_1.List_, t_87_r3c5⟩ : api_Job)
    else none
def herbariumref10_Visit (K : Nat) (x0 : api_Graph) (x1 : api_Job) : Option api_Job :=
  (herbariumref0_CopyJob K x1).bind fun r3_1 =>
  if (r3_1.Kind == 1) then
    if 0 ≤ r3_1.A ∧ r3_1.A < ((x0.Out).length : Int) then
    (herbariumref0_CopyNumbers K (nth x0.Out r3_1.A)).bind fun r15_6 =>
    some (⟨r3_1.Kind, r3_1.A, wr .i64 (r3_1.At + 1), r3_1.Move, r3_1.List_, r15_6⟩ : api_Job)
    else none
  else
    if (r3_1.Kind == 2) then
      if 0 ≤ r3_1.At ∧ r3_1.At < ((x0.Out).length : Int) then
      (herbariumref0_In K (nth x0.Out r3_1.At) r3_1.A).bind fun r20_7 =>
      if decide (r20_7 ≥ 0) then
        if ((r3_1.Out).length + (([r3_1.At] : List Int)).length) * 8 ≤ 140737488355328 then
        some (⟨r3_1.Kind, r3_1.A, wr .i64 (r3_1.At + 1), r3_1.Move, r3_1.List_, r3_1.Out ++ ([r3_1.At] : List Int)⟩ : api_Job)
        else none
      else
        some (⟨r3_1.Kind, r3_1.A, wr .i64 (r3_1.At + 1), r3_1.Move, r3_1.List_, r3_1.Out⟩ : api_Job)
      else none
    else
      if (r3_1.Kind == 3) then
        herbariumref10_Visit.l1 K r3_1 x0 K r3_1.Out
      else
        if (r3_1.Kind == 6) then
          herbariumref10_Visit.l2 K r3_1 x0 K r3_1.Out 0
        else
          if (r3_1.Kind == 4) then
            if 0 ≤ r3_1.At ∧ r3_1.At < ((r3_1.List_.length : Nat) : Int) then
            herbariumref10_Visit.l3 K r3_1 x0 K r3_1.List_ r3_1.Out 0
            else none
          else
            herbariumref10_Visit.l4 K r3_1 x0 K r3_1.Move r3_1.Out 0
end Go.XM
