import Derived.Test.YtpknehjdfjpikaaGaY0
import Derived.Test.YtpknehjdfjpikaaProg
set_option linter.all false
section
namespace Go.XM
open Go.Proofs
noncomputable section
set_option maxRecDepth 100000
noncomputable abbrev PP := Try.prog
theorem fol : PP.follows .mixedOrders = true := by kernel_rfl
def tys : List (Nat × Option Ty) := [(3, some (.int .i64)), (25, some Ty_herbariumlaw6_Script), (27, some (.sl (.int .i64))), (34, some Ty_api_Graph), (71, some Ty_api_Pair), (105, some Ty_herbariumlaw6_Act)]
def herbariumlaw0_Lists.l1.M : Tm := ⟨[(0, .c (.p (.sl (.sl (.int .i64))) true (1, 0))), (3, .c (.p (.int .i64) false (10, 0))), (4, .c (.p (.int .i64) false (11, 0)))], [], [(1, herbariumlaw0_Lists.sg.A)]⟩
def herbariumlaw0_Lists.C (K : Nat) : CE := ⟨⟨PP, tys⟩, [], [], K, [], [], [], 25, []⟩
def herbariumlaw0_Lists.lt (K : Nat) : LT herbariumlaw0_Lists.sg.R.D := .two .t (.two .t (.two (.two .t (.one (.loop herbariumlaw0_Lists.l1.M (fun n c p => herbariumlaw0_Lists.l1 K c n p.1 p.2) (fun nl1 => .t)))) .t))
theorem herbariumlaw0_Lists.ct (K : Nat) : CtX PP 116 herbariumlaw0_Lists.sg (fun x => herbariumlaw0_Lists K x) := ct_x (C := herbariumlaw0_Lists.C K) (fn := Try.f116) (c := Try.f116.body.get!) (lt := (herbariumlaw0_Lists.lt K)) fol (by kernel_rfl) (by kernel_rfl) rfl (fun x => (by kernel_rfl)) (ok_two ok_t (ok_two ok_t (ok_two (ok_two ok_t (ok_block (ok_loop (fun c p => (by kernel_rfl)) (fun nl1 => ⟨fun c p => (by kernel_rfl), ok_t⟩)))) ok_t))) (fun x => (by kernel_rfl))
def herbariumlaw0_Lists.fx (K : Nat) : FX PP := ⟨116, herbariumlaw0_Lists.sg, _, herbariumlaw0_Lists.ct K⟩
def herbariumlaw0_GraphsWeight.l1.M : Tm := ⟨[(0, .c (.p (.sl Ty_api_Graph) true (1, 0))), (3, .c (.p (.int .i64) false (10, 0))), (4, .c (.p (.int .i64) false (11, 0)))], [], [(1, herbariumlaw0_GraphsWeight.sg.A)]⟩
def herbariumlaw0_GraphsWeight.C (K : Nat) : CE := ⟨⟨PP, tys⟩, [(116, some (herbariumlaw0_Lists.fx K))], [], K, [], [], [], 26, []⟩
def herbariumlaw0_GraphsWeight.lt (K : Nat) : LT herbariumlaw0_GraphsWeight.sg.R.D := .two .t (.two .t (.two (.two .t (.one (.loop herbariumlaw0_GraphsWeight.l1.M (fun n c p => herbariumlaw0_GraphsWeight.l1 K c n p.1 p.2) (fun nl1 => .t)))) .t))
theorem herbariumlaw0_GraphsWeight.ct (K : Nat) : CtX PP 93 herbariumlaw0_GraphsWeight.sg (fun x => herbariumlaw0_GraphsWeight K x) := ct_x (C := herbariumlaw0_GraphsWeight.C K) (fn := Try.f93) (c := Try.f93.body.get!) (lt := (herbariumlaw0_GraphsWeight.lt K)) fol (by kernel_rfl) (by kernel_rfl) rfl (fun x => (by kernel_rfl)) (ok_two ok_t (ok_two ok_t (ok_two (ok_two ok_t (ok_block (ok_loop (fun c p => (by kernel_rfl)) (fun nl1 => ⟨fun c p => (by kernel_rfl), ok_t⟩)))) ok_t))) (fun x => (by kernel_rfl))
def herbariumlaw0_GraphsWeight.fx (K : Nat) : FX PP := ⟨93, herbariumlaw0_GraphsWeight.sg, _, herbariumlaw0_GraphsWeight.ct K⟩
def herbariumlaw6_Heavy.C (K : Nat) : CE := ⟨⟨PP, tys⟩, [(93, some (herbariumlaw0_GraphsWeight.fx K))], [], K, [], [], [], 11, []⟩
theorem herbariumlaw6_Heavy.ct (K : Nat) : CtX PP 52 herbariumlaw6_Heavy.sg (fun x => herbariumlaw6_Heavy K x) := ct_x (C := herbariumlaw6_Heavy.C K) (fn := Try.f52) (c := Try.f52.body.get!) (lt := .t) fol (by kernel_rfl) (by kernel_rfl) rfl (fun x => (by kernel_rfl)) (ok_t) (fun x => (by kernel_rfl))
def herbariumlaw6_Heavy.fx (K : Nat) : FX PP := ⟨52, herbariumlaw6_Heavy.sg, _, herbariumlaw6_Heavy.ct K⟩
def herbariumref0_CopyNumbers.l1.M : Tm := ⟨[(0, .c (.p (.sl (.int .i64)) true (1, 0))), (3, .c (.vf 5008000)), (4, .c (.p (.int .i64) false (10, 0)))], [(5008000, .row (.int .i64) false false (11, 0))], [(1, herbariumref0_CopyNumbers.sg.A)]⟩
def herbariumref0_CopyNumbers.C (K : Nat) : CE := ⟨⟨PP, tys⟩, [], [], K, [], [], [], 19, []⟩
def herbariumref0_CopyNumbers.lt (K : Nat) : LT herbariumref0_CopyNumbers.sg.R.D := .two .t (.two .t (.two (.two .t (.one (.loop herbariumref0_CopyNumbers.l1.M (fun n c p => herbariumref0_CopyNumbers.l1 K c n p.1 p.2) (fun nl1 => .t)))) .t))
theorem herbariumref0_CopyNumbers.ct (K : Nat) : CtX PP 67 herbariumref0_CopyNumbers.sg (fun x => herbariumref0_CopyNumbers K x) := ct_x (C := herbariumref0_CopyNumbers.C K) (fn := Try.f67) (c := Try.f67.body.get!) (lt := (herbariumref0_CopyNumbers.lt K)) fol (by kernel_rfl) (by kernel_rfl) rfl (fun x => (by kernel_rfl)) (ok_two ok_t (ok_two ok_t (ok_two (ok_two ok_t (ok_block (ok_loop (fun c p => (by kernel_rfl)) (fun nl1 => ⟨fun c p => (by kernel_rfl), ok_t⟩)))) ok_t))) (fun x => (by kernel_rfl))
def herbariumref0_CopyNumbers.fx (K : Nat) : FX PP := ⟨67, herbariumref0_CopyNumbers.sg, _, herbariumref0_CopyNumbers.ct K⟩
def herbariumref0_CopyNumberLists.l1.M : Tm := ⟨[(0, .c (.p (.sl (.sl (.int .i64))) true (1, 0))), (3, .c (.vf 5008000)), (4, .c (.p (.int .i64) false (10, 0)))], [(5008000, .row (.sl (.int .i64)) false false (11, 0))], [(1, herbariumref0_CopyNumberLists.sg.A)]⟩
def herbariumref0_CopyNumberLists.C (K : Nat) : CE := ⟨⟨PP, tys⟩, [(67, some (herbariumref0_CopyNumbers.fx K))], [], K, [], [], [], 20, []⟩
def herbariumref0_CopyNumberLists.lt (K : Nat) : LT herbariumref0_CopyNumberLists.sg.R.D := .two .t (.two .t (.two (.two .t (.one (.loop herbariumref0_CopyNumberLists.l1.M (fun n c p => herbariumref0_CopyNumberLists.l1 K c n p.1 p.2) (fun nl1 => .t)))) .t))
theorem herbariumref0_CopyNumberLists.ct (K : Nat) : CtX PP 71 herbariumref0_CopyNumberLists.sg (fun x => herbariumref0_CopyNumberLists K x) := ct_x (C := herbariumref0_CopyNumberLists.C K) (fn := Try.f71) (c := Try.f71.body.get!) (lt := (herbariumref0_CopyNumberLists.lt K)) fol (by kernel_rfl) (by kernel_rfl) rfl (fun x => (by kernel_rfl)) (ok_two ok_t (ok_two ok_t (ok_two (ok_two ok_t (ok_block (ok_loop (fun c p => (by kernel_rfl)) (fun nl1 => ⟨fun c p => (by kernel_rfl), ok_t⟩)))) ok_t))) (fun x => (by kernel_rfl))
def herbariumref0_CopyNumberLists.fx (K : Nat) : FX PP := ⟨71, herbariumref0_CopyNumberLists.sg, _, herbariumref0_CopyNumberLists.ct K⟩
def herbariumref0_CopyGraph.C (K : Nat) : CE := ⟨⟨PP, tys⟩, [(71, some (herbariumref0_CopyNumberLists.fx K))], [], K, [], [], [], 10, []⟩
theorem herbariumref0_CopyGraph.ct (K : Nat) : CtX PP 27 herbariumref0_CopyGraph.sg (fun x => herbariumref0_CopyGraph K x) := ct_x (C := herbariumref0_CopyGraph.C K) (fn := Try.f27) (c := Try.f27.body.get!) (lt := .t) fol (by kernel_rfl) (by kernel_rfl) rfl (fun x => (by kernel_rfl)) (ok_t) (fun x => (by kernel_rfl))
def herbariumref0_CopyGraph.fx (K : Nat) : FX PP := ⟨27, herbariumref0_CopyGraph.sg, _, herbariumref0_CopyGraph.ct K⟩
def herbariumref0_Num.C (K : Nat) : CE := ⟨⟨PP, tys⟩, [], [], K, [], [], [], 12, []⟩
theorem herbariumref0_Num.ct (K : Nat) : CtX PP 34 herbariumref0_Num.sg (fun x => herbariumref0_Num K x.1 x.2) := ct_x (C := herbariumref0_Num.C K) (fn := Try.f34) (c := Try.f34.body.get!) (lt := .t) fol (by kernel_rfl) (by kernel_rfl) rfl (fun x => (by kernel_rfl)) (ok_t) (fun x => (by kernel_rfl))
def herbariumref0_Num.fx (K : Nat) : FX PP := ⟨34, herbariumref0_Num.sg, _, herbariumref0_Num.ct K⟩
def herbariumref3_Origin.C (K : Nat) : CE := ⟨⟨PP, tys⟩, [(34, some (herbariumref0_Num.fx K))], [], K, [], [], [], 5, []⟩
theorem herbariumref3_Origin.ct (K : Nat) : CtX PP 106 herbariumref3_Origin.sg (fun x => herbariumref3_Origin K x) := ct_x (C := herbariumref3_Origin.C K) (fn := Try.f106) (c := Try.f106.body.get!) (lt := .t) fol (by kernel_rfl) (by kernel_rfl) rfl (fun x => (by kernel_rfl)) (ok_t) (fun x => (by kernel_rfl))
def herbariumref3_Origin.fx (K : Nat) : FX PP := ⟨106, herbariumref3_Origin.sg, _, herbariumref3_Origin.ct K⟩
def herbariumref3_May.l1.M : Tm := ⟨[(0, .c (.p (.sl (.int .i64)) true (1, 0))), (3, .c (.p (.int .i64) false (10, 0)))], [], [(1, herbariumref3_May.sg.A)]⟩
def herbariumref3_May.C (K : Nat) : CE := ⟨⟨PP, tys⟩, [(106, some (herbariumref3_Origin.fx K))], [], K, [], [], [], 39, []⟩
def herbariumref3_May.lt (K : Nat) : LT herbariumref3_May.sg.R.D := .two .t (.two (.two .t (.one (.loop herbariumref3_May.l1.M (fun n c p => herbariumref3_May.l1 K c n p) (fun nl1 => .t)))) .t)
theorem herbariumref3_May.ct (K : Nat) : CtX PP 72 herbariumref3_May.sg (fun x => herbariumref3_May K x) := ct_x (C := herbariumref3_May.C K) (fn := Try.f72) (c := Try.f72.body.get!) (lt := (herbariumref3_May.lt K)) fol (by kernel_rfl) (by kernel_rfl) rfl (fun x => (by kernel_rfl)) (ok_two ok_t (ok_two (ok_two ok_t (ok_block (ok_loop (fun c p => (by kernel_rfl)) (fun nl1 => ⟨fun c p => (by kernel_rfl), ok_t⟩)))) ok_t)) (fun x => (by kernel_rfl))
def herbariumref3_May.fx (K : Nat) : FX PP := ⟨72, herbariumref3_May.sg, _, herbariumref3_May.ct K⟩
def herbariumref6_Edges.l1.M : Tm := ⟨[(1, .c (.bx 5008000 0)), (3, .c (.p (.int .i64) false (10, 0))), (4, .c (.p (.int .i64) false (11, 0)))], [(5008000, .box [.p (.int .i64) true (1, 0), .p (.sl (.sl (.int .i64))) true (1, 1)])], [(1, herbariumref6_Edges.sg.A)]⟩
def herbariumref6_Edges.C (K : Nat) : CE := ⟨⟨PP, tys⟩, [], [], K, [], [], [], 21, []⟩
def herbariumref6_Edges.lt (K : Nat) : LT herbariumref6_Edges.sg.R.D := .two .t (.two .t (.two (.two .t (.one (.loop herbariumref6_Edges.l1.M (fun n c p => herbariumref6_Edges.l1 K c n p.1 p.2) (fun nl1 => .t)))) .t))
theorem herbariumref6_Edges.ct (K : Nat) : CtX PP 54 herbariumref6_Edges.sg (fun x => herbariumref6_Edges K x) := ct_x (C := herbariumref6_Edges.C K) (fn := Try.f54) (c := Try.f54.body.get!) (lt := (herbariumref6_Edges.lt K)) fol (by kernel_rfl) (by kernel_rfl) rfl (fun x => (by kernel_rfl)) (ok_two ok_t (ok_two ok_t (ok_two (ok_two ok_t (ok_block (ok_loop (fun c p => (by kernel_rfl)) (fun nl1 => ⟨fun c p => (by kernel_rfl), ok_t⟩)))) ok_t))) (fun x => (by kernel_rfl))
def herbariumref6_Edges.fx (K : Nat) : FX PP := ⟨54, herbariumref6_Edges.sg, _, herbariumref6_Edges.ct K⟩
def herbariumref6_Graph.l1.M : Tm := ⟨[(1, .c (.bx 5014000 0)), (3, .c (.p (.int .i64) false (10, 0)))], [(5014000, .box [.p (.int .i64) true (1, 0), .p (.sl (.sl (.int .i64))) true (1, 1)])], [(1, herbariumref6_Graph.sg.A)]⟩
def herbariumref6_Graph.C (K : Nat) : CE := ⟨⟨PP, tys⟩, [(34, some (herbariumref0_Num.fx K)), (72, some (herbariumref3_May.fx K)), (54, some (herbariumref6_Edges.fx K))], [], K, [], [], [], 60, []⟩
def herbariumref6_Graph.lt (K : Nat) : LT herbariumref6_Graph.sg.R.D := .two .t (.two .t (.two (.two .t (.one (.loop herbariumref6_Graph.l1.M (fun n c p => herbariumref6_Graph.l1 K c n p) (fun nl1 => .t)))) .t))
theorem herbariumref6_Graph.ct (K : Nat) : CtX PP 28 herbariumref6_Graph.sg (fun x => herbariumref6_Graph K x) := ct_x (C := herbariumref6_Graph.C K) (fn := Try.f28) (c := Try.f28.body.get!) (lt := (herbariumref6_Graph.lt K)) fol (by kernel_rfl) (by kernel_rfl) rfl (fun x => (by kernel_rfl)) (ok_two ok_t (ok_two ok_t (ok_two (ok_two ok_t (ok_block (ok_loop (fun c p => (by kernel_rfl)) (fun nl1 => ⟨fun c p => (by kernel_rfl), ok_t⟩)))) ok_t))) (fun x => (by kernel_rfl))
def herbariumref6_Graph.fx (K : Nat) : FX PP := ⟨28, herbariumref6_Graph.sg, _, herbariumref6_Graph.ct K⟩
def herbariumlaw0_Within.C (K : Nat) : CE := ⟨⟨PP, tys⟩, [], [], K, [], [], [], 11, []⟩
theorem herbariumlaw0_Within.ct (K : Nat) : CtX PP 41 herbariumlaw0_Within.sg (fun x => herbariumlaw0_Within K x.1 x.2) := ct_x (C := herbariumlaw0_Within.C K) (fn := Try.f41) (c := Try.f41.body.get!) (lt := .t) fol (by kernel_rfl) (by kernel_rfl) rfl (fun x => (by kernel_rfl)) (ok_t) (fun x => (by kernel_rfl))
def herbariumlaw0_Within.fx (K : Nat) : FX PP := ⟨41, herbariumlaw0_Within.sg, _, herbariumlaw0_Within.ct K⟩
def gaps_Is.C (K : Nat) : CE := ⟨⟨PP, tys⟩, [], [], K, [], [], [], 9, []⟩
theorem gaps_Is.ct (K : Nat) : CtX PP 123 gaps_Is.sg (fun x => gaps_Is K x) := ct_x (C := gaps_Is.C K) (fn := Try.f123) (c := Try.f123.body.get!) (lt := .t) fol (by kernel_rfl) (by kernel_rfl) rfl (fun x => (by kernel_rfl)) (ok_t) (fun x => (by kernel_rfl))
def gaps_Is.fx (K : Nat) : FX PP := ⟨123, gaps_Is.sg, _, gaps_Is.ct K⟩
def gaps_May.l1.M : Tm := ⟨[(0, .c (.p (.sl (.int .i64)) true (1, 0))), (5, .c (.p (.sl (.int .i64)) true (1, 0))), (6, .c (.p (.int .i64) false (10, 0))), (7, .c (.p (.int .i64) false (11, 0)))], [], [(1, gaps_May.sg.A)]⟩
def gaps_May.C (K : Nat) : CE := ⟨⟨PP, tys⟩, [(123, some (gaps_Is.fx K))], [], K, [], [], [], 29, []⟩
def gaps_May.lt (K : Nat) : LT gaps_May.sg.R.D := .two .t (.two (.two .t (.one (.loop gaps_May.l1.M (fun n c p => gaps_May.l1 K c n p.1 p.2) (fun nl1 => .t)))) .t)
theorem gaps_May.ct (K : Nat) : CtX PP 109 gaps_May.sg (fun x => gaps_May K x) := ct_x (C := gaps_May.C K) (fn := Try.f109) (c := Try.f109.body.get!) (lt := (gaps_May.lt K)) fol (by kernel_rfl) (by kernel_rfl) rfl (fun x => (by kernel_rfl)) (ok_two ok_t (ok_two (ok_two ok_t (ok_block (ok_loop (fun c p => (by kernel_rfl)) (fun nl1 => ⟨fun c p => (by kernel_rfl), ok_t⟩)))) ok_t)) (fun x => (by kernel_rfl))
def gaps_May.fx (K : Nat) : FX PP := ⟨109, gaps_May.sg, _, gaps_May.ct K⟩
def graph_many.l1.M : Tm := ⟨[(3, .c (.p (.int .i64) false (10, 0))), (7, .c (.p (.sl (.sl (.int .i64))) true (1, 1))), (8, .c (.p (.int .i64) false (11, 0))), (9, .c (.p (.int .i64) false (12, 0)))], [], [(1, graph_many.sg.A)]⟩
def graph_many.C (K : Nat) : CE := ⟨⟨PP, tys⟩, [], [], K, [], [], [], 19, []⟩
def graph_many.lt (K : Nat) : LT graph_many.sg.R.D := .two .t (.two .t (.two (.two .t (.one (.loop graph_many.l1.M (fun n c p => graph_many.l1 K c n p.1 p.2.1 p.2.2) (fun nl1 => .t)))) .t))
theorem graph_many.ct (K : Nat) : CtX PP 87 graph_many.sg (fun x => graph_many K x) := ct_x (C := graph_many.C K) (fn := Try.f87) (c := Try.f87.body.get!) (lt := (graph_many.lt K)) fol (by kernel_rfl) (by kernel_rfl) rfl (fun x => (by kernel_rfl)) (ok_two ok_t (ok_two ok_t (ok_two (ok_two ok_t (ok_block (ok_loop (fun c p => (by kernel_rfl)) (fun nl1 => ⟨fun c p => (by kernel_rfl), ok_t⟩)))) ok_t))) (fun x => (by kernel_rfl))
def graph_many.fx (K : Nat) : FX PP := ⟨87, graph_many.sg, _, graph_many.ct K⟩
def graph_May.l1.M : Tm := ⟨[(1, .c (.bx 5014000 0)), (22, .c (.p (.sl (.sl (.int .i64))) true (1, 1))), (23, .c (.p (.int .i64) false (10, 0))), (24, .c (.p (.int .i64) false (11, 0)))], [(5014000, .box [.p (.int .i64) true (1, 0), .p (.sl (.sl (.int .i64))) true (1, 1)])], [(1, graph_May.sg.A)]⟩
def graph_May.C (K : Nat) : CE := ⟨⟨PP, tys⟩, [(109, some (gaps_May.fx K)), (87, some (graph_many.fx K))], [], K, [], [], [], 51, []⟩
def graph_May.lt (K : Nat) : LT graph_May.sg.R.D := .two .t (.two .t (.two (.two .t (.one (.loop graph_May.l1.M (fun n c p => graph_May.l1 K c n p.1 p.2) (fun nl1 => .t)))) .t))
theorem graph_May.ct (K : Nat) : CtX PP 75 graph_May.sg (fun x => graph_May K x) := ct_x (C := graph_May.C K) (fn := Try.f75) (c := Try.f75.body.get!) (lt := (graph_May.lt K)) fol (by kernel_rfl) (by kernel_rfl) rfl (fun x => (by kernel_rfl)) (ok_two ok_t (ok_two ok_t (ok_two (ok_two ok_t (ok_block (ok_loop (fun c p => (by kernel_rfl)) (fun nl1 => ⟨fun c p => (by kernel_rfl), ok_t⟩)))) ok_t))) (fun x => (by kernel_rfl))
def graph_May.fx (K : Nat) : FX PP := ⟨75, graph_May.sg, _, graph_May.ct K⟩
def graph_Is.C (K : Nat) : CE := ⟨⟨PP, tys⟩, [], [], K, [], [], [], 13, []⟩
theorem graph_Is.ct (K : Nat) : CtX PP 101 graph_Is.sg (fun x => graph_Is K x.1 x.2) := ct_x (C := graph_Is.C K) (fn := Try.f101) (c := Try.f101.body.get!) (lt := .t) fol (by kernel_rfl) (by kernel_rfl) rfl (fun x => (by kernel_rfl)) (ok_t) (fun x => (by kernel_rfl))
def graph_Is.fx (K : Nat) : FX PP := ⟨101, graph_Is.sg, _, graph_Is.ct K⟩
def graph_asked.C (K : Nat) : CE := ⟨⟨PP, tys⟩, [(75, some (graph_May.fx K)), (101, some (graph_Is.fx K))], [], K, [], [], [], 22, []⟩
theorem graph_asked.ct (K : Nat) : CtX PP 85 graph_asked.sg (fun x => graph_asked K x.1 x.2.1 x.2.2) := ct_x (C := graph_asked.C K) (fn := Try.f85) (c := Try.f85.body.get!) (lt := .t) fol (by kernel_rfl) (by kernel_rfl) rfl (fun x => (by kernel_rfl)) (ok_t) (fun x => (by kernel_rfl))
def graph_asked.fx (K : Nat) : FX PP := ⟨85, graph_asked.sg, _, graph_asked.ct K⟩
def cmp_isNaN_int_.C (K : Nat) : CE := ⟨⟨PP, tys⟩, [], [], K, [], [], [], 6, []⟩
theorem cmp_isNaN_int_.ct (K : Nat) : CtX PP 124 cmp_isNaN_int_.sg (fun x => cmp_isNaN_int_ K x) := ct_x (C := cmp_isNaN_int_.C K) (fn := Try.f124) (c := Try.f124.body.get!) (lt := .t) fol (by kernel_rfl) (by kernel_rfl) rfl (fun x => (by kernel_rfl)) (ok_t) (fun x => (by kernel_rfl))
def cmp_isNaN_int_.fx (K : Nat) : FX PP := ⟨124, cmp_isNaN_int_.sg, _, cmp_isNaN_int_.ct K⟩
def cmp_Less_int_.C (K : Nat) : CE := ⟨⟨PP, tys⟩, [(124, some (cmp_isNaN_int_.fx K))], [], K, [], [], [], 17, []⟩
theorem cmp_Less_int_.ct (K : Nat) : CtX PP 110 cmp_Less_int_.sg (fun x => cmp_Less_int_ K x.1 x.2) := ct_x (C := cmp_Less_int_.C K) (fn := Try.f110) (c := Try.f110.body.get!) (lt := .t) fol (by kernel_rfl) (by kernel_rfl) rfl (fun x => (by kernel_rfl)) (ok_t) (fun x => (by kernel_rfl))
def cmp_Less_int_.fx (K : Nat) : FX PP := ⟨110, cmp_Less_int_.sg, _, cmp_Less_int_.ct K⟩
def slices_isNaN_int_.C (K : Nat) : CE := ⟨⟨PP, tys⟩, [], [], K, [], [], [], 6, []⟩
theorem slices_isNaN_int_.ct (K : Nat) : CtX PP 111 slices_isNaN_int_.sg (fun x => slices_isNaN_int_ K x) := ct_x (C := slices_isNaN_int_.C K) (fn := Try.f111) (c := Try.f111.body.get!) (lt := .t) fol (by kernel_rfl) (by kernel_rfl) rfl (fun x => (by kernel_rfl)) (ok_t) (fun x => (by kernel_rfl))
def slices_isNaN_int_.fx (K : Nat) : FX PP := ⟨111, slices_isNaN_int_.sg, _, slices_isNaN_int_.ct K⟩
def slices_BinarySearch___int_int_.l1.M : Tm := ⟨[(0, .c (.p (.sl (.int .i64)) true (1, 0))), (1, .c (.p (.int .i64) true (1, 1))), (6, .c (.p (.int .i64) false (10, 0))), (7, .c (.p (.int .i64) false (11, 0))), (8, .c (.p (.int .i64) false (12, 0)))], [], [(1, slices_BinarySearch___int_int_.sg.A)]⟩
def slices_BinarySearch___int_int_.C (K : Nat) : CE := ⟨⟨PP, tys⟩, [(110, some (cmp_Less_int_.fx K)), (111, some (slices_isNaN_int_.fx K))], [], K, [], [], [], 54, []⟩
def slices_BinarySearch___int_int_.lt (K : Nat) : LT slices_BinarySearch___int_int_.sg.R.D := .two .t (.two .t (.two .t (.two (.one (.loop slices_BinarySearch___int_int_.l1.M (fun n c p => slices_BinarySearch___int_int_.l1 K c.1 c.2 n p.1 p.2.1 p.2.2) (fun nl1 => .t))) .t)))
theorem slices_BinarySearch___int_int_.ct (K : Nat) : CtX PP 86 slices_BinarySearch___int_int_.sg (fun x => slices_BinarySearch___int_int_ K x.1 x.2) := ct_x (C := slices_BinarySearch___int_int_.C K) (fn := Try.f86) (c := Try.f86.body.get!) (lt := (slices_BinarySearch___int_int_.lt K)) fol (by kernel_rfl) (by kernel_rfl) rfl (fun x => (by kernel_rfl)) (ok_two ok_t (ok_two ok_t (ok_two ok_t (ok_two (ok_block (ok_loop (fun c p => (by kernel_rfl)) (fun nl1 => ⟨fun c p => (by kernel_rfl), ok_t⟩))) ok_t)))) (fun x => (by kernel_rfl))
def slices_BinarySearch___int_int_.fx (K : Nat) : FX PP := ⟨86, slices_BinarySearch___int_int_.sg, _, slices_BinarySearch___int_int_.ct K⟩
def slices_Clone_____int___int_.C (K : Nat) : CE := ⟨⟨PP, tys⟩, [], [], K, [], [], [], 8, []⟩
theorem slices_Clone_____int___int_.ct (K : Nat) : CtX PP 112 slices_Clone_____int___int_.sg (fun x => slices_Clone_____int___int_ K x) := ct_clone (C := slices_Clone_____int___int_.C K) (fn := Try.f112) (c := Try.f112.body.get!) (lt := .t) fol (by kernel_rfl) (by kernel_rfl) rfl (fun x => (by kernel_rfl)) ok_t (fun x xs => (by kernel_rfl)) (fun b n => (by kernel_rfl)) (fun a b n => (by kernel_rfl))
def slices_Clone_____int___int_.fx (K : Nat) : FX PP := ⟨112, slices_Clone_____int___int_.sg, _, slices_Clone_____int___int_.ct K⟩
def slices_Clone___int_int_.C (K : Nat) : CE := ⟨⟨PP, tys⟩, [], [], K, [], [], [], 8, []⟩
theorem slices_Clone___int_int_.ct (K : Nat) : CtX PP 78 slices_Clone___int_int_.sg (fun x => slices_Clone___int_int_ K x) := ct_clone (C := slices_Clone___int_int_.C K) (fn := Try.f78) (c := Try.f78.body.get!) (lt := .t) fol (by kernel_rfl) (by kernel_rfl) rfl (fun x => (by kernel_rfl)) ok_t (fun x xs => (by kernel_rfl)) (fun b n => (by kernel_rfl)) (fun a b n => (by kernel_rfl))
def slices_Clone___int_int_.fx (K : Nat) : FX PP := ⟨78, slices_Clone___int_int_.sg, _, slices_Clone___int_int_.ct K⟩
abbrev ownH (xs : List (List Int)) : CallH := ⟨slices_Clone_____int___int_.sg.svs xs, slices_Clone_____int___int_.sg.o0 xs, [], [], slices_Clone_____int___int_.sg.res 0 xs, slices_Clone_____int___int_.sg.o1 0 xs, [(2000000, 6)]⟩
abbrev ownI (l : List Int) : CallH := ⟨slices_Clone___int_int_.sg.svs l, slices_Clone___int_int_.sg.o0 l, [], [], slices_Clone___int_int_.sg.res 0 l, slices_Clone___int_int_.sg.o1 0 l, [(2000000, 22)]⟩
theorem graph_Own.ct (K : Nat) : CtX PP 88 graph_Own.sg (fun x => graph_Own K x) := by
  intro v x r hr
  obtain ⟨N, xs⟩ := x
  simp only [graph_Own] at hr
  split at hr
  · rename_i hb
    obtain ⟨hb1, hb2⟩ := hb
    cases hr
    have hb1 : xs.length * 24 ≤ 140737488355328 := hb1
    have hb2 : ∀ l ∈ xs, l.length * 8 ≤ 140737488355328 := hb2
    show Ct PP 88 [.a (.agg [.p (.v (.int .i64 N)), .p (.sl 1 (xs.map fun l => [.sl 1 (l.map eI)]))])] (ofL []) (.a (.agg [.p (.v (.int .i64 N)), .vw 2000001 0 xs.length])) (ofL [(2000001, .row 1 (rowR true (.sl (.int .i64)) xs))])
    refine ct_of (fn := Try.f88) (c := Try.f88.body.get!) (by kernel_rfl) (by kernel_rfl) [] (by kernel_rfl) (by kernel_rfl) (by kernel_rfl) fun Γ hnt hH => ?_
    refine s_seq ?_
    refine s_reg (tr_reg false [] [(1, .a (.c (.bx 1 0))), (2, .a (.c (.bx 2 0)))] [(1, .box [.p (.v (.int .i64 N)), .p (.sl 1 (xs.map fun l => [.sl 1 (l.map eI)]))]), (2, .box [.p (.v (.int .i64 0)), .nl 1])] [(1, 1), (2, 2)] fol hH hnt (by kernel_rfl) (by kernel_rfl) (C := True) (by kernel_rfl) trivial rfl) ?_
    refine s_seq ?_
    have c1 : slices_Clone_____int___int_ 0 xs = some xs := by unfold slices_Clone_____int___int_; rw [if_pos (by simpa using hb1)]; rfl
    refine s_reg (tr_reg false [.no, .no, .call (ownH xs)] [(1, .a (.c (.bx 1 0))), (2, .a (.c (.bx 2 0)))] (ownO N xs.length (rowR false (.sl (.int .i64)) xs)) [(1, 1), (2, 2), (6, 6)] fol hH hnt (by kernel_rfl) (by kernel_rfl)
      (C := Ct PP 112 (ownH xs).svs (ofL (ownH xs).O0) (ownH xs).res (ofL (ownH xs).O1) ∧ ((trCV [] (.p (.sl 1 (xs.map fun l => [.sl 1 (l.map eI)]))) = some (.p (.sl 1 (xs.map fun l => [.sl 1 (l.map eI)])))) ∧ True) ∧ True ∧ (([] : List Nat) = [] ∨ nsSV (ownH xs).res ∧ nsAll (ownH xs) (ownH xs).m2)) (by kernel_rfl) ⟨slices_Clone_____int___int_.ct 0 0 xs xs c1, ⟨rfl, trivial⟩, trivial, Or.inl rfl⟩ rfl) ?_
    refine s_seq ?_
    refine s_seq ?_
    refine s_reg (tr_reg false [] (ownT xs.length 0) (ownO N xs.length (rowR false (.sl (.int .i64)) xs)) [(1, 1), (2, 2), (6, 6)] fol hH hnt (by kernel_rfl) (by kernel_rfl) (C := True) (by kernel_rfl) trivial rfl) ?_
    refine s_block ?_
    refine s_loop (fun k σ => ∃ i : Nat, i ≤ xs.length ∧ i + k = xs.length + 1 ∧ σ = mk (ownT xs.length (i : Int)) (ownO N xs.length (mixR xs i))) ?_ ?_ (xs.length + 1) ⟨0, Nat.zero_le _, by omega, by rw [mixR_0]; rfl⟩
    · rintro _ ⟨i, h1, h2, _⟩
      omega
    · rintro k _ ⟨i, h1, h2, rfl⟩
      refine s_seq ?_
      refine s_reg (tr_reg false [] (ownT xs.length (i : Int) ++ [(12, .a (.c (.p (.v (.bool (decide ((i : Int) < (xs.length : Int))))))))]) (ownO N xs.length (mixR xs i)) [(1, 1), (2, 2), (6, 6)] fol hH hnt (by kernel_rfl) (by kernel_rfl) (C := True) (by kernel_rfl) trivial rfl) ?_
      refine s_seq ?_
      refine s_cond (decide ((i : Int) < (xs.length : Int))) (by kernel_rfl) (fun hc => ?_) (fun hc => ?_)
      · have hi : i < xs.length := by simpa using hc
        refine s_skip ?_
        refine s_seq ?_
        refine s_block ?_
        refine s_seq ?_
        refine s_reg (tr_reg false [] (ownT xs.length (i : Int) ++ [(3, .a (.c (.p (.v (.int .i64 (i : Int))))))]) (ownO N xs.length (mixR xs i)) [(1, 1), (2, 2), (6, 6)] fol hH hnt (by kernel_rfl) (by kernel_rfl) (C := True) (by kernel_rfl) trivial rfl) ?_
        have hl := hb2 xs[i] (List.getElem_mem hi)
        have c2 : slices_Clone___int_int_ 0 xs[i] = some xs[i] := by unfold slices_Clone___int_int_; rw [if_pos (by simpa using hl)]; rfl
        have hg := mixR_get hi
        have hml := mixR_len xs i
        refine s_regz (tr_reg true [.no, .no, .no, .no, .no, .no, .no, .rcs (sL xs[i]), .call (ownI xs[i]), .no, .fill (sL xs[i]) (xs[i].map eI)] (ownT xs.length (i : Int)) (ownO N xs.length ((mixR xs i).set (0 + ((i : Int)).toNat) (oL xs[i]))) [(1, 1), (2, 2), (6, 6)] fol hH hnt (by kernel_rfl) (by kernel_rfl)
          (C := (0 ≤ (i : Int) ∧ (i : Int) < ((xs.length : Nat) : Int)) ∧ ((mixR xs i)[0 + ((i : Int)).toNat]? = some (sL xs[i])) ∧ (Ct PP 78 (ownI xs[i]).svs (ofL (ownI xs[i]).O0) (ownI xs[i]).res (ofL (ownI xs[i]).O1) ∧ ((trCV [] (.p (.sl 1 (xs[i].map eI))) = some (.p (.sl 1 (xs[i].map eI)))) ∧ True) ∧ True ∧ (([] : List Nat) = [] ∨ nsSV (ownI xs[i]).res ∧ nsAll (ownI xs[i]) (ownI xs[i]).m2)) ∧ (0 ≤ (i : Int) ∧ (i : Int) < ((xs.length : Nat) : Int)) ∧ ((mixR xs i)[0 + ((i : Int)).toNat]? = some (sL xs[i]) ∧ rowR false (.int .i64) xs[i] = spRow (xs[i].map eI) ∧ xs[i].length = (xs[i].map eI).length)) (by kernel_rfl)
          ⟨⟨by omega, by omega⟩, hg, ⟨slices_Clone___int_int_.ct 0 0 xs[i] xs[i] c2, ⟨rfl, trivial⟩, trivial, Or.inl rfl⟩, ⟨by omega, by omega⟩, hg, rowR_false _ _, by simp⟩
          (S := mk (ownT xs.length (i : Int)) (ownO N xs.length (mixR xs (i + 1)))) (by rw [mixR_set hi])) (fun σ1 hs => ?_)
        refine s_subc hs ?_
        refine s_regz (tr_reg false [] (ownT xs.length (wr .i64 ((i : Int) + 1))) (ownO N xs.length (mixR xs (i + 1))) [(1, 1), (2, 2), (6, 6)] fol hH hnt (by kernel_rfl) (by kernel_rfl) (C := True) (by kernel_rfl) trivial
          (S := mk (ownT xs.length ((i + 1 : Nat) : Int)) (ownO N xs.length (mixR xs (i + 1)))) (by
            have e : wr .i64 ((i : Int) + 1) = ((i + 1 : Nat) : Int) := by show Go.RowKit.wrap64 _ = _; unfold Go.RowKit.wrap64; omega
            rw [e])) (fun σ1 hs => ?_)
        exact ⟨_, ⟨i + 1, by omega, by omega, rfl⟩, hs.trans Sub.refl⟩
      · have hi : i = xs.length := by have : ¬ ((i : Int) < (xs.length : Int)) := by simpa using hc
                                      omega
        refine s_exit ?_
        refine qr_exit ?_
        refine q_hit ?_
        refine s_seq ?_
        refine s_reg (tr_reg false [] [(2, .a (.c (.bx 2 0)))] [(2, .box [.p (.v (.int .i64 N)), .vw 6 0 xs.length]), (6, .row 1 (mixR xs i))] [(2, 2), (6, 6)] fol hH hnt (by kernel_rfl) (by kernel_rfl) (C := True) (by kernel_rfl) trivial rfl) ?_
        subst hi
        rw [mixR_n]
        refine s_ret ?_
        exact ⟨.inr rfl, _, Sub.refl, out_of [(2000001, 6)] (by kernel_rfl) (by kernel_rfl) (by kernel_rfl)⟩
  · cases hr
def graph_Own.fx (K : Nat) : FX PP := ⟨88, graph_Own.sg, _, graph_Own.ct K⟩
theorem slices_Delete___int_int_.ct (K : Nat) : CtX PP 91 slices_Delete___int_int_.sg (fun x => slices_Delete___int_int_ K x.1 x.2.1 x.2.2) := ct_delete Try.laysNm223
def slices_Delete___int_int_.fx (K : Nat) : FX PP := ⟨91, slices_Delete___int_int_.sg, _, slices_Delete___int_int_.ct K⟩
def graph_Cut.C (K : Nat) : CE := ⟨⟨PP, tys⟩, [(85, some (graph_asked.fx K)), (86, some (slices_BinarySearch___int_int_.fx K)), (88, some (graph_Own.fx K)), (91, some (slices_Delete___int_int_.fx K))], [], K, [], [], [], 48, []⟩
theorem graph_Cut.ct (K : Nat) : CtX PP 48 graph_Cut.sg (fun x => graph_Cut K x.1 x.2.1 x.2.2) := ct_x (C := graph_Cut.C K) (fn := Try.f48) (c := Try.f48.body.get!) (lt := .t) fol (by kernel_rfl) (by kernel_rfl) rfl (fun x => (by kernel_rfl)) (ok_t) (fun x => (by kernel_rfl))
def graph_Cut.fx (K : Nat) : FX PP := ⟨48, graph_Cut.sg, _, graph_Cut.ct K⟩
def herbariumref0_In.l1.M : Tm := ⟨[(0, .c (.p (.sl (.int .i64)) true (1, 0))), (1, .c (.p (.int .i64) true (1, 1))), (5, .c (.p (.int .i64) false (10, 0)))], [], [(1, herbariumref0_In.sg.A)]⟩
def herbariumref0_In.C (K : Nat) : CE := ⟨⟨PP, tys⟩, [], [], K, [], [], [], 19, []⟩
def herbariumref0_In.lt (K : Nat) : LT herbariumref0_In.sg.R.D := .two .t (.two (.two .t (.one (.loop herbariumref0_In.l1.M (fun n c p => herbariumref0_In.l1 K c.1 c.2 n p) (fun nl1 => .t)))) .t)
theorem herbariumref0_In.ct (K : Nat) : CtX PP 105 herbariumref0_In.sg (fun x => herbariumref0_In K x.1 x.2) := ct_x (C := herbariumref0_In.C K) (fn := Try.f105) (c := Try.f105.body.get!) (lt := (herbariumref0_In.lt K)) fol (by kernel_rfl) (by kernel_rfl) rfl (fun x => (by kernel_rfl)) (ok_two ok_t (ok_two (ok_two ok_t (ok_block (ok_loop (fun c p => (by kernel_rfl)) (fun nl1 => ⟨fun c p => (by kernel_rfl), ok_t⟩)))) ok_t)) (fun x => (by kernel_rfl))
def herbariumref0_In.fx (K : Nat) : FX PP := ⟨105, herbariumref0_In.sg, _, herbariumref0_In.ct K⟩
def herbariumref6_Has.C (K : Nat) : CE := ⟨⟨PP, tys⟩, [(34, some (herbariumref0_Num.fx K)), (105, some (herbariumref0_In.fx K))], [], K, [], [], [], 22, []⟩
theorem herbariumref6_Has.ct (K : Nat) : CtX PP 96 herbariumref6_Has.sg (fun x => herbariumref6_Has K x.1 x.2.1 x.2.2) := ct_x (C := herbariumref6_Has.C K) (fn := Try.f96) (c := Try.f96.body.get!) (lt := .t) fol (by kernel_rfl) (by kernel_rfl) rfl (fun x => (by kernel_rfl)) (ok_t) (fun x => (by kernel_rfl))
def herbariumref6_Has.fx (K : Nat) : FX PP := ⟨96, herbariumref6_Has.sg, _, herbariumref6_Has.ct K⟩
def herbariumref6_Cut.C (K : Nat) : CE := ⟨⟨PP, tys⟩, [(96, some (herbariumref6_Has.fx K)), (27, some (herbariumref0_CopyGraph.fx K)), (105, some (herbariumref0_In.fx K)), (67, some (herbariumref0_CopyNumbers.fx K))], [], K, [], [], [], 46, []⟩
theorem herbariumref6_Cut.ct (K : Nat) : CtX PP 126 herbariumref6_Cut.sg (fun x => herbariumref6_Cut K x.1 x.2.1 x.2.2) := ct_x (C := herbariumref6_Cut.C K) (fn := Try.f126) (c := Try.f126.body.get!) (lt := .t) fol (by kernel_rfl) (by kernel_rfl) rfl (fun x => (by kernel_rfl)) (ok_t) (fun x => (by kernel_rfl))
def herbariumref6_Cut.fx (K : Nat) : FX PP := ⟨126, herbariumref6_Cut.sg, _, herbariumref6_Cut.ct K⟩
def graph_Grow.j1.M : Tm := ⟨[(1, .c (.p (.int .i64) true (1, 2))), (2, .c (.bx 5004000 0)), (4, .c (.bx 5004001 0)), (6, .c (.p .bool false (11, 0)))], [(5004000, .box [.p (.int .i64) true (1, 0), .p (.sl (.sl (.int .i64))) true (1, 1)]), (5004001, .box [.p (.int .i64) false (10, 0), .nl (.sl (.int .i64))])], [(1, graph_Grow.sg.A)]⟩
def graph_Grow.C (K : Nat) : CE := ⟨⟨PP, tys⟩, [(75, some (graph_May.fx K)), (88, some (graph_Own.fx K))], [], K, [], [], [], 35, []⟩
def graph_Grow.lt (K : Nat) : LT graph_Grow.sg.R.D := .two .t (.two (.one (.join graph_Grow.j1.M (fun c p => graph_Grow.j1 K c.1 c.2 p.1 p.2) .t .t)) .t)
theorem graph_Grow.ct (K : Nat) : CtX PP 127 graph_Grow.sg (fun x => graph_Grow K x.1 x.2) := ct_x (C := graph_Grow.C K) (fn := Try.f127) (c := Try.f127.body.get!) (lt := (graph_Grow.lt K)) fol (by kernel_rfl) (by kernel_rfl) rfl (fun x => (by kernel_rfl)) (ok_two ok_t (ok_two (ok_block (ok_join ok_t (fun c p => (by kernel_rfl)) ok_t)) ok_t)) (fun x => (by kernel_rfl))
def graph_Grow.fx (K : Nat) : FX PP := ⟨127, graph_Grow.sg, _, graph_Grow.ct K⟩
def herbariumref6_Grow.l1.M : Tm := ⟨[(1, .c (.p (.int .i64) true (1, 2))), (2, .c (.bx 5018000 0)), (4, .c (.bx 5018002 0)), (6, .c (.p (.int .i64) false (12, 0)))], [(5018000, .box [.p (.int .i64) false (10, 0), .vf 5018001]), (5018001, .row (.sl (.int .i64)) false false (13, 0)), (5018002, .box [.p (.int .i64) false (11, 0), .nl (.sl (.int .i64))])], [(1, herbariumref6_Grow.sg.A)]⟩
def herbariumref6_Grow.C (K : Nat) : CE := ⟨⟨PP, tys⟩, [(27, some (herbariumref0_CopyGraph.fx K))], [], K, [], [], [], 31, []⟩
def herbariumref6_Grow.lt (K : Nat) : LT herbariumref6_Grow.sg.R.D := .two .t (.two .t (.two .t (.two .t (.two (.two .t (.one (.loop herbariumref6_Grow.l1.M (fun n c p => herbariumref6_Grow.l1 K c.2 n p.1 p.2.1 p.2.2.1 p.2.2.2) (fun nl1 => .t)))) .t))))
theorem herbariumref6_Grow.ct (K : Nat) : CtX PP 128 herbariumref6_Grow.sg (fun x => herbariumref6_Grow K x.1 x.2) := ct_x (C := herbariumref6_Grow.C K) (fn := Try.f128) (c := Try.f128.body.get!) (lt := (herbariumref6_Grow.lt K)) fol (by kernel_rfl) (by kernel_rfl) rfl (fun x => (by kernel_rfl)) (ok_two ok_t (ok_two ok_t (ok_two ok_t (ok_two ok_t (ok_two (ok_two ok_t (ok_block (ok_loop (fun c p => (by kernel_rfl)) (fun nl1 => ⟨fun c p => (by kernel_rfl), ok_t⟩)))) ok_t))))) (fun x => (by kernel_rfl))
def herbariumref6_Grow.fx (K : Nat) : FX PP := ⟨128, herbariumref6_Grow.sg, _, herbariumref6_Grow.ct K⟩
def slices_Index___int_int_.l1.M : Tm := ⟨[(0, .c (.p (.sl (.int .i64)) true (1, 0))), (1, .c (.p (.int .i64) true (1, 1))), (7, .c (.p (.int .i64) false (10, 0))), (8, .c (.p (.int .i64) false (11, 0)))], [], [(1, slices_Index___int_int_.sg.A)]⟩
def slices_Index___int_int_.C (K : Nat) : CE := ⟨⟨PP, tys⟩, [], [], K, [], [], [], 19, []⟩
def slices_Index___int_int_.lt (K : Nat) : LT slices_Index___int_int_.sg.R.D := .two .t (.two (.two .t (.one (.loop slices_Index___int_int_.l1.M (fun n c p => slices_Index___int_int_.l1 K c.1 c.2 n p.1 p.2) (fun nl1 => .t)))) .t)
theorem slices_Index___int_int_.ct (K : Nat) : CtX PP 122 slices_Index___int_int_.sg (fun x => slices_Index___int_int_ K x.1 x.2) := ct_x (C := slices_Index___int_int_.C K) (fn := Try.f122) (c := Try.f122.body.get!) (lt := (slices_Index___int_int_.lt K)) fol (by kernel_rfl) (by kernel_rfl) rfl (fun x => (by kernel_rfl)) (ok_two ok_t (ok_two (ok_two ok_t (ok_block (ok_loop (fun c p => (by kernel_rfl)) (fun nl1 => ⟨fun c p => (by kernel_rfl), ok_t⟩)))) ok_t)) (fun x => (by kernel_rfl))
def slices_Index___int_int_.fx (K : Nat) : FX PP := ⟨122, slices_Index___int_int_.sg, _, slices_Index___int_int_.ct K⟩
def slices_Contains___int_int_.C (K : Nat) : CE := ⟨⟨PP, tys⟩, [(122, some (slices_Index___int_int_.fx K))], [], K, [], [], [], 9, []⟩
theorem slices_Contains___int_int_.ct (K : Nat) : CtX PP 108 slices_Contains___int_int_.sg (fun x => slices_Contains___int_int_ K x.1 x.2) := ct_x (C := slices_Contains___int_int_.C K) (fn := Try.f108) (c := Try.f108.body.get!) (lt := .t) fol (by kernel_rfl) (by kernel_rfl) rfl (fun x => (by kernel_rfl)) (ok_t) (fun x => (by kernel_rfl))
def slices_Contains___int_int_.fx (K : Nat) : FX PP := ⟨108, slices_Contains___int_int_.sg, _, slices_Contains___int_int_.ct K⟩
def graph_holds.C (K : Nat) : CE := ⟨⟨PP, tys⟩, [(101, some (graph_Is.fx K)), (108, some (slices_Contains___int_int_.fx K))], [], K, [], [], [], 20, []⟩
theorem graph_holds.ct (K : Nat) : CtX PP 119 graph_holds.sg (fun x => graph_holds K x.1 x.2) := ct_x (C := graph_holds.C K) (fn := Try.f119) (c := Try.f119.body.get!) (lt := .t) fol (by kernel_rfl) (by kernel_rfl) rfl (fun x => (by kernel_rfl)) (ok_t) (fun x => (by kernel_rfl))
def graph_holds.fx (K : Nat) : FX PP := ⟨119, graph_holds.sg, _, graph_holds.ct K⟩
def graph_Has.C (K : Nat) : CE := ⟨⟨PP, tys⟩, [(75, some (graph_May.fx K)), (119, some (graph_holds.fx K))], [], K, [], [], [], 16, []⟩
theorem graph_Has.ct (K : Nat) : CtX PP 129 graph_Has.sg (fun x => graph_Has K x.1 x.2.1 x.2.2) := ct_x (C := graph_Has.C K) (fn := Try.f129) (c := Try.f129.body.get!) (lt := .t) fol (by kernel_rfl) (by kernel_rfl) rfl (fun x => (by kernel_rfl)) (ok_t) (fun x => (by kernel_rfl))
def graph_Has.fx (K : Nat) : FX PP := ⟨129, graph_Has.sg, _, graph_Has.ct K⟩
def herbariumlaw6_num.C (K : Nat) : CE := ⟨⟨PP, tys⟩, [], [], K, [], [], [], 4, []⟩
theorem herbariumlaw6_num.ct (K : Nat) : CtX PP 45 herbariumlaw6_num.sg (fun x => herbariumlaw6_num K x) := ct_x (C := herbariumlaw6_num.C K) (fn := Try.f45) (c := Try.f45.body.get!) (lt := .t) fol (by kernel_rfl) (by kernel_rfl) rfl (fun x => (by kernel_rfl)) (ok_t) (fun x => (by kernel_rfl))
def herbariumlaw6_num.fx (K : Nat) : FX PP := ⟨45, herbariumlaw6_num.sg, _, herbariumlaw6_num.ct K⟩
def herbariumref0_EqNumbers.l1.M : Tm := ⟨[(0, .c (.p (.sl (.int .i64)) true (1, 0))), (1, .c (.p (.sl (.int .i64)) true (1, 1))), (5, .c (.p (.int .i64) false (10, 0)))], [], [(1, herbariumref0_EqNumbers.sg.A)]⟩
def herbariumref0_EqNumbers.C (K : Nat) : CE := ⟨⟨PP, tys⟩, [], [], K, [], [], [], 26, []⟩
def herbariumref0_EqNumbers.lt (K : Nat) : LT herbariumref0_EqNumbers.sg.R.D := .two .t (.two .t (.two (.two .t (.one (.loop herbariumref0_EqNumbers.l1.M (fun n c p => herbariumref0_EqNumbers.l1 K c.1 c.2 n p) (fun nl1 => .t)))) .t))
theorem herbariumref0_EqNumbers.ct (K : Nat) : CtX PP 43 herbariumref0_EqNumbers.sg (fun x => herbariumref0_EqNumbers K x.1 x.2) := ct_x (C := herbariumref0_EqNumbers.C K) (fn := Try.f43) (c := Try.f43.body.get!) (lt := (herbariumref0_EqNumbers.lt K)) fol (by kernel_rfl) (by kernel_rfl) rfl (fun x => (by kernel_rfl)) (ok_two ok_t (ok_two ok_t (ok_two (ok_two ok_t (ok_block (ok_loop (fun c p => (by kernel_rfl)) (fun nl1 => ⟨fun c p => (by kernel_rfl), ok_t⟩)))) ok_t))) (fun x => (by kernel_rfl))
def herbariumref0_EqNumbers.fx (K : Nat) : FX PP := ⟨43, herbariumref0_EqNumbers.sg, _, herbariumref0_EqNumbers.ct K⟩
def herbariumref0_EqNumberLists.l1.M : Tm := ⟨[(0, .c (.p (.sl (.sl (.int .i64))) true (1, 0))), (1, .c (.p (.sl (.sl (.int .i64))) true (1, 1))), (5, .c (.p (.int .i64) false (10, 0)))], [], [(1, herbariumref0_EqNumberLists.sg.A)]⟩
def herbariumref0_EqNumberLists.C (K : Nat) : CE := ⟨⟨PP, tys⟩, [(43, some (herbariumref0_EqNumbers.fx K))], [], K, [], [], [], 27, []⟩
def herbariumref0_EqNumberLists.lt (K : Nat) : LT herbariumref0_EqNumberLists.sg.R.D := .two .t (.two .t (.two (.two .t (.one (.loop herbariumref0_EqNumberLists.l1.M (fun n c p => herbariumref0_EqNumberLists.l1 K c.1 c.2 n p) (fun nl1 => .t)))) .t))
theorem herbariumref0_EqNumberLists.ct (K : Nat) : CtX PP 77 herbariumref0_EqNumberLists.sg (fun x => herbariumref0_EqNumberLists K x.1 x.2) := ct_x (C := herbariumref0_EqNumberLists.C K) (fn := Try.f77) (c := Try.f77.body.get!) (lt := (herbariumref0_EqNumberLists.lt K)) fol (by kernel_rfl) (by kernel_rfl) rfl (fun x => (by kernel_rfl)) (ok_two ok_t (ok_two ok_t (ok_two (ok_two ok_t (ok_block (ok_loop (fun c p => (by kernel_rfl)) (fun nl1 => ⟨fun c p => (by kernel_rfl), ok_t⟩)))) ok_t))) (fun x => (by kernel_rfl))
def herbariumref0_EqNumberLists.fx (K : Nat) : FX PP := ⟨77, herbariumref0_EqNumberLists.sg, _, herbariumref0_EqNumberLists.ct K⟩
def herbariumref0_EqGraph.C (K : Nat) : CE := ⟨⟨PP, tys⟩, [(77, some (herbariumref0_EqNumberLists.fx K))], [], K, [], [], [], 17, []⟩
theorem herbariumref0_EqGraph.ct (K : Nat) : CtX PP 40 herbariumref0_EqGraph.sg (fun x => herbariumref0_EqGraph K x.1 x.2) := ct_x (C := herbariumref0_EqGraph.C K) (fn := Try.f40) (c := Try.f40.body.get!) (lt := .t) fol (by kernel_rfl) (by kernel_rfl) rfl (fun x => (by kernel_rfl)) (ok_t) (fun x => (by kernel_rfl))
def herbariumref0_EqGraph.fx (K : Nat) : FX PP := ⟨40, herbariumref0_EqGraph.sg, _, herbariumref0_EqGraph.ct K⟩
theorem slices_Insert___int_int_.ct (K : Nat) : CtX PP 89 slices_Insert___int_int_.sg (fun x => slices_Insert___int_int_ K x.1 x.2.1 x.2.2) := ct_insert Try.laysNm221
def slices_Insert___int_int_.fx (K : Nat) : FX PP := ⟨89, slices_Insert___int_int_.sg, _, slices_Insert___int_int_.ct K⟩
def graph_Add.C (K : Nat) : CE := ⟨⟨PP, tys⟩, [(85, some (graph_asked.fx K)), (86, some (slices_BinarySearch___int_int_.fx K)), (87, some (graph_many.fx K)), (88, some (graph_Own.fx K)), (89, some (slices_Insert___int_int_.fx K))], [], K, [(10, [10])], [], [], 53, []⟩
theorem graph_Add.ct (K : Nat) : CtX PP 46 graph_Add.sg (fun x => graph_Add K x.1 x.2.1 x.2.2) := ct_x (C := graph_Add.C K) (fn := Try.f46) (c := Try.f46.body.get!) (lt := .t) fol (by kernel_rfl) (by kernel_rfl) rfl (fun x => (by kernel_rfl)) (ok_t) (fun x => (by kernel_rfl))
def graph_Add.fx (K : Nat) : FX PP := ⟨46, graph_Add.sg, _, graph_Add.ct K⟩
def herbariumref6_Add.l1.M : Tm := ⟨[(1, .c (.p (.int .i64) true (1, 2))), (2, .c (.p (.int .i64) true (1, 3))), (3, .c (.bx 5032000 0)), (6, .c (.bx 5032002 0)), (8, .c (.p (.int .i64) false (11, 0)))], [(5032000, .box [.p (.int .i64) true (4000034, 0), .vf 5032001]), (5032001, .row (.sl (.int .i64)) false true (4000034, 1)), (5032002, .box [.p (.int .i64) false (10, 0), .nl (.sl (.int .i64))])], [(1, herbariumref6_Add.sg.A), (4000034, herbariumref0_CopyGraph.sg.R)]⟩
def herbariumref6_Add.C (K : Nat) : CE := ⟨⟨PP, tys⟩, [(34, some (herbariumref0_Num.fx K)), (96, some (herbariumref6_Has.fx K)), (54, some (herbariumref6_Edges.fx K)), (27, some (herbariumref0_CopyGraph.fx K)), (67, some (herbariumref0_CopyNumbers.fx K))], [], K, [], [], [], 81, []⟩
def herbariumref6_Add.lt (K : Nat) : LT herbariumref6_Add.sg.R.D := .two .t (.two .t (.two .t (.two .t (.two .t (.two .t (.two (.one (.loop herbariumref6_Add.l1.M (fun n c p => herbariumref6_Add.l1 K c.2 c.1.2.1 c.1.2.2 n p.1 p.2) (fun nl1 => .t))) .t))))))
theorem herbariumref6_Add.ct (K : Nat) : CtX PP 130 herbariumref6_Add.sg (fun x => herbariumref6_Add K x.1 x.2.1 x.2.2) := ct_x (C := herbariumref6_Add.C K) (fn := Try.f130) (c := Try.f130.body.get!) (lt := (herbariumref6_Add.lt K)) fol (by kernel_rfl) (by kernel_rfl) rfl (fun x => (by kernel_rfl)) (ok_two ok_t (ok_two ok_t (ok_two ok_t (ok_two ok_t (ok_two ok_t (ok_two ok_t (ok_two (ok_block (ok_loop (fun c p => (by kernel_rfl)) (fun nl1 => ⟨fun c p => (by kernel_rfl), ok_t⟩))) ok_t))))))) (fun x => (by kernel_rfl))
def herbariumref6_Add.fx (K : Nat) : FX PP := ⟨130, herbariumref6_Add.sg, _, herbariumref6_Add.ct K⟩
def graph_Check.C (K : Nat) : CE := ⟨⟨PP, tys⟩, [(75, some (graph_May.fx K))], [], K, [], [], [], 6, []⟩
theorem graph_Check.ct (K : Nat) : CtX PP 131 graph_Check.sg (fun x => graph_Check K x) := ct_x (C := graph_Check.C K) (fn := Try.f131) (c := Try.f131.body.get!) (lt := .t) fol (by kernel_rfl) (by kernel_rfl) rfl (fun x => (by kernel_rfl)) (ok_t) (fun x => (by kernel_rfl))
def graph_Check.fx (K : Nat) : FX PP := ⟨131, graph_Check.sg, _, graph_Check.ct K⟩
def herbariumlaw0_Numbers.l1.M : Tm := ⟨[(0, .c (.vf 5003000)), (2, .c (.p (.int .i64) false (10, 0)))], [(5003000, .row (.int .i64) false false (11, 0))], []⟩
def herbariumlaw0_Numbers.C (K : Nat) : CE := ⟨⟨PP, tys⟩, [], [], K, [], [], [], 12, []⟩
def herbariumlaw0_Numbers.lt (K : Nat) : LT herbariumlaw0_Numbers.sg.R.D := .two .t (.one (.loop herbariumlaw0_Numbers.l1.M (fun n c p => herbariumlaw0_Numbers.l1 K n p.1 p.2) (fun nl1 => .t)))
theorem herbariumlaw0_Numbers.ct (K : Nat) : CtX PP 76 herbariumlaw0_Numbers.sg (fun x => herbariumlaw0_Numbers K x) := ct_x (C := herbariumlaw0_Numbers.C K) (fn := Try.f76) (c := Try.f76.body.get!) (lt := (herbariumlaw0_Numbers.lt K)) fol (by kernel_rfl) (by kernel_rfl) rfl (fun x => (by kernel_rfl)) (ok_two ok_t (ok_block (ok_loop (fun c p => (by kernel_rfl)) (fun nl1 => ⟨fun c p => (by kernel_rfl), ok_t⟩)))) (fun x => (by kernel_rfl))
def herbariumlaw0_Numbers.fx (K : Nat) : FX PP := ⟨76, herbariumlaw0_Numbers.sg, _, herbariumlaw0_Numbers.ct K⟩
def herbariumlaw0_Graph.l1.M : Tm := ⟨[(1, .c (.bx 5005000 0)), (2, .c (.p (.int .i64) false (10, 0)))], [(5005000, .box [.p (.int .i64) true (1, 0), .vf 5005001]), (5005001, .row (.sl (.int .i64)) true false (11, 0))], [(1, herbariumlaw0_Graph.sg.A)]⟩
def herbariumlaw0_Graph.C (K : Nat) : CE := ⟨⟨PP, tys⟩, [(76, some (herbariumlaw0_Numbers.fx K))], [], K, [], [], [], 20, []⟩
def herbariumlaw0_Graph.lt (K : Nat) : LT herbariumlaw0_Graph.sg.R.D := .two .t (.two .t (.one (.loop herbariumlaw0_Graph.l1.M (fun n c p => herbariumlaw0_Graph.l1 K n p.1 p.2) (fun nl1 => .t))))
theorem herbariumlaw0_Graph.ct (K : Nat) : CtX PP 59 herbariumlaw0_Graph.sg (fun x => herbariumlaw0_Graph K x) := ct_x (C := herbariumlaw0_Graph.C K) (fn := Try.f59) (c := Try.f59.body.get!) (lt := (herbariumlaw0_Graph.lt K)) fol (by kernel_rfl) (by kernel_rfl) rfl (fun x => (by kernel_rfl)) (ok_two ok_t (ok_two ok_t (ok_block (ok_loop (fun c p => (by kernel_rfl)) (fun nl1 => ⟨fun c p => (by kernel_rfl), ok_t⟩))))) (fun x => (by kernel_rfl))
def herbariumlaw0_Graph.fx (K : Nat) : FX PP := ⟨59, herbariumlaw0_Graph.sg, _, herbariumlaw0_Graph.ct K⟩
def herbariumlaw6_step.j1.M : Tm := ⟨[(2, .c (.bx 5012000 0)), (4, .c (.bx 5012001 0)), (6, .c (.bx 5012002 0)), (7, .c (.p .bool true (4000018, 0))), (8, .c (.p (.int .i64) false (18, 0))), (9, .c (.bx 5012004 0)), (10, .c (.bx 5012006 0)), (11, .c (.p (.int .i64) false (23, 0)))], [(5012000, .box [.p (.int .i64) true (1, 0), .p (.sl (.sl (.int .i64))) true (1, 1)]), (5012001, .box [.p (.int .i64) false (17, 0), .nl (.sl (.int .i64))]), (5012002, .box [.p (.int .i64) true (4000016, 0), .vf 5012003]), (5012003, .row (.sl (.int .i64)) false true (4000016, 1)), (5012004, .box [.p (.int .i64) false (19, 0), .vf 5012005]), (5012005, .row (.sl (.int .i64)) true false (20, 0)), (5012006, .box [.p (.int .i64) false (21, 0), .vf 5012007]), (5012007, .row (.sl (.int .i64)) false false (22, 0))], [(1, herbariumlaw6_step.sg.A), (4000016, herbariumref0_CopyGraph.sg.R), (4000018, herbariumref6_Graph.sg.R)]⟩
def herbariumlaw6_step.j2.M : Tm := ⟨[(2, .c (.bx 5031000 0)), (3, .c (.bx 5031001 0)), (4, .c (.bx 5031002 0)), (6, .c (.bx 5031003 0)), (7, .c (.p .bool true (4000018, 0))), (8, .c (.p (.int .i64) false (11, 0))), (9, .c (.bx 5031005 0)), (10, .c (.bx 5031007 0)), (11, .c (.p (.int .i64) true (4000068, 2))), (76, .c (.p .bool false (13, 0)))], [(5031000, .box [.p (.int .i64) true (1, 0), .p (.sl (.sl (.int .i64))) true (1, 1)]), (5031001, .box [.p (.int .i64) true (1, 2), .p (.int .i64) true (1, 3), .p (.int .i64) true (1, 4)]), (5031002, .box [.p (.int .i64) false (10, 0), .nl (.sl (.int .i64))]), (5031003, .box [.p (.int .i64) true (4000016, 0), .vf 5031004]), (5031004, .row (.sl (.int .i64)) false true (4000016, 1)), (5031005, .box [.p (.int .i64) true (4000068, 0), .vf 5031006]), (5031006, .row (.sl (.int .i64)) true true (4000068, 1)), (5031007, .box [.p (.int .i64) false (12, 0), .nl (.sl (.int .i64))])], [(1, herbariumlaw6_step.sg.A), (4000016, herbariumref0_CopyGraph.sg.R), (4000018, herbariumref6_Graph.sg.R), (4000068, graph_Grow.sg.R)]⟩
def herbariumlaw6_step.j3.M : Tm := ⟨[(2, .c (.bx 5043000 0)), (4, .c (.bx 5043001 0)), (6, .c (.bx 5043002 0)), (8, .c (.p (.int .i64) false (15, 0))), (12, .c (.p .bool true (4000092, 0))), (13, .c (.p (.int .i64) true (4000092, 1))), (14, .c (.p .bool false (16, 0)))], [(5043000, .box [.p (.int .i64) true (1, 0), .p (.sl (.sl (.int .i64))) true (1, 1)]), (5043001, .box [.p (.int .i64) false (14, 0), .nl (.sl (.int .i64))]), (5043002, .box [.p (.int .i64) true (4000016, 0), .vf 5043003]), (5043003, .row (.sl (.int .i64)) false true (4000016, 1))], [(1, herbariumlaw6_step.sg.A), (4000016, herbariumref0_CopyGraph.sg.R), (4000092, graph_Has.sg.R)]⟩
def herbariumlaw6_step.C (K : Nat) : CE := ⟨⟨PP, tys⟩, [(27, some (herbariumref0_CopyGraph.fx K)), (28, some (herbariumref6_Graph.fx K)), (41, some (herbariumlaw0_Within.fx K)), (48, some (graph_Cut.fx K)), (126, some (herbariumref6_Cut.fx K)), (127, some (graph_Grow.fx K)), (128, some (herbariumref6_Grow.fx K)), (129, some (graph_Has.fx K)), (96, some (herbariumref6_Has.fx K)), (45, some (herbariumlaw6_num.fx K)), (40, some (herbariumref0_EqGraph.fx K)), (46, some (graph_Add.fx K)), (130, some (herbariumref6_Add.fx K)), (131, some (graph_Check.fx K)), (59, some (herbariumlaw0_Graph.fx K))], [], K, [], [(31, [.frz 5012007])], [], 154, []⟩
def herbariumlaw6_step.lt (K : Nat) : LT herbariumlaw6_step.sg.R.D := .two .t (.two .t (.two .t (.two .t (.two .t (.two .t (.join herbariumlaw6_step.j1.M (fun c p => herbariumlaw6_step.j1 K c.2.1 c.2.2 c.1.1 p.1 p.2.1 p.2.2.1 p.2.2.2.1 p.2.2.2.2.1 p.2.2.2.2.2.1 p.2.2.2.2.2.2) (.two .t (.one (.two .t (.two .t (.two .t (.two (.two .t (.join herbariumlaw6_step.j2.M (fun c p => herbariumlaw6_step.j2 K c.2.1 c.2.2.1 c.2.2.2 c.1.1 c.1.2 p.1 p.2.1 p.2.2.1 p.2.2.2) .t .t)) (.two .t (.two (.two .t (.two .t (.join herbariumlaw6_step.j3.M (fun c p => herbariumlaw6_step.j3 K c.2.1 c.2.2 c.1.1 p.1 p.2.1 p.2.2) .t .t))) .t)))))))) .t))))))
theorem herbariumlaw6_step.ct (K : Nat) : CtX PP 115 herbariumlaw6_step.sg (fun x => herbariumlaw6_step K x.1 x.2) := ct_x (C := herbariumlaw6_step.C K) (fn := Try.f115) (c := Try.f115.body.get!) (lt := (herbariumlaw6_step.lt K)) fol (by kernel_rfl) (by kernel_rfl) rfl (fun x => (by kernel_rfl)) (ok_two ok_t (ok_two ok_t (ok_two ok_t (ok_two ok_t (ok_two ok_t (ok_two ok_t (ok_join (ok_two ok_t (ok_block (ok_two ok_t (ok_cond ok_t (ok_two ok_t (ok_cond (ok_two ok_t (ok_join ok_t (fun c p => (by kernel_rfl)) ok_t)) (ok_two ok_t (ok_cond (ok_two ok_t (ok_two ok_t (ok_join ok_t (fun c p => (by kernel_rfl)) ok_t))) ok_t)))))))) (fun c p => (by kernel_rfl)) ok_t))))))) (fun x => (by kernel_rfl))
def herbariumlaw6_step.fx (K : Nat) : FX PP := ⟨115, herbariumlaw6_step.sg, _, herbariumlaw6_step.ct K⟩
def graph_Empty.C (K : Nat) : CE := ⟨⟨PP, tys⟩, [], [], K, [(1, [2])], [], [], 7, []⟩
theorem graph_Empty.ct (K : Nat) : CtX PP 84 graph_Empty.sg (fun x => graph_Empty K x) := ct_x (C := graph_Empty.C K) (fn := Try.f84) (c := Try.f84.body.get!) (lt := .t) fol (by kernel_rfl) (by kernel_rfl) rfl (fun x => (by kernel_rfl)) (ok_t) (fun x => (by kernel_rfl))
def graph_Empty.fx (K : Nat) : FX PP := ⟨84, graph_Empty.sg, _, graph_Empty.ct K⟩
def graph_New.C (K : Nat) : CE := ⟨⟨PP, tys⟩, [(84, some (graph_Empty.fx K))], [], K, [], [], [], 13, []⟩
theorem graph_New.ct (K : Nat) : CtX PP 44 graph_New.sg (fun x => graph_New K x) := ct_x (C := graph_New.C K) (fn := Try.f44) (c := Try.f44.body.get!) (lt := .t) fol (by kernel_rfl) (by kernel_rfl) rfl (fun x => (by kernel_rfl)) (ok_t) (fun x => (by kernel_rfl))
def graph_New.fx (K : Nat) : FX PP := ⟨44, graph_New.sg, _, graph_New.ct K⟩
def herbariumref6_New.C (K : Nat) : CE := ⟨⟨PP, tys⟩, [], [], K, [(1, [2])], [], [], 7, []⟩
theorem herbariumref6_New.ct (K : Nat) : CtX PP 94 herbariumref6_New.sg (fun x => herbariumref6_New K x) := ct_x (C := herbariumref6_New.C K) (fn := Try.f94) (c := Try.f94.body.get!) (lt := .t) fol (by kernel_rfl) (by kernel_rfl) rfl (fun x => (by kernel_rfl)) (ok_t) (fun x => (by kernel_rfl))
def herbariumref6_New.fx (K : Nat) : FX PP := ⟨94, herbariumref6_New.sg, _, herbariumref6_New.ct K⟩
def herbariumlaw6_wakes.C (K : Nat) : CE := ⟨⟨PP, tys⟩, [(44, some (graph_New.fx K)), (46, some (graph_Add.fx K)), (45, some (herbariumlaw6_num.fx K))], [], K, [], [], [], 47, []⟩
theorem herbariumlaw6_wakes.ct (K : Nat) : CtX PP 50 herbariumlaw6_wakes.sg (fun x => herbariumlaw6_wakes K) := ct_x (C := herbariumlaw6_wakes.C K) (fn := Try.f50) (c := Try.f50.body.get!) (lt := .t) fol (by kernel_rfl) (by kernel_rfl) rfl (fun x => (by kernel_rfl)) (ok_t) (fun x => (by kernel_rfl))
def herbariumlaw6_wakes.fx (K : Nat) : FX PP := ⟨50, herbariumlaw6_wakes.sg, _, herbariumlaw6_wakes.ct K⟩
def herbariumlaw6_GraphExact.l1.M : Tm := ⟨[(1, .c (.bx 5016000 0)), (3, .c (.vf 5016001)), (4, .c (.p (.int .i64) false (11, 0)))], [(5016000, .box [.p (.sl Ty_api_Graph) true (1, 0), .p (.sl Ty_herbariumlaw6_Act) true (1, 1)]), (5016001, .row Ty_api_Graph false false (10, 0))], [(1, herbariumlaw6_GraphExact.sg.A)]⟩
def herbariumlaw6_GraphExact.l2.M : Tm := ⟨[(1, .c (.bx 5030000 0)), (3, .c (.vf 5030001)), (4, .c (.p (.int .i64) true (11, 0))), (5, .c (.bx 5030002 0)), (6, .c (.p (.int .i64) false (12, 0)))], [(5030000, .box [.p (.sl Ty_api_Graph) true (1, 0), .p (.sl Ty_herbariumlaw6_Act) true (1, 1)]), (5030001, .row Ty_api_Graph false true (10, 0)), (5030002, .box [.p (.int .i64) false (17, 0), .p (.sl (.sl (.int .i64))) false (18, 0)])], [(1, herbariumlaw6_GraphExact.sg.A), (10, (.sl Ty_api_Graph)), (11, (.int .i64))]⟩
def herbariumlaw6_GraphExact.l3.M : Tm := ⟨[(9, .c (.p (.int .i64) false (13, 0)))], [], []⟩
def herbariumlaw6_GraphExact.j4.M : Tm := ⟨[(9, .c (.p (.int .i64) true (13, 0))), (10, .c (.bx 5071000 0)), (11, .c (.p (.int .i64) true (4000066, 2))), (12, .c (.p (.int .i64) false (14, 0))), (13, .c (.bx 5071002 0))], [(5071000, .box [.p (.int .i64) true (4000066, 0), .vf 5071001]), (5071001, .row (.sl (.int .i64)) true true (4000066, 1)), (5071002, .box [.p (.int .i64) false (15, 0), .vf 5071003]), (5071003, .row (.sl (.int .i64)) true false (16, 0))], [(13, (.int .i64)), (4000066, graph_New.sg.R)]⟩
def herbariumlaw6_GraphExact.C (K : Nat) : CE := ⟨⟨PP, tys⟩, [(52, some (herbariumlaw6_Heavy.fx K)), (27, some (herbariumref0_CopyGraph.fx K)), (115, some (herbariumlaw6_step.fx K)), (44, some (graph_New.fx K)), (34, some (herbariumref0_Num.fx K)), (94, some (herbariumref6_New.fx K)), (45, some (herbariumlaw6_num.fx K)), (40, some (herbariumref0_EqGraph.fx K)), (50, some (herbariumlaw6_wakes.fx K))], [], K, [], [], [], 84, []⟩
def herbariumlaw6_GraphExact.lt (K : Nat) : LT herbariumlaw6_GraphExact.sg.R.D := .two .t (.two .t (.two .t (.two (.two .t (.one (.loop herbariumlaw6_GraphExact.l1.M (fun n c p => herbariumlaw6_GraphExact.l1 K c n p.1 p.2) (fun nl1 => .two .t (.two (.one (.two .t (.two .t (.one (.loop herbariumlaw6_GraphExact.l2.M (fun n c p => herbariumlaw6_GraphExact.l2 K (herbariumlaw6_GraphExact.l1 K c.1 nl1) c.2.1 c.2.2 c.1 n p.1 p.2.1 p.2.2) (fun nl2 => .t)))))) .t))))) (.two (.two .t (.one (.loop herbariumlaw6_GraphExact.l3.M (fun n c p => herbariumlaw6_GraphExact.l3 K n p) (fun nl3 => .two .t (.two (.one (.two .t (.two .t (.two .t (.join herbariumlaw6_GraphExact.j4.M (fun c p => herbariumlaw6_GraphExact.j4 K (herbariumlaw6_GraphExact.l3 K nl3) c.2 c.1 p.1 p.2.1 p.2.2) .t .t))))) .t))))) .t))))
theorem herbariumlaw6_GraphExact.ct (K : Nat) : CtX PP 92 herbariumlaw6_GraphExact.sg (fun x => herbariumlaw6_GraphExact K x) := ct_x (C := herbariumlaw6_GraphExact.C K) (fn := Try.f92) (c := Try.f92.body.get!) (lt := (herbariumlaw6_GraphExact.lt K)) fol (by kernel_rfl) (by kernel_rfl) rfl (fun x => (by kernel_rfl)) (ok_two ok_t (ok_two ok_t (ok_two ok_t (ok_two (ok_two ok_t (ok_block (ok_loop (fun c p => (by kernel_rfl)) (fun nl1 => ⟨fun c p => (by kernel_rfl), ok_two ok_t (ok_two (ok_block (ok_two ok_t (ok_two ok_t (ok_block (ok_loop (fun c p => (by kernel_rfl)) (fun nl2 => ⟨fun c p => (by kernel_rfl), ok_t⟩)))))) ok_t)⟩)))) (ok_two (ok_two ok_t (ok_block (ok_loop (fun c p => (by kernel_rfl)) (fun nl3 => ⟨fun c p => (by kernel_rfl), ok_two ok_t (ok_two (ok_block (ok_two ok_t (ok_two ok_t (ok_two ok_t (ok_join ok_t (fun c p => (by kernel_rfl)) ok_t))))) ok_t)⟩)))) ok_t))))) (fun x => (by kernel_rfl))
def herbariumlaw6_GraphExact.fx (K : Nat) : FX PP := ⟨92, herbariumlaw6_GraphExact.sg, _, herbariumlaw6_GraphExact.ct K⟩
def herbariumlaw6_only.l1.M : Tm := ⟨[(1, .c (.p (.sl (.int .i64)) true (1, 2))), (2, .c (.bx 5010000 0)), (5, .c (.bx 5010001 0)), (6, .c (.p (.int .i64) false (10, 0)))], [(5010000, .box [.p (.sl Ty_api_Graph) true (1, 0), .p (.sl Ty_herbariumlaw6_Act) true (1, 1)]), (5010001, .box [.p (.sl Ty_api_Graph) true (1, 0), .vf 5010002]), (5010002, .row Ty_herbariumlaw6_Act false false (11, 0))], [(1, herbariumlaw6_only.sg.A)]⟩
def herbariumlaw6_only.C (K : Nat) : CE := ⟨⟨PP, tys⟩, [(92, some (herbariumlaw6_GraphExact.fx K))], [], K, [], [], [], 38, []⟩
def herbariumlaw6_only.lt (K : Nat) : LT herbariumlaw6_only.sg.R.D := .two .t (.two .t (.two .t (.two (.two .t (.one (.loop herbariumlaw6_only.l1.M (fun n c p => herbariumlaw6_only.l1 K c.1 c.2 n p.1 p.2) (fun nl1 => .t)))) .t)))
theorem herbariumlaw6_only.ct (K : Nat) : CtX PP 51 herbariumlaw6_only.sg (fun x => herbariumlaw6_only K x.1 x.2) := ct_x (C := herbariumlaw6_only.C K) (fn := Try.f51) (c := Try.f51.body.get!) (lt := (herbariumlaw6_only.lt K)) fol (by kernel_rfl) (by kernel_rfl) rfl (fun x => (by kernel_rfl)) (ok_two ok_t (ok_two ok_t (ok_two ok_t (ok_two (ok_two ok_t (ok_block (ok_loop (fun c p => (by kernel_rfl)) (fun nl1 => ⟨fun c p => (by kernel_rfl), ok_t⟩)))) ok_t)))) (fun x => (by kernel_rfl))
def herbariumlaw6_only.fx (K : Nat) : FX PP := ⟨51, herbariumlaw6_only.sg, _, herbariumlaw6_only.ct K⟩
def herbariumlaw6_GraphAdds.C (K : Nat) : CE := ⟨⟨PP, tys⟩, [(51, some (herbariumlaw6_only.fx K))], [], K, [], [], [], 6, []⟩
theorem herbariumlaw6_GraphAdds.ct (K : Nat) : CtX PP 13 herbariumlaw6_GraphAdds.sg (fun x => herbariumlaw6_GraphAdds K x) := ct_x (C := herbariumlaw6_GraphAdds.C K) (fn := Try.f13) (c := Try.f13.body.get!) (lt := .t) fol (by kernel_rfl) (by kernel_rfl) rfl (fun x => (by kernel_rfl)) (ok_t) (fun x => (by kernel_rfl))
def herbariumlaw6_GraphAdds.fx (K : Nat) : FX PP := ⟨13, herbariumlaw6_GraphAdds.sg, _, herbariumlaw6_GraphAdds.ct K⟩
def herbariumlaw6_GraphCuts.C (K : Nat) : CE := ⟨⟨PP, tys⟩, [(51, some (herbariumlaw6_only.fx K))], [], K, [], [], [], 6, []⟩
theorem herbariumlaw6_GraphCuts.ct (K : Nat) : CtX PP 14 herbariumlaw6_GraphCuts.sg (fun x => herbariumlaw6_GraphCuts K x) := ct_x (C := herbariumlaw6_GraphCuts.C K) (fn := Try.f14) (c := Try.f14.body.get!) (lt := .t) fol (by kernel_rfl) (by kernel_rfl) rfl (fun x => (by kernel_rfl)) (ok_t) (fun x => (by kernel_rfl))
def herbariumlaw6_GraphCuts.fx (K : Nat) : FX PP := ⟨14, herbariumlaw6_GraphCuts.sg, _, herbariumlaw6_GraphCuts.ct K⟩
def herbariumlaw6_GraphGrows.C (K : Nat) : CE := ⟨⟨PP, tys⟩, [(51, some (herbariumlaw6_only.fx K))], [], K, [], [], [], 6, []⟩
theorem herbariumlaw6_GraphGrows.ct (K : Nat) : CtX PP 15 herbariumlaw6_GraphGrows.sg (fun x => herbariumlaw6_GraphGrows K x) := ct_x (C := herbariumlaw6_GraphGrows.C K) (fn := Try.f15) (c := Try.f15.body.get!) (lt := .t) fol (by kernel_rfl) (by kernel_rfl) rfl (fun x => (by kernel_rfl)) (ok_t) (fun x => (by kernel_rfl))
def herbariumlaw6_GraphGrows.fx (K : Nat) : FX PP := ⟨15, herbariumlaw6_GraphGrows.sg, _, herbariumlaw6_GraphGrows.ct K⟩
end
end Go.XM
end
