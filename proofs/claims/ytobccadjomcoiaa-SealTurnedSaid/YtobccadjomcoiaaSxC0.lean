import Derived.Test.YtobccadjomcoiaaSxY0
import Derived.Test.YtobccadjomcoiaaProg
set_option linter.all false
section
namespace Go.XM
open Go.Proofs
noncomputable section
set_option maxRecDepth 100000
noncomputable abbrev PP := Try.prog
theorem fol : PP.follows .mixedOrders = true := by kernel_rfl
def tys : List (Nat × Option Ty) := [(5, some (.int .u8)), (9, some .str)]
def herbariumlaw0_Texts.l1.M : Tm := ⟨[(0, .c (.p (.sl .str) true (1, 0))), (3, .c (.p (.int .i64) false (10, 0))), (4, .c (.p (.int .i64) false (11, 0)))], [], [(1, herbariumlaw0_Texts.sg.A)]⟩
def herbariumlaw0_Texts.C (K : Nat) : CE := ⟨⟨PP, tys⟩, [], [], K, [], [], [], 25, []⟩
def herbariumlaw0_Texts.lt (K : Nat) : LT herbariumlaw0_Texts.sg.R.D := .two .t (.two .t (.two (.two .t (.one (.loop herbariumlaw0_Texts.l1.M (fun n c p => herbariumlaw0_Texts.l1 K c n p.1 p.2) (fun nl1 => .t)))) .t))
theorem herbariumlaw0_Texts.ct (K : Nat) : CtX PP 37 herbariumlaw0_Texts.sg (fun x => herbariumlaw0_Texts K x) := ct_x (C := herbariumlaw0_Texts.C K) (fn := Try.f37) (c := Try.f37.body.get!) (lt := (herbariumlaw0_Texts.lt K)) fol (by kernel_rfl) (by kernel_rfl) rfl (fun x => (by kernel_rfl)) (ok_two ok_t (ok_two ok_t (ok_two (ok_two ok_t (ok_block (ok_loop (fun c p => (by kernel_rfl)) (fun nl1 => ⟨fun c p => (by kernel_rfl), ok_t⟩)))) ok_t))) (fun x => (by kernel_rfl))
def herbariumlaw0_Texts.fx (K : Nat) : FX PP := ⟨37, herbariumlaw0_Texts.sg, _, herbariumlaw0_Texts.ct K⟩
def herbariumlaw17_Heavy.C (K : Nat) : CE := ⟨⟨PP, tys⟩, [(37, some (herbariumlaw0_Texts.fx K))], [], K, [], [], [], 7, []⟩
theorem herbariumlaw17_Heavy.ct (K : Nat) : CtX PP 11 herbariumlaw17_Heavy.sg (fun x => herbariumlaw17_Heavy K x) := ct_x (C := herbariumlaw17_Heavy.C K) (fn := Try.f11) (c := Try.f11.body.get!) (lt := .t) fol (by kernel_rfl) (by kernel_rfl) rfl (fun x => (by kernel_rfl)) (ok_t) (fun x => (by kernel_rfl))
def herbariumlaw17_Heavy.fx (K : Nat) : FX PP := ⟨11, herbariumlaw17_Heavy.sg, _, herbariumlaw17_Heavy.ct K⟩
theorem strings_Repeat.ct (K : Nat) : CtX PP 38 strings_Repeat.sg (fun x => strings_Repeat K x.1 x.2) := ct_repeat Try.laysNm105 Try.extra105
def strings_Repeat.fx (K : Nat) : FX PP := ⟨38, strings_Repeat.sg, _, strings_Repeat.ct K⟩
def seal_Of.l1.M : Tm := ⟨[(0, .c (.p .str true (1, 0))), (3, .c (.p (.int .u32) false (10, 0))), (4, .c (.p (.int .u32) false (11, 0))), (7, .c (.p (.int .i64) false (12, 0))), (8, .c (.p (.int .i64) false (13, 0)))], [], [(1, seal_Of.sg.A)]⟩
def seal_Of.C (K : Nat) : CE := ⟨⟨PP, tys⟩, [], [], K, [], [], [], 27, []⟩
def seal_Of.lt (K : Nat) : LT seal_Of.sg.R.D := .two .t (.two .t (.two (.two .t (.one (.loop seal_Of.l1.M (fun n c p => seal_Of.l1 K c n p.1 p.2.1 p.2.2.1 p.2.2.2) (fun nl1 => .t)))) .t))
theorem seal_Of.ct (K : Nat) : CtX PP 13 seal_Of.sg (fun x => seal_Of K x) := ct_x (C := seal_Of.C K) (fn := Try.f13) (c := Try.f13.body.get!) (lt := (seal_Of.lt K)) fol (by kernel_rfl) (by kernel_rfl) rfl (fun x => (by kernel_rfl)) (ok_two ok_t (ok_two ok_t (ok_two (ok_two ok_t (ok_block (ok_loop (fun c p => (by kernel_rfl)) (fun nl1 => ⟨fun c p => (by kernel_rfl), ok_t⟩)))) ok_t))) (fun x => (by kernel_rfl))
def seal_Of.fx (K : Nat) : FX PP := ⟨13, seal_Of.sg, _, seal_Of.ct K⟩
def seal_check.C (K : Nat) : CE := ⟨⟨PP, tys⟩, [(13, some (seal_Of.fx K))], [], K, [], [], [], 19, []⟩
theorem seal_check.ct (K : Nat) : CtX PP 39 seal_check.sg (fun x => seal_check K x) := ct_x (C := seal_check.C K) (fn := Try.f39) (c := Try.f39.body.get!) (lt := .t) fol (by kernel_rfl) (by kernel_rfl) rfl (fun x => (by kernel_rfl)) (ok_t) (fun x => (by kernel_rfl))
def seal_check.fx (K : Nat) : FX PP := ⟨39, seal_check.sg, _, seal_check.ct K⟩
def seal_Add.C (K : Nat) : CE := ⟨⟨PP, tys⟩, [(38, some (strings_Repeat.fx K)), (39, some (seal_check.fx K))], [], K, [], [], [], 18, []⟩
theorem seal_Add.ct (K : Nat) : CtX PP 12 seal_Add.sg (fun x => seal_Add K x) := ct_x (C := seal_Add.C K) (fn := Try.f12) (c := Try.f12.body.get!) (lt := .t) fol (by kernel_rfl) (by kernel_rfl) rfl (fun x => (by kernel_rfl)) (ok_t) (fun x => (by kernel_rfl))
def seal_Add.fx (K : Nat) : FX PP := ⟨12, seal_Add.sg, _, seal_Add.ct K⟩
def herbariumref17_Of.l1.M : Tm := ⟨[(0, .c (.p .str true (1, 0))), (3, .c (.p (.int .i64) false (10, 0))), (4, .c (.p (.int .i64) false (11, 0))), (5, .c (.p (.int .i64) false (12, 0)))], [], [(1, herbariumref17_Of.sg.A)]⟩
def herbariumref17_Of.C (K : Nat) : CE := ⟨⟨PP, tys⟩, [], [], K, [], [], [], 28, []⟩
def herbariumref17_Of.lt (K : Nat) : LT herbariumref17_Of.sg.R.D := .two .t (.two .t (.two (.two .t (.one (.loop herbariumref17_Of.l1.M (fun n c p => herbariumref17_Of.l1 K c n p.1 p.2.1 p.2.2) (fun nl1 => .t)))) .t))
theorem herbariumref17_Of.ct (K : Nat) : CtX PP 14 herbariumref17_Of.sg (fun x => herbariumref17_Of K x) := ct_x (C := herbariumref17_Of.C K) (fn := Try.f14) (c := Try.f14.body.get!) (lt := (herbariumref17_Of.lt K)) fol (by kernel_rfl) (by kernel_rfl) rfl (fun x => (by kernel_rfl)) (ok_two ok_t (ok_two ok_t (ok_two (ok_two ok_t (ok_block (ok_loop (fun c p => (by kernel_rfl)) (fun nl1 => ⟨fun c p => (by kernel_rfl), ok_t⟩)))) ok_t))) (fun x => (by kernel_rfl))
def herbariumref17_Of.fx (K : Nat) : FX PP := ⟨14, herbariumref17_Of.sg, _, herbariumref17_Of.ct K⟩
def herbariumref0_Zeros.C (K : Nat) : CE := ⟨⟨PP, tys⟩, [], [], K, [], [], [], 6, []⟩
theorem herbariumref0_Zeros.ct (K : Nat) : CtX PP 21 herbariumref0_Zeros.sg (fun x => herbariumref0_Zeros K x) := ct_x (C := herbariumref0_Zeros.C K) (fn := Try.f21) (c := Try.f21.body.get!) (lt := .t) fol (by kernel_rfl) (by kernel_rfl) rfl (fun x => (by kernel_rfl)) (ok_t) (fun x => (by kernel_rfl))
def herbariumref0_Zeros.fx (K : Nat) : FX PP := ⟨21, herbariumref0_Zeros.sg, _, herbariumref0_Zeros.ct K⟩
def herbariumref17_number.C (K : Nat) : CE := ⟨⟨PP, tys⟩, [], [], K, [], [], [], 16, []⟩
theorem herbariumref17_number.ct (K : Nat) : CtX PP 40 herbariumref17_number.sg (fun x => herbariumref17_number K x) := ct_x (C := herbariumref17_number.C K) (fn := Try.f40) (c := Try.f40.body.get!) (lt := .t) fol (by kernel_rfl) (by kernel_rfl) rfl (fun x => (by kernel_rfl)) (ok_t) (fun x => (by kernel_rfl))
def herbariumref17_number.fx (K : Nat) : FX PP := ⟨40, herbariumref17_number.sg, _, herbariumref17_number.ct K⟩
def herbariumref17_Add.j1.M : Tm := ⟨[(0, .c (.p .str false (10, 0)))], [], []⟩
def herbariumref17_Add.C (K : Nat) : CE := ⟨⟨PP, tys⟩, [(21, some (herbariumref0_Zeros.fx K)), (14, some (herbariumref17_Of.fx K)), (40, some (herbariumref17_number.fx K))], [], K, [], [], [], 20, []⟩
def herbariumref17_Add.lt (K : Nat) : LT herbariumref17_Add.sg.R.D := .two .t (.join herbariumref17_Add.j1.M (fun c p => herbariumref17_Add.j1 K p) .t .t)
theorem herbariumref17_Add.ct (K : Nat) : CtX PP 15 herbariumref17_Add.sg (fun x => herbariumref17_Add K x) := ct_x (C := herbariumref17_Add.C K) (fn := Try.f15) (c := Try.f15.body.get!) (lt := (herbariumref17_Add.lt K)) fol (by kernel_rfl) (by kernel_rfl) rfl (fun x => (by kernel_rfl)) (ok_two ok_t (ok_join ok_t (fun c p => (by kernel_rfl)) ok_t)) (fun x => (by kernel_rfl))
def herbariumref17_Add.fx (K : Nat) : FX PP := ⟨15, herbariumref17_Add.sg, _, herbariumref17_Add.ct K⟩
def seal_Take.C (K : Nat) : CE := ⟨⟨PP, tys⟩, [(39, some (seal_check.fx K))], [], K, [], [], [], 17, []⟩
theorem seal_Take.ct (K : Nat) : CtX PP 16 seal_Take.sg (fun x => seal_Take K x) := ct_x (C := seal_Take.C K) (fn := Try.f16) (c := Try.f16.body.get!) (lt := .t) fol (by kernel_rfl) (by kernel_rfl) rfl (fun x => (by kernel_rfl)) (ok_t) (fun x => (by kernel_rfl))
def seal_Take.fx (K : Nat) : FX PP := ⟨16, seal_Take.sg, _, seal_Take.ct K⟩
def herbariumref17_Take.C (K : Nat) : CE := ⟨⟨PP, tys⟩, [(15, some (herbariumref17_Add.fx K))], [], K, [], [], [], 16, []⟩
theorem herbariumref17_Take.ct (K : Nat) : CtX PP 17 herbariumref17_Take.sg (fun x => herbariumref17_Take K x) := ct_x (C := herbariumref17_Take.C K) (fn := Try.f17) (c := Try.f17.body.get!) (lt := .t) fol (by kernel_rfl) (by kernel_rfl) rfl (fun x => (by kernel_rfl)) (ok_t) (fun x => (by kernel_rfl))
def herbariumref17_Take.fx (K : Nat) : FX PP := ⟨17, herbariumref17_Take.sg, _, herbariumref17_Take.ct K⟩
def herbariumlaw17_wakes.C (K : Nat) : CE := ⟨⟨PP, tys⟩, [(12, some (seal_Add.fx K)), (16, some (seal_Take.fx K)), (13, some (seal_Of.fx K))], [], K, [], [], [], 27, []⟩
theorem herbariumlaw17_wakes.ct (K : Nat) : CtX PP 18 herbariumlaw17_wakes.sg (fun x => herbariumlaw17_wakes K) := ct_x (C := herbariumlaw17_wakes.C K) (fn := Try.f18) (c := Try.f18.body.get!) (lt := .t) fol (by kernel_rfl) (by kernel_rfl) rfl (fun x => (by kernel_rfl)) (ok_t) (fun x => (by kernel_rfl))
def herbariumlaw17_wakes.fx (K : Nat) : FX PP := ⟨18, herbariumlaw17_wakes.sg, _, herbariumlaw17_wakes.ct K⟩
def herbariumlaw17_SealExact.l1.M : Tm := ⟨[(1, .c (.bx 5014000 0)), (3, .c (.p (.int .i64) false (10, 0)))], [(5014000, .box [.p (.sl .str) true (1, 0)])], [(1, herbariumlaw17_SealExact.sg.A)]⟩
def herbariumlaw17_SealExact.l2.M : Tm := ⟨[(1, .c (.bx 5039000 0)), (3, .c (.p (.int .i64) true (10, 0))), (4, .c (.p .str true (4000031, 0))), (5, .c (.vf 5039001)), (6, .c (.p (.int .i64) false (12, 0)))], [(5039000, .box [.p (.sl .str) true (1, 0)]), (5039001, .row .str false false (11, 0))], [(1, herbariumlaw17_SealExact.sg.A), (10, (.int .i64)), (4000031, seal_Add.sg.R)]⟩
def herbariumlaw17_SealExact.l3.M : Tm := ⟨[(1, .c (.bx 5057000 0)), (3, .c (.p (.int .i64) true (10, 0))), (5, .c (.vf 5057001)), (8, .c (.p (.int .i64) false (13, 0)))], [(5057000, .box [.p (.sl .str) true (1, 0)]), (5057001, .row .str false true (11, 0))], [(1, herbariumlaw17_SealExact.sg.A), (10, (.int .i64)), (11, (.sl .str))]⟩
def herbariumlaw17_SealExact.C (K : Nat) : CE := ⟨⟨PP, tys⟩, [(11, some (herbariumlaw17_Heavy.fx K)), (12, some (seal_Add.fx K)), (13, some (seal_Of.fx K)), (14, some (herbariumref17_Of.fx K)), (15, some (herbariumref17_Add.fx K)), (16, some (seal_Take.fx K)), (17, some (herbariumref17_Take.fx K)), (18, some (herbariumlaw17_wakes.fx K))], [], K, [], [], [], 133, []⟩
def herbariumlaw17_SealExact.lt (K : Nat) : LT herbariumlaw17_SealExact.sg.R.D := .two .t (.two .t (.two (.two .t (.one (.loop herbariumlaw17_SealExact.l1.M (fun n c p => herbariumlaw17_SealExact.l1 K c n p) (fun nl1 => .two .t (.two (.one (.two .t (.two .t (.two .t (.two (.two .t (.one (.loop herbariumlaw17_SealExact.l2.M (fun n c p => herbariumlaw17_SealExact.l2 K (herbariumlaw17_SealExact.l1 K c.1 nl1) c.2.2 c.2.1 c.1 n p.1 p.2) (fun nl2 => .t)))) (.two .t (.one (.loop herbariumlaw17_SealExact.l3.M (fun n c p => herbariumlaw17_SealExact.l3 K (herbariumlaw17_SealExact.l1 K c.1 nl1) c.2.1 c.2.2 c.1 n p) (fun nl3 => .t))))))))) .t))))) .t))
theorem herbariumlaw17_SealExact.ct (K : Nat) : CtX PP 3 herbariumlaw17_SealExact.sg (fun x => herbariumlaw17_SealExact K x) := ct_x (C := herbariumlaw17_SealExact.C K) (fn := Try.f3) (c := Try.f3.body.get!) (lt := (herbariumlaw17_SealExact.lt K)) fol (by kernel_rfl) (by kernel_rfl) rfl (fun x => (by kernel_rfl)) (ok_two ok_t (ok_two ok_t (ok_two (ok_two ok_t (ok_block (ok_loop (fun c p => (by kernel_rfl)) (fun nl1 => ⟨fun c p => (by kernel_rfl), ok_two ok_t (ok_two (ok_block (ok_two ok_t (ok_two ok_t (ok_two ok_t (ok_two (ok_two ok_t (ok_block (ok_loop (fun c p => (by kernel_rfl)) (fun nl2 => ⟨fun c p => (by kernel_rfl), ok_t⟩)))) (ok_two ok_t (ok_block (ok_loop (fun c p => (by kernel_rfl)) (fun nl3 => ⟨fun c p => (by kernel_rfl), ok_t⟩))))))))) ok_t)⟩)))) ok_t))) (fun x => (by kernel_rfl))
def herbariumlaw17_SealExact.fx (K : Nat) : FX PP := ⟨3, herbariumlaw17_SealExact.sg, _, herbariumlaw17_SealExact.ct K⟩
def herbariumlaw0_Within.C (K : Nat) : CE := ⟨⟨PP, tys⟩, [], [], K, [], [], [], 11, []⟩
theorem herbariumlaw0_Within.ct (K : Nat) : CtX PP 19 herbariumlaw0_Within.sg (fun x => herbariumlaw0_Within K x.1 x.2) := ct_x (C := herbariumlaw0_Within.C K) (fn := Try.f19) (c := Try.f19.body.get!) (lt := .t) fol (by kernel_rfl) (by kernel_rfl) rfl (fun x => (by kernel_rfl)) (ok_t) (fun x => (by kernel_rfl))
def herbariumlaw0_Within.fx (K : Nat) : FX PP := ⟨19, herbariumlaw0_Within.sg, _, herbariumlaw0_Within.ct K⟩
def herbariumlaw17_SealTurned.l1.M : Tm := ⟨[(1, .c (.bx 5014000 0)), (3, .c (.p (.int .i64) false (10, 0)))], [(5014000, .box [.p (.sl .str) true (1, 0)])], [(1, herbariumlaw17_SealTurned.sg.A)]⟩
def herbariumlaw17_SealTurned.l2.M : Tm := ⟨[(1, .c (.bx 5036000 0)), (3, .c (.p (.int .i64) true (10, 0))), (4, .c (.p .str true (4000027, 0))), (5, .c (.p (.int .i64) false (11, 0)))], [(5036000, .box [.p (.sl .str) true (1, 0)])], [(1, herbariumlaw17_SealTurned.sg.A), (10, (.int .i64)), (4000027, seal_Add.sg.R)]⟩
def herbariumlaw17_SealTurned.C (K : Nat) : CE := ⟨⟨PP, tys⟩, [(11, some (herbariumlaw17_Heavy.fx K)), (12, some (seal_Add.fx K)), (19, some (herbariumlaw0_Within.fx K)), (16, some (seal_Take.fx K)), (18, some (herbariumlaw17_wakes.fx K))], [], K, [], [], [], 63, []⟩
def herbariumlaw17_SealTurned.lt (K : Nat) : LT herbariumlaw17_SealTurned.sg.R.D := .two .t (.two .t (.two (.two .t (.one (.loop herbariumlaw17_SealTurned.l1.M (fun n c p => herbariumlaw17_SealTurned.l1 K c n p) (fun nl1 => .two .t (.two (.one (.two .t (.two .t (.two .t (.one (.loop herbariumlaw17_SealTurned.l2.M (fun n c p => herbariumlaw17_SealTurned.l2 K (herbariumlaw17_SealTurned.l1 K c.1 nl1) c.2.1 c.2.2 c.1 n p) (fun nl2 => .t))))))) .t))))) .t))
theorem herbariumlaw17_SealTurned.ct (K : Nat) : CtX PP 4 herbariumlaw17_SealTurned.sg (fun x => herbariumlaw17_SealTurned K x) := ct_x (C := herbariumlaw17_SealTurned.C K) (fn := Try.f4) (c := Try.f4.body.get!) (lt := (herbariumlaw17_SealTurned.lt K)) fol (by kernel_rfl) (by kernel_rfl) rfl (fun x => (by kernel_rfl)) (ok_two ok_t (ok_two ok_t (ok_two (ok_two ok_t (ok_block (ok_loop (fun c p => (by kernel_rfl)) (fun nl1 => ⟨fun c p => (by kernel_rfl), ok_two ok_t (ok_two (ok_block (ok_two ok_t (ok_two ok_t (ok_two ok_t (ok_block (ok_loop (fun c p => (by kernel_rfl)) (fun nl2 => ⟨fun c p => (by kernel_rfl), ok_t⟩))))))) ok_t)⟩)))) ok_t))) (fun x => (by kernel_rfl))
def herbariumlaw17_SealTurned.fx (K : Nat) : FX PP := ⟨4, herbariumlaw17_SealTurned.sg, _, herbariumlaw17_SealTurned.ct K⟩
end
end Go.XM
end
