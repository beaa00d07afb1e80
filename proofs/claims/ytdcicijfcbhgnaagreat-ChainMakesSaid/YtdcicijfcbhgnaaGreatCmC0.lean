import Derived.Test.YtdcicijfcbhgnaaGreatCmY0
import Derived.Test.YtdcicijfcbhgnaaGreatProg
set_option linter.all false
section
namespace Go.XM
open Go.Proofs
noncomputable section
set_option maxRecDepth 100000
noncomputable abbrev PP:=Tryz.prog
theorem fol:PP.follows .mixedOrders=true:=by kernel_rfl
def tys:List (Nat × Option Ty):=[(3,some (.int .i64)),(4,some .bool),(5,some (.int .u8)),(30,some Bu),(33,some Cs),(34,some (.int .i64)),(37,some (.sl (.int .i64))),(96,some A0),(146,some Eg),(184,some Cr),(206,some Ee)]
def Az.l1.M:Tm:=⟨[(0,.c (.p (.sl A0) true (1,0))),(3,.c (.p (.int .i64) false (10,0))),(4,.c (.p (.int .i64) false (11,0)))],[],[(1,Az.sg.A)]⟩
def Az.C (K:Nat):CE:=⟨⟨PP,tys⟩,[],[],K,[],[],[],28,[]⟩
def Az.lt (K:Nat):LT Az.sg.R.D:=.two .t (.two .t (.two (.two .t (.one (.loop Az.l1.M (fun n c p=>Az.l1 K c n p.1 p.2) (fun nl1=>.t)))) .t))
theorem Az.ct (K:Nat):CtX PP 115 Az.sg (fun x=>Az K x):=ct_x (C:=Az.C K) (fn:=Tryz.f115) (c:=Tryz.f115.body.get!) (lt:=(Az.lt K)) fol (by kernel_rfl) (by kernel_rfl) rfl (fun x=>(by kernel_rfl)) (ok_two ok_t (ok_two ok_t (ok_two (ok_two ok_t (ok_block (ok_loop (fun c p=>(by kernel_rfl)) (fun nl1=>⟨fun c p=>(by kernel_rfl),ok_t⟩)))) ok_t))) (fun x=>(by kernel_rfl))
def Az.fx (K:Nat):FX PP:=⟨115,Az.sg,_,Az.ct K⟩
def Bx.l1.M:Tm:=⟨[(0,.c (.p (.sl (.sl (.int .i64))) true (1,0))),(3,.c (.p (.int .i64) false (10,0))),(4,.c (.p (.int .i64) false (11,0)))],[],[(1,Bx.sg.A)]⟩
def Bx.C (K:Nat):CE:=⟨⟨PP,tys⟩,[],[],K,[],[],[],25,[]⟩
def Bx.lt (K:Nat):LT Bx.sg.R.D:=.two .t (.two .t (.two (.two .t (.one (.loop Bx.l1.M (fun n c p=>Bx.l1 K c n p.1 p.2) (fun nl1=>.t)))) .t))
theorem Bx.ct (K:Nat):CtX PP 99 Bx.sg (fun x=>Bx K x):=ct_x (C:=Bx.C K) (fn:=Tryz.f99) (c:=Tryz.f99.body.get!) (lt:=(Bx.lt K)) fol (by kernel_rfl) (by kernel_rfl) rfl (fun x=>(by kernel_rfl)) (ok_two ok_t (ok_two ok_t (ok_two (ok_two ok_t (ok_block (ok_loop (fun c p=>(by kernel_rfl)) (fun nl1=>⟨fun c p=>(by kernel_rfl),ok_t⟩)))) ok_t))) (fun x=>(by kernel_rfl))
def Bx.fx (K:Nat):FX PP:=⟨99,Bx.sg,_,Bx.ct K⟩
def A6.l1.M:Tm:=⟨[(0,.c (.p (.sl Bu) true (1,0))),(3,.c (.p (.int .i64) false (10,0))),(4,.c (.p (.int .i64) false (11,0)))],[],[(1,A6.sg.A)]⟩
def A6.C (K:Nat):CE:=⟨⟨PP,tys⟩,[(99,some (Bx.fx K))],[],K,[],[],[],26,[]⟩
def A6.lt (K:Nat):LT A6.sg.R.D:=.two .t (.two .t (.two (.two .t (.one (.loop A6.l1.M (fun n c p=>A6.l1 K c n p.1 p.2) (fun nl1=>.t)))) .t))
theorem A6.ct (K:Nat):CtX PP 78 A6.sg (fun x=>A6 K x):=ct_x (C:=A6.C K) (fn:=Tryz.f78) (c:=Tryz.f78.body.get!) (lt:=(A6.lt K)) fol (by kernel_rfl) (by kernel_rfl) rfl (fun x=>(by kernel_rfl)) (ok_two ok_t (ok_two ok_t (ok_two (ok_two ok_t (ok_block (ok_loop (fun c p=>(by kernel_rfl)) (fun nl1=>⟨fun c p=>(by kernel_rfl),ok_t⟩)))) ok_t))) (fun x=>(by kernel_rfl))
def A6.fx (K:Nat):FX PP:=⟨78,A6.sg,_,A6.ct K⟩
def C3.C (K:Nat):CE:=⟨⟨PP,tys⟩,[(78,some (A6.fx K))],[],K,[],[],[],11,[]⟩
theorem C3.ct (K:Nat):CtX PP 11 C3.sg (fun x=>C3 K x):=ct_x (C:=C3.C K) (fn:=Tryz.f11) (c:=Tryz.f11.body.get!) (lt:=.t) fol (by kernel_rfl) (by kernel_rfl) rfl (fun x=>(by kernel_rfl)) (ok_t) (fun x=>(by kernel_rfl))
def C3.fx (K:Nat):FX PP:=⟨11,C3.sg,_,C3.ct K⟩
def Bl.l1.M:Tm:=⟨[(1,.c (.bx 5008000 0)),(3,.c (.p (.int .i64) false (10,0))),(4,.c (.p (.int .i64) false (11,0)))],[(5008000,.box [.p (.sl (.sl A0)) true (1,0),.p (.sl Bu) true (1,1),.p (.sl D0) true (1,2),.p (.sl (.int .i64)) true (1,3)])],[(1,Bl.sg.A)]⟩
def Bl.C (K:Nat):CE:=⟨⟨PP,tys⟩,[(115,some (Az.fx K)),(11,some (C3.fx K))],[],K,[],[],[],38,[]⟩
def Bl.lt (K:Nat):LT Bl.sg.R.D:=.two .t (.two .t (.two (.two .t (.one (.loop Bl.l1.M (fun n c p=>Bl.l1 K c n p.1 p.2) (fun nl1=>.t)))) .t))
theorem Bl.ct (K:Nat):CtX PP 52 Bl.sg (fun x=>Bl K x):=ct_x (C:=Bl.C K) (fn:=Tryz.f52) (c:=Tryz.f52.body.get!) (lt:=(Bl.lt K)) fol (by kernel_rfl) (by kernel_rfl) rfl (fun x=>(by kernel_rfl)) (ok_two ok_t (ok_two ok_t (ok_two (ok_two ok_t (ok_block (ok_loop (fun c p=>(by kernel_rfl)) (fun nl1=>⟨fun c p=>(by kernel_rfl),ok_t⟩)))) ok_t))) (fun x=>(by kernel_rfl))
def Bl.fx (K:Nat):FX PP:=⟨52,Bl.sg,_,Bl.ct K⟩
def Ay.l1.M:Tm:=⟨[(0,.c (.p (.sl A0) true (1,0))),(3,.c (.vf 5008000)),(4,.c (.p (.int .i64) false (10,0)))],[(5008000,.row A0 false false (11,0))],[(1,Ay.sg.A)]⟩
def Ay.C (K:Nat):CE:=⟨⟨PP,tys⟩,[],[],K,[],[],[],19,[]⟩
def Ay.lt (K:Nat):LT Ay.sg.R.D:=.two .t (.two .t (.two (.two .t (.one (.loop Ay.l1.M (fun n c p=>Ay.l1 K c n p.1 p.2) (fun nl1=>.t)))) .t))
theorem Ay.ct (K:Nat):CtX PP 59 Ay.sg (fun x=>Ay K x):=ct_x (C:=Ay.C K) (fn:=Tryz.f59) (c:=Tryz.f59.body.get!) (lt:=(Ay.lt K)) fol (by kernel_rfl) (by kernel_rfl) rfl (fun x=>(by kernel_rfl)) (ok_two ok_t (ok_two ok_t (ok_two (ok_two ok_t (ok_block (ok_loop (fun c p=>(by kernel_rfl)) (fun nl1=>⟨fun c p=>(by kernel_rfl),ok_t⟩)))) ok_t))) (fun x=>(by kernel_rfl))
def Ay.fx (K:Nat):FX PP:=⟨59,Ay.sg,_,Ay.ct K⟩
def Ba.j1.M:Tm:=⟨[(1,.c (.p (.sl A0) true (1,4))),(5,.c (.vf 5004000))],[(5004000,.row (.int .i64) false false (10,0))],[(1,Ba.sg.A)]⟩
def Ba.l2.M:Tm:=⟨[(1,.c (.p (.sl A0) true (1,4))),(5,.c (.vf 5014000)),(6,.c (.p (.int .i64) false (11,0)))],[(5014000,.row (.int .i64) false false (12,0))],[(1,Ba.sg.A)]⟩
def Ba.C (K:Nat):CE:=⟨⟨PP,tys⟩,[],[],K,[(3,[1])],[],[],35,[]⟩
def Ba.lt (K:Nat):LT Ba.sg.R.D:=.two .t (.two .t (.join Ba.j1.M (fun c p=>Ba.j1 K c.2 p) .t (.two (.two .t (.one (.loop Ba.l2.M (fun n c p=>Ba.l2 K c.2 n p.1 p.2) (fun nl2=>.t)))) .t)))
theorem Ba.ct (K:Nat):CtX PP 60 Ba.sg (fun x=>Ba K x.1 x.2):=ct_x (C:=Ba.C K) (fn:=Tryz.f60) (c:=Tryz.f60.body.get!) (lt:=(Ba.lt K)) fol (by kernel_rfl) (by kernel_rfl) rfl (fun x=>(by kernel_rfl)) (ok_two ok_t (ok_two ok_t (ok_join ok_t (fun c p=>(by kernel_rfl)) (ok_two (ok_two ok_t (ok_block (ok_loop (fun c p=>(by kernel_rfl)) (fun nl2=>⟨fun c p=>(by kernel_rfl),ok_t⟩)))) ok_t)))) (fun x=>(by kernel_rfl))
def Ba.fx (K:Nat):FX PP:=⟨60,Ba.sg,_,Ba.ct K⟩
def Dv.C (K:Nat):CE:=⟨⟨PP,tys⟩,[],[],K,[],[],[],41,[]⟩
theorem Dv.ct (K:Nat):CtX PP 89 Dv.sg (fun x=>Dv K x):=ct_x (C:=Dv.C K) (fn:=Tryz.f89) (c:=Tryz.f89.body.get!) (lt:=.t) fol (by kernel_rfl) (by kernel_rfl) rfl (fun x=>(by kernel_rfl)) (ok_t) (fun x=>(by kernel_rfl))
def Dv.fx (K:Nat):FX PP:=⟨89,Dv.sg,_,Dv.ct K⟩
def D6.C (K:Nat):CE:=⟨⟨PP,tys⟩,[],[],K,[],[],[1],8,[]⟩
theorem D6.ct (K:Nat):CtX PP 166 D6.sg (fun x=>D6 K x.1 x.2):=ct_x (C:=D6.C K) (fn:=Tryz.f166) (c:=Tryz.f166.body.get!) (lt:=.t) fol (by kernel_rfl) (by kernel_rfl) rfl (fun x=>(by kernel_rfl)) (ok_t) (fun x=>(by kernel_rfl))
def D6.fx (K:Nat):FX PP:=⟨166,D6.sg,_,D6.ct K⟩
def Ag.l1.M:Tm:=⟨[(0,.c (.p (.sl A0) true (1,0))),(1,.fn 166 [.bx 2 0]),(7,.c (.p (.int .i64) false (10,0))),(8,.c (.p (.int .i64) false (11,0)))],[(2,.box [.p (.int .i64) false (12,0)])],[(1,Ag.sg.A)]⟩
def Ag.C (K:Nat):CE:=⟨⟨PP,tys⟩,[(166,some (D6.fx K))],[],K,[],[],[2],19,[]⟩
def Ag.lt (K:Nat):LT Ag.sg.R.D:=.two .t (.two (.two .t (.one (.loop Ag.l1.M (fun n c p=>Ag.l1 K c.1 n p.1 p.2.1 p.2.2) (fun nl1=>.t)))) .t)
theorem Ag.ct (K:Nat):CtX PP 164 Ag.sg (fun x=>Ag K x.1 x.2.2):=ct_x (C:=Ag.C K) (fn:=Tryz.f164) (c:=Tryz.f164.body.get!) (lt:=(Ag.lt K)) fol (by kernel_rfl) (by kernel_rfl) rfl (fun x=>(by kernel_rfl)) (ok_two ok_t (ok_two (ok_two ok_t (ok_block (ok_loop (fun c p=>(by kernel_rfl)) (fun nl1=>⟨fun c p=>(by kernel_rfl),ok_t⟩)))) ok_t)) (fun x=>(by kernel_rfl))
def Ag.fx (K:Nat):FX PP:=⟨164,Ag.sg,_,Ag.ct K⟩
def Ds.C (K:Nat):CE:=⟨⟨PP,tys⟩,[(164,some (Ag.fx K))],[],K,[],[],[],8,[]⟩
theorem Ds.ct (K:Nat):CtX PP 129 Ds.sg (fun x=>Ds K x.1 x.2):=ct_x (C:=Ds.C K) (fn:=Tryz.f129) (c:=Tryz.f129.body.get!) (lt:=.t) fol (by kernel_rfl) (by kernel_rfl) rfl (fun x=>(by kernel_rfl)) (ok_t) (fun x=>(by kernel_rfl))
def Ds.fx (K:Nat):FX PP:=⟨129,Ds.sg,_,Ds.ct K⟩
def C8.l1.M:Tm:=⟨[(0,.c (.p (.sl A0) true (1,0))),(8,.c (.p (.sl A0) true (1,0))),(9,.c (.p (.int .i64) false (10,0))),(10,.c (.p (.int .i64) false (11,0)))],[],[(1,C8.sg.A)]⟩
def C8.C (K:Nat):CE:=⟨⟨PP,tys⟩,[(89,some (Dv.fx K)),(129,some (Ds.fx K))],[],K,[],[],[],62,[]⟩
def C8.lt (K:Nat):LT C8.sg.R.D:=.two .t (.two .t (.two (.two .t (.one (.loop C8.l1.M (fun n c p=>C8.l1 K c n p.1 p.2) (fun nl1=>.t)))) .t))
theorem C8.ct (K:Nat):CtX PP 121 C8.sg (fun x=>C8 K x):=ct_x (C:=C8.C K) (fn:=Tryz.f121) (c:=Tryz.f121.body.get!) (lt:=(C8.lt K)) fol (by kernel_rfl) (by kernel_rfl) rfl (fun x=>(by kernel_rfl)) (ok_two ok_t (ok_two ok_t (ok_two (ok_two ok_t (ok_block (ok_loop (fun c p=>(by kernel_rfl)) (fun nl1=>⟨fun c p=>(by kernel_rfl),ok_t⟩)))) ok_t))) (fun x=>(by kernel_rfl))
def C8.fx (K:Nat):FX PP:=⟨121,C8.sg,_,C8.ct K⟩
def D5.C (K:Nat):CE:=⟨⟨PP,tys⟩,[],[],K,[],[],[],9,[]⟩
theorem D5.ct (K:Nat):CtX PP 101 D5.sg (fun x=>D5 K x):=ct_x (C:=D5.C K) (fn:=Tryz.f101) (c:=Tryz.f101.body.get!) (lt:=.t) fol (by kernel_rfl) (by kernel_rfl) rfl (fun x=>(by kernel_rfl)) (ok_t) (fun x=>(by kernel_rfl))
def D5.fx (K:Nat):FX PP:=⟨101,D5.sg,_,D5.ct K⟩
def Df.l1.M:Tm:=⟨[(0,.c (.p (.sl (.int .i64)) true (1,0))),(5,.c (.p (.sl (.int .i64)) true (1,0))),(6,.c (.p (.int .i64) false (10,0))),(7,.c (.p (.int .i64) false (11,0)))],[],[(1,Df.sg.A)]⟩
def Df.C (K:Nat):CE:=⟨⟨PP,tys⟩,[(101,some (D5.fx K))],[],K,[],[],[],29,[]⟩
def Df.lt (K:Nat):LT Df.sg.R.D:=.two .t (.two (.two .t (.one (.loop Df.l1.M (fun n c p=>Df.l1 K c n p.1 p.2) (fun nl1=>.t)))) .t)
theorem Df.ct (K:Nat):CtX PP 102 Df.sg (fun x=>Df K x):=ct_x (C:=Df.C K) (fn:=Tryz.f102) (c:=Tryz.f102.body.get!) (lt:=(Df.lt K)) fol (by kernel_rfl) (by kernel_rfl) rfl (fun x=>(by kernel_rfl)) (ok_two ok_t (ok_two (ok_two ok_t (ok_block (ok_loop (fun c p=>(by kernel_rfl)) (fun nl1=>⟨fun c p=>(by kernel_rfl),ok_t⟩)))) ok_t)) (fun x=>(by kernel_rfl))
def Df.fx (K:Nat):FX PP:=⟨102,Df.sg,_,Df.ct K⟩
def De.l1.M:Tm:=⟨[(3,.c (.p (.int .i64) false (10,0))),(7,.c (.p (.sl (.sl (.int .i64))) true (1,1))),(8,.c (.p (.int .i64) false (11,0))),(9,.c (.p (.int .i64) false (12,0)))],[],[(1,De.sg.A)]⟩
def De.C (K:Nat):CE:=⟨⟨PP,tys⟩,[],[],K,[],[],[],19,[]⟩
def De.lt (K:Nat):LT De.sg.R.D:=.two .t (.two .t (.two (.two .t (.one (.loop De.l1.M (fun n c p=>De.l1 K c n p.1 p.2.1 p.2.2) (fun nl1=>.t)))) .t))
theorem De.ct (K:Nat):CtX PP 132 De.sg (fun x=>De K x):=ct_x (C:=De.C K) (fn:=Tryz.f132) (c:=Tryz.f132.body.get!) (lt:=(De.lt K)) fol (by kernel_rfl) (by kernel_rfl) rfl (fun x=>(by kernel_rfl)) (ok_two ok_t (ok_two ok_t (ok_two (ok_two ok_t (ok_block (ok_loop (fun c p=>(by kernel_rfl)) (fun nl1=>⟨fun c p=>(by kernel_rfl),ok_t⟩)))) ok_t))) (fun x=>(by kernel_rfl))
def De.fx (K:Nat):FX PP:=⟨132,De.sg,_,De.ct K⟩
def C1.l1.M:Tm:=⟨[(1,.c (.bx 5014000 0)),(22,.c (.p (.sl (.sl (.int .i64))) true (1,1))),(23,.c (.p (.int .i64) false (10,0))),(24,.c (.p (.int .i64) false (11,0)))],[(5014000,.box [.p (.int .i64) true (1,0),.p (.sl (.sl (.int .i64))) true (1,1)])],[(1,C1.sg.A)]⟩
def C1.C (K:Nat):CE:=⟨⟨PP,tys⟩,[(102,some (Df.fx K)),(132,some (De.fx K))],[],K,[],[],[],51,[]⟩
def C1.lt (K:Nat):LT C1.sg.R.D:=.two .t (.two .t (.two (.two .t (.one (.loop C1.l1.M (fun n c p=>C1.l1 K c n p.1 p.2) (fun nl1=>.t)))) .t))
theorem C1.ct (K:Nat):CtX PP 80 C1.sg (fun x=>C1 K x):=ct_x (C:=C1.C K) (fn:=Tryz.f80) (c:=Tryz.f80.body.get!) (lt:=(C1.lt K)) fol (by kernel_rfl) (by kernel_rfl) rfl (fun x=>(by kernel_rfl)) (ok_two ok_t (ok_two ok_t (ok_two (ok_two ok_t (ok_block (ok_loop (fun c p=>(by kernel_rfl)) (fun nl1=>⟨fun c p=>(by kernel_rfl),ok_t⟩)))) ok_t))) (fun x=>(by kernel_rfl))
def C1.fx (K:Nat):FX PP:=⟨80,C1.sg,_,C1.ct K⟩
def A8.l1.M:Tm:=⟨[(0,.c (.bx 0 0)),(1,.c (.p (.int .i64) true (1,2))),(6,.c (.p (.int .i64) false (10,0)))],[(0,.box [.vf 5003001,.p (.int .i64) false (13,0)]),(5003001,.row (.int .u8) false false (12,0))],[(1,A8.sg.A)]⟩
def A8.j2.M:Tm:=⟨[(0,.c (.bx 0 0)),(1,.c (.p (.int .i64) true (1,2))),(6,.c (.p (.int .i64) true (10,0)))],[(0,.box [.vf 5012001,.p (.int .i64) true (13,0)]),(5012001,.row (.int .u8) false false (11,0))],[(1,A8.sg.A),(10,(.int .i64)),(13,(.int .i64))]⟩
def A8.C (K:Nat):CE:=⟨⟨PP,tys⟩,[],[],K,[],[],[0],60,[]⟩
def A8.lt (K:Nat):LT A8.sg.R.D:=.two .t (.one (.loop A8.l1.M (fun n c p=>A8.l1 K c.2.1 n p.1 p.2.1 p.2.2) (fun nl1=>.two .t (.two (.one (.join A8.j2.M (fun c p=>A8.j2 K (A8.l1 K c.1.2.1 nl1) c.2.2 c.2.1 c.1.2.1 p) .t .t)) .t))))
theorem A8.ct (K:Nat):CtX PP 167 A8.sg (fun x=>A8 K x.1 x.2.1 x.2.2):=ct_x (C:=A8.C K) (fn:=Tryz.f167) (c:=Tryz.f167.body.get!) (lt:=(A8.lt K)) fol (by kernel_rfl) (by kernel_rfl) rfl (fun x=>(by kernel_rfl)) (ok_two ok_t (ok_block (ok_loop (fun c p=>(by kernel_rfl)) (fun nl1=>⟨fun c p=>(by kernel_rfl),ok_two ok_t (ok_two (ok_block (ok_join ok_t (fun c p=>(by kernel_rfl)) ok_t)) ok_t)⟩)))) (fun x=>(by kernel_rfl))
def A8.fx (K:Nat):FX PP:=⟨167,A8.sg,_,A8.ct K⟩
def Ck.j1.M:Tm:=⟨[(0,.c (.p (.int .u32) false (10,0))),(2,.c (.p (.int .i64) false (11,0)))],[],[]⟩
def Ck.j2.M:Tm:=⟨[(0,.c (.p (.int .u32) false (12,0))),(2,.c (.p (.int .i64) false (13,0)))],[],[]⟩
def Ck.C (K:Nat):CE:=⟨⟨PP,tys⟩,[],[],K,[],[],[],19,[]⟩
def Ck.lt (K:Nat):LT Ck.sg.R.D:=.two .t (.join Ck.j1.M (fun c p=>Ck.j1 K p.1 p.2) .t (.join Ck.j2.M (fun c p=>Ck.j2 K p.1 p.2) .t .t))
theorem Ck.ct (K:Nat):CtX PP 189 Ck.sg (fun x=>Ck K x):=ct_x (C:=Ck.C K) (fn:=Tryz.f189) (c:=Tryz.f189.body.get!) (lt:=(Ck.lt K)) fol (by kernel_rfl) (by kernel_rfl) rfl (fun x=>(by kernel_rfl)) (ok_two ok_t (ok_join ok_t (fun c p=>(by kernel_rfl)) (ok_join ok_t (fun c p=>(by kernel_rfl)) ok_t))) (fun x=>(by kernel_rfl))
def Ck.fx (K:Nat):FX PP:=⟨189,Ck.sg,_,Ck.ct K⟩
def B0.j1.M:Tm:=⟨[(0,.c (.p (.int .u64) false (10,0))),(2,.c (.p (.int .i64) false (11,0)))],[],[]⟩
def B0.j2.M:Tm:=⟨[(0,.c (.p (.int .u64) false (12,0))),(2,.c (.p (.int .i64) false (13,0)))],[],[]⟩
def B0.j3.M:Tm:=⟨[(0,.c (.p (.int .u64) false (14,0))),(2,.c (.p (.int .i64) false (15,0)))],[],[]⟩
def B0.C (K:Nat):CE:=⟨⟨PP,tys⟩,[],[],K,[],[],[],25,[]⟩
def B0.lt (K:Nat):LT B0.sg.R.D:=.two .t (.join B0.j1.M (fun c p=>B0.j1 K p.1 p.2) .t (.join B0.j2.M (fun c p=>B0.j2 K p.1 p.2) .t (.join B0.j3.M (fun c p=>B0.j3 K p.1 p.2) .t .t)))
theorem B0.ct (K:Nat):CtX PP 190 B0.sg (fun x=>B0 K x):=ct_x (C:=B0.C K) (fn:=Tryz.f190) (c:=Tryz.f190.body.get!) (lt:=(B0.lt K)) fol (by kernel_rfl) (by kernel_rfl) rfl (fun x=>(by kernel_rfl)) (ok_two ok_t (ok_join ok_t (fun c p=>(by kernel_rfl)) (ok_join ok_t (fun c p=>(by kernel_rfl)) (ok_join ok_t (fun c p=>(by kernel_rfl)) ok_t)))) (fun x=>(by kernel_rfl))
def B0.fx (K:Nat):FX PP:=⟨190,B0.sg,_,B0.ct K⟩
def Dt.C (K:Nat):CE:=⟨⟨PP,tys⟩,[(190,some (B0.fx K))],[],K,[],[],[],8,[]⟩
theorem Dt.ct (K:Nat):CtX PP 184 Dt.sg (fun x=>Dt K x):=ct_x (C:=Dt.C K) (fn:=Tryz.f184) (c:=Tryz.f184.body.get!) (lt:=.t) fol (by kernel_rfl) (by kernel_rfl) rfl (fun x=>(by kernel_rfl)) (ok_t) (fun x=>(by kernel_rfl))
def Dt.fx (K:Nat):FX PP:=⟨184,Dt.sg,_,Dt.ct K⟩
def Dw.C (K:Nat):CE:=⟨⟨PP,tys⟩,[(184,some (Dt.fx K))],[],K,[],[],[],7,[]⟩
theorem Dw.ct (K:Nat):CtX PP 168 Dw.sg (fun x=>Dw K x):=ct_x (C:=Dw.C K) (fn:=Tryz.f168) (c:=Tryz.f168.body.get!) (lt:=.t) fol (by kernel_rfl) (by kernel_rfl) rfl (fun x=>(by kernel_rfl)) (ok_t) (fun x=>(by kernel_rfl))
def Dw.fx (K:Nat):FX PP:=⟨168,Dw.sg,_,Dw.ct K⟩
def D3.C (K:Nat):CE:=⟨⟨PP,tys⟩,[],[],K,[],[],[],6,[]⟩
theorem D3.ct (K:Nat):CtX PP 169 D3.sg (fun x=>D3 K x):=ct_x (C:=D3.C K) (fn:=Tryz.f169) (c:=Tryz.f169.body.get!) (lt:=.t) fol (by kernel_rfl) (by kernel_rfl) rfl (fun x=>(by kernel_rfl)) (ok_t) (fun x=>(by kernel_rfl))
def D3.fx (K:Nat):FX PP:=⟨169,D3.sg,_,D3.ct K⟩
def Ed.C (K:Nat):CE:=⟨⟨PP,tys⟩,[(184,some (Dt.fx K))],[],K,[],[],[],28,[]⟩
theorem Ed.ct (K:Nat):CtX PP 170 Ed.sg (fun x=>Ed K x.1 x.2):=ct_x (C:=Ed.C K) (fn:=Tryz.f170) (c:=Tryz.f170.body.get!) (lt:=.t) fol (by kernel_rfl) (by kernel_rfl) rfl (fun x=>(by kernel_rfl)) (ok_t) (fun x=>(by kernel_rfl))
def Ed.fx (K:Nat):FX PP:=⟨170,Ed.sg,_,Ed.ct K⟩
def Cn.C (K:Nat) (ih:CtX PP 133 Cn.sg (fun x=>Cn K x.1 x.2.1 x.2.2)):CE:=⟨⟨PP,tys⟩,[(167,some (A8.fx K)),(168,some (Dw.fx K)),(133,some ⟨133,Cn.sg,_,ih⟩),(169,some (D3.fx K)),(170,some (Ed.fx K))],[],K,[],[],[0],80,[]⟩
theorem Cn.ct:∀ K:Nat,CtX PP 133 Cn.sg (fun x=>Cn K x.1 x.2.1 x.2.2)
 | 0=>fun v x r h=>by cases h
 | K+1=>ct_x (C:=Cn.C K (Cn.ct K)) (fn:=Tryz.f133) (c:=Tryz.f133.body.get!) (lt:=.t) fol (by kernel_rfl) (by kernel_rfl) rfl (fun x=>(by kernel_rfl)) (ok_t) (fun x=>(by kernel_rfl))
def Cn.fx (K:Nat):FX PP:=⟨133,Cn.sg,_,Cn.ct K⟩
def Dr.C (K:Nat):CE:=⟨⟨PP,tys⟩,[],[],K,[],[],[0],7,[]⟩
theorem Dr.ct (K:Nat):CtX PP 104 Dr.sg (fun x=>Dr K x):=ct_x (C:=Dr.C K) (fn:=Tryz.f104) (c:=Tryz.f104.body.get!) (lt:=.t) fol (by kernel_rfl) (by kernel_rfl) rfl (fun x=>(by kernel_rfl)) (ok_t) (fun x=>(by kernel_rfl))
def Dr.fx (K:Nat):FX PP:=⟨104,Dr.sg,_,Dr.ct K⟩
def Ca.l1.M:Tm:=⟨[(0,.c (.p (.sl (.int .i64)) true (1,0))),(2,.c (.vf 5006000)),(3,.c (.vf 5006001)),(4,.c (.p (.int .i64) false (10,0)))],[(5006000,.row Cr false false (12,0)),(5006001,.row (.int .i64) false false (13,0))],[(1,Ca.sg.A)]⟩
def Ca.l2.M:Tm:=⟨[(0,.c (.p (.sl (.int .i64)) true (1,0))),(2,.c (.vf 5018000)),(3,.c (.vf 5018001)),(4,.c (.p (.int .i64) true (10,0))),(5,.c (.p (.int .i64) false (11,0)))],[(5018000,.row Cr false false (14,0)),(5018001,.row (.int .i64) false false (15,0))],[(1,Ca.sg.A),(10,(.int .i64))]⟩
def Ca.C (K:Nat):CE:=⟨⟨PP,tys⟩,[],[],K,[],[],[],55,[]⟩
def Ca.lt (K:Nat):LT Ca.sg.R.D:=.two .t (.two (.two .t (.one (.loop Ca.l1.M (fun n c p=>Ca.l1 K c n p.1 p.2.1 p.2.2) (fun nl1=>.two .t (.one (.two .t (.two (.one (.loop Ca.l2.M (fun n c p=>Ca.l2 K (Ca.l1 K c.1 nl1) c.2 c.1 n p.1 p.2.1 p.2.2) (fun nl2=>.t))) .t))))))) .t)
theorem Ca.ct (K:Nat):CtX PP 153 Ca.sg (fun x=>Ca K x):=ct_x (C:=Ca.C K) (fn:=Tryz.f153) (c:=Tryz.f153.body.get!) (lt:=(Ca.lt K)) fol (by kernel_rfl) (by kernel_rfl) rfl (fun x=>(by kernel_rfl)) (ok_two ok_t (ok_two (ok_two ok_t (ok_block (ok_loop (fun c p=>(by kernel_rfl)) (fun nl1=>⟨fun c p=>(by kernel_rfl),ok_two ok_t (ok_block (ok_two ok_t (ok_two (ok_block (ok_loop (fun c p=>(by kernel_rfl)) (fun nl2=>⟨fun c p=>(by kernel_rfl),ok_t⟩))) ok_t)))⟩)))) ok_t)) (fun x=>(by kernel_rfl))
def Ca.fx (K:Nat):FX PP:=⟨153,Ca.sg,_,Ca.ct K⟩
def D7.C (K:Nat):CE:=⟨⟨PP,tys⟩,[],[],K,[],[],[],10,[]⟩
theorem D7.ct (K:Nat):CtX PP 171 D7.sg (fun x=>D7 K x):=ct_x (C:=D7.C K) (fn:=Tryz.f171) (c:=Tryz.f171.body.get!) (lt:=.t) fol (by kernel_rfl) (by kernel_rfl) rfl (fun x=>(by kernel_rfl)) (ok_t) (fun x=>(by kernel_rfl))
def D7.fx (K:Nat):FX PP:=⟨171,D7.sg,_,D7.ct K⟩
def Dk.l1.M:Tm:=⟨[(0,.c (.bx 0 0)),(1,.c (.p (.int .i64) true (1,2))),(2,.c (.p (.sl (.int .i64)) true (1,3))),(13,.c (.p (.sl (.int .i64)) true (1,3))),(14,.c (.p (.int .i64) false (10,0))),(15,.c (.p (.int .i64) false (11,0)))],[(0,.box [.vf 5005001,.p (.int .i64) false (13,0)]),(5005001,.row (.int .u8) false false (12,0))],[(1,Dk.sg.A)]⟩
def Dk.C (K:Nat):CE:=⟨⟨PP,tys⟩,[(133,some (Cn.fx K)),(171,some (D7.fx K))],[],K,[],[],[0],39,[]⟩
def Dk.lt (K:Nat):LT Dk.sg.R.D:=.two .t (.two .t (.one (.loop Dk.l1.M (fun n c p=>Dk.l1 K c.2.1 c.2.2 n p.1 p.2.1 p.2.2.1 p.2.2.2) (fun nl1=>.t))))
theorem Dk.ct (K:Nat):CtX PP 172 Dk.sg (fun x=>Dk K x.1 x.2.1 x.2.2):=ct_x (C:=Dk.C K) (fn:=Tryz.f172) (c:=Tryz.f172.body.get!) (lt:=(Dk.lt K)) fol (by kernel_rfl) (by kernel_rfl) rfl (fun x=>(by kernel_rfl)) (ok_two ok_t (ok_two ok_t (ok_block (ok_loop (fun c p=>(by kernel_rfl)) (fun nl1=>⟨fun c p=>(by kernel_rfl),ok_t⟩))))) (fun x=>(by kernel_rfl))
def Dk.fx (K:Nat):FX PP:=⟨172,Dk.sg,_,Dk.ct K⟩
def Co.l1.M:Tm:=⟨[(0,.c (.bx 0 0)),(1,.c (.p (.int .i64) true (1,2))),(7,.c (.vf 5010002)),(8,.c (.p (.int .i64) false (10,0))),(21,.c (.vf 5010003)),(22,.c (.p (.int .i64) false (11,0))),(23,.c (.p (.int .i64) false (12,0)))],[(0,.box [.vf 5010001,.p (.int .i64) false (18,0)]),(5010001,.row (.int .u8) false false (17,0)),(5010002,.row (.int .i64) false true (4000013,1)),(5010003,.row Cr false true (4000013,0))],[(1,Co.sg.A),(4000013,Ca.sg.R)]⟩
def Co.j2.M:Tm:=⟨[(0,.c (.bx 0 0)),(1,.c (.p (.int .i64) true (1,2))),(7,.c (.vf 5021002)),(10,.c (.bx 5021003 0)),(21,.c (.vf 5021004)),(22,.c (.p (.int .i64) true (11,0))),(23,.c (.p (.int .i64) true (12,0)))],[(0,.box [.vf 5021001,.p (.int .i64) false (14,0)]),(5021001,.row (.int .u8) false false (13,0)),(5021002,.row (.int .i64) false true (4000013,1)),(5021003,.box [.p (.int .i64) false (15,0),.p (.int .i64) false (16,0)]),(5021004,.row Cr false true (4000013,0))],[(1,Co.sg.A),(11,(.int .i64)),(12,(.int .i64)),(4000013,Ca.sg.R)]⟩
def Co.C (K:Nat):CE:=⟨⟨PP,tys⟩,[(153,some (Ca.fx K)),(133,some (Cn.fx K)),(171,some (D7.fx K)),(172,some (Dk.fx K))],[],K,[],[],[0],60,[]⟩
def Co.lt (K:Nat):LT Co.sg.R.D:=.two .t (.two .t (.two .t (.two (.two .t (.one (.loop Co.l1.M (fun n c p=>Co.l1 K c.2 c.1.2.1 n p.1 p.2.1 p.2.2.1 p.2.2.2.1 p.2.2.2.2) (fun nl1=>.two .t (.two .t (.two (.one (.two .t (.join Co.j2.M (fun c p=>Co.j2 K (Co.l1 K c.2.2.2 c.1.2.1 nl1) c.2.2.2 c.2.1 c.2.2.1 c.1.2.1 p.1 p.2.1 p.2.2.1 p.2.2.2) .t .t))) .t)))))) .t)))
theorem Co.ct (K:Nat):CtX PP 134 Co.sg (fun x=>Co K x.1 x.2.1 x.2.2):=ct_x (C:=Co.C K) (fn:=Tryz.f134) (c:=Tryz.f134.body.get!) (lt:=(Co.lt K)) fol (by kernel_rfl) (by kernel_rfl) rfl (fun x=>(by kernel_rfl)) (ok_two ok_t (ok_two ok_t (ok_two ok_t (ok_two (ok_two ok_t (ok_block (ok_loop (fun c p=>(by kernel_rfl)) (fun nl1=>⟨fun c p=>(by kernel_rfl),ok_two ok_t (ok_two ok_t (ok_two (ok_block (ok_two ok_t (ok_join ok_t (fun c p=>(by kernel_rfl)) ok_t))) ok_t))⟩)))) ok_t)))) (fun x=>(by kernel_rfl))
def Co.fx (K:Nat):FX PP:=⟨134,Co.sg,_,Co.ct K⟩
def Cu.l1.M:Tm:=⟨[(4,.c (.bx 5012000 0)),(5,.c (.vf 5012002)),(16,.c (.p (.sl (.sl (.int .i64))) true (1,1))),(17,.c (.p (.int .i64) false (10,0))),(18,.c (.p (.int .i64) false (11,0)))],[(5012000,.box [.vf 5012001,.p (.int .i64) false (13,0)]),(5012001,.row (.int .u8) false false (12,0)),(5012002,.row (.int .i64) false false (14,0))],[(1,Cu.sg.A)]⟩
def Cu.C (K:Nat):CE:=⟨⟨PP,tys⟩,[(133,some (Cn.fx K)),(104,some (Dr.fx K)),(134,some (Co.fx K))],[],K,[],[(2,[.nilB 9 0 7500200 false])],[],35,[]⟩
def Cu.lt (K:Nat):LT Cu.sg.R.D:=.two .t (.two .t (.two .t (.two .t (.two (.two .t (.one (.loop Cu.l1.M (fun n c p=>Cu.l1 K c n p.1 p.2.1 p.2.2.1 p.2.2.2.1 p.2.2.2.2) (fun nl1=>.t)))) .t))))
theorem Cu.ct (K:Nat):CtX PP 81 Cu.sg (fun x=>Cu K x):=ct_x (C:=Cu.C K) (fn:=Tryz.f81) (c:=Tryz.f81.body.get!) (lt:=(Cu.lt K)) fol (by kernel_rfl) (by kernel_rfl) rfl (fun x=>(by kernel_rfl)) (ok_two ok_t (ok_two ok_t (ok_two ok_t (ok_two ok_t (ok_two (ok_two ok_t (ok_block (ok_loop (fun c p=>(by kernel_rfl)) (fun nl1=>⟨fun c p=>(by kernel_rfl),ok_t⟩)))) ok_t))))) (fun x=>(by kernel_rfl))
def Cu.fx (K:Nat):FX PP:=⟨81,Cu.sg,_,Cu.ct K⟩
def Da.C (K:Nat):CE:=⟨⟨PP,tys⟩,[],[],K,[],[],[0],20,[]⟩
theorem Da.ct (K:Nat):CtX PP 82 Da.sg (fun x=>Da K x):=ct_x (C:=Da.C K) (fn:=Tryz.f82) (c:=Tryz.f82.body.get!) (lt:=.t) fol (by kernel_rfl) (by kernel_rfl) rfl (fun x=>(by kernel_rfl)) (ok_t) (fun x=>(by kernel_rfl))
def Da.fx (K:Nat):FX PP:=⟨82,Da.sg,_,Da.ct K⟩
def Ea.C (K:Nat):CE:=⟨⟨PP,tys⟩,[(81,some (Cu.fx K)),(82,some (Da.fx K))],[],K,[],[],[],18,[]⟩
theorem Ea.ct (K:Nat):CtX PP 112 Ea.sg (fun x=>Ea K x):=ct_x (C:=Ea.C K) (fn:=Tryz.f112) (c:=Tryz.f112.body.get!) (lt:=.t) fol (by kernel_rfl) (by kernel_rfl) rfl (fun x=>(by kernel_rfl)) (ok_t) (fun x=>(by kernel_rfl))
def Ea.fx (K:Nat):FX PP:=⟨112,Ea.sg,_,Ea.ct K⟩
def Dh.l1.M:Tm:=⟨[(0,.c (.p (.sl A0) true (1,0))),(1,.c (.p (.int .i64) false (10,0))),(2,.c (.p (.int .i64) true (1,2))),(6,.c (.vf 5004000))],[(5004000,.row A0 false false (11,0))],[(1,Dh.sg.A)]⟩
def Dh.C (K:Nat):CE:=⟨⟨PP,tys⟩,[(129,some (Ds.fx K))],[],K,[],[],[],29,[]⟩
def Dh.lt (K:Nat):LT Dh.sg.R.D:=.two .t (.two (.one (.loop Dh.l1.M (fun n c p=>Dh.l1 K c.1 c.2.2 n p.1 p.2) (fun nl1=>.t))) .t)
theorem Dh.ct (K:Nat):CtX PP 163 Dh.sg (fun x=>Dh K x.1 x.2.1 x.2.2):=ct_x (C:=Dh.C K) (fn:=Tryz.f163) (c:=Tryz.f163.body.get!) (lt:=(Dh.lt K)) fol (by kernel_rfl) (by kernel_rfl) rfl (fun x=>(by kernel_rfl)) (ok_two ok_t (ok_two (ok_block (ok_loop (fun c p=>(by kernel_rfl)) (fun nl1=>⟨fun c p=>(by kernel_rfl),ok_t⟩))) ok_t)) (fun x=>(by kernel_rfl))
def Dh.fx (K:Nat):FX PP:=⟨163,Dh.sg,_,Dh.ct K⟩
def D4.C (K:Nat):CE:=⟨⟨PP,tys⟩,[(129,some (Ds.fx K)),(163,some (Dh.fx K))],[],K,[],[],[],18,[]⟩
theorem D4.ct (K:Nat):CtX PP 123 D4.sg (fun x=>D4 K x.1 x.2):=ct_x (C:=D4.C K) (fn:=Tryz.f123) (c:=Tryz.f123.body.get!) (lt:=.t) fol (by kernel_rfl) (by kernel_rfl) rfl (fun x=>(by kernel_rfl)) (ok_t) (fun x=>(by kernel_rfl))
def D4.fx (K:Nat):FX PP:=⟨123,D4.sg,_,D4.ct K⟩
noncomputable def slices_Backward___api_Object_api_Object_.bx:BX PP:=mkBX (f1:=Tryz.f162) (f2:=Tryz.f183) 162 183 89 96 196 195 210 (by kernel_rfl) (by kernel_rfl) (by kernel_rfl) (by kernel_rfl) (by kernel_rfl) (by kernel_rfl) (by kernel_rfl) (by kernel_rfl) (by kernel_rfl) (by kernel_rfl) (by kernel_rfl) (by kernel_rfl)
def D8.C (K:Nat):CE:=⟨⟨PP,tys⟩,[],[],K,[],[],[],16,[]⟩
theorem D8.ct (K:Nat):CtX PP 202 D8.sg (fun x=>D8 K x.1 x.2):=ct_x (C:=D8.C K) (fn:=Tryz.f202) (c:=Tryz.f202.body.get!) (lt:=.t) fol (by kernel_rfl) (by kernel_rfl) rfl (fun x=>(by kernel_rfl)) (ok_t) (fun x=>(by kernel_rfl))
def D8.fx (K:Nat):FX PP:=⟨202,D8.sg,_,D8.ct K⟩
def C4.l1.M:Tm:=⟨[(1,.c (.p (.int .i64) true (1,2))),(2,.c (.bx 5006000 0)),(5,.c (.p (.int .i64) false (10,0)))],[(5006000,.box [.p .str true (1,0),.p (.int .i64) true (1,1)])],[(1,C4.sg.A)]⟩
def C4.C (K:Nat):CE:=⟨⟨PP,tys⟩,[(202,some (D8.fx K))],[],K,[],[],[],20,[]⟩
def C4.lt (K:Nat):LT C4.sg.R.D:=.two .t (.two (.two .t (.one (.loop C4.l1.M (fun n c p=>C4.l1 K c.1 c.2 n p) (fun nl1=>.t)))) .t)
theorem C4.ct (K:Nat):CtX PP 191 C4.sg (fun x=>C4 K x.1 x.2):=ct_x (C:=C4.C K) (fn:=Tryz.f191) (c:=Tryz.f191.body.get!) (lt:=(C4.lt K)) fol (by kernel_rfl) (by kernel_rfl) rfl (fun x=>(by kernel_rfl)) (ok_two ok_t (ok_two (ok_two ok_t (ok_block (ok_loop (fun c p=>(by kernel_rfl)) (fun nl1=>⟨fun c p=>(by kernel_rfl),ok_t⟩)))) ok_t)) (fun x=>(by kernel_rfl))
def C4.fx (K:Nat):FX PP:=⟨191,C4.sg,_,C4.ct K⟩
def C0.C (K:Nat):CE:=⟨⟨PP,tys⟩,[(191,some (C4.fx K))],[],K,[],[],[0],40,[]⟩
theorem C0.ct (K:Nat):CtX PP 185 C0.sg (fun x=>C0 K x.1 x.2):=ct_x (C:=C0.C K) (fn:=Tryz.f185) (c:=Tryz.f185.body.get!) (lt:=.t) fol (by kernel_rfl) (by kernel_rfl) rfl (fun x=>(by kernel_rfl)) (ok_t) (fun x=>(by kernel_rfl))
def C0.fx (K:Nat):FX PP:=⟨185,C0.sg,_,C0.ct K⟩
def Dd.l1.M:Tm:=⟨[(1,.c (.p (.int .i64) true (1,2))),(3,.c (.bx 5016000 0)),(8,.c (.p (.int .i64) false (10,0))),(22,.c (.p (.int .i64) true (1,3))),(23,.c (.p (.int .i64) false (11,0)))],[(5016000,.box [.p .str true (1,0),.p (.int .i64) true (1,1)])],[(1,Dd.sg.A)]⟩
def Dd.C (K:Nat):CE:=⟨⟨PP,tys⟩,[(202,some (D8.fx K))],[],K,[],[],[],36,[]⟩
def Dd.lt (K:Nat):LT Dd.sg.R.D:=.two .t (.two .t (.two .t (.two (.two .t (.one (.loop Dd.l1.M (fun n c p=>Dd.l1 K c.1 c.2.1 c.2.2 n p.1 p.2) (fun nl1=>.t)))) .t)))
theorem Dd.ct (K:Nat):CtX PP 192 Dd.sg (fun x=>Dd K x.1 x.2.1 x.2.2):=ct_x (C:=Dd.C K) (fn:=Tryz.f192) (c:=Tryz.f192.body.get!) (lt:=(Dd.lt K)) fol (by kernel_rfl) (by kernel_rfl) rfl (fun x=>(by kernel_rfl)) (ok_two ok_t (ok_two ok_t (ok_two ok_t (ok_two (ok_two ok_t (ok_block (ok_loop (fun c p=>(by kernel_rfl)) (fun nl1=>⟨fun c p=>(by kernel_rfl),ok_t⟩)))) ok_t)))) (fun x=>(by kernel_rfl))
def Dd.fx (K:Nat):FX PP:=⟨192,Dd.sg,_,Dd.ct K⟩
def Ce.C (K:Nat):CE:=⟨⟨PP,tys⟩,[(192,some (Dd.fx K))],[],K,[],[],[0],40,[]⟩
theorem Ce.ct (K:Nat):CtX PP 186 Ce.sg (fun x=>Ce K x.1 x.2):=ct_x (C:=Ce.C K) (fn:=Tryz.f186) (c:=Tryz.f186.body.get!) (lt:=.t) fol (by kernel_rfl) (by kernel_rfl) rfl (fun x=>(by kernel_rfl)) (ok_t) (fun x=>(by kernel_rfl))
def Ce.fx (K:Nat):FX PP:=⟨186,Ce.sg,_,Ce.ct K⟩
def C5.C (K:Nat):CE:=⟨⟨PP,tys⟩,[(185,some (C0.fx K)),(186,some (Ce.fx K))],[],K,[],[],[0],14,[]⟩
theorem C5.ct (K:Nat):CtX PP 173 C5.sg (fun x=>C5 K x.1 x.2):=ct_x (C:=C5.C K) (fn:=Tryz.f173) (c:=Tryz.f173.body.get!) (lt:=.t) fol (by kernel_rfl) (by kernel_rfl) rfl (fun x=>(by kernel_rfl)) (ok_t) (fun x=>(by kernel_rfl))
def C5.fx (K:Nat):FX PP:=⟨173,C5.sg,_,C5.ct K⟩
def Cp.C (K:Nat):CE:=⟨⟨PP,tys⟩,[(185,some (C0.fx K)),(186,some (Ce.fx K))],[],K,[],[],[0],10,[]⟩
theorem Cp.ct (K:Nat):CtX PP 174 Cp.sg (fun x=>Cp K x):=ct_x (C:=Cp.C K) (fn:=Tryz.f174) (c:=Tryz.f174.body.get!) (lt:=.t) fol (by kernel_rfl) (by kernel_rfl) rfl (fun x=>(by kernel_rfl)) (ok_t) (fun x=>(by kernel_rfl))
def Cp.fx (K:Nat):FX PP:=⟨174,Cp.sg,_,Cp.ct K⟩
def Dj.C (K:Nat):CE:=⟨⟨PP,tys⟩,[(174,some (Cp.fx K)),(186,some (Ce.fx K))],[],K,[],[],[0],24,[]⟩
theorem Dj.ct (K:Nat):CtX PP 175 Dj.sg (fun x=>Dj K x):=ct_x (C:=Dj.C K) (fn:=Tryz.f175) (c:=Tryz.f175.body.get!) (lt:=.t) fol (by kernel_rfl) (by kernel_rfl) rfl (fun x=>(by kernel_rfl)) (ok_t) (fun x=>(by kernel_rfl))
def Dj.fx (K:Nat):FX PP:=⟨175,Dj.sg,_,Dj.ct K⟩
def Dl.C (K:Nat):CE:=⟨⟨PP,tys⟩,[(173,some (C5.fx K)),(170,some (Ed.fx K)),(186,some (Ce.fx K))],[],K,[],[],[0],46,[]⟩
theorem Dl.ct (K:Nat):CtX PP 176 Dl.sg (fun x=>Dl K x.1 x.2):=ct_x (C:=Dl.C K) (fn:=Tryz.f176) (c:=Tryz.f176.body.get!) (lt:=.t) fol (by kernel_rfl) (by kernel_rfl) rfl (fun x=>(by kernel_rfl)) (ok_t) (fun x=>(by kernel_rfl))
def Dl.fx (K:Nat):FX PP:=⟨176,Dl.sg,_,Dl.ct K⟩
def Ci.j1.M:Tm:=⟨[(9,.c (.bx 5006000 0)),(10,.c (.p (.int .i64) false (14,0)))],[(5006000,.box [.p .str false (10,0),.p (.int .i64) false (11,0),.p (.int .i64) false (12,0),.p .bool false (13,0)])],[]⟩
def Ci.C (K:Nat):CE:=⟨⟨PP,tys⟩,[(173,some (C5.fx K)),(174,some (Cp.fx K)),(175,some (Dj.fx K)),(169,some (D3.fx K)),(176,some (Dl.fx K))],[],K,[],[],[],45,[]⟩
def Ci.lt (K:Nat):LT Ci.sg.R.D:=.two .t (.two .t (.two .t (.join Ci.j1.M (fun c p=>Ci.j1 K p.1 p.2.1 p.2.2.1 p.2.2.2.1 p.2.2.2.2) .t .t)))
theorem Ci.ct (K:Nat):CtX PP 148 Ci.sg (fun x=>Ci K x.1 x.2.1 x.2.2):=ct_x (C:=Ci.C K) (fn:=Tryz.f148) (c:=Tryz.f148.body.get!) (lt:=(Ci.lt K)) fol (by kernel_rfl) (by kernel_rfl) rfl (fun x=>(by kernel_rfl)) (ok_two ok_t (ok_two ok_t (ok_two ok_t (ok_join ok_t (fun c p=>(by kernel_rfl)) ok_t)))) (fun x=>(by kernel_rfl))
def Ci.fx (K:Nat):FX PP:=⟨148,Ci.sg,_,Ci.ct K⟩
def Du.C (K:Nat):CE:=⟨⟨PP,tys⟩,[(148,some (Ci.fx K))],[],K,[],[],[],20,[]⟩
theorem Du.ct (K:Nat):CtX PP 95 Du.sg (fun x=>Du K x):=ct_x (C:=Du.C K) (fn:=Tryz.f95) (c:=Tryz.f95.body.get!) (lt:=.t) fol (by kernel_rfl) (by kernel_rfl) rfl (fun x=>(by kernel_rfl)) (ok_t) (fun x=>(by kernel_rfl))
def Du.fx (K:Nat):FX PP:=⟨95,Du.sg,_,Du.ct K⟩
def Dm.C (K:Nat):CE:=⟨⟨PP,tys⟩,[],[],K,[],[],[],12,[]⟩
theorem Dm.ct (K:Nat):CtX PP 177 Dm.sg (fun x=>Dm K x):=ct_x (C:=Dm.C K) (fn:=Tryz.f177) (c:=Tryz.f177.body.get!) (lt:=.t) fol (by kernel_rfl) (by kernel_rfl) rfl (fun x=>(by kernel_rfl)) (ok_t) (fun x=>(by kernel_rfl))
def Dm.fx (K:Nat):FX PP:=⟨177,Dm.sg,_,Dm.ct K⟩
def B8.l1.M:Tm:=⟨[(3,.c (.bx 5018000 0)),(6,.c (.vf 5018001)),(7,.c (.p (.int .i64) false (14,0))),(10,.c (.p (.int .i64) false (15,0))),(32,.c (.p (.int .i64) false (10,0))),(33,.c (.p (.int .i64) false (11,0)))],[(5018000,.box [.p .str true (1,0),.p (.int .i64) true (1,1)]),(5018001,.row Cr false false (13,0))],[(1,B8.sg.A)]⟩
def B8.j2.M:Tm:=⟨[(3,.c (.bx 5049000 0)),(6,.c (.vf 5049001)),(10,.c (.p (.int .i64) true (15,0))),(12,.c (.p (.int .i64) false (12,0))),(13,.c (.p (.int .i64) true (4000048,1))),(15,.c (.p (.int .i64) true (4000048,0))),(32,.c (.p (.int .i64) true (10,0))),(33,.c (.p (.int .i64) true (11,0)))],[(5049000,.box [.p .str true (1,0),.p (.int .i64) true (1,1)]),(5049001,.row Cr false true (13,0))],[(1,B8.sg.A),(10,(.int .i64)),(11,(.int .i64)),(13,(.sl Cr)),(15,(.int .i64)),(4000048,Ci.sg.R)]⟩
def B8.C (K:Nat):CE:=⟨⟨PP,tys⟩,[(148,some (Ci.fx K)),(177,some (Dm.fx K))],[],K,[],[],[],79,[]⟩
def B8.lt (K:Nat):LT B8.sg.R.D:=.two .t (.two .t (.two .t (.two .t (.two (.two .t (.one (.loop B8.l1.M (fun n c p=>B8.l1 K c.1 n p.1 p.2.1 p.2.2.1 p.2.2.2.1 p.2.2.2.2) (fun nl1=>.two .t (.two .t (.two (.one (.two .t (.two .t (.two .t (.two .t (.two .t (.join B8.j2.M (fun c p=>B8.j2 K (B8.l1 K c.1.1 nl1) c.2.2.2.2.2 c.2.1 c.2.2.1 c.2.2.2.1 c.2.2.2.2.1 c.1.1 p) .t .t))))))) .t)))))) .t))))
theorem B8.ct (K:Nat):CtX PP 150 B8.sg (fun x=>B8 K x.1 x.2.1 x.2.2):=ct_x (C:=B8.C K) (fn:=Tryz.f150) (c:=Tryz.f150.body.get!) (lt:=(B8.lt K)) fol (by kernel_rfl) (by kernel_rfl) rfl (fun x=>(by kernel_rfl)) (ok_two ok_t (ok_two ok_t (ok_two ok_t (ok_two ok_t (ok_two (ok_two ok_t (ok_block (ok_loop (fun c p=>(by kernel_rfl)) (fun nl1=>⟨fun c p=>(by kernel_rfl),ok_two ok_t (ok_two ok_t (ok_two (ok_block (ok_two ok_t (ok_two ok_t (ok_two ok_t (ok_two ok_t (ok_two ok_t (ok_join ok_t (fun c p=>(by kernel_rfl)) ok_t))))))) ok_t))⟩)))) ok_t))))) (fun x=>(by kernel_rfl))
def B8.fx (K:Nat):FX PP:=⟨150,B8.sg,_,B8.ct K⟩
def B7.l1.M:Tm:=⟨[(3,.c (.bx 5018000 0)),(6,.c (.vf 5018001)),(7,.c (.p (.int .i64) false (14,0))),(10,.c (.p (.int .i64) false (15,0))),(28,.c (.p (.int .i64) false (10,0))),(29,.c (.p (.int .i64) false (11,0)))],[(5018000,.box [.p .str true (1,0),.p (.int .i64) true (1,1)]),(5018001,.row (.int .i64) false false (13,0))],[(1,B7.sg.A)]⟩
def B7.j2.M:Tm:=⟨[(3,.c (.bx 5041000 0)),(6,.c (.vf 5041001)),(7,.c (.p (.int .i64) true (4000035,1))),(10,.c (.p (.int .i64) true (15,0))),(12,.c (.p (.int .i64) false (12,0))),(28,.c (.p (.int .i64) true (10,0))),(29,.c (.p (.int .i64) true (11,0)))],[(5041000,.box [.p .str true (1,0),.p (.int .i64) true (1,1)]),(5041001,.row (.int .i64) false true (13,0))],[(1,B7.sg.A),(10,(.int .i64)),(11,(.int .i64)),(13,(.sl (.int .i64))),(15,(.int .i64)),(4000035,Ci.sg.R)]⟩
def B7.C (K:Nat):CE:=⟨⟨PP,tys⟩,[(148,some (Ci.fx K)),(177,some (Dm.fx K)),(101,some (D5.fx K))],[],K,[],[],[],59,[]⟩
def B7.lt (K:Nat):LT B7.sg.R.D:=.two .t (.two .t (.two .t (.two .t (.two (.two .t (.one (.loop B7.l1.M (fun n c p=>B7.l1 K c.1 n p.1 p.2.1 p.2.2.1 p.2.2.2.1 p.2.2.2.2) (fun nl1=>.two .t (.two .t (.two (.one (.two .t (.two .t (.two .t (.join B7.j2.M (fun c p=>B7.j2 K (B7.l1 K c.1.1 nl1) c.2.2.2.1 c.2.2.2.2.1 c.2.2.2.2.2 c.2.1 c.2.2.1 c.1.1 p) .t .t))))) .t)))))) .t))))
theorem B7.ct (K:Nat):CtX PP 151 B7.sg (fun x=>B7 K x.1 x.2.1 x.2.2):=ct_x (C:=B7.C K) (fn:=Tryz.f151) (c:=Tryz.f151.body.get!) (lt:=(B7.lt K)) fol (by kernel_rfl) (by kernel_rfl) rfl (fun x=>(by kernel_rfl)) (ok_two ok_t (ok_two ok_t (ok_two ok_t (ok_two ok_t (ok_two (ok_two ok_t (ok_block (ok_loop (fun c p=>(by kernel_rfl)) (fun nl1=>⟨fun c p=>(by kernel_rfl),ok_two ok_t (ok_two ok_t (ok_two (ok_block (ok_two ok_t (ok_two ok_t (ok_two ok_t (ok_join ok_t (fun c p=>(by kernel_rfl)) ok_t))))) ok_t))⟩)))) ok_t))))) (fun x=>(by kernel_rfl))
def B7.fx (K:Nat):FX PP:=⟨151,B7.sg,_,B7.ct K⟩
def Cl.C (K:Nat):CE:=⟨⟨PP,tys⟩,[],[],K,[],[],[],8,[]⟩
theorem Cl.ct (K:Nat):CtX PP 178 Cl.sg (fun x=>Cl K x):=ct_clone (C:=Cl.C K) (fn:=Tryz.f178) (c:=Tryz.f178.body.get!) (lt:=.t) fol (by kernel_rfl) (by kernel_rfl) rfl (fun x=>(by kernel_rfl)) ok_t (fun x xs=>(by kernel_rfl)) (fun b n=>(by kernel_rfl)) (fun a b n=>(by kernel_rfl))
def Cl.fx (K:Nat):FX PP:=⟨178,Cl.sg,_,Cl.ct K⟩
def slices_Sort___int_int_.sx:SX PP:=⟨179,sortF,ct_sort Tryz.laysNm189⟩
def Cg.l1.M:Tm:=⟨[(1,.c (.p (.sl (.int .i64)) true (1,1))),(6,.c (.vf 5010000)),(7,.c (.p (.int .i64) false (10,0))),(13,.c (.p (.sl Cr) true (1,0))),(14,.c (.p (.int .i64) false (11,0))),(15,.c (.p (.int .i64) false (12,0)))],[(5010000,.row (.int .i64) false false (16,0))],[(1,Cg.sg.A)]⟩
def Cg.l2.M:Tm:=⟨[(1,.c (.p (.sl (.int .i64)) true (1,1))),(6,.c (.vf 5034000)),(7,.c (.p (.int .i64) false (13,0))),(10,.c (.p (.int .i64) false (14,0))),(13,.c (.p (.sl Cr) true (1,0))),(14,.c (.p (.int .i64) true (11,0))),(15,.c (.p (.int .i64) true (12,0)))],[(5034000,.row (.int .i64) false false (15,0))],[(1,Cg.sg.A),(11,(.int .i64)),(12,(.int .i64))]⟩
def Cg.C (K:Nat):CE:=⟨⟨PP,tys⟩,[(178,some (Cl.fx K)),(101,some (D5.fx K)),(102,some (Df.fx K))],[(179,some slices_Sort___int_int_.sx)],K,[],[],[],75,[]⟩
def Cg.lt (K:Nat):LT Cg.sg.R.D:=.two .t (.two .t (.two .t (.two (.two .t (.one (.loop Cg.l1.M (fun n c p=>Cg.l1 K c.1 c.2 n p.1 p.2.1 p.2.2.1 p.2.2.2) (fun nl1=>.two .t (.two .t (.two (.one (.two .t (.two .t (.two .t (.two .t (.one (.loop Cg.l2.M (fun n c p=>Cg.l2 K (Cg.l1 K c.1.1 c.1.2 nl1) c.2.1 c.2.2 c.1.1 c.1.2 n p.1 p.2.1 p.2.2) (fun nl2=>.t)))))))) .t)))))) .t)))
theorem Cg.ct (K:Nat):CtX PP 152 Cg.sg (fun x=>Cg K x.1 x.2):=ct_x (C:=Cg.C K) (fn:=Tryz.f152) (c:=Tryz.f152.body.get!) (lt:=(Cg.lt K)) fol (by kernel_rfl) (by kernel_rfl) rfl (fun x=>(by kernel_rfl)) (ok_two ok_t (ok_two ok_t (ok_two ok_t (ok_two (ok_two ok_t (ok_block (ok_loop (fun c p=>(by kernel_rfl)) (fun nl1=>⟨fun c p=>(by kernel_rfl),ok_two ok_t (ok_two ok_t (ok_two (ok_block (ok_two ok_t (ok_two ok_t (ok_two ok_t (ok_two ok_t (ok_block (ok_loop (fun c p=>(by kernel_rfl)) (fun nl2=>⟨fun c p=>(by kernel_rfl),ok_t⟩)))))))) ok_t))⟩)))) ok_t)))) (fun x=>(by kernel_rfl))
def Cg.fx (K:Nat):FX PP:=⟨152,Cg.sg,_,Cg.ct K⟩
def Aq.l1.M:Tm:=⟨[(0,.c (.p (.sl Cr) true (1,0))),(1,.c (.p (.sl Cr) true (1,1))),(12,.c (.p (.int .i64) false (10,0))),(13,.c (.p (.int .i64) false (11,0)))],[],[(1,Aq.sg.A)]⟩
def Aq.C (K:Nat):CE:=⟨⟨PP,tys⟩,[],[],K,[],[],[],26,[]⟩
def Aq.lt (K:Nat):LT Aq.sg.R.D:=.two .t (.two .t (.two (.two .t (.one (.loop Aq.l1.M (fun n c p=>Aq.l1 K c.1 c.2 n p.1 p.2) (fun nl1=>.t)))) .t))
theorem Aq.ct (K:Nat):CtX PP 154 Aq.sg (fun x=>Aq K x.1 x.2):=ct_x (C:=Aq.C K) (fn:=Tryz.f154) (c:=Tryz.f154.body.get!) (lt:=(Aq.lt K)) fol (by kernel_rfl) (by kernel_rfl) rfl (fun x=>(by kernel_rfl)) (ok_two ok_t (ok_two ok_t (ok_two (ok_two ok_t (ok_block (ok_loop (fun c p=>(by kernel_rfl)) (fun nl1=>⟨fun c p=>(by kernel_rfl),ok_t⟩)))) ok_t))) (fun x=>(by kernel_rfl))
def Aq.fx (K:Nat):FX PP:=⟨154,Aq.sg,_,Aq.ct K⟩
def A9.l1.M:Tm:=⟨[(0,.c (.p (.sl (.int .i64)) true (1,0))),(1,.c (.p (.sl (.int .i64)) true (1,1))),(12,.c (.p (.int .i64) false (10,0))),(13,.c (.p (.int .i64) false (11,0)))],[],[(1,A9.sg.A)]⟩
def A9.C (K:Nat):CE:=⟨⟨PP,tys⟩,[],[],K,[],[],[],26,[]⟩
def A9.lt (K:Nat):LT A9.sg.R.D:=.two .t (.two .t (.two (.two .t (.one (.loop A9.l1.M (fun n c p=>A9.l1 K c.1 c.2 n p.1 p.2) (fun nl1=>.t)))) .t))
theorem A9.ct (K:Nat):CtX PP 155 A9.sg (fun x=>A9 K x.1 x.2):=ct_x (C:=A9.C K) (fn:=Tryz.f155) (c:=Tryz.f155.body.get!) (lt:=(A9.lt K)) fol (by kernel_rfl) (by kernel_rfl) rfl (fun x=>(by kernel_rfl)) (ok_two ok_t (ok_two ok_t (ok_two (ok_two ok_t (ok_block (ok_loop (fun c p=>(by kernel_rfl)) (fun nl1=>⟨fun c p=>(by kernel_rfl),ok_t⟩)))) ok_t))) (fun x=>(by kernel_rfl))
def A9.fx (K:Nat):FX PP:=⟨155,A9.sg,_,A9.ct K⟩
def Dz.C (K:Nat):CE:=⟨⟨PP,tys⟩,[(150,some (B8.fx K)),(151,some (B7.fx K)),(152,some (Cg.fx K)),(153,some (Ca.fx K)),(154,some (Aq.fx K)),(155,some (A9.fx K))],[],K,[],[],[],56,[]⟩
theorem Dz.ct (K:Nat):CtX PP 98 Dz.sg (fun x=>Dz K x.1 x.2.1 x.2.2):=ct_x (C:=Dz.C K) (fn:=Tryz.f98) (c:=Tryz.f98.body.get!) (lt:=.t) fol (by kernel_rfl) (by kernel_rfl) rfl (fun x=>(by kernel_rfl)) (ok_t) (fun x=>(by kernel_rfl))
def Dz.fx (K:Nat):FX PP:=⟨98,Dz.sg,_,Dz.ct K⟩
def Dx.C (K:Nat):CE:=⟨⟨PP,tys⟩,[(98,some (Dz.fx K))],[],K,[],[],[2],15,[]⟩
theorem Dx.ct (K:Nat):CtX PP 140 Dx.sg (fun x=>Dx K x.1 x.2.1 x.2.2):=ct_x (C:=Dx.C K) (fn:=Tryz.f140) (c:=Tryz.f140.body.get!) (lt:=.t) fol (by kernel_rfl) (by kernel_rfl) rfl (fun x=>(by kernel_rfl)) (ok_t) (fun x=>(by kernel_rfl))
def Dx.fx (K:Nat):FX PP:=⟨140,Dx.sg,_,Dx.ct K⟩
def Dq.C (K:Nat):CE:=⟨⟨PP,tys⟩,[],[],K,[(1,[2])],[],[],7,[]⟩
theorem Dq.ct (K:Nat):CtX PP 149 Dq.sg (fun x=>Dq K x):=ct_x (C:=Dq.C K) (fn:=Tryz.f149) (c:=Tryz.f149.body.get!) (lt:=.t) fol (by kernel_rfl) (by kernel_rfl) rfl (fun x=>(by kernel_rfl)) (ok_t) (fun x=>(by kernel_rfl))
def Dq.fx (K:Nat):FX PP:=⟨149,Dq.sg,_,Dq.ct K⟩
def Au.l1.M:Tm:=⟨[(2,.c (.p (.int .i64) false (14,0))),(3,.fn 140 [.bx 4 0]),(8,.c (.bx 5008001 0)),(11,.c (.bx 5008002 0)),(18,.c (.p (.int .i64) true (1,1))),(19,.c (.p (.int .i64) false (11,0)))],[(4,.box [.p .str false (12,0),.p (.int .i64) false (13,0)]),(5008001,.box [.p (.int .i64) false (10,0),.nl (.sl (.int .i64))]),(5008002,.box [.p (.int .i64) true (4000017,0),.vf 5008003]),(5008003,.row (.sl (.int .i64)) true false (15,0))],[(1,Au.sg.A),(4000017,Dq.sg.R)]⟩
def Au.C (K:Nat):CE:=⟨⟨PP,tys⟩,[(149,some (Dq.fx K)),(140,some (Dx.fx K)),(80,some (C1.fx K))],[],K,[],[],[4],44,[]⟩
def Au.lt (K:Nat):LT Au.sg.R.D:=.two .t (.two .t (.two (.two .t (.one (.loop Au.l1.M (fun n c p=>Au.l1 K c.2 c.1.2.1 n p.1 p.2.1 p.2.2.1 p.2.2.2.1 p.2.2.2.2.1 p.2.2.2.2.2) (fun nl1=>.t)))) .t))
theorem Au.ct (K:Nat):CtX PP 96 Au.sg (fun x=>Au K x.1 x.2.1 x.2.2.1 x.2.2.2.2):=ct_x (C:=Au.C K) (fn:=Tryz.f96) (c:=Tryz.f96.body.get!) (lt:=(Au.lt K)) fol (by kernel_rfl) (by kernel_rfl) rfl (fun x=>(by kernel_rfl)) (ok_two ok_t (ok_two ok_t (ok_two (ok_two ok_t (ok_block (ok_loop (fun c p=>(by kernel_rfl)) (fun nl1=>⟨fun c p=>(by kernel_rfl),ok_t⟩)))) ok_t))) (fun x=>(by kernel_rfl))
def Au.fx (K:Nat):FX PP:=⟨96,Au.sg,_,Au.ct K⟩
def Eb.C (K:Nat):CE:=⟨⟨PP,tys⟩,[(95,some (Du.fx K)),(96,some (Au.fx K))],[],K,[],[],[],35,[]⟩
theorem Eb.ct (K:Nat):CtX PP 90 Eb.sg (fun x=>Eb K x):=ct_x (C:=Eb.C K) (fn:=Tryz.f90) (c:=Tryz.f90.body.get!) (lt:=.t) fol (by kernel_rfl) (by kernel_rfl) rfl (fun x=>(by kernel_rfl)) (ok_t) (fun x=>(by kernel_rfl))
def Eb.fx (K:Nat):FX PP:=⟨90,Eb.sg,_,Eb.ct K⟩
def Ef.C (K:Nat):CE:=⟨⟨PP,tys⟩,[],[],K,[],[],[],13,[]⟩
theorem Ef.ct (K:Nat):CtX PP 118 Ef.sg (fun x=>Ef K x.1 x.2):=ct_x (C:=Ef.C K) (fn:=Tryz.f118) (c:=Tryz.f118.body.get!) (lt:=.t) fol (by kernel_rfl) (by kernel_rfl) rfl (fun x=>(by kernel_rfl)) (ok_t) (fun x=>(by kernel_rfl))
def Ef.fx (K:Nat):FX PP:=⟨118,Ef.sg,_,Ef.ct K⟩
def D1.C (K:Nat):CE:=⟨⟨PP,tys⟩,[(118,some (Ef.fx K))],[],K,[],[],[],14,[]⟩
theorem D1.ct (K:Nat):CtX PP 158 D1.sg (fun x=>D1 K x.1 x.2):=ct_x (C:=D1.C K) (fn:=Tryz.f158) (c:=Tryz.f158.body.get!) (lt:=.t) fol (by kernel_rfl) (by kernel_rfl) rfl (fun x=>(by kernel_rfl)) (ok_t) (fun x=>(by kernel_rfl))
def D1.fx (K:Nat):FX PP:=⟨158,D1.sg,_,D1.ct K⟩
def Bd.l1.M:Tm:=⟨[(0,.c (.p (.sl (.int .i64)) true (1,0))),(1,.c (.p (.int .i64) true (1,1))),(7,.c (.p (.int .i64) false (10,0))),(8,.c (.p (.int .i64) false (11,0)))],[],[(1,Bd.sg.A)]⟩
def Bd.C (K:Nat):CE:=⟨⟨PP,tys⟩,[],[],K,[],[],[],19,[]⟩
def Bd.lt (K:Nat):LT Bd.sg.R.D:=.two .t (.two (.two .t (.one (.loop Bd.l1.M (fun n c p=>Bd.l1 K c.1 c.2 n p.1 p.2) (fun nl1=>.t)))) .t)
theorem Bd.ct (K:Nat):CtX PP 160 Bd.sg (fun x=>Bd K x.1 x.2):=ct_x (C:=Bd.C K) (fn:=Tryz.f160) (c:=Tryz.f160.body.get!) (lt:=(Bd.lt K)) fol (by kernel_rfl) (by kernel_rfl) rfl (fun x=>(by kernel_rfl)) (ok_two ok_t (ok_two (ok_two ok_t (ok_block (ok_loop (fun c p=>(by kernel_rfl)) (fun nl1=>⟨fun c p=>(by kernel_rfl),ok_t⟩)))) ok_t)) (fun x=>(by kernel_rfl))
def Bd.fx (K:Nat):FX PP:=⟨160,Bd.sg,_,Bd.ct K⟩
def Ch.C (K:Nat):CE:=⟨⟨PP,tys⟩,[(160,some (Bd.fx K))],[],K,[],[],[],9,[]⟩
theorem Ch.ct (K:Nat):CtX PP 119 Ch.sg (fun x=>Ch K x.1 x.2):=ct_x (C:=Ch.C K) (fn:=Tryz.f119) (c:=Tryz.f119.body.get!) (lt:=.t) fol (by kernel_rfl) (by kernel_rfl) rfl (fun x=>(by kernel_rfl)) (ok_t) (fun x=>(by kernel_rfl))
def Ch.fx (K:Nat):FX PP:=⟨119,Ch.sg,_,Ch.ct K⟩
def B5.l1.M:Tm:=⟨[(0,.c (.p (.sl (.int .i64)) true (1,0))),(1,.c (.p (.sl (.int .i64)) true (1,1))),(4,.c (.vf 5008000)),(5,.c (.nl (.int .i64))),(6,.c (.p .bool false (16,0))),(7,.c (.p (.int .i64) false (10,0))),(12,.c (.p (.sl (.int .i64)) true (1,0))),(13,.c (.p (.int .i64) false (11,0))),(14,.c (.p (.int .i64) false (12,0)))],[(5008000,.row (.int .i64) false false (15,0))],[(1,B5.sg.A)]⟩
def B5.l2.M:Tm:=⟨[(0,.c (.p (.sl (.int .i64)) true (1,0))),(4,.c (.vf 5033000)),(5,.c (.vf 5033001)),(32,.c (.p (.sl (.int .i64)) true (1,1))),(33,.c (.p (.int .i64) false (13,0))),(34,.c (.p (.int .i64) false (14,0)))],[(5033000,.row (.int .i64) false false (18,0)),(5033001,.row (.int .i64) false false (17,0))],[(1,B5.sg.A)]⟩
def B5.C (K:Nat):CE:=⟨⟨PP,tys⟩,[(119,some (Ch.fx K))],[],K,[],[],[],49,[]⟩
def B5.lt (K:Nat):LT B5.sg.R.D:=.two .t (.two .t (.two (.two .t (.one (.loop B5.l1.M (fun n c p=>B5.l1 K c.1 c.2 n p.1 p.2.1 p.2.2.1 p.2.2.2.1 p.2.2.2.2) (fun nl1=>.t)))) (.two (.two .t (.one (.loop B5.l2.M (fun n c p=>B5.l2 K c.1 c.2 n p.1 p.2.1 p.2.2.1 p.2.2.2) (fun nl2=>.t)))) .t)))
theorem B5.ct (K:Nat):CtX PP 156 B5.sg (fun x=>B5 K x.1 x.2):=ct_x (C:=B5.C K) (fn:=Tryz.f156) (c:=Tryz.f156.body.get!) (lt:=(B5.lt K)) fol (by kernel_rfl) (by kernel_rfl) rfl (fun x=>(by kernel_rfl)) (ok_two ok_t (ok_two ok_t (ok_two (ok_two ok_t (ok_block (ok_loop (fun c p=>(by kernel_rfl)) (fun nl1=>⟨fun c p=>(by kernel_rfl),ok_t⟩)))) (ok_two (ok_two ok_t (ok_block (ok_loop (fun c p=>(by kernel_rfl)) (fun nl2=>⟨fun c p=>(by kernel_rfl),ok_t⟩)))) ok_t)))) (fun x=>(by kernel_rfl))
def B5.fx (K:Nat):FX PP:=⟨156,B5.sg,_,B5.ct K⟩
def Bf.l1.M:Tm:=⟨[(0,.c (.p (.sl (.int .i64)) true (1,0))),(1,.c (.p (.sl (.int .i64)) true (1,1))),(2,.c (.p (.sl (.int .i64)) true (1,2))),(8,.c (.vf 5012000)),(9,.c (.p (.sl (.int .i64)) false (16,0))),(10,.c (.p .bool false (17,0))),(18,.c (.p (.sl (.int .i64)) true (1,1))),(19,.c (.p (.int .i64) false (10,0))),(20,.c (.p (.int .i64) false (11,0)))],[(5012000,.row (.int .i64) false false (15,0))],[(1,Bf.sg.A)]⟩
def Bf.j2.M:Tm:=⟨[(0,.c (.p (.sl (.int .i64)) true (1,0))),(1,.c (.p (.sl (.int .i64)) true (1,1))),(2,.c (.p (.sl (.int .i64)) true (1,2))),(8,.c (.vf 5031000)),(9,.c (.p (.sl (.int .i64)) true (16,0))),(10,.c (.p .bool true (17,0))),(12,.c (.p (.int .i64) false (13,0))),(18,.c (.p (.sl (.int .i64)) true (1,1))),(19,.c (.p (.int .i64) true (10,0))),(20,.c (.p (.int .i64) true (11,0)))],[(5031000,.row (.int .i64) false false (12,0))],[(1,Bf.sg.A),(10,(.int .i64)),(11,(.int .i64)),(16,(.sl (.int .i64))),(17,.bool)]⟩
def Bf.j3.M:Tm:=⟨[(0,.c (.p (.sl (.int .i64)) true (1,0))),(1,.c (.p (.sl (.int .i64)) true (1,1))),(2,.c (.p (.sl (.int .i64)) true (1,2))),(8,.c (.vf 5039000))],[(5039000,.row (.int .i64) false false (14,0))],[(1,Bf.sg.A)]⟩
def Bf.C (K:Nat):CE:=⟨⟨PP,tys⟩,[(178,some (Cl.fx K)),(102,some (Df.fx K)),(156,some (B5.fx K)),(155,some (A9.fx K))],[(179,some slices_Sort___int_int_.sx)],K,[],[],[],68,[]⟩
def Bf.lt (K:Nat):LT Bf.sg.R.D:=.two .t (.two .t (.two .t (.two .t (.two (.two .t (.one (.loop Bf.l1.M (fun n c p=>Bf.l1 K c.1 c.2.1 c.2.2 n p.1 p.2.1 p.2.2.1 p.2.2.2.1 p.2.2.2.2) (fun nl1=>.two .t (.two .t (.two (.one (.two .t (.two .t (.join Bf.j2.M (fun c p=>Bf.j2 K (Bf.l1 K c.1.1 c.1.2.1 c.1.2.2 nl1) c.2.1 c.2.2.1 c.2.2.2.1 c.2.2.2.2 c.1.1 c.1.2.1 c.1.2.2 p.1 p.2) .t .t)))) .t)))))) (.join Bf.j3.M (fun c p=>Bf.j3 K c.1 c.2.1 c.2.2 p) .t .t)))))
theorem Bf.ct (K:Nat):CtX PP 157 Bf.sg (fun x=>Bf K x.1 x.2.1 x.2.2):=ct_x (C:=Bf.C K) (fn:=Tryz.f157) (c:=Tryz.f157.body.get!) (lt:=(Bf.lt K)) fol (by kernel_rfl) (by kernel_rfl) rfl (fun x=>(by kernel_rfl)) (ok_two ok_t (ok_two ok_t (ok_two ok_t (ok_two ok_t (ok_two (ok_two ok_t (ok_block (ok_loop (fun c p=>(by kernel_rfl)) (fun nl1=>⟨fun c p=>(by kernel_rfl),ok_two ok_t (ok_two ok_t (ok_two (ok_block (ok_two ok_t (ok_two ok_t (ok_join ok_t (fun c p=>(by kernel_rfl)) ok_t)))) ok_t))⟩)))) (ok_join ok_t (fun c p=>(by kernel_rfl)) ok_t)))))) (fun x=>(by kernel_rfl))
def Bf.fx (K:Nat):FX PP:=⟨157,Bf.sg,_,Bf.ct K⟩
def Cj.l1.M:Tm:=⟨[(2,.c (.p (.int .i64) true (1,3))),(3,.c (.p (.sl (.int .i64)) true (1,4))),(4,.c (.bx 5018000 0)),(9,.c (.p (.int .i64) false (12,0))),(12,.c (.vf 5018001)),(30,.c (.p (.int .i64) false (10,0))),(31,.c (.p (.int .i64) false (11,0)))],[(5018000,.box [.p .str true (1,0),.p (.int .i64) true (1,1)]),(5018001,.row (.int .i64) false false (13,0))],[(1,Cj.sg.A)]⟩
def Cj.C (K:Nat):CE:=⟨⟨PP,tys⟩,[(148,some (Ci.fx K)),(98,some (Dz.fx K)),(157,some (Bf.fx K))],[],K,[],[],[],72,[]⟩
def Cj.lt (K:Nat):LT Cj.sg.R.D:=.two .t (.two .t (.two .t (.two .t (.two (.two .t (.one (.loop Cj.l1.M (fun n c p=>Cj.l1 K c.1 c.2.2.1 c.2.2.2 n p.1 p.2.1 p.2.2.1 p.2.2.2) (fun nl1=>.t)))) .t))))
theorem Cj.ct (K:Nat):CtX PP 107 Cj.sg (fun x=>Cj K x.1 x.2.1 x.2.2.1 x.2.2.2):=ct_x (C:=Cj.C K) (fn:=Tryz.f107) (c:=Tryz.f107.body.get!) (lt:=(Cj.lt K)) fol (by kernel_rfl) (by kernel_rfl) rfl (fun x=>(by kernel_rfl)) (ok_two ok_t (ok_two ok_t (ok_two ok_t (ok_two ok_t (ok_two (ok_two ok_t (ok_block (ok_loop (fun c p=>(by kernel_rfl)) (fun nl1=>⟨fun c p=>(by kernel_rfl),ok_t⟩)))) ok_t))))) (fun x=>(by kernel_rfl))
def Cj.fx (K:Nat):FX PP:=⟨107,Cj.sg,_,Cj.ct K⟩
def Dy.C (K:Nat):CE:=⟨⟨PP,tys⟩,[(158,some (D1.fx K)),(107,some (Cj.fx K))],[],K,[],[],[2,3],19,[]⟩
theorem Dy.ct (K:Nat):CtX PP 159 Dy.sg (fun x=>Dy K x.1 x.2.1 x.2.2.1 x.2.2.2):=ct_x (C:=Dy.C K) (fn:=Tryz.f159) (c:=Tryz.f159.body.get!) (lt:=.t) fol (by kernel_rfl) (by kernel_rfl) rfl (fun x=>(by kernel_rfl)) (ok_t) (fun x=>(by kernel_rfl))
def Dy.fx (K:Nat):FX PP:=⟨159,Dy.sg,_,Dy.ct K⟩
def A5.l1.M:Tm:=⟨[(2,.c (.p (.int .i64) false (16,0))),(3,.fn 159 [.bx 4 0,.bx 5 0]),(8,.c (.bx 5008002 0)),(11,.c (.bx 5008003 0)),(18,.c (.p (.int .i64) true (1,1))),(19,.c (.p (.int .i64) false (11,0)))],[(4,.box [.p .str false (12,0),.p (.int .i64) false (13,0)]),(5,.box [.p (.int .i64) false (14,0),.p (.sl (.sl (.int .i64))) false (15,0)]),(5008002,.box [.p (.int .i64) false (10,0),.nl (.sl (.int .i64))]),(5008003,.box [.p (.int .i64) true (4000017,0),.vf 5008004]),(5008004,.row (.sl (.int .i64)) true false (17,0))],[(1,A5.sg.A),(4000017,Dq.sg.R)]⟩
def A5.C (K:Nat):CE:=⟨⟨PP,tys⟩,[(149,some (Dq.fx K)),(159,some (Dy.fx K)),(80,some (C1.fx K))],[],K,[],[],[4,5],44,[]⟩
def A5.lt (K:Nat):LT A5.sg.R.D:=.two .t (.two .t (.two (.two .t (.one (.loop A5.l1.M (fun n c p=>A5.l1 K c.2 c.1.2.1 n p.1 p.2.1 p.2.2.1 p.2.2.2.1 p.2.2.2.2.1 p.2.2.2.2.2.1 p.2.2.2.2.2.2.1 p.2.2.2.2.2.2.2) (fun nl1=>.t)))) .t))
theorem A5.ct (K:Nat):CtX PP 96 A5.sg (fun x=>A5 K x.1 x.2.1 x.2.2.1 x.2.2.2.2.1 x.2.2.2.2.2):=ct_x (C:=A5.C K) (fn:=Tryz.f96) (c:=Tryz.f96.body.get!) (lt:=(A5.lt K)) fol (by kernel_rfl) (by kernel_rfl) rfl (fun x=>(by kernel_rfl)) (ok_two ok_t (ok_two ok_t (ok_two (ok_two ok_t (ok_block (ok_loop (fun c p=>(by kernel_rfl)) (fun nl1=>⟨fun c p=>(by kernel_rfl),ok_t⟩)))) ok_t))) (fun x=>(by kernel_rfl))
def A5.fx (K:Nat):FX PP:=⟨96,A5.sg,_,A5.ct K⟩
def Ec.C (K:Nat):CE:=⟨⟨PP,tys⟩,[(95,some (Du.fx K)),(96,some (A5.fx K))],[],K,[],[],[],37,[]⟩
theorem Ec.ct (K:Nat):CtX PP 114 Ec.sg (fun x=>Ec K x.1 x.2):=ct_x (C:=Ec.C K) (fn:=Tryz.f114) (c:=Tryz.f114.body.get!) (lt:=.t) fol (by kernel_rfl) (by kernel_rfl) rfl (fun x=>(by kernel_rfl)) (ok_t) (fun x=>(by kernel_rfl))
def Ec.fx (K:Nat):FX PP:=⟨114,Ec.sg,_,Ec.ct K⟩
def Dn.l1.M:Tm:=⟨[(4,.c (.bx 5021000 0)),(5,.c (.bx 5021001 0)),(8,.c (.bx 5021002 0))],[(5021000,.box [.p (.int .i64) false (10,0),.nl (.sl (.int .i64))]),(5021001,.box [.p (.int .i64) false (11,0)]),(5021002,.box [.p (.int .i64) false (12,0),.vf 5021003]),(5021003,.row (.sl (.int .i64)) true false (13,0))],[]⟩
def Dn.C (K:Nat):CE:=⟨⟨PP,tys⟩,[(123,some (D4.fx K)),(163,some (Dh.fx K)),(90,some (Eb.fx K)),(114,some (Ec.fx K))],[],K,[],[],[],48,[(162,some slices_Backward___api_Object_api_Object_.bx)]⟩
def Dn.lt (K:Nat):LX Dn.sg.R.D:=.seqR .t (.seqR .t (.seqR .t (.seqL (.seqR .t (.blk (.range 162 Dn.l1.M A0 (fun n c p=>Dn.l1 K n p.1 p.2.1 p.2.2.1 p.2.2.2) (fun nl1=>.t) (fun nl1=>.t)))) .t)))
theorem Dn.ct (K:Nat):CtX PP 122 Dn.sg (fun x=>Dn K x.1 x.2):=ct_xX (C:=Dn.C K) (fn:=Tryz.f122) (c:=Tryz.f122.body.get!) (lx:=(Dn.lt K)) fol (by kernel_rfl) (by kernel_rfl) rfl (fun x=>(by kernel_rfl)) (okx_seqR ok_t (okx_seqR ok_t (okx_seqR ok_t (okx_seqL (okx_seqR ok_t (okx_blk (okx_range (fun c r=>(by kernel_rfl)) (fun x l=>⟨fun c r=>(by kernel_rfl),fun c r=>⟨ok_t,ok_t⟩⟩)))) ok_t)))) (fun x=>(by kernel_rfl))
def Dn.fx (K:Nat):FX PP:=⟨122,Dn.sg,_,Dn.ct K⟩
def Dc.l1.M:Tm:=⟨[(0,.c (.bx 0 0)),(1,.c (.p (.int .i64) true (1,2))),(9,.c (.vf 5008002)),(23,.c (.vf 5008003)),(24,.c (.p (.int .i64) false (10,0))),(25,.c (.p (.int .i64) false (11,0)))],[(0,.box [.vf 5008001,.p (.int .i64) false (13,0)]),(5008001,.row (.int .u8) false false (12,0)),(5008002,.row (.int .i64) false true (4000015,1)),(5008003,.row (.int .i64) false true (4000015,0))],[(1,Dc.sg.A),(4000015,B5.sg.R)]⟩
def Dc.C (K:Nat):CE:=⟨⟨PP,tys⟩,[(156,some (B5.fx K)),(133,some (Cn.fx K)),(134,some (Co.fx K))],[],K,[],[],[0],42,[]⟩
def Dc.lt (K:Nat):LT Dc.sg.R.D:=.two .t (.two .t (.two (.two .t (.one (.loop Dc.l1.M (fun n c p=>Dc.l1 K c.2 c.1.2.1 n p.1 p.2.1 p.2.2.1 p.2.2.2) (fun nl1=>.t)))) .t))
theorem Dc.ct (K:Nat):CtX PP 103 Dc.sg (fun x=>Dc K x.1 x.2.1 x.2.2.1 x.2.2.2):=ct_x (C:=Dc.C K) (fn:=Tryz.f103) (c:=Tryz.f103.body.get!) (lt:=(Dc.lt K)) fol (by kernel_rfl) (by kernel_rfl) rfl (fun x=>(by kernel_rfl)) (ok_two ok_t (ok_two ok_t (ok_two (ok_two ok_t (ok_block (ok_loop (fun c p=>(by kernel_rfl)) (fun nl1=>⟨fun c p=>(by kernel_rfl),ok_t⟩)))) ok_t))) (fun x=>(by kernel_rfl))
def Dc.fx (K:Nat):FX PP:=⟨103,Dc.sg,_,Dc.ct K⟩
def C6.l1.M:Tm:=⟨[(2,.c (.bx 5010000 0)),(4,.c (.bx 5010001 0)),(5,.c (.bx 5010002 0)),(18,.c (.p (.sl (.sl (.int .i64))) true (1,3))),(19,.c (.p (.int .i64) false (12,0))),(20,.c (.p (.int .i64) false (13,0)))],[(5010000,.box [.p (.int .i64) true (1,0),.p (.sl (.sl (.int .i64))) true (1,1)]),(5010001,.box [.p .str false (10,0),.p (.int .i64) false (11,0)]),(5010002,.box [.vf 5010003,.p (.int .i64) false (15,0)]),(5010003,.row (.int .u8) false false (14,0))],[(1,C6.sg.A)]⟩
def C6.C (K:Nat):CE:=⟨⟨PP,tys⟩,[(133,some (Cn.fx K)),(158,some (D1.fx K)),(103,some (Dc.fx K)),(82,some (Da.fx K))],[],K,[],[(2,[.nilB 11 0 7500200 false])],[],39,[]⟩
def C6.lt (K:Nat):LT C6.sg.R.D:=.two .t (.two .t (.two .t (.two (.two .t (.one (.loop C6.l1.M (fun n c p=>C6.l1 K c.1 c.2 n p.1 p.2.1 p.2.2.1 p.2.2.2.1 p.2.2.2.2.1 p.2.2.2.2.2) (fun nl1=>.t)))) .t)))
theorem C6.ct (K:Nat):CtX PP 111 C6.sg (fun x=>C6 K x.1 x.2):=ct_x (C:=C6.C K) (fn:=Tryz.f111) (c:=Tryz.f111.body.get!) (lt:=(C6.lt K)) fol (by kernel_rfl) (by kernel_rfl) rfl (fun x=>(by kernel_rfl)) (ok_two ok_t (ok_two ok_t (ok_two ok_t (ok_two (ok_two ok_t (ok_block (ok_loop (fun c p=>(by kernel_rfl)) (fun nl1=>⟨fun c p=>(by kernel_rfl),ok_t⟩)))) ok_t)))) (fun x=>(by kernel_rfl))
def C6.fx (K:Nat):FX PP:=⟨111,C6.sg,_,C6.ct K⟩
def C7.j1.M:Tm:=⟨[(0,.c (.p (.sl A0) true (1,0))),(1,.c (.p (.int .i64) true (1,1))),(5,.c (.bx 5012000 0)),(6,.c (.bx 5012001 0)),(8,.c (.bx 5012002 0))],[(5012000,.box [.p (.int .i64) true (1,2),.p (.sl (.sl (.int .i64))) true (1,3)]),(5012001,.box [.p (.int .i64) false (10,0),.p (.int .i64) false (11,0),.p .str false (12,0),.p (.int .i64) false (13,0)]),(5012002,.box [.p (.int .i64) false (14,0),.p (.int .i64) false (15,0),.p .str true (4000024,0),.p (.int .i64) true (4000024,1)])],[(1,C7.sg.A),(4000024,Ea.sg.R)]⟩
def C7.C (K:Nat):CE:=⟨⟨PP,tys⟩,[(121,some (C8.fx K)),(80,some (C1.fx K)),(112,some (Ea.fx K)),(122,some (Dn.fx K)),(123,some (D4.fx K)),(111,some (C6.fx K))],[],K,[],[],[],84,[]⟩
def C7.lt (K:Nat):LT C7.sg.R.D:=.two .t (.two .t (.two .t (.join C7.j1.M (fun c p=>C7.j1 K c.2 c.1.1 c.1.2.1 c.1.2.2 p.1 p.2.1 p.2.2.1 p.2.2.2.1 p.2.2.2.2.1 p.2.2.2.2.2) .t .t)))
theorem C7.ct (K:Nat):CtX PP 61 C7.sg (fun x=>C7 K x.1 x.2.1 x.2.2):=ct_x (C:=C7.C K) (fn:=Tryz.f61) (c:=Tryz.f61.body.get!) (lt:=(C7.lt K)) fol (by kernel_rfl) (by kernel_rfl) rfl (fun x=>(by kernel_rfl)) (ok_two ok_t (ok_two ok_t (ok_two ok_t (ok_join ok_t (fun c p=>(by kernel_rfl)) ok_t)))) (fun x=>(by kernel_rfl))
def C7.fx (K:Nat):FX PP:=⟨61,C7.sg,_,C7.ct K⟩
def Cf.C (K:Nat):CE:=⟨⟨PP,tys⟩,[],[],K,[],[],[],15,[]⟩
theorem Cf.ct (K:Nat):CtX PP 124 Cf.sg (fun x=>Cf K x.1 x.2.1 x.2.2):=ct_x (C:=Cf.C K) (fn:=Tryz.f124) (c:=Tryz.f124.body.get!) (lt:=.t) fol (by kernel_rfl) (by kernel_rfl) rfl (fun x=>(by kernel_rfl)) (ok_t) (fun x=>(by kernel_rfl))
def Cf.fx (K:Nat):FX PP:=⟨124,Cf.sg,_,Cf.ct K⟩
def Bw.l1.M:Tm:=⟨[(0,.c (.p (.sl A0) true (1,0))),(1,.c (.p (.int .i64) true (1,1))),(5,.c (.p (.int .i64) false (10,0)))],[],[(1,Bw.sg.A)]⟩
def Bw.C (K:Nat):CE:=⟨⟨PP,tys⟩,[],[],K,[],[],[],20,[]⟩
def Bw.lt (K:Nat):LT Bw.sg.R.D:=.two .t (.two (.two .t (.one (.loop Bw.l1.M (fun n c p=>Bw.l1 K c.1 c.2 n p) (fun nl1=>.t)))) .t)
theorem Bw.ct (K:Nat):CtX PP 125 Bw.sg (fun x=>Bw K x.1 x.2):=ct_x (C:=Bw.C K) (fn:=Tryz.f125) (c:=Tryz.f125.body.get!) (lt:=(Bw.lt K)) fol (by kernel_rfl) (by kernel_rfl) rfl (fun x=>(by kernel_rfl)) (ok_two ok_t (ok_two (ok_two ok_t (ok_block (ok_loop (fun c p=>(by kernel_rfl)) (fun nl1=>⟨fun c p=>(by kernel_rfl),ok_t⟩)))) ok_t)) (fun x=>(by kernel_rfl))
def Bw.fx (K:Nat):FX PP:=⟨125,Bw.sg,_,Bw.ct K⟩
def Cv.C (K:Nat):CE:=⟨⟨PP,tys⟩,[],[],K,[],[],[],12,[]⟩
theorem Cv.ct (K:Nat):CtX PP 83 Cv.sg (fun x=>Cv K x.1 x.2):=ct_x (C:=Cv.C K) (fn:=Tryz.f83) (c:=Tryz.f83.body.get!) (lt:=.t) fol (by kernel_rfl) (by kernel_rfl) rfl (fun x=>(by kernel_rfl)) (ok_t) (fun x=>(by kernel_rfl))
def Cv.fx (K:Nat):FX PP:=⟨83,Cv.sg,_,Cv.ct K⟩
def Db.C (K:Nat):CE:=⟨⟨PP,tys⟩,[],[],K,[],[],[],16,[]⟩
theorem Db.ct (K:Nat):CtX PP 91 Db.sg (fun x=>Db K x.1 x.2):=ct_x (C:=Db.C K) (fn:=Tryz.f91) (c:=Tryz.f91.body.get!) (lt:=.t) fol (by kernel_rfl) (by kernel_rfl) rfl (fun x=>(by kernel_rfl)) (ok_t) (fun x=>(by kernel_rfl))
def Db.fx (K:Nat):FX PP:=⟨91,Db.sg,_,Db.ct K⟩
def Bo.l1.M:Tm:=⟨[(1,.c (.bx 5014000 0)),(3,.c (.p (.int .i64) false (10,0)))],[(5014000,.box [.p .str true (1,0),.p (.int .i64) true (1,1)])],[(1,Bo.sg.A)]⟩
def Bo.C (K:Nat):CE:=⟨⟨PP,tys⟩,[(83,some (Cv.fx K)),(91,some (Db.fx K))],[],K,[],[],[],32,[]⟩
def Bo.lt (K:Nat):LT Bo.sg.R.D:=.two .t (.two .t (.two (.two .t (.one (.loop Bo.l1.M (fun n c p=>Bo.l1 K c n p) (fun nl1=>.t)))) .t))
theorem Bo.ct (K:Nat):CtX PP 38 Bo.sg (fun x=>Bo K x):=ct_x (C:=Bo.C K) (fn:=Tryz.f38) (c:=Tryz.f38.body.get!) (lt:=(Bo.lt K)) fol (by kernel_rfl) (by kernel_rfl) rfl (fun x=>(by kernel_rfl)) (ok_two ok_t (ok_two ok_t (ok_two (ok_two ok_t (ok_block (ok_loop (fun c p=>(by kernel_rfl)) (fun nl1=>⟨fun c p=>(by kernel_rfl),ok_t⟩)))) ok_t))) (fun x=>(by kernel_rfl))
def Bo.fx (K:Nat):FX PP:=⟨38,Bo.sg,_,Bo.ct K⟩
def Bh.l1.M:Tm:=⟨[(0,.c (.p (.sl A0) true (1,0))),(3,.c (.p (.int .i64) false (10,0)))],[],[(1,Bh.sg.A)]⟩
def Bh.C (K:Nat):CE:=⟨⟨PP,tys⟩,[(124,some (Cf.fx K)),(125,some (Bw.fx K)),(38,some (Bo.fx K))],[],K,[],[],[],62,[]⟩
def Bh.lt (K:Nat):LT Bh.sg.R.D:=.two .t (.two .t (.two (.two .t (.one (.loop Bh.l1.M (fun n c p=>Bh.l1 K c n p) (fun nl1=>.t)))) .t))
theorem Bh.ct (K:Nat):CtX PP 62 Bh.sg (fun x=>Bh K x):=ct_x (C:=Bh.C K) (fn:=Tryz.f62) (c:=Tryz.f62.body.get!) (lt:=(Bh.lt K)) fol (by kernel_rfl) (by kernel_rfl) rfl (fun x=>(by kernel_rfl)) (ok_two ok_t (ok_two ok_t (ok_two (ok_two ok_t (ok_block (ok_loop (fun c p=>(by kernel_rfl)) (fun nl1=>⟨fun c p=>(by kernel_rfl),ok_t⟩)))) ok_t))) (fun x=>(by kernel_rfl))
def Bh.fx (K:Nat):FX PP:=⟨62,Bh.sg,_,Bh.ct K⟩
def Cq.C (K:Nat):CE:=⟨⟨PP,tys⟩,[(83,some (Cv.fx K))],[],K,[],[],[],5,[]⟩
theorem Cq.ct (K:Nat):CtX PP 35 Cq.sg (fun x=>Cq K x):=ct_x (C:=Cq.C K) (fn:=Tryz.f35) (c:=Tryz.f35.body.get!) (lt:=.t) fol (by kernel_rfl) (by kernel_rfl) rfl (fun x=>(by kernel_rfl)) (ok_t) (fun x=>(by kernel_rfl))
def Cq.fx (K:Nat):FX PP:=⟨35,Cq.sg,_,Cq.ct K⟩
def Bn.l1.M:Tm:=⟨[(0,.c (.p (.sl (.int .i64)) true (1,0))),(3,.c (.p (.int .i64) false (10,0)))],[],[(1,Bn.sg.A)]⟩
def Bn.C (K:Nat):CE:=⟨⟨PP,tys⟩,[(35,some (Cq.fx K))],[],K,[],[],[],39,[]⟩
def Bn.lt (K:Nat):LT Bn.sg.R.D:=.two .t (.two (.two .t (.one (.loop Bn.l1.M (fun n c p=>Bn.l1 K c n p) (fun nl1=>.t)))) .t)
theorem Bn.ct (K:Nat):CtX PP 34 Bn.sg (fun x=>Bn K x):=ct_x (C:=Bn.C K) (fn:=Tryz.f34) (c:=Tryz.f34.body.get!) (lt:=(Bn.lt K)) fol (by kernel_rfl) (by kernel_rfl) rfl (fun x=>(by kernel_rfl)) (ok_two ok_t (ok_two (ok_two ok_t (ok_block (ok_loop (fun c p=>(by kernel_rfl)) (fun nl1=>⟨fun c p=>(by kernel_rfl),ok_t⟩)))) ok_t)) (fun x=>(by kernel_rfl))
def Bn.fx (K:Nat):FX PP:=⟨34,Bn.sg,_,Bn.ct K⟩
def B4.l1.M:Tm:=⟨[(1,.c (.bx 5008000 0)),(3,.c (.p (.int .i64) false (10,0))),(4,.c (.p (.int .i64) false (11,0)))],[(5008000,.box [.p (.int .i64) true (1,0),.p (.sl (.sl (.int .i64))) true (1,1)])],[(1,B4.sg.A)]⟩
def B4.C (K:Nat):CE:=⟨⟨PP,tys⟩,[],[],K,[],[],[],21,[]⟩
def B4.lt (K:Nat):LT B4.sg.R.D:=.two .t (.two .t (.two (.two .t (.one (.loop B4.l1.M (fun n c p=>B4.l1 K c n p.1 p.2) (fun nl1=>.t)))) .t))
theorem B4.ct (K:Nat):CtX PP 84 B4.sg (fun x=>B4 K x):=ct_x (C:=B4.C K) (fn:=Tryz.f84) (c:=Tryz.f84.body.get!) (lt:=(B4.lt K)) fol (by kernel_rfl) (by kernel_rfl) rfl (fun x=>(by kernel_rfl)) (ok_two ok_t (ok_two ok_t (ok_two (ok_two ok_t (ok_block (ok_loop (fun c p=>(by kernel_rfl)) (fun nl1=>⟨fun c p=>(by kernel_rfl),ok_t⟩)))) ok_t))) (fun x=>(by kernel_rfl))
def B4.fx (K:Nat):FX PP:=⟨84,B4.sg,_,B4.ct K⟩
def Bm.l1.M:Tm:=⟨[(1,.c (.bx 5014000 0)),(3,.c (.p (.int .i64) false (10,0)))],[(5014000,.box [.p (.int .i64) true (1,0),.p (.sl (.sl (.int .i64))) true (1,1)])],[(1,Bm.sg.A)]⟩
def Bm.C (K:Nat):CE:=⟨⟨PP,tys⟩,[(83,some (Cv.fx K)),(34,some (Bn.fx K)),(84,some (B4.fx K))],[],K,[],[],[],60,[]⟩
def Bm.lt (K:Nat):LT Bm.sg.R.D:=.two .t (.two .t (.two (.two .t (.one (.loop Bm.l1.M (fun n c p=>Bm.l1 K c n p) (fun nl1=>.t)))) .t))
theorem Bm.ct (K:Nat):CtX PP 16 Bm.sg (fun x=>Bm K x):=ct_x (C:=Bm.C K) (fn:=Tryz.f16) (c:=Tryz.f16.body.get!) (lt:=(Bm.lt K)) fol (by kernel_rfl) (by kernel_rfl) rfl (fun x=>(by kernel_rfl)) (ok_two ok_t (ok_two ok_t (ok_two (ok_two ok_t (ok_block (ok_loop (fun c p=>(by kernel_rfl)) (fun nl1=>⟨fun c p=>(by kernel_rfl),ok_t⟩)))) ok_t))) (fun x=>(by kernel_rfl))
def Bm.fx (K:Nat):FX PP:=⟨16,Bm.sg,_,Bm.ct K⟩
def Bv.l1.M:Tm:=⟨[(0,.c (.p (.sl A0) true (1,0))),(1,.c (.p (.int .i64) false (11,0))),(6,.c (.p (.int .i64) false (10,0)))],[],[(1,Bv.sg.A)]⟩
def Bv.C (K:Nat):CE:=⟨⟨PP,tys⟩,[(125,some (Bw.fx K))],[],K,[],[],[],25,[]⟩
def Bv.lt (K:Nat):LT Bv.sg.R.D:=.two .t (.two .t (.two .t (.two (.one (.loop Bv.l1.M (fun n c p=>Bv.l1 K c.1 n p.1 p.2) (fun nl1=>.t))) .t)))
theorem Bv.ct (K:Nat):CtX PP 72 Bv.sg (fun x=>Bv K x.1 x.2):=ct_x (C:=Bv.C K) (fn:=Tryz.f72) (c:=Tryz.f72.body.get!) (lt:=(Bv.lt K)) fol (by kernel_rfl) (by kernel_rfl) rfl (fun x=>(by kernel_rfl)) (ok_two ok_t (ok_two ok_t (ok_two ok_t (ok_two (ok_block (ok_loop (fun c p=>(by kernel_rfl)) (fun nl1=>⟨fun c p=>(by kernel_rfl),ok_t⟩))) ok_t)))) (fun x=>(by kernel_rfl))
def Bv.fx (K:Nat):FX PP:=⟨72,Bv.sg,_,Bv.ct K⟩
def Cb.l1.M:Tm:=⟨[(1,.c (.bx 5008000 0)),(3,.c (.vf 5008001)),(4,.c (.p (.int .i64) false (10,0)))],[(5008000,.box [.p .str true (1,0),.p (.int .i64) true (1,1)]),(5008001,.row (.int .u8) false false (11,0))],[(1,Cb.sg.A)]⟩
def Cb.C (K:Nat):CE:=⟨⟨PP,tys⟩,[(91,some (Db.fx K))],[],K,[],[],[],19,[]⟩
def Cb.lt (K:Nat):LT Cb.sg.R.D:=.two .t (.two .t (.two (.two .t (.one (.loop Cb.l1.M (fun n c p=>Cb.l1 K c n p.1 p.2) (fun nl1=>.t)))) .t))
theorem Cb.ct (K:Nat):CtX PP 24 Cb.sg (fun x=>Cb K x):=ct_x (C:=Cb.C K) (fn:=Tryz.f24) (c:=Tryz.f24.body.get!) (lt:=(Cb.lt K)) fol (by kernel_rfl) (by kernel_rfl) rfl (fun x=>(by kernel_rfl)) (ok_two ok_t (ok_two ok_t (ok_two (ok_two ok_t (ok_block (ok_loop (fun c p=>(by kernel_rfl)) (fun nl1=>⟨fun c p=>(by kernel_rfl),ok_t⟩)))) ok_t))) (fun x=>(by kernel_rfl))
def Cb.fx (K:Nat):FX PP:=⟨24,Cb.sg,_,Cb.ct K⟩
def Ax.l1.M:Tm:=⟨[(0,.c (.p (.sl (.int .u8)) true (1,0))),(1,.c (.p (.int .i64) true (1,1))),(5,.c (.p (.int .i64) false (10,0)))],[],[(1,Ax.sg.A)]⟩
def Ax.C (K:Nat):CE:=⟨⟨PP,tys⟩,[],[],K,[],[],[],21,[]⟩
def Ax.lt (K:Nat):LT Ax.sg.R.D:=.two .t (.two (.two .t (.one (.loop Ax.l1.M (fun n c p=>Ax.l1 K c.1 c.2 n p) (fun nl1=>.t)))) .t)
theorem Ax.ct (K:Nat):CtX PP 141 Ax.sg (fun x=>Ax K x.1 x.2):=ct_x (C:=Ax.C K) (fn:=Tryz.f141) (c:=Tryz.f141.body.get!) (lt:=(Ax.lt K)) fol (by kernel_rfl) (by kernel_rfl) rfl (fun x=>(by kernel_rfl)) (ok_two ok_t (ok_two (ok_two ok_t (ok_block (ok_loop (fun c p=>(by kernel_rfl)) (fun nl1=>⟨fun c p=>(by kernel_rfl),ok_t⟩)))) ok_t)) (fun x=>(by kernel_rfl))
def Ax.fx (K:Nat):FX PP:=⟨141,Ax.sg,_,Ax.ct K⟩
def A7.l1.M:Tm:=⟨[(0,.c (.p (.sl (.int .u8)) true (1,0))),(1,.c (.p (.int .i64) true (1,1))),(2,.c (.p (.int .i64) true (1,2))),(7,.c (.p (.int .i64) false (10,0))),(8,.c (.p (.int .i64) false (11,0)))],[],[(1,A7.sg.A)]⟩
def A7.C (K:Nat):CE:=⟨⟨PP,tys⟩,[],[],K,[],[],[],26,[]⟩
def A7.lt (K:Nat):LT A7.sg.R.D:=.two .t (.two .t (.two (.two .t (.one (.loop A7.l1.M (fun n c p=>A7.l1 K c.1 c.2.1 c.2.2 n p.1 p.2) (fun nl1=>.t)))) .t))
theorem A7.ct (K:Nat):CtX PP 142 A7.sg (fun x=>A7 K x.1 x.2.1 x.2.2):=ct_x (C:=A7.C K) (fn:=Tryz.f142) (c:=Tryz.f142.body.get!) (lt:=(A7.lt K)) fol (by kernel_rfl) (by kernel_rfl) rfl (fun x=>(by kernel_rfl)) (ok_two ok_t (ok_two ok_t (ok_two (ok_two ok_t (ok_block (ok_loop (fun c p=>(by kernel_rfl)) (fun nl1=>⟨fun c p=>(by kernel_rfl),ok_t⟩)))) ok_t))) (fun x=>(by kernel_rfl))
def A7.fx (K:Nat):FX PP:=⟨142,A7.sg,_,A7.ct K⟩
def Av.l1.M:Tm:=⟨[(0,.c (.p (.int .i64) false (11,0))),(3,.c (.p (.int .i64) false (10,0)))],[],[]⟩
def Av.C (K:Nat):CE:=⟨⟨PP,tys⟩,[],[],K,[],[],[],11,[]⟩
def Av.lt (K:Nat):LT Av.sg.R.D:=.two .t (.two .t (.two (.one (.loop Av.l1.M (fun n c p=>Av.l1 K n p.1 p.2) (fun nl1=>.t))) .t))
theorem Av.ct (K:Nat):CtX PP 136 Av.sg (fun x=>Av K x):=ct_x (C:=Av.C K) (fn:=Tryz.f136) (c:=Tryz.f136.body.get!) (lt:=(Av.lt K)) fol (by kernel_rfl) (by kernel_rfl) rfl (fun x=>(by kernel_rfl)) (ok_two ok_t (ok_two ok_t (ok_two (ok_block (ok_loop (fun c p=>(by kernel_rfl)) (fun nl1=>⟨fun c p=>(by kernel_rfl),ok_t⟩))) ok_t))) (fun x=>(by kernel_rfl))
def Av.fx (K:Nat):FX PP:=⟨136,Av.sg,_,Av.ct K⟩
def Di.C (K:Nat):CE:=⟨⟨PP,tys⟩,[(124,some (Cf.fx K))],[],K,[],[],[],15,[]⟩
theorem Di.ct (K:Nat):CtX PP 143 Di.sg (fun x=>Di K x.1 x.2):=ct_x (C:=Di.C K) (fn:=Tryz.f143) (c:=Tryz.f143.body.get!) (lt:=.t) fol (by kernel_rfl) (by kernel_rfl) rfl (fun x=>(by kernel_rfl)) (ok_t) (fun x=>(by kernel_rfl))
def Di.fx (K:Nat):FX PP:=⟨143,Di.sg,_,Di.ct K⟩
def Ac.j1.M:Tm:=⟨[(2,.c (.p (.int .i64) true (1,2))),(9,.c (.p (.int .i64) false (14,0))),(10,.c (.p (.int .i64) false (15,0)))],[],[(1,Ac.sg.A)]⟩
def Ac.j2.M:Tm:=⟨[(0,.c (.p (.sl (.int .u8)) true (1,0))),(2,.c (.p (.int .i64) true (1,2))),(8,.c (.p (.int .i64) true (4000019,0))),(10,.c (.p (.int .i64) false (10,0))),(13,.c (.p (.int .i64) false (11,0)))],[],[(1,Ac.sg.A),(4000019,Ax.sg.R)]⟩
def Ac.j3.M:Tm:=⟨[(2,.c (.p (.int .i64) true (1,2))),(8,.c (.p (.int .i64) true (4000019,0))),(10,.c (.p (.int .i64) false (12,0))),(13,.c (.p (.int .i64) true (11,0))),(16,.c (.p (.int .i64) false (13,0)))],[],[(1,Ac.sg.A),(11,(.int .i64)),(4000019,Ax.sg.R)]⟩
def Ac.C (K:Nat) (ih:CtX PP 92 Ac.sg (fun x=>Ac K x.1 x.2.1 x.2.2)):CE:=⟨⟨PP,tys⟩,[(141,some (Ax.fx K)),(142,some (A7.fx K)),(92,some ⟨92,Ac.sg,_,ih⟩),(136,some (Av.fx K)),(143,some (Di.fx K))],[],K,[],[],[],165,[]⟩
def Ac.lt (K:Nat):LT Ac.sg.R.D:=.two .t (.two .t (.two .t (.two .t (.join Ac.j1.M (fun c p=>Ac.j1 K (Ac K) c.2.2 p.1 p.2) (.two .t (.one (.two .t (.two .t (.two .t (.two .t (.two .t (.two .t (.two .t (.join Ac.j2.M (fun c p=>Ac.j2 K (Ac K) c.2 c.1.1 c.1.2.2 p.1 p.2) .t (.two .t (.two .t (.two .t (.two .t (.two .t (.two .t (.join Ac.j3.M (fun c p=>Ac.j3 K (Ac K) c.2.2 c.2.1 c.1.2.2 p.1 p.2) .t .t))))))))))))))))) .t))))
theorem Ac.ct:∀ K:Nat,CtX PP 92 Ac.sg (fun x=>Ac K x.1 x.2.1 x.2.2)
 | 0=>fun v x r h=>by cases h
 | K+1=>ct_x (C:=Ac.C K (Ac.ct K)) (fn:=Tryz.f92) (c:=Tryz.f92.body.get!) (lt:=(Ac.lt K)) fol (by kernel_rfl) (by kernel_rfl) rfl (fun x=>(by kernel_rfl)) (ok_two ok_t (ok_two ok_t (ok_two ok_t (ok_two ok_t (ok_join (ok_two ok_t (ok_block (ok_two ok_t (ok_cond ok_t (ok_two ok_t (ok_cond ok_t (ok_two ok_t (ok_cond ok_t (ok_two ok_t (ok_join ok_t (fun c p=>(by kernel_rfl)) (ok_two ok_t (ok_two ok_t (ok_two ok_t (ok_two ok_t (ok_two ok_t (ok_two ok_t (ok_join ok_t (fun c p=>(by kernel_rfl)) ok_t))))))))))))))))) (fun c p=>(by kernel_rfl)) ok_t))))) (fun x=>(by kernel_rfl))
def Ac.fx (K:Nat):FX PP:=⟨92,Ac.sg,_,Ac.ct K⟩
def Cw.C (K:Nat):CE:=⟨⟨PP,tys⟩,[],[],K,[(1,[2])],[],[],7,[]⟩
theorem Cw.ct (K:Nat):CtX PP 93 Cw.sg (fun x=>Cw K x):=ct_x (C:=Cw.C K) (fn:=Tryz.f93) (c:=Tryz.f93.body.get!) (lt:=.t) fol (by kernel_rfl) (by kernel_rfl) rfl (fun x=>(by kernel_rfl)) (ok_t) (fun x=>(by kernel_rfl))
def Cw.fx (K:Nat):FX PP:=⟨93,Cw.sg,_,Cw.ct K⟩
def Cx.C (K:Nat):CE:=⟨⟨PP,tys⟩,[],[],K,[],[],[],12,[]⟩
theorem Cx.ct (K:Nat):CtX PP 144 Cx.sg (fun x=>Cx K x):=ct_x (C:=Cx.C K) (fn:=Tryz.f144) (c:=Tryz.f144.body.get!) (lt:=.t) fol (by kernel_rfl) (by kernel_rfl) rfl (fun x=>(by kernel_rfl)) (ok_t) (fun x=>(by kernel_rfl))
def Cx.fx (K:Nat):FX PP:=⟨144,Cx.sg,_,Cx.ct K⟩
def Bc.l1.M:Tm:=⟨[(0,.c (.p (.sl (.int .u8)) true (1,0))),(1,.c (.p (.int .i64) false (12,0))),(2,.c (.p (.int .i64) true (1,2))),(9,.c (.p (.int .i64) true (4000018,0))),(10,.c (.vf 5020000)),(11,.c (.p (.int .i64) false (10,0))),(12,.c (.p (.int .i64) false (11,0)))],[(5020000,.row (.int .i64) false false (13,0))],[(1,Bc.sg.A),(4000018,Ac.sg.R)]⟩
def Bc.C (K:Nat):CE:=⟨⟨PP,tys⟩,[(92,some (Ac.fx K)),(144,some (Cx.fx K)),(34,some (Bn.fx K))],[],K,[],[],[],62,[]⟩
def Bc.lt (K:Nat):LT Bc.sg.R.D:=.two .t (.two .t (.two .t (.two .t (.two .t (.two (.two .t (.one (.loop Bc.l1.M (fun n c p=>Bc.l1 K c.2 c.1.1 c.1.2.2 n p.1 p.2.1 p.2.2.1 p.2.2.2) (fun nl1=>.t)))) .t)))))
theorem Bc.ct (K:Nat):CtX PP 145 Bc.sg (fun x=>Bc K x.1 x.2.1 x.2.2):=ct_x (C:=Bc.C K) (fn:=Tryz.f145) (c:=Tryz.f145.body.get!) (lt:=(Bc.lt K)) fol (by kernel_rfl) (by kernel_rfl) rfl (fun x=>(by kernel_rfl)) (ok_two ok_t (ok_two ok_t (ok_two ok_t (ok_two ok_t (ok_two ok_t (ok_two (ok_two ok_t (ok_block (ok_loop (fun c p=>(by kernel_rfl)) (fun nl1=>⟨fun c p=>(by kernel_rfl),ok_t⟩)))) ok_t)))))) (fun x=>(by kernel_rfl))
def Bc.fx (K:Nat):FX PP:=⟨145,Bc.sg,_,Bc.ct K⟩
def Ah.l1.M:Tm:=⟨[(0,.c (.p (.sl Cr) true (1,0))),(1,.c (.p (.sl (.int .i64)) true (1,1))),(6,.c (.av 5016000)),(7,.c (.p (.int .i64) false (11,0)))],[(5016000,.row .bool false false (10,0))],[(1,Ah.sg.A)]⟩
def Ah.l2.M:Tm:=⟨[(0,.c (.p (.sl Cr) true (1,0))),(1,.c (.p (.sl (.int .i64)) true (1,1))),(6,.c (.av 5038000)),(7,.c (.p (.int .i64) true (11,0))),(8,.c (.bx 5038001 0)),(9,.c (.p (.int .i64) false (14,0)))],[(5038000,.row .bool false false (17,0)),(5038001,.box [.p (.int .i64) false (12,0),.p (.int .i64) false (13,0)])],[(1,Ah.sg.A),(11,(.int .i64))]⟩
def Ah.l3.M:Tm:=⟨[(1,.c (.p (.sl (.int .i64)) true (1,1))),(6,.c (.av 5054000)),(10,.c (.p (.int .i64) false (15,0)))],[(5054000,.row .bool false false (18,0))],[(1,Ah.sg.A)]⟩
def Ah.l4.M:Tm:=⟨[(6,.c (.av 5079000)),(11,.c (.vf 5079001)),(12,.c (.p (.int .i64) false (16,0)))],[(5079000,.row .bool false false (20,0)),(5079001,.row (.int .i64) false false (19,0))],[]⟩
def Ah.C (K:Nat):CE:=⟨⟨PP,tys⟩,[(34,some (Bn.fx K)),(35,some (Cq.fx K))],[],K,[],[],[],105,[]⟩
def Ah.lt (K:Nat):LT Ah.sg.R.D:=.two .t (.two .t (.two .t (.two (.two .t (.one (.loop Ah.l1.M (fun n c p=>Ah.l1 K c.1 c.2 n p.1 p.2) (fun nl1=>.two .t (.two (.one (.two .t (.two .t (.two .t (.one (.loop Ah.l2.M (fun n c p=>Ah.l2 K (Ah.l1 K c.1.1 c.1.2 nl1) c.2 c.1.1 c.1.2 n p.1 p.2.1 p.2.2.1 p.2.2.2) (fun nl2=>.t))))))) .t))))) (.two (.two .t (.one (.loop Ah.l3.M (fun n c p=>Ah.l3 K c.2 n p.1 p.2) (fun nl3=>.t)))) (.two .t (.two (.two .t (.one (.loop Ah.l4.M (fun n c p=>Ah.l4 K n p.1 p.2.1 p.2.2) (fun nl4=>.t)))) .t))))))
theorem Ah.ct (K:Nat):CtX PP 146 Ah.sg (fun x=>Ah K x.1 x.2):=ct_x (C:=Ah.C K) (fn:=Tryz.f146) (c:=Tryz.f146.body.get!) (lt:=(Ah.lt K)) fol (by kernel_rfl) (by kernel_rfl) rfl (fun x=>(by kernel_rfl)) (ok_two ok_t (ok_two ok_t (ok_two ok_t (ok_two (ok_two ok_t (ok_block (ok_loop (fun c p=>(by kernel_rfl)) (fun nl1=>⟨fun c p=>(by kernel_rfl),ok_two ok_t (ok_two (ok_block (ok_two ok_t (ok_two ok_t (ok_two ok_t (ok_block (ok_loop (fun c p=>(by kernel_rfl)) (fun nl2=>⟨fun c p=>(by kernel_rfl),ok_t⟩))))))) ok_t)⟩)))) (ok_two (ok_two ok_t (ok_block (ok_loop (fun c p=>(by kernel_rfl)) (fun nl3=>⟨fun c p=>(by kernel_rfl),ok_t⟩)))) (ok_two ok_t (ok_two (ok_two ok_t (ok_block (ok_loop (fun c p=>(by kernel_rfl)) (fun nl4=>⟨fun c p=>(by kernel_rfl),ok_t⟩)))) ok_t))))))) (fun x=>(by kernel_rfl))
def Ah.fx (K:Nat):FX PP:=⟨146,Ah.sg,_,Ah.ct K⟩
def Ar.l1.M:Tm:=⟨[(0,.c (.p (.sl (.int .i64)) true (1,0))),(4,.c (.vf 5010000)),(5,.c (.vf 5010001)),(6,.c (.p (.int .i64) false (10,0)))],[(5010000,.row Cr false false (12,0)),(5010001,.row (.int .i64) false false (13,0))],[(1,Ar.sg.A)]⟩
def Ar.l2.M:Tm:=⟨[(0,.c (.p (.sl (.int .i64)) true (1,0))),(4,.c (.vf 5022000)),(5,.c (.vf 5022001)),(6,.c (.p (.int .i64) true (10,0))),(7,.c (.p (.int .i64) false (11,0)))],[(5022000,.row Cr false false (14,0)),(5022001,.row (.int .i64) false false (15,0))],[(1,Ar.sg.A),(10,(.int .i64))]⟩
def Ar.C (K:Nat):CE:=⟨⟨PP,tys⟩,[],[],K,[],[],[],57,[]⟩
def Ar.lt (K:Nat):LT Ar.sg.R.D:=.two .t (.two .t (.two .t (.two (.two .t (.one (.loop Ar.l1.M (fun n c p=>Ar.l1 K c n p.1 p.2.1 p.2.2) (fun nl1=>.two .t (.one (.two .t (.two (.one (.loop Ar.l2.M (fun n c p=>Ar.l2 K (Ar.l1 K c.1 nl1) c.2 c.1 n p.1 p.2.1 p.2.2) (fun nl2=>.t))) .t))))))) .t)))
theorem Ar.ct (K:Nat):CtX PP 137 Ar.sg (fun x=>Ar K x):=ct_x (C:=Ar.C K) (fn:=Tryz.f137) (c:=Tryz.f137.body.get!) (lt:=(Ar.lt K)) fol (by kernel_rfl) (by kernel_rfl) rfl (fun x=>(by kernel_rfl)) (ok_two ok_t (ok_two ok_t (ok_two ok_t (ok_two (ok_two ok_t (ok_block (ok_loop (fun c p=>(by kernel_rfl)) (fun nl1=>⟨fun c p=>(by kernel_rfl),ok_two ok_t (ok_block (ok_two ok_t (ok_two (ok_block (ok_loop (fun c p=>(by kernel_rfl)) (fun nl2=>⟨fun c p=>(by kernel_rfl),ok_t⟩))) ok_t)))⟩)))) ok_t)))) (fun x=>(by kernel_rfl))
def Ar.fx (K:Nat):FX PP:=⟨137,Ar.sg,_,Ar.ct K⟩
def Aj.l1.M:Tm:=⟨[(0,.c (.vf 5006000)),(1,.c (.p (.int .i64) true (1,1))),(7,.c (.p (.int .i64) false (10,0)))],[(5006000,.row (.int .u8) false false (11,0))],[(1,Aj.sg.A)]⟩
def Aj.C (K:Nat):CE:=⟨⟨PP,tys⟩,[],[],K,[],[],[],23,[]⟩
def Aj.lt (K:Nat):LT Aj.sg.R.D:=.two .t (.two (.two .t (.one (.loop Aj.l1.M (fun n c p=>Aj.l1 K c.2.1 n p.1 p.2) (fun nl1=>.t)))) .t)
theorem Aj.ct (K:Nat):CtX PP 135 Aj.sg (fun x=>Aj K x.1 x.2.1 x.2.2):=ct_x (C:=Aj.C K) (fn:=Tryz.f135) (c:=Tryz.f135.body.get!) (lt:=(Aj.lt K)) fol (by kernel_rfl) (by kernel_rfl) rfl (fun x=>(by kernel_rfl)) (ok_two ok_t (ok_two (ok_two ok_t (ok_block (ok_loop (fun c p=>(by kernel_rfl)) (fun nl1=>⟨fun c p=>(by kernel_rfl),ok_t⟩)))) ok_t)) (fun x=>(by kernel_rfl))
def Aj.fx (K:Nat):FX PP:=⟨135,Aj.sg,_,Aj.ct K⟩
def Ae.l1.M:Tm:=⟨[(0,.c (.vf 5013000)),(2,.c (.p (.int .i64) true (1,2))),(7,.c (.p (.int .i64) false (10,0)))],[(5013000,.row (.int .u8) false false (12,0))],[(1,Ae.sg.A)]⟩
def Ae.j2.M:Tm:=⟨[(0,.c (.vf 5042000)),(2,.c (.p (.int .i64) true (1,2))),(8,.c (.p (.int .i64) false (11,0)))],[(5042000,.row (.int .u8) false true (1,0))],[(1,Ae.sg.A)]⟩
def Ae.C (K:Nat) (ih:CtX PP 85 Ae.sg (fun x=>Ae K x.1 x.2.1 x.2.2)):CE:=⟨⟨PP,tys⟩,[(136,some (Av.fx K)),(135,some (Aj.fx K)),(85,some ⟨85,Ae.sg,_,ih⟩)],[],K,[],[],[],103,[]⟩
def Ae.lt (K:Nat):LT Ae.sg.R.D:=.two .t (.two (.two .t (.one (.two .t (.two (.two (.two .t (.one (.loop Ae.l1.M (fun n c p=>Ae.l1 K (Ae K) c.2.2 n p.1 p.2) (fun nl1=>.t)))) .t) .t)))) (.two .t (.join Ae.j2.M (fun c p=>Ae.j2 K (Ae K) c.1 c.2.2 p) .t .t)))
theorem Ae.ct:∀ K:Nat,CtX PP 85 Ae.sg (fun x=>Ae K x.1 x.2.1 x.2.2)
 | 0=>fun v x r h=>by cases h
 | K+1=>ct_x (C:=Ae.C K (Ae.ct K)) (fn:=Tryz.f85) (c:=Tryz.f85.body.get!) (lt:=(Ae.lt K)) fol (by kernel_rfl) (by kernel_rfl) rfl (fun x=>(by kernel_rfl)) (ok_two ok_t (ok_two (ok_two ok_t (ok_block (ok_two ok_t (ok_cond (ok_two (ok_two ok_t (ok_block (ok_loop (fun c p=>(by kernel_rfl)) (fun nl1=>⟨fun c p=>(by kernel_rfl),ok_t⟩)))) ok_t) ok_t)))) (ok_two ok_t (ok_join ok_t (fun c p=>(by kernel_rfl)) ok_t)))) (fun x=>(by kernel_rfl))
def Ae.fx (K:Nat):FX PP:=⟨85,Ae.sg,_,Ae.ct K⟩
def Cy.C (K:Nat):CE:=⟨⟨PP,tys⟩,[],[],K,[],[],[],10,[]⟩
theorem Cy.ct (K:Nat):CtX PP 138 Cy.sg (fun x=>Cy K x):=ct_x (C:=Cy.C K) (fn:=Tryz.f138) (c:=Tryz.f138.body.get!) (lt:=.t) fol (by kernel_rfl) (by kernel_rfl) rfl (fun x=>(by kernel_rfl)) (ok_t) (fun x=>(by kernel_rfl))
def Cy.fx (K:Nat):FX PP:=⟨138,Cy.sg,_,Cy.ct K⟩
def Br.l1.M:Tm:=⟨[(0,.c (.vf 5008000)),(1,.c (.p (.int .i64) true (1,1))),(2,.c (.p (.sl (.int .i64)) true (1,2))),(7,.c (.p (.int .i64) false (10,0)))],[(5008000,.row (.int .u8) false false (11,0))],[(1,Br.sg.A)]⟩
def Br.C (K:Nat):CE:=⟨⟨PP,tys⟩,[(85,some (Ae.fx K)),(138,some (Cy.fx K))],[],K,[],[],[],43,[]⟩
def Br.lt (K:Nat):LT Br.sg.R.D:=.two .t (.two .t (.two (.two .t (.one (.loop Br.l1.M (fun n c p=>Br.l1 K c.2.1 c.2.2 n p.1 p.2) (fun nl1=>.t)))) .t))
theorem Br.ct (K:Nat):CtX PP 139 Br.sg (fun x=>Br K x.1 x.2.1 x.2.2):=ct_x (C:=Br.C K) (fn:=Tryz.f139) (c:=Tryz.f139.body.get!) (lt:=(Br.lt K)) fol (by kernel_rfl) (by kernel_rfl) rfl (fun x=>(by kernel_rfl)) (ok_two ok_t (ok_two ok_t (ok_two (ok_two ok_t (ok_block (ok_loop (fun c p=>(by kernel_rfl)) (fun nl1=>⟨fun c p=>(by kernel_rfl),ok_t⟩)))) ok_t))) (fun x=>(by kernel_rfl))
def Br.fx (K:Nat):FX PP:=⟨139,Br.sg,_,Br.ct K⟩
def As.l1.M:Tm:=⟨[(0,.c (.vf 5010000)),(1,.c (.p (.int .i64) true (1,1))),(7,.c (.vf 5010001)),(8,.c (.vf 5010002)),(9,.c (.p (.int .i64) false (10,0)))],[(5010000,.row (.int .u8) false false (12,0)),(5010001,.row Cr false true (4000012,0)),(5010002,.row (.int .i64) false true (4000012,1))],[(1,As.sg.A),(4000012,Ar.sg.R)]⟩
def As.j2.M:Tm:=⟨[(0,.c (.vf 5019000)),(1,.c (.p (.int .i64) true (1,1))),(7,.c (.vf 5019001)),(8,.c (.vf 5019002)),(9,.c (.p (.int .i64) true (10,0)))],[(5019000,.row (.int .u8) false false (11,0)),(5019001,.row Cr false true (4000012,0)),(5019002,.row (.int .i64) false true (4000012,1))],[(1,As.sg.A),(10,(.int .i64)),(4000012,Ar.sg.R)]⟩
def As.C (K:Nat):CE:=⟨⟨PP,tys⟩,[(137,some (Ar.fx K)),(85,some (Ae.fx K)),(138,some (Cy.fx K)),(139,some (Br.fx K))],[],K,[],[],[],72,[]⟩
def As.lt (K:Nat):LT As.sg.R.D:=.two .t (.two .t (.two .t (.two (.two .t (.one (.loop As.l1.M (fun n c p=>As.l1 K c.2 c.1.2.1 n p.1 p.2) (fun nl1=>.two .t (.two (.one (.join As.j2.M (fun c p=>As.j2 K (As.l1 K c.2.2 c.1.2.1 nl1) c.2.2 c.2.1 c.1.2.1 p) .t .t)) .t))))) .t)))
theorem As.ct (K:Nat):CtX PP 86 As.sg (fun x=>As K x.1 x.2.1 x.2.2):=ct_x (C:=As.C K) (fn:=Tryz.f86) (c:=Tryz.f86.body.get!) (lt:=(As.lt K)) fol (by kernel_rfl) (by kernel_rfl) rfl (fun x=>(by kernel_rfl)) (ok_two ok_t (ok_two ok_t (ok_two ok_t (ok_two (ok_two ok_t (ok_block (ok_loop (fun c p=>(by kernel_rfl)) (fun nl1=>⟨fun c p=>(by kernel_rfl),ok_two ok_t (ok_two (ok_block (ok_join ok_t (fun c p=>(by kernel_rfl)) ok_t)) ok_t)⟩)))) ok_t)))) (fun x=>(by kernel_rfl))
def As.fx (K:Nat):FX PP:=⟨86,As.sg,_,As.ct K⟩
def B6.l1.M:Tm:=⟨[(0,.c (.p (.sl (.int .u8)) true (1,0))),(1,.c (.p (.int .i64) true (1,1))),(2,.c (.p (.sl (.int .u8)) true (1,2))),(7,.c (.p (.int .i64) false (10,0)))],[],[(1,B6.sg.A)]⟩
def B6.C (K:Nat):CE:=⟨⟨PP,tys⟩,[],[],K,[],[],[],33,[]⟩
def B6.lt (K:Nat):LT B6.sg.R.D:=.two .t (.two (.two .t (.one (.loop B6.l1.M (fun n c p=>B6.l1 K c.1 c.2.1 c.2.2 n p) (fun nl1=>.t)))) .t)
theorem B6.ct (K:Nat):CtX PP 147 B6.sg (fun x=>B6 K x.1 x.2.1 x.2.2):=ct_x (C:=B6.C K) (fn:=Tryz.f147) (c:=Tryz.f147.body.get!) (lt:=(B6.lt K)) fol (by kernel_rfl) (by kernel_rfl) rfl (fun x=>(by kernel_rfl)) (ok_two ok_t (ok_two (ok_two ok_t (ok_block (ok_loop (fun c p=>(by kernel_rfl)) (fun nl1=>⟨fun c p=>(by kernel_rfl),ok_t⟩)))) ok_t)) (fun x=>(by kernel_rfl))
def B6.fx (K:Nat):FX PP:=⟨147,B6.sg,_,B6.ct K⟩
def Ao.l1.M:Tm:=⟨[(0,.c (.vf 5010000)),(1,.c (.p (.int .i64) true (1,1))),(7,.c (.vf 5010001)),(8,.c (.vf 5010002)),(9,.c (.p (.int .i64) false (10,0)))],[(5010000,.row (.int .u8) false false (12,0)),(5010001,.row Cr false true (4000012,0)),(5010002,.row (.int .i64) false true (4000012,1))],[(1,Ao.sg.A),(4000012,Ar.sg.R)]⟩
def Ao.j2.M:Tm:=⟨[(0,.c (.vf 5019000)),(1,.c (.p (.int .i64) true (1,1))),(7,.c (.vf 5019001)),(8,.c (.vf 5019002)),(9,.c (.p (.int .i64) true (10,0)))],[(5019000,.row (.int .u8) false false (11,0)),(5019001,.row Cr false true (4000012,0)),(5019002,.row (.int .i64) false true (4000012,1))],[(1,Ao.sg.A),(10,(.int .i64)),(4000012,Ar.sg.R)]⟩
def Ao.C (K:Nat):CE:=⟨⟨PP,tys⟩,[(137,some (Ar.fx K)),(85,some (Ae.fx K)),(138,some (Cy.fx K)),(139,some (Br.fx K))],[],K,[],[(2,[.nilS 0 6500000 false])],[],72,[]⟩
def Ao.lt (K:Nat):LT Ao.sg.R.D:=.two .t (.two .t (.two .t (.two (.two .t (.one (.loop Ao.l1.M (fun n c p=>Ao.l1 K c.2 c.1.2.1 n p.1 p.2) (fun nl1=>.two .t (.two (.one (.join Ao.j2.M (fun c p=>Ao.j2 K (Ao.l1 K c.2.2 c.1.2.1 nl1) c.2.2 c.2.1 c.1.2.1 p) .t .t)) .t))))) .t)))
theorem Ao.ct (K:Nat):CtX PP 86 Ao.sg (fun x=>Ao K x.1 x.2.1 x.2.2):=ct_x (C:=Ao.C K) (fn:=Tryz.f86) (c:=Tryz.f86.body.get!) (lt:=(Ao.lt K)) fol (by kernel_rfl) (by kernel_rfl) rfl (fun x=>(by kernel_rfl)) (ok_two ok_t (ok_two ok_t (ok_two ok_t (ok_two (ok_two ok_t (ok_block (ok_loop (fun c p=>(by kernel_rfl)) (fun nl1=>⟨fun c p=>(by kernel_rfl),ok_two ok_t (ok_two (ok_block (ok_join ok_t (fun c p=>(by kernel_rfl)) ok_t)) ok_t)⟩)))) ok_t)))) (fun x=>(by kernel_rfl))
def Ao.fx (K:Nat):FX PP:=⟨86,Ao.sg,_,Ao.ct K⟩
def Al.l1.M:Tm:=⟨[(0,.c (.p (.sl (.int .u8)) true (1,0))),(1,.c (.p (.int .i64) false (14,0))),(2,.c (.p (.int .i64) true (1,2))),(9,.c (.p (.int .i64) true (1,1))),(10,.c (.p (.int .i64) true (4000028,0))),(11,.c (.vf 5022000)),(12,.c (.p (.int .i64) false (10,0))),(13,.c (.p (.int .i64) false (11,0)))],[(5022000,.row Cr false false (15,0))],[(1,Al.sg.A),(4000028,Ac.sg.R)]⟩
def Al.j2.M:Tm:=⟨[(0,.c (.p (.sl (.int .u8)) true (1,0))),(1,.c (.p (.int .i64) true (4000055,1))),(2,.c (.p (.int .i64) true (1,2))),(9,.c (.p (.int .i64) true (1,1))),(10,.c (.p (.int .i64) true (4000028,0))),(11,.c (.vf 5055000)),(13,.c (.p (.int .i64) true (11,0))),(18,.c (.bx 5055001 0))],[(5055000,.row Cr false true (15,0)),(5055001,.box [.p (.int .i64) false (12,0),.p (.int .i64) false (13,0)])],[(1,Al.sg.A),(11,(.int .i64)),(15,(.sl Cr)),(4000028,Ac.sg.R),(4000055,Ac.sg.R)]⟩
def Al.C (K:Nat):CE:=⟨⟨PP,tys⟩,[(92,some (Ac.fx K)),(144,some (Cx.fx K)),(145,some (Bc.fx K)),(146,some (Ah.fx K)),(86,some (Ao.fx K)),(147,some (B6.fx K))],[],K,[],[],[],130,[]⟩
def Al.lt (K:Nat):LT Al.sg.R.D:=.two .t (.two .t (.two .t (.two .t (.two .t (.two .t (.two (.two .t (.one (.loop Al.l1.M (fun n c p=>Al.l1 K c.2 c.1.1 c.1.2.1 c.1.2.2 n p.1 p.2.1 p.2.2.1 p.2.2.2) (fun nl1=>.two .t (.two (.one (.two .t (.two .t (.two .t (.two .t (.two .t (.two .t (.join Al.j2.M (fun c p=>Al.j2 K (Al.l1 K c.2.2.2.1 c.1.1 c.1.2.1 c.1.2.2 nl1) c.2.2.2.1 c.2.2.2.2 c.2.1 c.2.2.1 c.1.1 c.1.2.1 c.1.2.2 p.1 p.2) .t .t)))))))) .t))))) .t))))))
theorem Al.ct (K:Nat):CtX PP 94 Al.sg (fun x=>Al K x.1 x.2.1 x.2.2):=ct_x (C:=Al.C K) (fn:=Tryz.f94) (c:=Tryz.f94.body.get!) (lt:=(Al.lt K)) fol (by kernel_rfl) (by kernel_rfl) rfl (fun x=>(by kernel_rfl)) (ok_two ok_t (ok_two ok_t (ok_two ok_t (ok_two ok_t (ok_two ok_t (ok_two ok_t (ok_two (ok_two ok_t (ok_block (ok_loop (fun c p=>(by kernel_rfl)) (fun nl1=>⟨fun c p=>(by kernel_rfl),ok_two ok_t (ok_two (ok_block (ok_two ok_t (ok_two ok_t (ok_two ok_t (ok_two ok_t (ok_two ok_t (ok_two ok_t (ok_join ok_t (fun c p=>(by kernel_rfl)) ok_t)))))))) ok_t)⟩)))) ok_t))))))) (fun x=>(by kernel_rfl))
def Al.fx (K:Nat):FX PP:=⟨94,Al.sg,_,Al.ct K⟩
def Bi.l1.M:Tm:=⟨[(0,.c (.p (.sl (.int .u8)) true (1,0))),(2,.c (.bx 5018000 0)),(5,.c (.p (.int .i64) false (12,0))),(6,.c (.bx 5018001 0)),(7,.c (.p (.int .i64) false (11,0)))],[(5018000,.box [.p (.int .i64) false (10,0),.nl (.sl (.int .i64))]),(5018001,.box [.p (.int .i64) true (4000026,0),.vf 5018002]),(5018002,.row (.sl (.int .i64)) true false (13,0))],[(1,Bi.sg.A),(4000026,Cw.sg.R)]⟩
def Bi.C (K:Nat):CE:=⟨⟨PP,tys⟩,[(92,some (Ac.fx K)),(93,some (Cw.fx K)),(94,some (Al.fx K)),(16,some (Bm.fx K))],[],K,[],[],[],61,[]⟩
def Bi.lt (K:Nat):LT Bi.sg.R.D:=.two .t (.two .t (.two .t (.two .t (.two (.two .t (.one (.loop Bi.l1.M (fun n c p=>Bi.l1 K c.2 c.1 n p.1 p.2.1 p.2.2.1 p.2.2.2) (fun nl1=>.t)))) .t))))
theorem Bi.ct (K:Nat):CtX PP 25 Bi.sg (fun x=>Bi K x):=ct_x (C:=Bi.C K) (fn:=Tryz.f25) (c:=Tryz.f25.body.get!) (lt:=(Bi.lt K)) fol (by kernel_rfl) (by kernel_rfl) rfl (fun x=>(by kernel_rfl)) (ok_two ok_t (ok_two ok_t (ok_two ok_t (ok_two ok_t (ok_two (ok_two ok_t (ok_block (ok_loop (fun c p=>(by kernel_rfl)) (fun nl1=>⟨fun c p=>(by kernel_rfl),ok_t⟩)))) ok_t))))) (fun x=>(by kernel_rfl))
def Bi.fx (K:Nat):FX PP:=⟨25,Bi.sg,_,Bi.ct K⟩
def C2.C (K:Nat):CE:=⟨⟨PP,tys⟩,[],[],K,[],[],[],14,[]⟩
theorem C2.ct (K:Nat):CtX PP 113 C2.sg (fun x=>C2 K x.1 x.2):=ct_x (C:=C2.C K) (fn:=Tryz.f113) (c:=Tryz.f113.body.get!) (lt:=.t) fol (by kernel_rfl) (by kernel_rfl) rfl (fun x=>(by kernel_rfl)) (ok_t) (fun x=>(by kernel_rfl))
def C2.fx (K:Nat):FX PP:=⟨113,C2.sg,_,C2.ct K⟩
def B9.l1.M:Tm:=⟨[(0,.c (.p (.sl (.int .i64)) true (1,0))),(1,.c (.p (.int .i64) true (1,1))),(5,.c (.p (.int .i64) false (10,0)))],[],[(1,B9.sg.A)]⟩
def B9.C (K:Nat):CE:=⟨⟨PP,tys⟩,[],[],K,[],[],[],19,[]⟩
def B9.lt (K:Nat):LT B9.sg.R.D:=.two .t (.two (.two .t (.one (.loop B9.l1.M (fun n c p=>B9.l1 K c.1 c.2 n p) (fun nl1=>.t)))) .t)
theorem B9.ct (K:Nat):CtX PP 130 B9.sg (fun x=>B9 K x.1 x.2):=ct_x (C:=B9.C K) (fn:=Tryz.f130) (c:=Tryz.f130.body.get!) (lt:=(B9.lt K)) fol (by kernel_rfl) (by kernel_rfl) rfl (fun x=>(by kernel_rfl)) (ok_two ok_t (ok_two (ok_two ok_t (ok_block (ok_loop (fun c p=>(by kernel_rfl)) (fun nl1=>⟨fun c p=>(by kernel_rfl),ok_t⟩)))) ok_t)) (fun x=>(by kernel_rfl))
def B9.fx (K:Nat):FX PP:=⟨130,B9.sg,_,B9.ct K⟩
def Ap.l1.M:Tm:=⟨[(0,.c (.p (.sl (.int .i64)) true (1,0))),(1,.c (.p (.sl (.int .i64)) true (1,1))),(6,.c (.vf 5010000)),(7,.c (.nl (.int .i64))),(8,.c (.p .bool false (14,0))),(9,.c (.p (.int .i64) false (10,0))),(10,.c (.p (.int .i64) false (11,0)))],[(5010000,.row (.int .i64) false false (13,0))],[(1,Ap.sg.A)]⟩
def Ap.l2.M:Tm:=⟨[(0,.c (.p (.sl (.int .i64)) true (1,0))),(1,.c (.p (.sl (.int .i64)) true (1,1))),(6,.c (.vf 5035000)),(7,.c (.vf 5035001)),(12,.c (.p (.int .i64) false (12,0)))],[(5035000,.row (.int .i64) false false (16,0)),(5035001,.row (.int .i64) false false (15,0))],[(1,Ap.sg.A)]⟩
def Ap.C (K:Nat):CE:=⟨⟨PP,tys⟩,[(130,some (B9.fx K))],[],K,[],[],[],58,[]⟩
def Ap.lt (K:Nat):LT Ap.sg.R.D:=.two .t (.two .t (.two .t (.two (.two .t (.one (.loop Ap.l1.M (fun n c p=>Ap.l1 K c.1 c.2 n p.1 p.2.1 p.2.2.1 p.2.2.2) (fun nl1=>.t)))) (.two (.two .t (.one (.loop Ap.l2.M (fun n c p=>Ap.l2 K c.1 c.2 n p.1 p.2.1 p.2.2) (fun nl2=>.t)))) .t))))
theorem Ap.ct (K:Nat):CtX PP 106 Ap.sg (fun x=>Ap K x.1 x.2):=ct_x (C:=Ap.C K) (fn:=Tryz.f106) (c:=Tryz.f106.body.get!) (lt:=(Ap.lt K)) fol (by kernel_rfl) (by kernel_rfl) rfl (fun x=>(by kernel_rfl)) (ok_two ok_t (ok_two ok_t (ok_two ok_t (ok_two (ok_two ok_t (ok_block (ok_loop (fun c p=>(by kernel_rfl)) (fun nl1=>⟨fun c p=>(by kernel_rfl),ok_t⟩)))) (ok_two (ok_two ok_t (ok_block (ok_loop (fun c p=>(by kernel_rfl)) (fun nl2=>⟨fun c p=>(by kernel_rfl),ok_t⟩)))) ok_t))))) (fun x=>(by kernel_rfl))
def Ap.fx (K:Nat):FX PP:=⟨106,Ap.sg,_,Ap.ct K⟩
def Bb.l1.M:Tm:=⟨[(0,.c (.p (.sl (.int .i64)) true (1,0))),(1,.c (.p (.sl (.int .i64)) true (1,1))),(5,.c (.p (.int .i64) false (10,0)))],[],[(1,Bb.sg.A)]⟩
def Bb.C (K:Nat):CE:=⟨⟨PP,tys⟩,[],[],K,[],[],[],26,[]⟩
def Bb.lt (K:Nat):LT Bb.sg.R.D:=.two .t (.two .t (.two (.two .t (.one (.loop Bb.l1.M (fun n c p=>Bb.l1 K c.1 c.2 n p) (fun nl1=>.t)))) .t))
theorem Bb.ct (K:Nat):CtX PP 20 Bb.sg (fun x=>Bb K x.1 x.2):=ct_x (C:=Bb.C K) (fn:=Tryz.f20) (c:=Tryz.f20.body.get!) (lt:=(Bb.lt K)) fol (by kernel_rfl) (by kernel_rfl) rfl (fun x=>(by kernel_rfl)) (ok_two ok_t (ok_two ok_t (ok_two (ok_two ok_t (ok_block (ok_loop (fun c p=>(by kernel_rfl)) (fun nl1=>⟨fun c p=>(by kernel_rfl),ok_t⟩)))) ok_t))) (fun x=>(by kernel_rfl))
def Bb.fx (K:Nat):FX PP:=⟨20,Bb.sg,_,Bb.ct K⟩
def Ad.l1.M:Tm:=⟨[(0,.c (.p (.sl (.int .i64)) true (1,0))),(1,.c (.p (.sl (.int .i64)) true (1,1))),(2,.c (.p (.sl (.int .i64)) true (1,2))),(8,.c (.av 5018000)),(9,.c (.p (.int .i64) false (11,0))),(10,.c (.p (.int .i64) false (12,0)))],[(5018000,.row .bool false false (10,0))],[(1,Ad.sg.A)]⟩
def Ad.j2.M:Tm:=⟨[(0,.c (.p (.sl (.int .i64)) true (1,0))),(1,.c (.p (.sl (.int .i64)) true (1,1))),(2,.c (.p (.sl (.int .i64)) true (1,2))),(8,.c (.av 5029000)),(9,.c (.p (.int .i64) true (11,0))),(10,.c (.p (.int .i64) true (12,0))),(11,.c (.p (.int .i64) false (13,0)))],[(5029000,.row .bool false true (10,0))],[(1,Ad.sg.A),(10,(.sl .bool)),(11,(.int .i64)),(12,(.int .i64))]⟩
def Ad.l3.M:Tm:=⟨[(0,.c (.p (.sl (.int .i64)) true (1,0))),(1,.c (.p (.sl (.int .i64)) true (1,1))),(2,.c (.p (.sl (.int .i64)) true (1,2))),(8,.c (.av 5047000)),(9,.c (.p (.int .i64) true (11,0))),(10,.c (.p (.int .i64) true (12,0))),(11,.c (.p (.int .i64) true (13,0))),(12,.c (.p (.int .i64) false (14,0)))],[(5047000,.row .bool false false (17,0))],[(1,Ad.sg.A),(11,(.int .i64)),(12,(.int .i64)),(13,(.int .i64))]⟩
def Ad.l4.M:Tm:=⟨[(0,.c (.p (.sl (.int .i64)) true (1,0))),(1,.c (.p (.sl (.int .i64)) true (1,1))),(2,.c (.p (.sl (.int .i64)) true (1,2))),(8,.c (.av 5064000)),(13,.c (.p (.int .i64) false (15,0)))],[(5064000,.row .bool false false (18,0))],[(1,Ad.sg.A)]⟩
def Ad.l5.M:Tm:=⟨[(0,.c (.p (.sl (.int .i64)) true (1,0))),(1,.c (.p (.sl (.int .i64)) true (1,1))),(2,.c (.p (.sl (.int .i64)) true (1,2))),(8,.c (.av 5081000)),(14,.c (.vf 5081001)),(15,.c (.p (.int .i64) false (16,0)))],[(5081000,.row .bool false false (20,0)),(5081001,.row (.int .i64) false false (19,0))],[(1,Ad.sg.A)]⟩
def Ad.C (K:Nat):CE:=⟨⟨PP,tys⟩,[(34,some (Bn.fx K)),(106,some (Ap.fx K)),(20,some (Bb.fx K))],[],K,[],[],[],116,[]⟩
def Ad.lt (K:Nat):LT Ad.sg.R.D:=.two .t (.two .t (.two .t (.two .t (.two (.two .t (.one (.loop Ad.l1.M (fun n c p=>Ad.l1 K c.1 c.2.1 c.2.2 n p.1 p.2.1 p.2.2) (fun nl1=>.two .t (.two (.one (.two .t (.join Ad.j2.M (fun c p=>Ad.j2 K (Ad.l1 K c.1.1 c.1.2.1 c.1.2.2 nl1) c.2.1 c.2.2.1 c.2.2.2 c.1.1 c.1.2.1 c.1.2.2 p) .t (.two .t (.two (.two .t (.one (.loop Ad.l3.M (fun n c p=>Ad.l3 K (Ad.l1 K c.1.1 c.1.2.1 c.1.2.2 nl1) c.2.1 c.2.2.1 c.2.2.2 c.1.1 c.1.2.1 c.1.2.2 n p.1 p.2) (fun nl3=>.t)))) .t))))) .t))))) (.two (.two .t (.one (.loop Ad.l4.M (fun n c p=>Ad.l4 K c.1 c.2.1 c.2.2 n p.1 p.2) (fun nl4=>.t)))) (.two .t (.two (.two .t (.one (.loop Ad.l5.M (fun n c p=>Ad.l5 K c.1 c.2.1 c.2.2 n p.1 p.2.1 p.2.2) (fun nl5=>.t)))) .t)))))))
theorem Ad.ct (K:Nat):CtX PP 108 Ad.sg (fun x=>Ad K x.1 x.2.1 x.2.2):=ct_x (C:=Ad.C K) (fn:=Tryz.f108) (c:=Tryz.f108.body.get!) (lt:=(Ad.lt K)) fol (by kernel_rfl) (by kernel_rfl) rfl (fun x=>(by kernel_rfl)) (ok_two ok_t (ok_two ok_t (ok_two ok_t (ok_two ok_t (ok_two (ok_two ok_t (ok_block (ok_loop (fun c p=>(by kernel_rfl)) (fun nl1=>⟨fun c p=>(by kernel_rfl),ok_two ok_t (ok_two (ok_block (ok_two ok_t (ok_join ok_t (fun c p=>(by kernel_rfl)) (ok_two ok_t (ok_two (ok_two ok_t (ok_block (ok_loop (fun c p=>(by kernel_rfl)) (fun nl3=>⟨fun c p=>(by kernel_rfl),ok_t⟩)))) ok_t))))) ok_t)⟩)))) (ok_two (ok_two ok_t (ok_block (ok_loop (fun c p=>(by kernel_rfl)) (fun nl4=>⟨fun c p=>(by kernel_rfl),ok_t⟩)))) (ok_two ok_t (ok_two (ok_two ok_t (ok_block (ok_loop (fun c p=>(by kernel_rfl)) (fun nl5=>⟨fun c p=>(by kernel_rfl),ok_t⟩)))) ok_t)))))))) (fun x=>(by kernel_rfl))
def Ad.fx (K:Nat):FX PP:=⟨108,Ad.sg,_,Ad.ct K⟩
def Be.l1.M:Tm:=⟨[(0,.c (.p (.sl (.int .u8)) true (1,0))),(1,.c (.p (.int .i64) false (11,0))),(2,.c (.p (.int .i64) true (1,2))),(3,.c (.p (.sl (.int .i64)) true (1,3))),(11,.c (.p (.int .i64) true (4000023,0))),(12,.c (.vf 5018000)),(13,.c (.p (.int .i64) false (10,0)))],[(5018000,.row (.int .i64) false false (12,0))],[(1,Be.sg.A),(4000023,Ac.sg.R)]⟩
def Be.C (K:Nat):CE:=⟨⟨PP,tys⟩,[(92,some (Ac.fx K)),(94,some (Al.fx K)),(108,some (Ad.fx K))],[],K,[],[],[],81,[]⟩
def Be.lt (K:Nat):LT Be.sg.R.D:=.two .t (.two .t (.two .t (.two .t (.two (.two .t (.one (.loop Be.l1.M (fun n c p=>Be.l1 K c.2 c.1.1 c.1.2.2.1 c.1.2.2.2 n p.1 p.2.1 p.2.2) (fun nl1=>.t)))) .t))))
theorem Be.ct (K:Nat):CtX PP 40 Be.sg (fun x=>Be K x.1 x.2.1 x.2.2.1 x.2.2.2):=ct_x (C:=Be.C K) (fn:=Tryz.f40) (c:=Tryz.f40.body.get!) (lt:=(Be.lt K)) fol (by kernel_rfl) (by kernel_rfl) rfl (fun x=>(by kernel_rfl)) (ok_two ok_t (ok_two ok_t (ok_two ok_t (ok_two ok_t (ok_two (ok_two ok_t (ok_block (ok_loop (fun c p=>(by kernel_rfl)) (fun nl1=>⟨fun c p=>(by kernel_rfl),ok_t⟩)))) ok_t))))) (fun x=>(by kernel_rfl))
def Be.fx (K:Nat):FX PP:=⟨40,Be.sg,_,Be.ct K⟩
def Bj.l1.M:Tm:=⟨[(1,.c (.p (.sl (.int .u8)) true (1,2))),(2,.c (.bx 5018000 0)),(4,.c (.bx 5018001 0)),(7,.c (.p (.int .i64) false (12,0))),(8,.c (.bx 5018002 0)),(9,.c (.p (.int .i64) false (11,0)))],[(5018000,.box [.p (.int .i64) true (1,0),.p (.sl (.sl (.int .i64))) true (1,1)]),(5018001,.box [.p (.int .i64) false (10,0),.nl (.sl (.int .i64))]),(5018002,.box [.p (.int .i64) true (4000028,0),.vf 5018003]),(5018003,.row (.sl (.int .i64)) true false (13,0))],[(1,Bj.sg.A),(4000028,Cw.sg.R)]⟩
def Bj.C (K:Nat):CE:=⟨⟨PP,tys⟩,[(92,some (Ac.fx K)),(93,some (Cw.fx K)),(113,some (C2.fx K)),(40,some (Be.fx K)),(16,some (Bm.fx K))],[],K,[],[],[],66,[]⟩
def Bj.lt (K:Nat):LT Bj.sg.R.D:=.two .t (.two .t (.two .t (.two .t (.two (.two .t (.one (.loop Bj.l1.M (fun n c p=>Bj.l1 K c.2 c.1.1 c.1.2 n p.1 p.2.1 p.2.2.1 p.2.2.2) (fun nl1=>.t)))) .t))))
theorem Bj.ct (K:Nat):CtX PP 50 Bj.sg (fun x=>Bj K x.1 x.2):=ct_x (C:=Bj.C K) (fn:=Tryz.f50) (c:=Tryz.f50.body.get!) (lt:=(Bj.lt K)) fol (by kernel_rfl) (by kernel_rfl) rfl (fun x=>(by kernel_rfl)) (ok_two ok_t (ok_two ok_t (ok_two ok_t (ok_two ok_t (ok_two (ok_two ok_t (ok_block (ok_loop (fun c p=>(by kernel_rfl)) (fun nl1=>⟨fun c p=>(by kernel_rfl),ok_t⟩)))) ok_t))))) (fun x=>(by kernel_rfl))
def Bj.fx (K:Nat):FX PP:=⟨50,Bj.sg,_,Bj.ct K⟩
def Aw.j1.M:Tm:=⟨[(4,.c (.bx 5020000 0)),(10,.c (.bx 5020001 0)),(11,.c (.p .bool false (13,0)))],[(5020000,.box [.p (.int .i64) false (10,0),.nl (.sl (.int .i64))]),(5020001,.box [.p (.int .i64) false (11,0),.vf 5020002]),(5020002,.row (.sl (.int .i64)) true false (12,0))],[]⟩
def Aw.C (K:Nat) (ih:CtX PP 73 Aw.sg (fun x=>Aw K x.1 x.2)):CE:=⟨⟨PP,tys⟩,[(72,some (Bv.fx K)),(125,some (Bw.fx K)),(24,some (Cb.fx K)),(25,some (Bi.fx K)),(73,some ⟨73,Aw.sg,_,ih⟩),(50,some (Bj.fx K))],[],K,[],[],[],62,[]⟩
def Aw.lt (K:Nat):LT Aw.sg.R.D:=.two .t (.two .t (.two .t (.two .t (.two .t (.two .t (.two .t (.join Aw.j1.M (fun c p=>Aw.j1 K (Aw K) p.1 p.2.1 p.2.2.1 p.2.2.2) .t .t)))))))
theorem Aw.ct:∀ K:Nat,CtX PP 73 Aw.sg (fun x=>Aw K x.1 x.2)
 | 0=>fun v x r h=>by cases h
 | K+1=>ct_x (C:=Aw.C K (Aw.ct K)) (fn:=Tryz.f73) (c:=Tryz.f73.body.get!) (lt:=(Aw.lt K)) fol (by kernel_rfl) (by kernel_rfl) rfl (fun x=>(by kernel_rfl)) (ok_two ok_t (ok_two ok_t (ok_two ok_t (ok_two ok_t (ok_two ok_t (ok_two ok_t (ok_two ok_t (ok_join ok_t (fun c p=>(by kernel_rfl)) ok_t)))))))) (fun x=>(by kernel_rfl))
def Aw.fx (K:Nat):FX PP:=⟨73,Aw.sg,_,Aw.ct K⟩
def Ak.l1.M:Tm:=⟨[(0,.c (.vf 5013000)),(2,.c (.p (.int .i64) true (1,2))),(7,.c (.p (.int .i64) false (10,0)))],[(5013000,.row (.int .u8) false false (12,0))],[(1,Ak.sg.A)]⟩
def Ak.j2.M:Tm:=⟨[(0,.c (.nl (.int .u8))),(2,.c (.p (.int .i64) true (1,2))),(8,.c (.p (.int .i64) false (11,0)))],[],[(1,Ak.sg.A)]⟩
def Ak.C (K:Nat):CE:=⟨⟨PP,tys⟩,[(136,some (Av.fx K)),(135,some (Aj.fx K)),(85,some (Ae.fx K))],[],K,[],[(9,[.nilS 0 6500000 false]),(11,[.nilS 0 6500000 false]),(16,[.nilS 0 6500000 false])],[],103,[]⟩
def Ak.lt (K:Nat):LT Ak.sg.R.D:=.two .t (.two (.two .t (.one (.two .t (.two (.two (.two .t (.one (.loop Ak.l1.M (fun n c p=>Ak.l1 K c.2.2 n p.1 p.2) (fun nl1=>.t)))) .t) .t)))) (.two .t (.join Ak.j2.M (fun c p=>Ak.j2 K c.2.2 p) .t .t)))
theorem Ak.ct (K:Nat):CtX PP 85 Ak.sg (fun x=>Ak K x.1 x.2.1 x.2.2):=ct_x (C:=Ak.C K) (fn:=Tryz.f85) (c:=Tryz.f85.body.get!) (lt:=(Ak.lt K)) fol (by kernel_rfl) (by kernel_rfl) rfl (fun x=>(by kernel_rfl)) (ok_two ok_t (ok_two (ok_two ok_t (ok_block (ok_two ok_t (ok_cond (ok_two (ok_two ok_t (ok_block (ok_loop (fun c p=>(by kernel_rfl)) (fun nl1=>⟨fun c p=>(by kernel_rfl),ok_t⟩)))) ok_t) ok_t)))) (ok_two ok_t (ok_join ok_t (fun c p=>(by kernel_rfl)) ok_t)))) (fun x=>(by kernel_rfl))
def Ak.fx (K:Nat):FX PP:=⟨85,Ak.sg,_,Ak.ct K⟩
def Bp.l1.M:Tm:=⟨[(1,.c (.bx 5010000 0)),(4,.c (.vf 5010001)),(5,.c (.vf 5010002)),(6,.c (.p (.int .i64) false (10,0)))],[(5010000,.box [.p (.int .i64) true (1,0),.p (.sl (.sl (.int .i64))) true (1,1)]),(5010001,.row (.int .u8) false false (11,0)),(5010002,.row (.int .i64) false false (12,0))],[(1,Bp.sg.A)]⟩
def Bp.C (K:Nat):CE:=⟨⟨PP,tys⟩,[(85,some (Ak.fx K)),(86,some (As.fx K))],[],K,[],[],[],32,[]⟩
def Bp.lt (K:Nat):LT Bp.sg.R.D:=.two .t (.two .t (.two .t (.two (.two .t (.one (.loop Bp.l1.M (fun n c p=>Bp.l1 K c n p.1 p.2.1 p.2.2) (fun nl1=>.t)))) .t)))
theorem Bp.ct (K:Nat):CtX PP 17 Bp.sg (fun x=>Bp K x):=ct_x (C:=Bp.C K) (fn:=Tryz.f17) (c:=Tryz.f17.body.get!) (lt:=(Bp.lt K)) fol (by kernel_rfl) (by kernel_rfl) rfl (fun x=>(by kernel_rfl)) (ok_two ok_t (ok_two ok_t (ok_two ok_t (ok_two (ok_two ok_t (ok_block (ok_loop (fun c p=>(by kernel_rfl)) (fun nl1=>⟨fun c p=>(by kernel_rfl),ok_t⟩)))) ok_t)))) (fun x=>(by kernel_rfl))
def Bp.fx (K:Nat):FX PP:=⟨17,Bp.sg,_,Bp.ct K⟩
def By.l1.M:Tm:=⟨[(0,.c (.vf 5010000)),(1,.c (.p (.int .i64) true (1,1))),(9,.c (.vf 5010001)),(10,.c (.vf 5010002)),(11,.c (.p (.int .i64) false (10,0)))],[(5010000,.row (.int .u8) false false (11,0)),(5010001,.row (.int .i64) false true (4000016,0)),(5010002,.row (.int .i64) false true (4000016,1))],[(1,By.sg.A),(4000016,Ap.sg.R)]⟩
def By.C (K:Nat):CE:=⟨⟨PP,tys⟩,[(106,some (Ap.fx K)),(85,some (Ae.fx K)),(86,some (As.fx K))],[],K,[],[],[],45,[]⟩
def By.lt (K:Nat):LT By.sg.R.D:=.two .t (.two .t (.two .t (.two (.two .t (.one (.loop By.l1.M (fun n c p=>By.l1 K c.2 c.1.2.1 n p.1 p.2) (fun nl1=>.t)))) .t)))
theorem By.ct (K:Nat):CtX PP 36 By.sg (fun x=>By K x.1 x.2.1 x.2.2.1 x.2.2.2):=ct_x (C:=By.C K) (fn:=Tryz.f36) (c:=Tryz.f36.body.get!) (lt:=(By.lt K)) fol (by kernel_rfl) (by kernel_rfl) rfl (fun x=>(by kernel_rfl)) (ok_two ok_t (ok_two ok_t (ok_two ok_t (ok_two (ok_two ok_t (ok_block (ok_loop (fun c p=>(by kernel_rfl)) (fun nl1=>⟨fun c p=>(by kernel_rfl),ok_t⟩)))) ok_t)))) (fun x=>(by kernel_rfl))
def By.fx (K:Nat):FX PP:=⟨36,By.sg,_,By.ct K⟩
def Bq.l1.M:Tm:=⟨[(2,.c (.bx 5008000 0)),(3,.c (.bx 5008001 0)),(5,.c (.vf 5008002)),(6,.c (.p (.int .i64) false (10,0)))],[(5008000,.box [.p (.int .i64) true (1,0),.p (.sl (.sl (.int .i64))) true (1,1)]),(5008001,.box [.p (.int .i64) true (1,2),.p (.sl (.sl (.int .i64))) true (1,3)]),(5008002,.row (.int .u8) false false (11,0))],[(1,Bq.sg.A)]⟩
def Bq.C (K:Nat):CE:=⟨⟨PP,tys⟩,[(85,some (Ak.fx K)),(113,some (C2.fx K)),(36,some (By.fx K))],[],K,[],[],[],29,[]⟩
def Bq.lt (K:Nat):LT Bq.sg.R.D:=.two .t (.two .t (.two (.two .t (.one (.loop Bq.l1.M (fun n c p=>Bq.l1 K c.1 c.2 n p.1 p.2) (fun nl1=>.t)))) .t))
theorem Bq.ct (K:Nat):CtX PP 46 Bq.sg (fun x=>Bq K x.1 x.2):=ct_x (C:=Bq.C K) (fn:=Tryz.f46) (c:=Tryz.f46.body.get!) (lt:=(Bq.lt K)) fol (by kernel_rfl) (by kernel_rfl) rfl (fun x=>(by kernel_rfl)) (ok_two ok_t (ok_two ok_t (ok_two (ok_two ok_t (ok_block (ok_loop (fun c p=>(by kernel_rfl)) (fun nl1=>⟨fun c p=>(by kernel_rfl),ok_t⟩)))) ok_t))) (fun x=>(by kernel_rfl))
def Bq.fx (K:Nat):FX PP:=⟨46,Bq.sg,_,Bq.ct K⟩
def C9.C (K:Nat):CE:=⟨⟨PP,tys⟩,[(17,some (Bp.fx K)),(46,some (Bq.fx K))],[],K,[],[],[],19,[]⟩
theorem C9.ct (K:Nat):CtX PP 47 C9.sg (fun x=>C9 K x.1 x.2):=ct_x (C:=C9.C K) (fn:=Tryz.f47) (c:=Tryz.f47.body.get!) (lt:=.t) fol (by kernel_rfl) (by kernel_rfl) rfl (fun x=>(by kernel_rfl)) (ok_t) (fun x=>(by kernel_rfl))
def C9.fx (K:Nat):FX PP:=⟨47,C9.sg,_,C9.ct K⟩
def A4.l1.M:Tm:=⟨[(0,.c (.p (.sl (.int .u8)) true (1,0))),(2,.c (.bx 5008000 0)),(3,.c (.vf 5008001)),(4,.c (.p (.int .i64) false (13,0)))],[(5008000,.box [.p .str false (10,0),.p (.int .i64) false (11,0)]),(5008001,.row (.int .u8) false false (12,0))],[(1,A4.sg.A)]⟩
def A4.C (K:Nat):CE:=⟨⟨PP,tys⟩,[],[],K,[],[],[],39,[]⟩
def A4.lt (K:Nat):LT A4.sg.R.D:=.two .t (.two .t (.two (.two .t (.one (.loop A4.l1.M (fun n c p=>A4.l1 K c n p.1 p.2.1 p.2.2.1 p.2.2.2) (fun nl1=>.t)))) .t))
theorem A4.ct (K:Nat):CtX PP 18 A4.sg (fun x=>A4 K x):=ct_x (C:=A4.C K) (fn:=Tryz.f18) (c:=Tryz.f18.body.get!) (lt:=(A4.lt K)) fol (by kernel_rfl) (by kernel_rfl) rfl (fun x=>(by kernel_rfl)) (ok_two ok_t (ok_two ok_t (ok_two (ok_two ok_t (ok_block (ok_loop (fun c p=>(by kernel_rfl)) (fun nl1=>⟨fun c p=>(by kernel_rfl),ok_t⟩)))) ok_t))) (fun x=>(by kernel_rfl))
def A4.fx (K:Nat):FX PP:=⟨18,A4.sg,_,A4.ct K⟩
def Dp.C (K:Nat):CE:=⟨⟨PP,tys⟩,[(17,some (Bp.fx K)),(18,some (A4.fx K)),(73,some (Aw.fx K)),(46,some (Bq.fx K))],[],K,[],[],[],30,[]⟩
theorem Dp.ct (K:Nat):CtX PP 126 Dp.sg (fun x=>Dp K x.1 x.2.1 x.2.2):=ct_x (C:=Dp.C K) (fn:=Tryz.f126) (c:=Tryz.f126.body.get!) (lt:=.t) fol (by kernel_rfl) (by kernel_rfl) rfl (fun x=>(by kernel_rfl)) (ok_t) (fun x=>(by kernel_rfl))
def Dp.fx (K:Nat):FX PP:=⟨126,Dp.sg,_,Dp.ct K⟩
def Bg.j1.M:Tm:=⟨[(0,.c (.p (.sl A0) true (1,0))),(1,.c (.p (.int .i64) true (1,1))),(5,.c (.bx 5004000 0)),(6,.c (.bx 5004001 0)),(8,.c (.p (.int .i64) false (14,0)))],[(5004000,.box [.p (.int .i64) true (1,2),.p (.sl (.sl (.int .i64))) true (1,3)]),(5004001,.box [.p (.int .i64) false (10,0),.p (.int .i64) false (11,0),.p .str false (12,0),.p (.int .i64) false (13,0)])],[(1,Bg.sg.A)]⟩
def Bg.j2.M:Tm:=⟨[(0,.c (.p (.sl A0) true (1,0))),(5,.c (.bx 5020000 0)),(6,.c (.bx 5020001 0)),(9,.c (.bx 5020002 0))],[(5020000,.box [.p (.int .i64) true (1,2),.p (.sl (.sl (.int .i64))) true (1,3)]),(5020001,.box [.p (.int .i64) true (10,0),.p (.int .i64) true (11,0),.p .str true (12,0),.p (.int .i64) true (13,0)]),(5020002,.box [.p (.int .i64) true (14,0),.p (.int .i64) false (15,0),.p .str false (16,0),.p (.int .i64) false (17,0)])],[(1,Bg.sg.A),(10,(.int .i64)),(11,(.int .i64)),(12,.str),(13,(.int .i64)),(14,(.int .i64))]⟩
def Bg.C (K:Nat):CE:=⟨⟨PP,tys⟩,[(73,some (Aw.fx K)),(72,some (Bv.fx K)),(47,some (C9.fx K)),(126,some (Dp.fx K))],[],K,[],[],[],69,[]⟩
def Bg.lt (K:Nat):LT Bg.sg.R.D:=.two .t (.two .t (.join Bg.j1.M (fun c p=>Bg.j1 K c.1 c.2.1 c.2.2 p.1 p.2.1 p.2.2.1 p.2.2.2.1 p.2.2.2.2) .t (.two .t (.two .t (.join Bg.j2.M (fun c p=>Bg.j2 K c.2.2.2.2.2 c.1.1 c.1.2.2 p.1 p.2.1 p.2.2) .t .t)))))
theorem Bg.ct (K:Nat):CtX PP 63 Bg.sg (fun x=>Bg K x.1 x.2.1 x.2.2):=ct_x (C:=Bg.C K) (fn:=Tryz.f63) (c:=Tryz.f63.body.get!) (lt:=(Bg.lt K)) fol (by kernel_rfl) (by kernel_rfl) rfl (fun x=>(by kernel_rfl)) (ok_two ok_t (ok_two ok_t (ok_join ok_t (fun c p=>(by kernel_rfl)) (ok_two ok_t (ok_two ok_t (ok_join ok_t (fun c p=>(by kernel_rfl)) ok_t)))))) (fun x=>(by kernel_rfl))
def Bg.fx (K:Nat):FX PP:=⟨63,Bg.sg,_,Bg.ct K⟩
def Dg.C (K:Nat):CE:=⟨⟨PP,tys⟩,[],[],K,[],[],[],4,[]⟩
theorem Dg.ct (K:Nat):CtX PP 64 Dg.sg (fun x=>Dg K x):=ct_x (C:=Dg.C K) (fn:=Tryz.f64) (c:=Tryz.f64.body.get!) (lt:=.t) fol (by kernel_rfl) (by kernel_rfl) rfl (fun x=>(by kernel_rfl)) (ok_t) (fun x=>(by kernel_rfl))
def Dg.fx (K:Nat):FX PP:=⟨64,Dg.sg,_,Dg.ct K⟩
def Bk.l1.M:Tm:=⟨[(0,.c (.p (.sl A0) true (1,0))),(1,.c (.p (.sl A0) true (1,1))),(5,.c (.p (.int .i64) false (10,0)))],[],[(1,Bk.sg.A)]⟩
def Bk.C (K:Nat):CE:=⟨⟨PP,tys⟩,[],[],K,[],[],[],26,[]⟩
def Bk.lt (K:Nat):LT Bk.sg.R.D:=.two .t (.two .t (.two (.two .t (.one (.loop Bk.l1.M (fun n c p=>Bk.l1 K c.1 c.2 n p) (fun nl1=>.t)))) .t))
theorem Bk.ct (K:Nat):CtX PP 65 Bk.sg (fun x=>Bk K x.1 x.2):=ct_x (C:=Bk.C K) (fn:=Tryz.f65) (c:=Tryz.f65.body.get!) (lt:=(Bk.lt K)) fol (by kernel_rfl) (by kernel_rfl) rfl (fun x=>(by kernel_rfl)) (ok_two ok_t (ok_two ok_t (ok_two (ok_two ok_t (ok_block (ok_loop (fun c p=>(by kernel_rfl)) (fun nl1=>⟨fun c p=>(by kernel_rfl),ok_t⟩)))) ok_t))) (fun x=>(by kernel_rfl))
def Bk.fx (K:Nat):FX PP:=⟨65,Bk.sg,_,Bk.ct K⟩
def D9.C (K:Nat):CE:=⟨⟨PP,tys⟩,[(121,some (C8.fx K)),(122,some (Dn.fx K))],[],K,[],[],[],15,[]⟩
theorem D9.ct (K:Nat):CtX PP 68 D9.sg (fun x=>D9 K x.1 x.2):=ct_x (C:=D9.C K) (fn:=Tryz.f68) (c:=Tryz.f68.body.get!) (lt:=.t) fol (by kernel_rfl) (by kernel_rfl) rfl (fun x=>(by kernel_rfl)) (ok_t) (fun x=>(by kernel_rfl))
def D9.fx (K:Nat):FX PP:=⟨68,D9.sg,_,D9.ct K⟩
def Cz.C (K:Nat):CE:=⟨⟨PP,tys⟩,[(61,some (C7.fx K)),(68,some (D9.fx K)),(64,some (Dg.fx K))],[],K,[],[],[],45,[]⟩
theorem Cz.ct (K:Nat):CtX PP 66 Cz.sg (fun x=>Cz K):=ct_x (C:=Cz.C K) (fn:=Tryz.f66) (c:=Tryz.f66.body.get!) (lt:=.t) fol (by kernel_rfl) (by kernel_rfl) rfl (fun x=>(by kernel_rfl)) (ok_t) (fun x=>(by kernel_rfl))
def Cz.fx (K:Nat):FX PP:=⟨66,Cz.sg,_,Cz.ct K⟩
def Ab.l1.M:Tm:=⟨[(1,.c (.bx 5014000 0)),(3,.c (.p (.int .i64) false (10,0)))],[(5014000,.box [.p (.sl (.sl A0)) true (1,0),.p (.sl Bu) true (1,1),.p (.sl D0) true (1,2),.p (.sl (.int .i64)) true (1,3)])],[(1,Ab.sg.A)]⟩
def Ab.l2.M:Tm:=⟨[(1,.c (.bx 5030000 0)),(3,.c (.p (.int .i64) true (10,0))),(4,.c (.vf 5030001)),(5,.c (.vf 5030002)),(6,.c (.p (.int .i64) false (11,0)))],[(5030000,.box [.p (.sl (.sl A0)) true (1,0),.p (.sl Bu) true (1,1),.p (.sl D0) true (1,2),.p (.sl (.int .i64)) true (1,3)]),(5030001,.row A0 false true (4000030,0)),(5030002,.row (.int .i64) false true (4000033,0))],[(1,Ab.sg.A),(10,(.int .i64)),(4000030,Ay.sg.R),(4000033,Ba.sg.R)]⟩
def Ab.l3.M:Tm:=⟨[(1,.c (.bx 5042000 0)),(3,.c (.p (.int .i64) true (10,0))),(4,.c (.vf 5042001)),(5,.c (.vf 5042002)),(6,.c (.p (.int .i64) true (11,0))),(7,.c (.p (.int .i64) false (12,0)))],[(5042000,.box [.p (.sl (.sl A0)) true (1,0),.p (.sl Bu) true (1,1),.p (.sl D0) true (1,2),.p (.sl (.int .i64)) true (1,3)]),(5042001,.row A0 false true (4000030,0)),(5042002,.row (.int .i64) false true (4000033,0))],[(1,Ab.sg.A),(10,(.int .i64)),(11,(.int .i64)),(4000030,Ay.sg.R),(4000033,Ba.sg.R)]⟩
def Ab.j4.M:Tm:=⟨[(1,.c (.bx 5057000 0)),(3,.c (.p (.int .i64) true (10,0))),(4,.c (.vf 5057001)),(5,.c (.vf 5057002)),(6,.c (.p (.int .i64) true (11,0))),(7,.c (.p (.int .i64) true (12,0))),(8,.c (.bx 5057003 0)),(9,.c (.p (.int .i64) true (4000064,4))),(10,.c (.p (.int .i64) false (19,0))),(11,.c (.bx 5057004 0))],[(5057000,.box [.p (.sl (.sl A0)) true (1,0),.p (.sl Bu) true (1,1),.p (.sl D0) true (1,2),.p (.sl (.int .i64)) true (1,3)]),(5057001,.row A0 false true (4000030,0)),(5057002,.row (.int .i64) false true (4000033,0)),(5057003,.box [.p (.int .i64) true (4000064,0),.p (.int .i64) true (4000064,1),.p .str true (4000064,2),.p (.int .i64) true (4000064,3)]),(5057004,.box [.p (.int .i64) false (20,0),.p (.int .i64) false (21,0),.p .str false (22,0),.p (.int .i64) false (23,0)])],[(1,Ab.sg.A),(10,(.int .i64)),(11,(.int .i64)),(12,(.int .i64)),(4000030,Ay.sg.R),(4000033,Ba.sg.R),(4000064,C7.sg.R)]⟩
def Ab.j5.M:Tm:=⟨[(1,.c (.bx 5058000 0)),(3,.c (.p (.int .i64) true (10,0))),(4,.c (.vf 5058001)),(5,.c (.vf 5058002)),(6,.c (.p (.int .i64) true (11,0))),(7,.c (.p (.int .i64) true (12,0))),(8,.c (.bx 5058003 0)),(9,.c (.p (.int .i64) true (4000064,4))),(10,.c (.p (.int .i64) false (13,0))),(11,.c (.bx 5058004 0)),(81,.c (.p .bool false (18,0)))],[(5058000,.box [.p (.sl (.sl A0)) true (1,0),.p (.sl Bu) true (1,1),.p (.sl D0) true (1,2),.p (.sl (.int .i64)) true (1,3)]),(5058001,.row A0 false true (4000030,0)),(5058002,.row (.int .i64) false true (4000033,0)),(5058003,.box [.p (.int .i64) true (4000064,0),.p (.int .i64) true (4000064,1),.p .str true (4000064,2),.p (.int .i64) true (4000064,3)]),(5058004,.box [.p (.int .i64) false (14,0),.p (.int .i64) false (15,0),.p .str false (16,0),.p (.int .i64) false (17,0)])],[(1,Ab.sg.A),(10,(.int .i64)),(11,(.int .i64)),(12,(.int .i64)),(4000030,Ay.sg.R),(4000033,Ba.sg.R),(4000064,C7.sg.R)]⟩
def Ab.C (K:Nat):CE:=⟨⟨PP,tys⟩,[(52,some (Bl.fx K)),(59,some (Ay.fx K)),(60,some (Ba.fx K)),(61,some (C7.fx K)),(62,some (Bh.fx K)),(16,some (Bm.fx K)),(63,some (Bg.fx K)),(64,some (Dg.fx K)),(65,some (Bk.fx K)),(66,some (Cz.fx K))],[],K,[],[],[],121,[]⟩
def Ab.lt (K:Nat):LT Ab.sg.R.D:=.two .t (.two .t (.two (.two .t (.one (.loop Ab.l1.M (fun n c p=>Ab.l1 K c n p) (fun nl1=>.two .t (.two (.one (.two .t (.two .t (.two .t (.one (.loop Ab.l2.M (fun n c p=>Ab.l2 K (Ab.l1 K c.1 nl1) c.2.2.1 c.2.2.2 c.2.1 c.1 n p) (fun nl2=>.two .t (.two (.one (.two .t (.one (.loop Ab.l3.M (fun n c p=>Ab.l3 K (Ab.l1 K c.1 nl1) (Ab.l2 K (Ab.l1 K c.1 nl1) c.2.2.2.1 c.2.2.2.2 c.2.1 c.1 nl2) c.2.2.2.1 c.2.2.2.2 c.2.1 c.2.2.1 c.1 n p) (fun nl3=>.two .t (.two (.one (.two .t (.two .t (.two .t (.join Ab.j4.M (fun c p=>Ab.j4 K (Ab.l1 K c.1 nl1) (Ab.l2 K (Ab.l1 K c.1 nl1) c.2.2.2.2.1 c.2.2.2.2.2.1 c.2.1 c.1 nl2) (Ab.l3 K (Ab.l1 K c.1 nl1) (Ab.l2 K (Ab.l1 K c.1 nl1) c.2.2.2.2.1 c.2.2.2.2.2.1 c.2.1 c.1 nl2) c.2.2.2.2.1 c.2.2.2.2.2.1 c.2.1 c.2.2.1 c.1 nl3) c.2.2.2.2.1 c.2.2.2.2.2.1 c.2.2.2.2.2.2 c.2.1 c.2.2.1 c.2.2.2.1 c.1 p.1 p.2.1 p.2.2.1 p.2.2.2.1 p.2.2.2.2) (.join Ab.j5.M (fun c p=>Ab.j5 K (Ab.l1 K c.1 nl1) (Ab.l2 K (Ab.l1 K c.1 nl1) c.2.2.2.2.1 c.2.2.2.2.2.1 c.2.1 c.1 nl2) (Ab.l3 K (Ab.l1 K c.1 nl1) (Ab.l2 K (Ab.l1 K c.1 nl1) c.2.2.2.2.1 c.2.2.2.2.2.1 c.2.1 c.1 nl2) c.2.2.2.2.1 c.2.2.2.2.2.1 c.2.1 c.2.2.1 c.1 nl3) c.2.2.2.2.1 c.2.2.2.2.2.1 c.2.2.2.2.2.2 c.2.1 c.2.2.1 c.2.2.2.1 c.1 p.1 p.2.1 p.2.2.1 p.2.2.2.1 p.2.2.2.2.1 p.2.2.2.2.2) .t .t) .t))))) .t)))))) .t)))))))) .t))))) .t))
theorem Ab.ct (K:Nat):CtX PP 7 Ab.sg (fun x=>Ab K x):=ct_x (C:=Ab.C K) (fn:=Tryz.f7) (c:=Tryz.f7.body.get!) (lt:=(Ab.lt K)) fol (by kernel_rfl) (by kernel_rfl) rfl (fun x=>(by kernel_rfl)) (ok_two ok_t (ok_two ok_t (ok_two (ok_two ok_t (ok_block (ok_loop (fun c p=>(by kernel_rfl)) (fun nl1=>⟨fun c p=>(by kernel_rfl),ok_two ok_t (ok_two (ok_block (ok_two ok_t (ok_two ok_t (ok_two ok_t (ok_block (ok_loop (fun c p=>(by kernel_rfl)) (fun nl2=>⟨fun c p=>(by kernel_rfl),ok_two ok_t (ok_two (ok_block (ok_two ok_t (ok_block (ok_loop (fun c p=>(by kernel_rfl)) (fun nl3=>⟨fun c p=>(by kernel_rfl),ok_two ok_t (ok_two (ok_block (ok_two ok_t (ok_two ok_t (ok_two ok_t (ok_join (ok_join ok_t (fun c p=>(by kernel_rfl)) ok_t) (fun c p=>(by kernel_rfl)) ok_t))))) ok_t)⟩))))) ok_t)⟩))))))) ok_t)⟩)))) ok_t))) (fun x=>(by kernel_rfl))
def Ab.fx (K:Nat):FX PP:=⟨7,Ab.sg,_,Ab.ct K⟩
end
end Go.XM
end
