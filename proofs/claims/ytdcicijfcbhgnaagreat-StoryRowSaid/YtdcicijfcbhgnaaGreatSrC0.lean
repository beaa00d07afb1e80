import Derived.Test.YtdcicijfcbhgnaaGreatSrY0
import Derived.Test.YtdcicijfcbhgnaaGreatProg
set_option linter.all false
section
namespace Go.XM
open Go.Proofs
noncomputable section
set_option maxRecDepth 100000
noncomputable abbrev PP:=Tryz.prog
theorem fol:PP.follows .mixedOrders=true:=by kernel_rfl
def tys:List (Nat × Option Ty):=[(3,some (.int .i64)),(4,some .bool),(5,some (.int .u8)),(30,some A5),(33,some Cz),(34,some (.int .i64)),(37,some (.sl (.int .i64))),(96,some Ba),(146,some Ee),(170,some Eg),(184,some Cp),(206,some Ed)]
def Ac.l1.M:Tm:=⟨[(0,.c (.p (.int .i64) true (1,0))),(1,.c (.p (.int .i64) true (1,1))),(4,.c (.bx 5008000 0)),(5,.c (.bx 5008001 0)),(6,.c (.p (.int .i64) false (12,0)))],[(5008000,.box [.p (.int .i64) false (10,0),.nl (.sl (.int .i64))]),(5008001,.box [.p (.int .i64) true (1,0),.vf 5008002]),(5008002,.row (.sl (.int .i64)) true false (11,0))],[(1,Ac.sg.A)]⟩
def Ac.l2.M:Tm:=⟨[(0,.c (.p (.int .i64) true (1,0))),(1,.c (.p (.int .i64) true (1,1))),(4,.c (.bx 5043000 0)),(5,.c (.bx 5043001 0)),(6,.c (.p (.int .i64) true (12,0))),(7,.c (.p (.int .i64) false (13,0)))],[(5043000,.box [.p (.int .i64) true (10,0),.nl (.sl (.int .i64))]),(5043001,.box [.p (.int .i64) true (1,0),.vf 5043002]),(5043002,.row (.sl (.int .i64)) true false (14,0))],[(1,Ac.sg.A),(10,(.int .i64)),(12,(.int .i64))]⟩
def Ac.C (K:Nat):CE:=⟨⟨PP,tys⟩,[],[],K,[(1,[2])],[],[],79,[]⟩
def Ac.lt (K:Nat):LT Ac.sg.R.D:=.two .t (.two .t (.two (.two .t (.one (.loop Ac.l1.M (fun n c p=>Ac.l1 K c.1 c.2 n p.1 p.2.1 p.2.2) (fun nl1=>.two .t (.two (.one (.two .t (.one (.two .t (.two .t (.two .t (.two .t (.two .t (.two .t (.two .t (.one (.loop Ac.l2.M (fun n c p=>Ac.l2 K (Ac.l1 K c.1.1 c.1.2 nl1) c.2.1 c.2.2 c.1.1 c.1.2 n p.1 p.2) (fun nl2=>.t))))))))))))) .t))))) .t))
theorem Ac.ct (K:Nat):CtX PP 67 Ac.sg (fun x=>Ac K x.1 x.2):=ct_x (C:=Ac.C K) (fn:=Tryz.f67) (c:=Tryz.f67.body.get!) (lt:=(Ac.lt K)) fol (by kernel_rfl) (by kernel_rfl) rfl (fun x=>(by kernel_rfl)) (ok_two ok_t (ok_two ok_t (ok_two (ok_two ok_t (ok_block (ok_loop (fun c p=>(by kernel_rfl)) (fun nl1=>⟨fun c p=>(by kernel_rfl),ok_two ok_t (ok_two (ok_block (ok_two ok_t (ok_block (ok_two ok_t (ok_cond ok_t (ok_two ok_t (ok_cond ok_t (ok_two ok_t (ok_cond ok_t (ok_two ok_t (ok_block (ok_loop (fun c p=>(by kernel_rfl)) (fun nl2=>⟨fun c p=>(by kernel_rfl),ok_t⟩))))))))))))) ok_t)⟩)))) ok_t))) (fun x=>(by kernel_rfl))
def Ac.fx (K:Nat):FX PP:=⟨67,Ac.sg,_,Ac.ct K⟩
def Dv.C (K:Nat):CE:=⟨⟨PP,tys⟩,[],[],K,[],[],[],41,[]⟩
theorem Dv.ct (K:Nat):CtX PP 89 Dv.sg (fun x=>Dv K x):=ct_x (C:=Dv.C K) (fn:=Tryz.f89) (c:=Tryz.f89.body.get!) (lt:=.t) fol (by kernel_rfl) (by kernel_rfl) rfl (fun x=>(by kernel_rfl)) (ok_t) (fun x=>(by kernel_rfl))
def Dv.fx (K:Nat):FX PP:=⟨89,Dv.sg,_,Dv.ct K⟩
def D7.C (K:Nat):CE:=⟨⟨PP,tys⟩,[],[],K,[],[],[1],8,[]⟩
theorem D7.ct (K:Nat):CtX PP 166 D7.sg (fun x=>D7 K x.1 x.2):=ct_x (C:=D7.C K) (fn:=Tryz.f166) (c:=Tryz.f166.body.get!) (lt:=.t) fol (by kernel_rfl) (by kernel_rfl) rfl (fun x=>(by kernel_rfl)) (ok_t) (fun x=>(by kernel_rfl))
def D7.fx (K:Nat):FX PP:=⟨166,D7.sg,_,D7.ct K⟩
def Ah.l1.M:Tm:=⟨[(0,.c (.p (.sl Ba) true (1,0))),(1,.fn 166 [.bx 2 0]),(7,.c (.p (.int .i64) false (10,0))),(8,.c (.p (.int .i64) false (11,0)))],[(2,.box [.p (.int .i64) false (12,0)])],[(1,Ah.sg.A)]⟩
def Ah.C (K:Nat):CE:=⟨⟨PP,tys⟩,[(166,some (D7.fx K))],[],K,[],[],[2],19,[]⟩
def Ah.lt (K:Nat):LT Ah.sg.R.D:=.two .t (.two (.two .t (.one (.loop Ah.l1.M (fun n c p=>Ah.l1 K c.1 n p.1 p.2.1 p.2.2) (fun nl1=>.t)))) .t)
theorem Ah.ct (K:Nat):CtX PP 164 Ah.sg (fun x=>Ah K x.1 x.2.2):=ct_x (C:=Ah.C K) (fn:=Tryz.f164) (c:=Tryz.f164.body.get!) (lt:=(Ah.lt K)) fol (by kernel_rfl) (by kernel_rfl) rfl (fun x=>(by kernel_rfl)) (ok_two ok_t (ok_two (ok_two ok_t (ok_block (ok_loop (fun c p=>(by kernel_rfl)) (fun nl1=>⟨fun c p=>(by kernel_rfl),ok_t⟩)))) ok_t)) (fun x=>(by kernel_rfl))
def Ah.fx (K:Nat):FX PP:=⟨164,Ah.sg,_,Ah.ct K⟩
def Dr.C (K:Nat):CE:=⟨⟨PP,tys⟩,[(164,some (Ah.fx K))],[],K,[],[],[],8,[]⟩
theorem Dr.ct (K:Nat):CtX PP 129 Dr.sg (fun x=>Dr K x.1 x.2):=ct_x (C:=Dr.C K) (fn:=Tryz.f129) (c:=Tryz.f129.body.get!) (lt:=.t) fol (by kernel_rfl) (by kernel_rfl) rfl (fun x=>(by kernel_rfl)) (ok_t) (fun x=>(by kernel_rfl))
def Dr.fx (K:Nat):FX PP:=⟨129,Dr.sg,_,Dr.ct K⟩
def C5.l1.M:Tm:=⟨[(0,.c (.p (.sl Ba) true (1,0))),(8,.c (.p (.sl Ba) true (1,0))),(9,.c (.p (.int .i64) false (10,0))),(10,.c (.p (.int .i64) false (11,0)))],[],[(1,C5.sg.A)]⟩
def C5.C (K:Nat):CE:=⟨⟨PP,tys⟩,[(89,some (Dv.fx K)),(129,some (Dr.fx K))],[],K,[],[],[],62,[]⟩
def C5.lt (K:Nat):LT C5.sg.R.D:=.two .t (.two .t (.two (.two .t (.one (.loop C5.l1.M (fun n c p=>C5.l1 K c n p.1 p.2) (fun nl1=>.t)))) .t))
theorem C5.ct (K:Nat):CtX PP 121 C5.sg (fun x=>C5 K x):=ct_x (C:=C5.C K) (fn:=Tryz.f121) (c:=Tryz.f121.body.get!) (lt:=(C5.lt K)) fol (by kernel_rfl) (by kernel_rfl) rfl (fun x=>(by kernel_rfl)) (ok_two ok_t (ok_two ok_t (ok_two (ok_two ok_t (ok_block (ok_loop (fun c p=>(by kernel_rfl)) (fun nl1=>⟨fun c p=>(by kernel_rfl),ok_t⟩)))) ok_t))) (fun x=>(by kernel_rfl))
def C5.fx (K:Nat):FX PP:=⟨121,C5.sg,_,C5.ct K⟩
def Ds.C (K:Nat):CE:=⟨⟨PP,tys⟩,[],[],K,[],[],[],9,[]⟩
theorem Ds.ct (K:Nat):CtX PP 101 Ds.sg (fun x=>Ds K x):=ct_x (C:=Ds.C K) (fn:=Tryz.f101) (c:=Tryz.f101.body.get!) (lt:=.t) fol (by kernel_rfl) (by kernel_rfl) rfl (fun x=>(by kernel_rfl)) (ok_t) (fun x=>(by kernel_rfl))
def Ds.fx (K:Nat):FX PP:=⟨101,Ds.sg,_,Ds.ct K⟩
def Da.l1.M:Tm:=⟨[(0,.c (.p (.sl (.int .i64)) true (1,0))),(5,.c (.p (.sl (.int .i64)) true (1,0))),(6,.c (.p (.int .i64) false (10,0))),(7,.c (.p (.int .i64) false (11,0)))],[],[(1,Da.sg.A)]⟩
def Da.C (K:Nat):CE:=⟨⟨PP,tys⟩,[(101,some (Ds.fx K))],[],K,[],[],[],29,[]⟩
def Da.lt (K:Nat):LT Da.sg.R.D:=.two .t (.two (.two .t (.one (.loop Da.l1.M (fun n c p=>Da.l1 K c n p.1 p.2) (fun nl1=>.t)))) .t)
theorem Da.ct (K:Nat):CtX PP 102 Da.sg (fun x=>Da K x):=ct_x (C:=Da.C K) (fn:=Tryz.f102) (c:=Tryz.f102.body.get!) (lt:=(Da.lt K)) fol (by kernel_rfl) (by kernel_rfl) rfl (fun x=>(by kernel_rfl)) (ok_two ok_t (ok_two (ok_two ok_t (ok_block (ok_loop (fun c p=>(by kernel_rfl)) (fun nl1=>⟨fun c p=>(by kernel_rfl),ok_t⟩)))) ok_t)) (fun x=>(by kernel_rfl))
def Da.fx (K:Nat):FX PP:=⟨102,Da.sg,_,Da.ct K⟩
def C9.l1.M:Tm:=⟨[(3,.c (.p (.int .i64) false (10,0))),(7,.c (.p (.sl (.sl (.int .i64))) true (1,1))),(8,.c (.p (.int .i64) false (11,0))),(9,.c (.p (.int .i64) false (12,0)))],[],[(1,C9.sg.A)]⟩
def C9.C (K:Nat):CE:=⟨⟨PP,tys⟩,[],[],K,[],[],[],19,[]⟩
def C9.lt (K:Nat):LT C9.sg.R.D:=.two .t (.two .t (.two (.two .t (.one (.loop C9.l1.M (fun n c p=>C9.l1 K c n p.1 p.2.1 p.2.2) (fun nl1=>.t)))) .t))
theorem C9.ct (K:Nat):CtX PP 132 C9.sg (fun x=>C9 K x):=ct_x (C:=C9.C K) (fn:=Tryz.f132) (c:=Tryz.f132.body.get!) (lt:=(C9.lt K)) fol (by kernel_rfl) (by kernel_rfl) rfl (fun x=>(by kernel_rfl)) (ok_two ok_t (ok_two ok_t (ok_two (ok_two ok_t (ok_block (ok_loop (fun c p=>(by kernel_rfl)) (fun nl1=>⟨fun c p=>(by kernel_rfl),ok_t⟩)))) ok_t))) (fun x=>(by kernel_rfl))
def C9.fx (K:Nat):FX PP:=⟨132,C9.sg,_,C9.ct K⟩
def C0.l1.M:Tm:=⟨[(1,.c (.bx 5014000 0)),(22,.c (.p (.sl (.sl (.int .i64))) true (1,1))),(23,.c (.p (.int .i64) false (10,0))),(24,.c (.p (.int .i64) false (11,0)))],[(5014000,.box [.p (.int .i64) true (1,0),.p (.sl (.sl (.int .i64))) true (1,1)])],[(1,C0.sg.A)]⟩
def C0.C (K:Nat):CE:=⟨⟨PP,tys⟩,[(102,some (Da.fx K)),(132,some (C9.fx K))],[],K,[],[],[],51,[]⟩
def C0.lt (K:Nat):LT C0.sg.R.D:=.two .t (.two .t (.two (.two .t (.one (.loop C0.l1.M (fun n c p=>C0.l1 K c n p.1 p.2) (fun nl1=>.t)))) .t))
theorem C0.ct (K:Nat):CtX PP 80 C0.sg (fun x=>C0 K x):=ct_x (C:=C0.C K) (fn:=Tryz.f80) (c:=Tryz.f80.body.get!) (lt:=(C0.lt K)) fol (by kernel_rfl) (by kernel_rfl) rfl (fun x=>(by kernel_rfl)) (ok_two ok_t (ok_two ok_t (ok_two (ok_two ok_t (ok_block (ok_loop (fun c p=>(by kernel_rfl)) (fun nl1=>⟨fun c p=>(by kernel_rfl),ok_t⟩)))) ok_t))) (fun x=>(by kernel_rfl))
def C0.fx (K:Nat):FX PP:=⟨80,C0.sg,_,C0.ct K⟩
def A7.l1.M:Tm:=⟨[(0,.c (.bx 0 0)),(1,.c (.p (.int .i64) true (1,2))),(6,.c (.p (.int .i64) false (10,0)))],[(0,.box [.vf 5003001,.p (.int .i64) false (13,0)]),(5003001,.row (.int .u8) false false (12,0))],[(1,A7.sg.A)]⟩
def A7.j2.M:Tm:=⟨[(0,.c (.bx 0 0)),(1,.c (.p (.int .i64) true (1,2))),(6,.c (.p (.int .i64) true (10,0)))],[(0,.box [.vf 5012001,.p (.int .i64) true (13,0)]),(5012001,.row (.int .u8) false false (11,0))],[(1,A7.sg.A),(10,(.int .i64)),(13,(.int .i64))]⟩
def A7.C (K:Nat):CE:=⟨⟨PP,tys⟩,[],[],K,[],[],[0],60,[]⟩
def A7.lt (K:Nat):LT A7.sg.R.D:=.two .t (.one (.loop A7.l1.M (fun n c p=>A7.l1 K c.2.1 n p.1 p.2.1 p.2.2) (fun nl1=>.two .t (.two (.one (.join A7.j2.M (fun c p=>A7.j2 K (A7.l1 K c.1.2.1 nl1) c.2.2 c.2.1 c.1.2.1 p) .t .t)) .t))))
theorem A7.ct (K:Nat):CtX PP 167 A7.sg (fun x=>A7 K x.1 x.2.1 x.2.2):=ct_x (C:=A7.C K) (fn:=Tryz.f167) (c:=Tryz.f167.body.get!) (lt:=(A7.lt K)) fol (by kernel_rfl) (by kernel_rfl) rfl (fun x=>(by kernel_rfl)) (ok_two ok_t (ok_block (ok_loop (fun c p=>(by kernel_rfl)) (fun nl1=>⟨fun c p=>(by kernel_rfl),ok_two ok_t (ok_two (ok_block (ok_join ok_t (fun c p=>(by kernel_rfl)) ok_t)) ok_t)⟩)))) (fun x=>(by kernel_rfl))
def A7.fx (K:Nat):FX PP:=⟨167,A7.sg,_,A7.ct K⟩
def Cf.j1.M:Tm:=⟨[(0,.c (.p (.int .u32) false (10,0))),(2,.c (.p (.int .i64) false (11,0)))],[],[]⟩
def Cf.j2.M:Tm:=⟨[(0,.c (.p (.int .u32) false (12,0))),(2,.c (.p (.int .i64) false (13,0)))],[],[]⟩
def Cf.C (K:Nat):CE:=⟨⟨PP,tys⟩,[],[],K,[],[],[],19,[]⟩
def Cf.lt (K:Nat):LT Cf.sg.R.D:=.two .t (.join Cf.j1.M (fun c p=>Cf.j1 K p.1 p.2) .t (.join Cf.j2.M (fun c p=>Cf.j2 K p.1 p.2) .t .t))
theorem Cf.ct (K:Nat):CtX PP 189 Cf.sg (fun x=>Cf K x):=ct_x (C:=Cf.C K) (fn:=Tryz.f189) (c:=Tryz.f189.body.get!) (lt:=(Cf.lt K)) fol (by kernel_rfl) (by kernel_rfl) rfl (fun x=>(by kernel_rfl)) (ok_two ok_t (ok_join ok_t (fun c p=>(by kernel_rfl)) (ok_join ok_t (fun c p=>(by kernel_rfl)) ok_t))) (fun x=>(by kernel_rfl))
def Cf.fx (K:Nat):FX PP:=⟨189,Cf.sg,_,Cf.ct K⟩
def Bp.j1.M:Tm:=⟨[(0,.c (.p (.int .u64) false (10,0))),(2,.c (.p (.int .i64) false (11,0)))],[],[]⟩
def Bp.j2.M:Tm:=⟨[(0,.c (.p (.int .u64) false (12,0))),(2,.c (.p (.int .i64) false (13,0)))],[],[]⟩
def Bp.j3.M:Tm:=⟨[(0,.c (.p (.int .u64) false (14,0))),(2,.c (.p (.int .i64) false (15,0)))],[],[]⟩
def Bp.C (K:Nat):CE:=⟨⟨PP,tys⟩,[],[],K,[],[],[],25,[]⟩
def Bp.lt (K:Nat):LT Bp.sg.R.D:=.two .t (.join Bp.j1.M (fun c p=>Bp.j1 K p.1 p.2) .t (.join Bp.j2.M (fun c p=>Bp.j2 K p.1 p.2) .t (.join Bp.j3.M (fun c p=>Bp.j3 K p.1 p.2) .t .t)))
theorem Bp.ct (K:Nat):CtX PP 190 Bp.sg (fun x=>Bp K x):=ct_x (C:=Bp.C K) (fn:=Tryz.f190) (c:=Tryz.f190.body.get!) (lt:=(Bp.lt K)) fol (by kernel_rfl) (by kernel_rfl) rfl (fun x=>(by kernel_rfl)) (ok_two ok_t (ok_join ok_t (fun c p=>(by kernel_rfl)) (ok_join ok_t (fun c p=>(by kernel_rfl)) (ok_join ok_t (fun c p=>(by kernel_rfl)) ok_t)))) (fun x=>(by kernel_rfl))
def Bp.fx (K:Nat):FX PP:=⟨190,Bp.sg,_,Bp.ct K⟩
def Dt.C (K:Nat):CE:=⟨⟨PP,tys⟩,[(190,some (Bp.fx K))],[],K,[],[],[],8,[]⟩
theorem Dt.ct (K:Nat):CtX PP 184 Dt.sg (fun x=>Dt K x):=ct_x (C:=Dt.C K) (fn:=Tryz.f184) (c:=Tryz.f184.body.get!) (lt:=.t) fol (by kernel_rfl) (by kernel_rfl) rfl (fun x=>(by kernel_rfl)) (ok_t) (fun x=>(by kernel_rfl))
def Dt.fx (K:Nat):FX PP:=⟨184,Dt.sg,_,Dt.ct K⟩
def Dw.C (K:Nat):CE:=⟨⟨PP,tys⟩,[(184,some (Dt.fx K))],[],K,[],[],[],7,[]⟩
theorem Dw.ct (K:Nat):CtX PP 168 Dw.sg (fun x=>Dw K x):=ct_x (C:=Dw.C K) (fn:=Tryz.f168) (c:=Tryz.f168.body.get!) (lt:=.t) fol (by kernel_rfl) (by kernel_rfl) rfl (fun x=>(by kernel_rfl)) (ok_t) (fun x=>(by kernel_rfl))
def Dw.fx (K:Nat):FX PP:=⟨168,Dw.sg,_,Dw.ct K⟩
def D3.C (K:Nat):CE:=⟨⟨PP,tys⟩,[],[],K,[],[],[],6,[]⟩
theorem D3.ct (K:Nat):CtX PP 169 D3.sg (fun x=>D3 K x):=ct_x (C:=D3.C K) (fn:=Tryz.f169) (c:=Tryz.f169.body.get!) (lt:=.t) fol (by kernel_rfl) (by kernel_rfl) rfl (fun x=>(by kernel_rfl)) (ok_t) (fun x=>(by kernel_rfl))
def D3.fx (K:Nat):FX PP:=⟨169,D3.sg,_,D3.ct K⟩
def Ec.C (K:Nat):CE:=⟨⟨PP,tys⟩,[(184,some (Dt.fx K))],[],K,[],[],[],28,[]⟩
theorem Ec.ct (K:Nat):CtX PP 170 Ec.sg (fun x=>Ec K x.1 x.2):=ct_x (C:=Ec.C K) (fn:=Tryz.f170) (c:=Tryz.f170.body.get!) (lt:=.t) fol (by kernel_rfl) (by kernel_rfl) rfl (fun x=>(by kernel_rfl)) (ok_t) (fun x=>(by kernel_rfl))
def Ec.fx (K:Nat):FX PP:=⟨170,Ec.sg,_,Ec.ct K⟩
def Ck.C (K:Nat) (ih:CtX PP 133 Ck.sg (fun x=>Ck K x.1 x.2.1 x.2.2)):CE:=⟨⟨PP,tys⟩,[(167,some (A7.fx K)),(168,some (Dw.fx K)),(133,some ⟨133,Ck.sg,_,ih⟩),(169,some (D3.fx K)),(170,some (Ec.fx K))],[],K,[],[],[0],80,[]⟩
theorem Ck.ct:∀ K:Nat,CtX PP 133 Ck.sg (fun x=>Ck K x.1 x.2.1 x.2.2)
 | 0=>fun v x r h=>by cases h
 | K+1=>ct_x (C:=Ck.C K (Ck.ct K)) (fn:=Tryz.f133) (c:=Tryz.f133.body.get!) (lt:=.t) fol (by kernel_rfl) (by kernel_rfl) rfl (fun x=>(by kernel_rfl)) (ok_t) (fun x=>(by kernel_rfl))
def Ck.fx (K:Nat):FX PP:=⟨133,Ck.sg,_,Ck.ct K⟩
def Dq.C (K:Nat):CE:=⟨⟨PP,tys⟩,[],[],K,[],[],[0],7,[]⟩
theorem Dq.ct (K:Nat):CtX PP 104 Dq.sg (fun x=>Dq K x):=ct_x (C:=Dq.C K) (fn:=Tryz.f104) (c:=Tryz.f104.body.get!) (lt:=.t) fol (by kernel_rfl) (by kernel_rfl) rfl (fun x=>(by kernel_rfl)) (ok_t) (fun x=>(by kernel_rfl))
def Dq.fx (K:Nat):FX PP:=⟨104,Dq.sg,_,Dq.ct K⟩
def B5.l1.M:Tm:=⟨[(0,.c (.p (.sl (.int .i64)) true (1,0))),(2,.c (.vf 5006000)),(3,.c (.vf 5006001)),(4,.c (.p (.int .i64) false (10,0)))],[(5006000,.row Cp false false (12,0)),(5006001,.row (.int .i64) false false (13,0))],[(1,B5.sg.A)]⟩
def B5.l2.M:Tm:=⟨[(0,.c (.p (.sl (.int .i64)) true (1,0))),(2,.c (.vf 5018000)),(3,.c (.vf 5018001)),(4,.c (.p (.int .i64) true (10,0))),(5,.c (.p (.int .i64) false (11,0)))],[(5018000,.row Cp false false (14,0)),(5018001,.row (.int .i64) false false (15,0))],[(1,B5.sg.A),(10,(.int .i64))]⟩
def B5.C (K:Nat):CE:=⟨⟨PP,tys⟩,[],[],K,[],[],[],55,[]⟩
def B5.lt (K:Nat):LT B5.sg.R.D:=.two .t (.two (.two .t (.one (.loop B5.l1.M (fun n c p=>B5.l1 K c n p.1 p.2.1 p.2.2) (fun nl1=>.two .t (.one (.two .t (.two (.one (.loop B5.l2.M (fun n c p=>B5.l2 K (B5.l1 K c.1 nl1) c.2 c.1 n p.1 p.2.1 p.2.2) (fun nl2=>.t))) .t))))))) .t)
theorem B5.ct (K:Nat):CtX PP 153 B5.sg (fun x=>B5 K x):=ct_x (C:=B5.C K) (fn:=Tryz.f153) (c:=Tryz.f153.body.get!) (lt:=(B5.lt K)) fol (by kernel_rfl) (by kernel_rfl) rfl (fun x=>(by kernel_rfl)) (ok_two ok_t (ok_two (ok_two ok_t (ok_block (ok_loop (fun c p=>(by kernel_rfl)) (fun nl1=>⟨fun c p=>(by kernel_rfl),ok_two ok_t (ok_block (ok_two ok_t (ok_two (ok_block (ok_loop (fun c p=>(by kernel_rfl)) (fun nl2=>⟨fun c p=>(by kernel_rfl),ok_t⟩))) ok_t)))⟩)))) ok_t)) (fun x=>(by kernel_rfl))
def B5.fx (K:Nat):FX PP:=⟨153,B5.sg,_,B5.ct K⟩
def D8.C (K:Nat):CE:=⟨⟨PP,tys⟩,[],[],K,[],[],[],10,[]⟩
theorem D8.ct (K:Nat):CtX PP 171 D8.sg (fun x=>D8 K x):=ct_x (C:=D8.C K) (fn:=Tryz.f171) (c:=Tryz.f171.body.get!) (lt:=.t) fol (by kernel_rfl) (by kernel_rfl) rfl (fun x=>(by kernel_rfl)) (ok_t) (fun x=>(by kernel_rfl))
def D8.fx (K:Nat):FX PP:=⟨171,D8.sg,_,D8.ct K⟩
def Dg.l1.M:Tm:=⟨[(0,.c (.bx 0 0)),(1,.c (.p (.int .i64) true (1,2))),(2,.c (.p (.sl (.int .i64)) true (1,3))),(13,.c (.p (.sl (.int .i64)) true (1,3))),(14,.c (.p (.int .i64) false (10,0))),(15,.c (.p (.int .i64) false (11,0)))],[(0,.box [.vf 5005001,.p (.int .i64) false (13,0)]),(5005001,.row (.int .u8) false false (12,0))],[(1,Dg.sg.A)]⟩
def Dg.C (K:Nat):CE:=⟨⟨PP,tys⟩,[(133,some (Ck.fx K)),(171,some (D8.fx K))],[],K,[],[],[0],39,[]⟩
def Dg.lt (K:Nat):LT Dg.sg.R.D:=.two .t (.two .t (.one (.loop Dg.l1.M (fun n c p=>Dg.l1 K c.2.1 c.2.2 n p.1 p.2.1 p.2.2.1 p.2.2.2) (fun nl1=>.t))))
theorem Dg.ct (K:Nat):CtX PP 172 Dg.sg (fun x=>Dg K x.1 x.2.1 x.2.2):=ct_x (C:=Dg.C K) (fn:=Tryz.f172) (c:=Tryz.f172.body.get!) (lt:=(Dg.lt K)) fol (by kernel_rfl) (by kernel_rfl) rfl (fun x=>(by kernel_rfl)) (ok_two ok_t (ok_two ok_t (ok_block (ok_loop (fun c p=>(by kernel_rfl)) (fun nl1=>⟨fun c p=>(by kernel_rfl),ok_t⟩))))) (fun x=>(by kernel_rfl))
def Dg.fx (K:Nat):FX PP:=⟨172,Dg.sg,_,Dg.ct K⟩
def Cm.l1.M:Tm:=⟨[(0,.c (.bx 0 0)),(1,.c (.p (.int .i64) true (1,2))),(7,.c (.vf 5010002)),(8,.c (.p (.int .i64) false (10,0))),(21,.c (.vf 5010003)),(22,.c (.p (.int .i64) false (11,0))),(23,.c (.p (.int .i64) false (12,0)))],[(0,.box [.vf 5010001,.p (.int .i64) false (18,0)]),(5010001,.row (.int .u8) false false (17,0)),(5010002,.row (.int .i64) false true (4000013,1)),(5010003,.row Cp false true (4000013,0))],[(1,Cm.sg.A),(4000013,B5.sg.R)]⟩
def Cm.j2.M:Tm:=⟨[(0,.c (.bx 0 0)),(1,.c (.p (.int .i64) true (1,2))),(7,.c (.vf 5021002)),(10,.c (.bx 5021003 0)),(21,.c (.vf 5021004)),(22,.c (.p (.int .i64) true (11,0))),(23,.c (.p (.int .i64) true (12,0)))],[(0,.box [.vf 5021001,.p (.int .i64) false (14,0)]),(5021001,.row (.int .u8) false false (13,0)),(5021002,.row (.int .i64) false true (4000013,1)),(5021003,.box [.p (.int .i64) false (15,0),.p (.int .i64) false (16,0)]),(5021004,.row Cp false true (4000013,0))],[(1,Cm.sg.A),(11,(.int .i64)),(12,(.int .i64)),(4000013,B5.sg.R)]⟩
def Cm.C (K:Nat):CE:=⟨⟨PP,tys⟩,[(153,some (B5.fx K)),(133,some (Ck.fx K)),(171,some (D8.fx K)),(172,some (Dg.fx K))],[],K,[],[],[0],60,[]⟩
def Cm.lt (K:Nat):LT Cm.sg.R.D:=.two .t (.two .t (.two .t (.two (.two .t (.one (.loop Cm.l1.M (fun n c p=>Cm.l1 K c.2 c.1.2.1 n p.1 p.2.1 p.2.2.1 p.2.2.2.1 p.2.2.2.2) (fun nl1=>.two .t (.two .t (.two (.one (.two .t (.join Cm.j2.M (fun c p=>Cm.j2 K (Cm.l1 K c.2.2.2 c.1.2.1 nl1) c.2.2.2 c.2.1 c.2.2.1 c.1.2.1 p.1 p.2.1 p.2.2.1 p.2.2.2) .t .t))) .t)))))) .t)))
theorem Cm.ct (K:Nat):CtX PP 134 Cm.sg (fun x=>Cm K x.1 x.2.1 x.2.2):=ct_x (C:=Cm.C K) (fn:=Tryz.f134) (c:=Tryz.f134.body.get!) (lt:=(Cm.lt K)) fol (by kernel_rfl) (by kernel_rfl) rfl (fun x=>(by kernel_rfl)) (ok_two ok_t (ok_two ok_t (ok_two ok_t (ok_two (ok_two ok_t (ok_block (ok_loop (fun c p=>(by kernel_rfl)) (fun nl1=>⟨fun c p=>(by kernel_rfl),ok_two ok_t (ok_two ok_t (ok_two (ok_block (ok_two ok_t (ok_join ok_t (fun c p=>(by kernel_rfl)) ok_t))) ok_t))⟩)))) ok_t)))) (fun x=>(by kernel_rfl))
def Cm.fx (K:Nat):FX PP:=⟨134,Cm.sg,_,Cm.ct K⟩
def Cq.l1.M:Tm:=⟨[(4,.c (.bx 5012000 0)),(5,.c (.vf 5012002)),(16,.c (.p (.sl (.sl (.int .i64))) true (1,1))),(17,.c (.p (.int .i64) false (10,0))),(18,.c (.p (.int .i64) false (11,0)))],[(5012000,.box [.vf 5012001,.p (.int .i64) false (13,0)]),(5012001,.row (.int .u8) false false (12,0)),(5012002,.row (.int .i64) false false (14,0))],[(1,Cq.sg.A)]⟩
def Cq.C (K:Nat):CE:=⟨⟨PP,tys⟩,[(133,some (Ck.fx K)),(104,some (Dq.fx K)),(134,some (Cm.fx K))],[],K,[],[(2,[.nilB 9 0 7500200 false])],[],35,[]⟩
def Cq.lt (K:Nat):LT Cq.sg.R.D:=.two .t (.two .t (.two .t (.two .t (.two (.two .t (.one (.loop Cq.l1.M (fun n c p=>Cq.l1 K c n p.1 p.2.1 p.2.2.1 p.2.2.2.1 p.2.2.2.2) (fun nl1=>.t)))) .t))))
theorem Cq.ct (K:Nat):CtX PP 81 Cq.sg (fun x=>Cq K x):=ct_x (C:=Cq.C K) (fn:=Tryz.f81) (c:=Tryz.f81.body.get!) (lt:=(Cq.lt K)) fol (by kernel_rfl) (by kernel_rfl) rfl (fun x=>(by kernel_rfl)) (ok_two ok_t (ok_two ok_t (ok_two ok_t (ok_two ok_t (ok_two (ok_two ok_t (ok_block (ok_loop (fun c p=>(by kernel_rfl)) (fun nl1=>⟨fun c p=>(by kernel_rfl),ok_t⟩)))) ok_t))))) (fun x=>(by kernel_rfl))
def Cq.fx (K:Nat):FX PP:=⟨81,Cq.sg,_,Cq.ct K⟩
def C6.C (K:Nat):CE:=⟨⟨PP,tys⟩,[],[],K,[],[],[0],20,[]⟩
theorem C6.ct (K:Nat):CtX PP 82 C6.sg (fun x=>C6 K x):=ct_x (C:=C6.C K) (fn:=Tryz.f82) (c:=Tryz.f82.body.get!) (lt:=.t) fol (by kernel_rfl) (by kernel_rfl) rfl (fun x=>(by kernel_rfl)) (ok_t) (fun x=>(by kernel_rfl))
def C6.fx (K:Nat):FX PP:=⟨82,C6.sg,_,C6.ct K⟩
def D0.C (K:Nat):CE:=⟨⟨PP,tys⟩,[(81,some (Cq.fx K)),(82,some (C6.fx K))],[],K,[],[],[],18,[]⟩
theorem D0.ct (K:Nat):CtX PP 112 D0.sg (fun x=>D0 K x):=ct_x (C:=D0.C K) (fn:=Tryz.f112) (c:=Tryz.f112.body.get!) (lt:=.t) fol (by kernel_rfl) (by kernel_rfl) rfl (fun x=>(by kernel_rfl)) (ok_t) (fun x=>(by kernel_rfl))
def D0.fx (K:Nat):FX PP:=⟨112,D0.sg,_,D0.ct K⟩
def Db.l1.M:Tm:=⟨[(0,.c (.p (.sl Ba) true (1,0))),(1,.c (.p (.int .i64) false (10,0))),(2,.c (.p (.int .i64) true (1,2))),(6,.c (.vf 5004000))],[(5004000,.row Ba false false (11,0))],[(1,Db.sg.A)]⟩
def Db.C (K:Nat):CE:=⟨⟨PP,tys⟩,[(129,some (Dr.fx K))],[],K,[],[],[],29,[]⟩
def Db.lt (K:Nat):LT Db.sg.R.D:=.two .t (.two (.one (.loop Db.l1.M (fun n c p=>Db.l1 K c.1 c.2.2 n p.1 p.2) (fun nl1=>.t))) .t)
theorem Db.ct (K:Nat):CtX PP 163 Db.sg (fun x=>Db K x.1 x.2.1 x.2.2):=ct_x (C:=Db.C K) (fn:=Tryz.f163) (c:=Tryz.f163.body.get!) (lt:=(Db.lt K)) fol (by kernel_rfl) (by kernel_rfl) rfl (fun x=>(by kernel_rfl)) (ok_two ok_t (ok_two (ok_block (ok_loop (fun c p=>(by kernel_rfl)) (fun nl1=>⟨fun c p=>(by kernel_rfl),ok_t⟩))) ok_t)) (fun x=>(by kernel_rfl))
def Db.fx (K:Nat):FX PP:=⟨163,Db.sg,_,Db.ct K⟩
def D4.C (K:Nat):CE:=⟨⟨PP,tys⟩,[(129,some (Dr.fx K)),(163,some (Db.fx K))],[],K,[],[],[],18,[]⟩
theorem D4.ct (K:Nat):CtX PP 123 D4.sg (fun x=>D4 K x.1 x.2):=ct_x (C:=D4.C K) (fn:=Tryz.f123) (c:=Tryz.f123.body.get!) (lt:=.t) fol (by kernel_rfl) (by kernel_rfl) rfl (fun x=>(by kernel_rfl)) (ok_t) (fun x=>(by kernel_rfl))
def D4.fx (K:Nat):FX PP:=⟨123,D4.sg,_,D4.ct K⟩
noncomputable def slices_Backward___api_Object_api_Object_.bx:BX PP:=mkBX (f1:=Tryz.f162) (f2:=Tryz.f183) 162 183 89 96 196 195 210 (by kernel_rfl) (by kernel_rfl) (by kernel_rfl) (by kernel_rfl) (by kernel_rfl) (by kernel_rfl) (by kernel_rfl) (by kernel_rfl) (by kernel_rfl) (by kernel_rfl) (by kernel_rfl) (by kernel_rfl)
def D9.C (K:Nat):CE:=⟨⟨PP,tys⟩,[],[],K,[],[],[],16,[]⟩
theorem D9.ct (K:Nat):CtX PP 202 D9.sg (fun x=>D9 K x.1 x.2):=ct_x (C:=D9.C K) (fn:=Tryz.f202) (c:=Tryz.f202.body.get!) (lt:=.t) fol (by kernel_rfl) (by kernel_rfl) rfl (fun x=>(by kernel_rfl)) (ok_t) (fun x=>(by kernel_rfl))
def D9.fx (K:Nat):FX PP:=⟨202,D9.sg,_,D9.ct K⟩
def C2.l1.M:Tm:=⟨[(1,.c (.p (.int .i64) true (1,2))),(2,.c (.bx 5006000 0)),(5,.c (.p (.int .i64) false (10,0)))],[(5006000,.box [.p .str true (1,0),.p (.int .i64) true (1,1)])],[(1,C2.sg.A)]⟩
def C2.C (K:Nat):CE:=⟨⟨PP,tys⟩,[(202,some (D9.fx K))],[],K,[],[],[],20,[]⟩
def C2.lt (K:Nat):LT C2.sg.R.D:=.two .t (.two (.two .t (.one (.loop C2.l1.M (fun n c p=>C2.l1 K c.1 c.2 n p) (fun nl1=>.t)))) .t)
theorem C2.ct (K:Nat):CtX PP 191 C2.sg (fun x=>C2 K x.1 x.2):=ct_x (C:=C2.C K) (fn:=Tryz.f191) (c:=Tryz.f191.body.get!) (lt:=(C2.lt K)) fol (by kernel_rfl) (by kernel_rfl) rfl (fun x=>(by kernel_rfl)) (ok_two ok_t (ok_two (ok_two ok_t (ok_block (ok_loop (fun c p=>(by kernel_rfl)) (fun nl1=>⟨fun c p=>(by kernel_rfl),ok_t⟩)))) ok_t)) (fun x=>(by kernel_rfl))
def C2.fx (K:Nat):FX PP:=⟨191,C2.sg,_,C2.ct K⟩
def Cw.C (K:Nat):CE:=⟨⟨PP,tys⟩,[(191,some (C2.fx K))],[],K,[],[],[0],40,[]⟩
theorem Cw.ct (K:Nat):CtX PP 185 Cw.sg (fun x=>Cw K x.1 x.2):=ct_x (C:=Cw.C K) (fn:=Tryz.f185) (c:=Tryz.f185.body.get!) (lt:=.t) fol (by kernel_rfl) (by kernel_rfl) rfl (fun x=>(by kernel_rfl)) (ok_t) (fun x=>(by kernel_rfl))
def Cw.fx (K:Nat):FX PP:=⟨185,Cw.sg,_,Cw.ct K⟩
def C8.l1.M:Tm:=⟨[(1,.c (.p (.int .i64) true (1,2))),(3,.c (.bx 5016000 0)),(8,.c (.p (.int .i64) false (10,0))),(22,.c (.p (.int .i64) true (1,3))),(23,.c (.p (.int .i64) false (11,0)))],[(5016000,.box [.p .str true (1,0),.p (.int .i64) true (1,1)])],[(1,C8.sg.A)]⟩
def C8.C (K:Nat):CE:=⟨⟨PP,tys⟩,[(202,some (D9.fx K))],[],K,[],[],[],36,[]⟩
def C8.lt (K:Nat):LT C8.sg.R.D:=.two .t (.two .t (.two .t (.two (.two .t (.one (.loop C8.l1.M (fun n c p=>C8.l1 K c.1 c.2.1 c.2.2 n p.1 p.2) (fun nl1=>.t)))) .t)))
theorem C8.ct (K:Nat):CtX PP 192 C8.sg (fun x=>C8 K x.1 x.2.1 x.2.2):=ct_x (C:=C8.C K) (fn:=Tryz.f192) (c:=Tryz.f192.body.get!) (lt:=(C8.lt K)) fol (by kernel_rfl) (by kernel_rfl) rfl (fun x=>(by kernel_rfl)) (ok_two ok_t (ok_two ok_t (ok_two ok_t (ok_two (ok_two ok_t (ok_block (ok_loop (fun c p=>(by kernel_rfl)) (fun nl1=>⟨fun c p=>(by kernel_rfl),ok_t⟩)))) ok_t)))) (fun x=>(by kernel_rfl))
def C8.fx (K:Nat):FX PP:=⟨192,C8.sg,_,C8.ct K⟩
def Ca.C (K:Nat):CE:=⟨⟨PP,tys⟩,[(192,some (C8.fx K))],[],K,[],[],[0],40,[]⟩
theorem Ca.ct (K:Nat):CtX PP 186 Ca.sg (fun x=>Ca K x.1 x.2):=ct_x (C:=Ca.C K) (fn:=Tryz.f186) (c:=Tryz.f186.body.get!) (lt:=.t) fol (by kernel_rfl) (by kernel_rfl) rfl (fun x=>(by kernel_rfl)) (ok_t) (fun x=>(by kernel_rfl))
def Ca.fx (K:Nat):FX PP:=⟨186,Ca.sg,_,Ca.ct K⟩
def C3.C (K:Nat):CE:=⟨⟨PP,tys⟩,[(185,some (Cw.fx K)),(186,some (Ca.fx K))],[],K,[],[],[0],14,[]⟩
theorem C3.ct (K:Nat):CtX PP 173 C3.sg (fun x=>C3 K x.1 x.2):=ct_x (C:=C3.C K) (fn:=Tryz.f173) (c:=Tryz.f173.body.get!) (lt:=.t) fol (by kernel_rfl) (by kernel_rfl) rfl (fun x=>(by kernel_rfl)) (ok_t) (fun x=>(by kernel_rfl))
def C3.fx (K:Nat):FX PP:=⟨173,C3.sg,_,C3.ct K⟩
def Cn.C (K:Nat):CE:=⟨⟨PP,tys⟩,[(185,some (Cw.fx K)),(186,some (Ca.fx K))],[],K,[],[],[0],10,[]⟩
theorem Cn.ct (K:Nat):CtX PP 174 Cn.sg (fun x=>Cn K x):=ct_x (C:=Cn.C K) (fn:=Tryz.f174) (c:=Tryz.f174.body.get!) (lt:=.t) fol (by kernel_rfl) (by kernel_rfl) rfl (fun x=>(by kernel_rfl)) (ok_t) (fun x=>(by kernel_rfl))
def Cn.fx (K:Nat):FX PP:=⟨174,Cn.sg,_,Cn.ct K⟩
def Dd.C (K:Nat):CE:=⟨⟨PP,tys⟩,[(174,some (Cn.fx K)),(186,some (Ca.fx K))],[],K,[],[],[0],24,[]⟩
theorem Dd.ct (K:Nat):CtX PP 175 Dd.sg (fun x=>Dd K x):=ct_x (C:=Dd.C K) (fn:=Tryz.f175) (c:=Tryz.f175.body.get!) (lt:=.t) fol (by kernel_rfl) (by kernel_rfl) rfl (fun x=>(by kernel_rfl)) (ok_t) (fun x=>(by kernel_rfl))
def Dd.fx (K:Nat):FX PP:=⟨175,Dd.sg,_,Dd.ct K⟩
def Di.C (K:Nat):CE:=⟨⟨PP,tys⟩,[(173,some (C3.fx K)),(170,some (Ec.fx K)),(186,some (Ca.fx K))],[],K,[],[],[0],46,[]⟩
theorem Di.ct (K:Nat):CtX PP 176 Di.sg (fun x=>Di K x.1 x.2):=ct_x (C:=Di.C K) (fn:=Tryz.f176) (c:=Tryz.f176.body.get!) (lt:=.t) fol (by kernel_rfl) (by kernel_rfl) rfl (fun x=>(by kernel_rfl)) (ok_t) (fun x=>(by kernel_rfl))
def Di.fx (K:Nat):FX PP:=⟨176,Di.sg,_,Di.ct K⟩
def Cb.j1.M:Tm:=⟨[(9,.c (.bx 5006000 0)),(10,.c (.p (.int .i64) false (14,0)))],[(5006000,.box [.p .str false (10,0),.p (.int .i64) false (11,0),.p (.int .i64) false (12,0),.p .bool false (13,0)])],[]⟩
def Cb.C (K:Nat):CE:=⟨⟨PP,tys⟩,[(173,some (C3.fx K)),(174,some (Cn.fx K)),(175,some (Dd.fx K)),(169,some (D3.fx K)),(176,some (Di.fx K))],[],K,[],[],[],45,[]⟩
def Cb.lt (K:Nat):LT Cb.sg.R.D:=.two .t (.two .t (.two .t (.join Cb.j1.M (fun c p=>Cb.j1 K p.1 p.2.1 p.2.2.1 p.2.2.2.1 p.2.2.2.2) .t .t)))
theorem Cb.ct (K:Nat):CtX PP 148 Cb.sg (fun x=>Cb K x.1 x.2.1 x.2.2):=ct_x (C:=Cb.C K) (fn:=Tryz.f148) (c:=Tryz.f148.body.get!) (lt:=(Cb.lt K)) fol (by kernel_rfl) (by kernel_rfl) rfl (fun x=>(by kernel_rfl)) (ok_two ok_t (ok_two ok_t (ok_two ok_t (ok_join ok_t (fun c p=>(by kernel_rfl)) ok_t)))) (fun x=>(by kernel_rfl))
def Cb.fx (K:Nat):FX PP:=⟨148,Cb.sg,_,Cb.ct K⟩
def Du.C (K:Nat):CE:=⟨⟨PP,tys⟩,[(148,some (Cb.fx K))],[],K,[],[],[],20,[]⟩
theorem Du.ct (K:Nat):CtX PP 95 Du.sg (fun x=>Du K x):=ct_x (C:=Du.C K) (fn:=Tryz.f95) (c:=Tryz.f95.body.get!) (lt:=.t) fol (by kernel_rfl) (by kernel_rfl) rfl (fun x=>(by kernel_rfl)) (ok_t) (fun x=>(by kernel_rfl))
def Du.fx (K:Nat):FX PP:=⟨95,Du.sg,_,Du.ct K⟩
def Dk.C (K:Nat):CE:=⟨⟨PP,tys⟩,[],[],K,[],[],[],12,[]⟩
theorem Dk.ct (K:Nat):CtX PP 177 Dk.sg (fun x=>Dk K x):=ct_x (C:=Dk.C K) (fn:=Tryz.f177) (c:=Tryz.f177.body.get!) (lt:=.t) fol (by kernel_rfl) (by kernel_rfl) rfl (fun x=>(by kernel_rfl)) (ok_t) (fun x=>(by kernel_rfl))
def Dk.fx (K:Nat):FX PP:=⟨177,Dk.sg,_,Dk.ct K⟩
def B0.l1.M:Tm:=⟨[(3,.c (.bx 5018000 0)),(6,.c (.vf 5018001)),(7,.c (.p (.int .i64) false (14,0))),(10,.c (.p (.int .i64) false (15,0))),(32,.c (.p (.int .i64) false (10,0))),(33,.c (.p (.int .i64) false (11,0)))],[(5018000,.box [.p .str true (1,0),.p (.int .i64) true (1,1)]),(5018001,.row Cp false false (13,0))],[(1,B0.sg.A)]⟩
def B0.j2.M:Tm:=⟨[(3,.c (.bx 5049000 0)),(6,.c (.vf 5049001)),(10,.c (.p (.int .i64) true (15,0))),(12,.c (.p (.int .i64) false (12,0))),(13,.c (.p (.int .i64) true (4000048,1))),(15,.c (.p (.int .i64) true (4000048,0))),(32,.c (.p (.int .i64) true (10,0))),(33,.c (.p (.int .i64) true (11,0)))],[(5049000,.box [.p .str true (1,0),.p (.int .i64) true (1,1)]),(5049001,.row Cp false true (13,0))],[(1,B0.sg.A),(10,(.int .i64)),(11,(.int .i64)),(13,(.sl Cp)),(15,(.int .i64)),(4000048,Cb.sg.R)]⟩
def B0.C (K:Nat):CE:=⟨⟨PP,tys⟩,[(148,some (Cb.fx K)),(177,some (Dk.fx K))],[],K,[],[],[],79,[]⟩
def B0.lt (K:Nat):LT B0.sg.R.D:=.two .t (.two .t (.two .t (.two .t (.two (.two .t (.one (.loop B0.l1.M (fun n c p=>B0.l1 K c.1 n p.1 p.2.1 p.2.2.1 p.2.2.2.1 p.2.2.2.2) (fun nl1=>.two .t (.two .t (.two (.one (.two .t (.two .t (.two .t (.two .t (.two .t (.join B0.j2.M (fun c p=>B0.j2 K (B0.l1 K c.1.1 nl1) c.2.2.2.2.2 c.2.1 c.2.2.1 c.2.2.2.1 c.2.2.2.2.1 c.1.1 p) .t .t))))))) .t)))))) .t))))
theorem B0.ct (K:Nat):CtX PP 150 B0.sg (fun x=>B0 K x.1 x.2.1 x.2.2):=ct_x (C:=B0.C K) (fn:=Tryz.f150) (c:=Tryz.f150.body.get!) (lt:=(B0.lt K)) fol (by kernel_rfl) (by kernel_rfl) rfl (fun x=>(by kernel_rfl)) (ok_two ok_t (ok_two ok_t (ok_two ok_t (ok_two ok_t (ok_two (ok_two ok_t (ok_block (ok_loop (fun c p=>(by kernel_rfl)) (fun nl1=>⟨fun c p=>(by kernel_rfl),ok_two ok_t (ok_two ok_t (ok_two (ok_block (ok_two ok_t (ok_two ok_t (ok_two ok_t (ok_two ok_t (ok_two ok_t (ok_join ok_t (fun c p=>(by kernel_rfl)) ok_t))))))) ok_t))⟩)))) ok_t))))) (fun x=>(by kernel_rfl))
def B0.fx (K:Nat):FX PP:=⟨150,B0.sg,_,B0.ct K⟩
def Bx.l1.M:Tm:=⟨[(3,.c (.bx 5018000 0)),(6,.c (.vf 5018001)),(7,.c (.p (.int .i64) false (14,0))),(10,.c (.p (.int .i64) false (15,0))),(28,.c (.p (.int .i64) false (10,0))),(29,.c (.p (.int .i64) false (11,0)))],[(5018000,.box [.p .str true (1,0),.p (.int .i64) true (1,1)]),(5018001,.row (.int .i64) false false (13,0))],[(1,Bx.sg.A)]⟩
def Bx.j2.M:Tm:=⟨[(3,.c (.bx 5041000 0)),(6,.c (.vf 5041001)),(7,.c (.p (.int .i64) true (4000035,1))),(10,.c (.p (.int .i64) true (15,0))),(12,.c (.p (.int .i64) false (12,0))),(28,.c (.p (.int .i64) true (10,0))),(29,.c (.p (.int .i64) true (11,0)))],[(5041000,.box [.p .str true (1,0),.p (.int .i64) true (1,1)]),(5041001,.row (.int .i64) false true (13,0))],[(1,Bx.sg.A),(10,(.int .i64)),(11,(.int .i64)),(13,(.sl (.int .i64))),(15,(.int .i64)),(4000035,Cb.sg.R)]⟩
def Bx.C (K:Nat):CE:=⟨⟨PP,tys⟩,[(148,some (Cb.fx K)),(177,some (Dk.fx K)),(101,some (Ds.fx K))],[],K,[],[],[],59,[]⟩
def Bx.lt (K:Nat):LT Bx.sg.R.D:=.two .t (.two .t (.two .t (.two .t (.two (.two .t (.one (.loop Bx.l1.M (fun n c p=>Bx.l1 K c.1 n p.1 p.2.1 p.2.2.1 p.2.2.2.1 p.2.2.2.2) (fun nl1=>.two .t (.two .t (.two (.one (.two .t (.two .t (.two .t (.join Bx.j2.M (fun c p=>Bx.j2 K (Bx.l1 K c.1.1 nl1) c.2.2.2.1 c.2.2.2.2.1 c.2.2.2.2.2 c.2.1 c.2.2.1 c.1.1 p) .t .t))))) .t)))))) .t))))
theorem Bx.ct (K:Nat):CtX PP 151 Bx.sg (fun x=>Bx K x.1 x.2.1 x.2.2):=ct_x (C:=Bx.C K) (fn:=Tryz.f151) (c:=Tryz.f151.body.get!) (lt:=(Bx.lt K)) fol (by kernel_rfl) (by kernel_rfl) rfl (fun x=>(by kernel_rfl)) (ok_two ok_t (ok_two ok_t (ok_two ok_t (ok_two ok_t (ok_two (ok_two ok_t (ok_block (ok_loop (fun c p=>(by kernel_rfl)) (fun nl1=>⟨fun c p=>(by kernel_rfl),ok_two ok_t (ok_two ok_t (ok_two (ok_block (ok_two ok_t (ok_two ok_t (ok_two ok_t (ok_join ok_t (fun c p=>(by kernel_rfl)) ok_t))))) ok_t))⟩)))) ok_t))))) (fun x=>(by kernel_rfl))
def Bx.fx (K:Nat):FX PP:=⟨151,Bx.sg,_,Bx.ct K⟩
def Cg.C (K:Nat):CE:=⟨⟨PP,tys⟩,[],[],K,[],[],[],8,[]⟩
theorem Cg.ct (K:Nat):CtX PP 178 Cg.sg (fun x=>Cg K x):=ct_clone (C:=Cg.C K) (fn:=Tryz.f178) (c:=Tryz.f178.body.get!) (lt:=.t) fol (by kernel_rfl) (by kernel_rfl) rfl (fun x=>(by kernel_rfl)) ok_t (fun x xs=>(by kernel_rfl)) (fun b n=>(by kernel_rfl)) (fun a b n=>(by kernel_rfl))
def Cg.fx (K:Nat):FX PP:=⟨178,Cg.sg,_,Cg.ct K⟩
def slices_Sort___int_int_.sx:SX PP:=⟨179,sortF,ct_sort Tryz.laysNm189⟩
def Cc.l1.M:Tm:=⟨[(1,.c (.p (.sl (.int .i64)) true (1,1))),(6,.c (.vf 5010000)),(7,.c (.p (.int .i64) false (10,0))),(13,.c (.p (.sl Cp) true (1,0))),(14,.c (.p (.int .i64) false (11,0))),(15,.c (.p (.int .i64) false (12,0)))],[(5010000,.row (.int .i64) false false (16,0))],[(1,Cc.sg.A)]⟩
def Cc.l2.M:Tm:=⟨[(1,.c (.p (.sl (.int .i64)) true (1,1))),(6,.c (.vf 5034000)),(7,.c (.p (.int .i64) false (13,0))),(10,.c (.p (.int .i64) false (14,0))),(13,.c (.p (.sl Cp) true (1,0))),(14,.c (.p (.int .i64) true (11,0))),(15,.c (.p (.int .i64) true (12,0)))],[(5034000,.row (.int .i64) false false (15,0))],[(1,Cc.sg.A),(11,(.int .i64)),(12,(.int .i64))]⟩
def Cc.C (K:Nat):CE:=⟨⟨PP,tys⟩,[(178,some (Cg.fx K)),(101,some (Ds.fx K)),(102,some (Da.fx K))],[(179,some slices_Sort___int_int_.sx)],K,[],[],[],75,[]⟩
def Cc.lt (K:Nat):LT Cc.sg.R.D:=.two .t (.two .t (.two .t (.two (.two .t (.one (.loop Cc.l1.M (fun n c p=>Cc.l1 K c.1 c.2 n p.1 p.2.1 p.2.2.1 p.2.2.2) (fun nl1=>.two .t (.two .t (.two (.one (.two .t (.two .t (.two .t (.two .t (.one (.loop Cc.l2.M (fun n c p=>Cc.l2 K (Cc.l1 K c.1.1 c.1.2 nl1) c.2.1 c.2.2 c.1.1 c.1.2 n p.1 p.2.1 p.2.2) (fun nl2=>.t)))))))) .t)))))) .t)))
theorem Cc.ct (K:Nat):CtX PP 152 Cc.sg (fun x=>Cc K x.1 x.2):=ct_x (C:=Cc.C K) (fn:=Tryz.f152) (c:=Tryz.f152.body.get!) (lt:=(Cc.lt K)) fol (by kernel_rfl) (by kernel_rfl) rfl (fun x=>(by kernel_rfl)) (ok_two ok_t (ok_two ok_t (ok_two ok_t (ok_two (ok_two ok_t (ok_block (ok_loop (fun c p=>(by kernel_rfl)) (fun nl1=>⟨fun c p=>(by kernel_rfl),ok_two ok_t (ok_two ok_t (ok_two (ok_block (ok_two ok_t (ok_two ok_t (ok_two ok_t (ok_two ok_t (ok_block (ok_loop (fun c p=>(by kernel_rfl)) (fun nl2=>⟨fun c p=>(by kernel_rfl),ok_t⟩)))))))) ok_t))⟩)))) ok_t)))) (fun x=>(by kernel_rfl))
def Cc.fx (K:Nat):FX PP:=⟨152,Cc.sg,_,Cc.ct K⟩
def Ar.l1.M:Tm:=⟨[(0,.c (.p (.sl Cp) true (1,0))),(1,.c (.p (.sl Cp) true (1,1))),(12,.c (.p (.int .i64) false (10,0))),(13,.c (.p (.int .i64) false (11,0)))],[],[(1,Ar.sg.A)]⟩
def Ar.C (K:Nat):CE:=⟨⟨PP,tys⟩,[],[],K,[],[],[],26,[]⟩
def Ar.lt (K:Nat):LT Ar.sg.R.D:=.two .t (.two .t (.two (.two .t (.one (.loop Ar.l1.M (fun n c p=>Ar.l1 K c.1 c.2 n p.1 p.2) (fun nl1=>.t)))) .t))
theorem Ar.ct (K:Nat):CtX PP 154 Ar.sg (fun x=>Ar K x.1 x.2):=ct_x (C:=Ar.C K) (fn:=Tryz.f154) (c:=Tryz.f154.body.get!) (lt:=(Ar.lt K)) fol (by kernel_rfl) (by kernel_rfl) rfl (fun x=>(by kernel_rfl)) (ok_two ok_t (ok_two ok_t (ok_two (ok_two ok_t (ok_block (ok_loop (fun c p=>(by kernel_rfl)) (fun nl1=>⟨fun c p=>(by kernel_rfl),ok_t⟩)))) ok_t))) (fun x=>(by kernel_rfl))
def Ar.fx (K:Nat):FX PP:=⟨154,Ar.sg,_,Ar.ct K⟩
def A8.l1.M:Tm:=⟨[(0,.c (.p (.sl (.int .i64)) true (1,0))),(1,.c (.p (.sl (.int .i64)) true (1,1))),(12,.c (.p (.int .i64) false (10,0))),(13,.c (.p (.int .i64) false (11,0)))],[],[(1,A8.sg.A)]⟩
def A8.C (K:Nat):CE:=⟨⟨PP,tys⟩,[],[],K,[],[],[],26,[]⟩
def A8.lt (K:Nat):LT A8.sg.R.D:=.two .t (.two .t (.two (.two .t (.one (.loop A8.l1.M (fun n c p=>A8.l1 K c.1 c.2 n p.1 p.2) (fun nl1=>.t)))) .t))
theorem A8.ct (K:Nat):CtX PP 155 A8.sg (fun x=>A8 K x.1 x.2):=ct_x (C:=A8.C K) (fn:=Tryz.f155) (c:=Tryz.f155.body.get!) (lt:=(A8.lt K)) fol (by kernel_rfl) (by kernel_rfl) rfl (fun x=>(by kernel_rfl)) (ok_two ok_t (ok_two ok_t (ok_two (ok_two ok_t (ok_block (ok_loop (fun c p=>(by kernel_rfl)) (fun nl1=>⟨fun c p=>(by kernel_rfl),ok_t⟩)))) ok_t))) (fun x=>(by kernel_rfl))
def A8.fx (K:Nat):FX PP:=⟨155,A8.sg,_,A8.ct K⟩
def Dz.C (K:Nat):CE:=⟨⟨PP,tys⟩,[(150,some (B0.fx K)),(151,some (Bx.fx K)),(152,some (Cc.fx K)),(153,some (B5.fx K)),(154,some (Ar.fx K)),(155,some (A8.fx K))],[],K,[],[],[],56,[]⟩
theorem Dz.ct (K:Nat):CtX PP 98 Dz.sg (fun x=>Dz K x.1 x.2.1 x.2.2):=ct_x (C:=Dz.C K) (fn:=Tryz.f98) (c:=Tryz.f98.body.get!) (lt:=.t) fol (by kernel_rfl) (by kernel_rfl) rfl (fun x=>(by kernel_rfl)) (ok_t) (fun x=>(by kernel_rfl))
def Dz.fx (K:Nat):FX PP:=⟨98,Dz.sg,_,Dz.ct K⟩
def Dx.C (K:Nat):CE:=⟨⟨PP,tys⟩,[(98,some (Dz.fx K))],[],K,[],[],[2],15,[]⟩
theorem Dx.ct (K:Nat):CtX PP 140 Dx.sg (fun x=>Dx K x.1 x.2.1 x.2.2):=ct_x (C:=Dx.C K) (fn:=Tryz.f140) (c:=Tryz.f140.body.get!) (lt:=.t) fol (by kernel_rfl) (by kernel_rfl) rfl (fun x=>(by kernel_rfl)) (ok_t) (fun x=>(by kernel_rfl))
def Dx.fx (K:Nat):FX PP:=⟨140,Dx.sg,_,Dx.ct K⟩
def Dp.C (K:Nat):CE:=⟨⟨PP,tys⟩,[],[],K,[(1,[2])],[],[],7,[]⟩
theorem Dp.ct (K:Nat):CtX PP 149 Dp.sg (fun x=>Dp K x):=ct_x (C:=Dp.C K) (fn:=Tryz.f149) (c:=Tryz.f149.body.get!) (lt:=.t) fol (by kernel_rfl) (by kernel_rfl) rfl (fun x=>(by kernel_rfl)) (ok_t) (fun x=>(by kernel_rfl))
def Dp.fx (K:Nat):FX PP:=⟨149,Dp.sg,_,Dp.ct K⟩
def Av.l1.M:Tm:=⟨[(2,.c (.p (.int .i64) false (14,0))),(3,.fn 140 [.bx 4 0]),(8,.c (.bx 5008001 0)),(11,.c (.bx 5008002 0)),(18,.c (.p (.int .i64) true (1,1))),(19,.c (.p (.int .i64) false (11,0)))],[(4,.box [.p .str false (12,0),.p (.int .i64) false (13,0)]),(5008001,.box [.p (.int .i64) false (10,0),.nl (.sl (.int .i64))]),(5008002,.box [.p (.int .i64) true (4000017,0),.vf 5008003]),(5008003,.row (.sl (.int .i64)) true false (15,0))],[(1,Av.sg.A),(4000017,Dp.sg.R)]⟩
def Av.C (K:Nat):CE:=⟨⟨PP,tys⟩,[(149,some (Dp.fx K)),(140,some (Dx.fx K)),(80,some (C0.fx K))],[],K,[],[],[4],44,[]⟩
def Av.lt (K:Nat):LT Av.sg.R.D:=.two .t (.two .t (.two (.two .t (.one (.loop Av.l1.M (fun n c p=>Av.l1 K c.2 c.1.2.1 n p.1 p.2.1 p.2.2.1 p.2.2.2.1 p.2.2.2.2.1 p.2.2.2.2.2) (fun nl1=>.t)))) .t))
theorem Av.ct (K:Nat):CtX PP 96 Av.sg (fun x=>Av K x.1 x.2.1 x.2.2.1 x.2.2.2.2):=ct_x (C:=Av.C K) (fn:=Tryz.f96) (c:=Tryz.f96.body.get!) (lt:=(Av.lt K)) fol (by kernel_rfl) (by kernel_rfl) rfl (fun x=>(by kernel_rfl)) (ok_two ok_t (ok_two ok_t (ok_two (ok_two ok_t (ok_block (ok_loop (fun c p=>(by kernel_rfl)) (fun nl1=>⟨fun c p=>(by kernel_rfl),ok_t⟩)))) ok_t))) (fun x=>(by kernel_rfl))
def Av.fx (K:Nat):FX PP:=⟨96,Av.sg,_,Av.ct K⟩
def D5.C (K:Nat):CE:=⟨⟨PP,tys⟩,[(95,some (Du.fx K)),(96,some (Av.fx K))],[],K,[],[],[],35,[]⟩
theorem D5.ct (K:Nat):CtX PP 90 D5.sg (fun x=>D5 K x):=ct_x (C:=D5.C K) (fn:=Tryz.f90) (c:=Tryz.f90.body.get!) (lt:=.t) fol (by kernel_rfl) (by kernel_rfl) rfl (fun x=>(by kernel_rfl)) (ok_t) (fun x=>(by kernel_rfl))
def D5.fx (K:Nat):FX PP:=⟨90,D5.sg,_,D5.ct K⟩
def Ea.C (K:Nat):CE:=⟨⟨PP,tys⟩,[],[],K,[],[],[],13,[]⟩
theorem Ea.ct (K:Nat):CtX PP 118 Ea.sg (fun x=>Ea K x.1 x.2):=ct_x (C:=Ea.C K) (fn:=Tryz.f118) (c:=Tryz.f118.body.get!) (lt:=.t) fol (by kernel_rfl) (by kernel_rfl) rfl (fun x=>(by kernel_rfl)) (ok_t) (fun x=>(by kernel_rfl))
def Ea.fx (K:Nat):FX PP:=⟨118,Ea.sg,_,Ea.ct K⟩
def D1.C (K:Nat):CE:=⟨⟨PP,tys⟩,[(118,some (Ea.fx K))],[],K,[],[],[],14,[]⟩
theorem D1.ct (K:Nat):CtX PP 158 D1.sg (fun x=>D1 K x.1 x.2):=ct_x (C:=D1.C K) (fn:=Tryz.f158) (c:=Tryz.f158.body.get!) (lt:=.t) fol (by kernel_rfl) (by kernel_rfl) rfl (fun x=>(by kernel_rfl)) (ok_t) (fun x=>(by kernel_rfl))
def D1.fx (K:Nat):FX PP:=⟨158,D1.sg,_,D1.ct K⟩
def Bb.l1.M:Tm:=⟨[(0,.c (.p (.sl (.int .i64)) true (1,0))),(1,.c (.p (.int .i64) true (1,1))),(7,.c (.p (.int .i64) false (10,0))),(8,.c (.p (.int .i64) false (11,0)))],[],[(1,Bb.sg.A)]⟩
def Bb.C (K:Nat):CE:=⟨⟨PP,tys⟩,[],[],K,[],[],[],19,[]⟩
def Bb.lt (K:Nat):LT Bb.sg.R.D:=.two .t (.two (.two .t (.one (.loop Bb.l1.M (fun n c p=>Bb.l1 K c.1 c.2 n p.1 p.2) (fun nl1=>.t)))) .t)
theorem Bb.ct (K:Nat):CtX PP 160 Bb.sg (fun x=>Bb K x.1 x.2):=ct_x (C:=Bb.C K) (fn:=Tryz.f160) (c:=Tryz.f160.body.get!) (lt:=(Bb.lt K)) fol (by kernel_rfl) (by kernel_rfl) rfl (fun x=>(by kernel_rfl)) (ok_two ok_t (ok_two (ok_two ok_t (ok_block (ok_loop (fun c p=>(by kernel_rfl)) (fun nl1=>⟨fun c p=>(by kernel_rfl),ok_t⟩)))) ok_t)) (fun x=>(by kernel_rfl))
def Bb.fx (K:Nat):FX PP:=⟨160,Bb.sg,_,Bb.ct K⟩
def B4.C (K:Nat):CE:=⟨⟨PP,tys⟩,[(160,some (Bb.fx K))],[],K,[],[],[],9,[]⟩
theorem B4.ct (K:Nat):CtX PP 119 B4.sg (fun x=>B4 K x.1 x.2):=ct_x (C:=B4.C K) (fn:=Tryz.f119) (c:=Tryz.f119.body.get!) (lt:=.t) fol (by kernel_rfl) (by kernel_rfl) rfl (fun x=>(by kernel_rfl)) (ok_t) (fun x=>(by kernel_rfl))
def B4.fx (K:Nat):FX PP:=⟨119,B4.sg,_,B4.ct K⟩
def Br.l1.M:Tm:=⟨[(0,.c (.p (.sl (.int .i64)) true (1,0))),(1,.c (.p (.sl (.int .i64)) true (1,1))),(4,.c (.vf 5008000)),(5,.c (.nl (.int .i64))),(6,.c (.p .bool false (16,0))),(7,.c (.p (.int .i64) false (10,0))),(12,.c (.p (.sl (.int .i64)) true (1,0))),(13,.c (.p (.int .i64) false (11,0))),(14,.c (.p (.int .i64) false (12,0)))],[(5008000,.row (.int .i64) false false (15,0))],[(1,Br.sg.A)]⟩
def Br.l2.M:Tm:=⟨[(0,.c (.p (.sl (.int .i64)) true (1,0))),(4,.c (.vf 5033000)),(5,.c (.vf 5033001)),(32,.c (.p (.sl (.int .i64)) true (1,1))),(33,.c (.p (.int .i64) false (13,0))),(34,.c (.p (.int .i64) false (14,0)))],[(5033000,.row (.int .i64) false false (18,0)),(5033001,.row (.int .i64) false false (17,0))],[(1,Br.sg.A)]⟩
def Br.C (K:Nat):CE:=⟨⟨PP,tys⟩,[(119,some (B4.fx K))],[],K,[],[],[],49,[]⟩
def Br.lt (K:Nat):LT Br.sg.R.D:=.two .t (.two .t (.two (.two .t (.one (.loop Br.l1.M (fun n c p=>Br.l1 K c.1 c.2 n p.1 p.2.1 p.2.2.1 p.2.2.2.1 p.2.2.2.2) (fun nl1=>.t)))) (.two (.two .t (.one (.loop Br.l2.M (fun n c p=>Br.l2 K c.1 c.2 n p.1 p.2.1 p.2.2.1 p.2.2.2) (fun nl2=>.t)))) .t)))
theorem Br.ct (K:Nat):CtX PP 156 Br.sg (fun x=>Br K x.1 x.2):=ct_x (C:=Br.C K) (fn:=Tryz.f156) (c:=Tryz.f156.body.get!) (lt:=(Br.lt K)) fol (by kernel_rfl) (by kernel_rfl) rfl (fun x=>(by kernel_rfl)) (ok_two ok_t (ok_two ok_t (ok_two (ok_two ok_t (ok_block (ok_loop (fun c p=>(by kernel_rfl)) (fun nl1=>⟨fun c p=>(by kernel_rfl),ok_t⟩)))) (ok_two (ok_two ok_t (ok_block (ok_loop (fun c p=>(by kernel_rfl)) (fun nl2=>⟨fun c p=>(by kernel_rfl),ok_t⟩)))) ok_t)))) (fun x=>(by kernel_rfl))
def Br.fx (K:Nat):FX PP:=⟨156,Br.sg,_,Br.ct K⟩
def Bd.l1.M:Tm:=⟨[(0,.c (.p (.sl (.int .i64)) true (1,0))),(1,.c (.p (.sl (.int .i64)) true (1,1))),(2,.c (.p (.sl (.int .i64)) true (1,2))),(8,.c (.vf 5012000)),(9,.c (.p (.sl (.int .i64)) false (16,0))),(10,.c (.p .bool false (17,0))),(18,.c (.p (.sl (.int .i64)) true (1,1))),(19,.c (.p (.int .i64) false (10,0))),(20,.c (.p (.int .i64) false (11,0)))],[(5012000,.row (.int .i64) false false (15,0))],[(1,Bd.sg.A)]⟩
def Bd.j2.M:Tm:=⟨[(0,.c (.p (.sl (.int .i64)) true (1,0))),(1,.c (.p (.sl (.int .i64)) true (1,1))),(2,.c (.p (.sl (.int .i64)) true (1,2))),(8,.c (.vf 5031000)),(9,.c (.p (.sl (.int .i64)) true (16,0))),(10,.c (.p .bool true (17,0))),(12,.c (.p (.int .i64) false (13,0))),(18,.c (.p (.sl (.int .i64)) true (1,1))),(19,.c (.p (.int .i64) true (10,0))),(20,.c (.p (.int .i64) true (11,0)))],[(5031000,.row (.int .i64) false false (12,0))],[(1,Bd.sg.A),(10,(.int .i64)),(11,(.int .i64)),(16,(.sl (.int .i64))),(17,.bool)]⟩
def Bd.j3.M:Tm:=⟨[(0,.c (.p (.sl (.int .i64)) true (1,0))),(1,.c (.p (.sl (.int .i64)) true (1,1))),(2,.c (.p (.sl (.int .i64)) true (1,2))),(8,.c (.vf 5039000))],[(5039000,.row (.int .i64) false false (14,0))],[(1,Bd.sg.A)]⟩
def Bd.C (K:Nat):CE:=⟨⟨PP,tys⟩,[(178,some (Cg.fx K)),(102,some (Da.fx K)),(156,some (Br.fx K)),(155,some (A8.fx K))],[(179,some slices_Sort___int_int_.sx)],K,[],[],[],68,[]⟩
def Bd.lt (K:Nat):LT Bd.sg.R.D:=.two .t (.two .t (.two .t (.two .t (.two (.two .t (.one (.loop Bd.l1.M (fun n c p=>Bd.l1 K c.1 c.2.1 c.2.2 n p.1 p.2.1 p.2.2.1 p.2.2.2.1 p.2.2.2.2) (fun nl1=>.two .t (.two .t (.two (.one (.two .t (.two .t (.join Bd.j2.M (fun c p=>Bd.j2 K (Bd.l1 K c.1.1 c.1.2.1 c.1.2.2 nl1) c.2.1 c.2.2.1 c.2.2.2.1 c.2.2.2.2 c.1.1 c.1.2.1 c.1.2.2 p.1 p.2) .t .t)))) .t)))))) (.join Bd.j3.M (fun c p=>Bd.j3 K c.1 c.2.1 c.2.2 p) .t .t)))))
theorem Bd.ct (K:Nat):CtX PP 157 Bd.sg (fun x=>Bd K x.1 x.2.1 x.2.2):=ct_x (C:=Bd.C K) (fn:=Tryz.f157) (c:=Tryz.f157.body.get!) (lt:=(Bd.lt K)) fol (by kernel_rfl) (by kernel_rfl) rfl (fun x=>(by kernel_rfl)) (ok_two ok_t (ok_two ok_t (ok_two ok_t (ok_two ok_t (ok_two (ok_two ok_t (ok_block (ok_loop (fun c p=>(by kernel_rfl)) (fun nl1=>⟨fun c p=>(by kernel_rfl),ok_two ok_t (ok_two ok_t (ok_two (ok_block (ok_two ok_t (ok_two ok_t (ok_join ok_t (fun c p=>(by kernel_rfl)) ok_t)))) ok_t))⟩)))) (ok_join ok_t (fun c p=>(by kernel_rfl)) ok_t)))))) (fun x=>(by kernel_rfl))
def Bd.fx (K:Nat):FX PP:=⟨157,Bd.sg,_,Bd.ct K⟩
def Cd.l1.M:Tm:=⟨[(2,.c (.p (.int .i64) true (1,3))),(3,.c (.p (.sl (.int .i64)) true (1,4))),(4,.c (.bx 5018000 0)),(9,.c (.p (.int .i64) false (12,0))),(12,.c (.vf 5018001)),(30,.c (.p (.int .i64) false (10,0))),(31,.c (.p (.int .i64) false (11,0)))],[(5018000,.box [.p .str true (1,0),.p (.int .i64) true (1,1)]),(5018001,.row (.int .i64) false false (13,0))],[(1,Cd.sg.A)]⟩
def Cd.C (K:Nat):CE:=⟨⟨PP,tys⟩,[(148,some (Cb.fx K)),(98,some (Dz.fx K)),(157,some (Bd.fx K))],[],K,[],[],[],72,[]⟩
def Cd.lt (K:Nat):LT Cd.sg.R.D:=.two .t (.two .t (.two .t (.two .t (.two (.two .t (.one (.loop Cd.l1.M (fun n c p=>Cd.l1 K c.1 c.2.2.1 c.2.2.2 n p.1 p.2.1 p.2.2.1 p.2.2.2) (fun nl1=>.t)))) .t))))
theorem Cd.ct (K:Nat):CtX PP 107 Cd.sg (fun x=>Cd K x.1 x.2.1 x.2.2.1 x.2.2.2):=ct_x (C:=Cd.C K) (fn:=Tryz.f107) (c:=Tryz.f107.body.get!) (lt:=(Cd.lt K)) fol (by kernel_rfl) (by kernel_rfl) rfl (fun x=>(by kernel_rfl)) (ok_two ok_t (ok_two ok_t (ok_two ok_t (ok_two ok_t (ok_two (ok_two ok_t (ok_block (ok_loop (fun c p=>(by kernel_rfl)) (fun nl1=>⟨fun c p=>(by kernel_rfl),ok_t⟩)))) ok_t))))) (fun x=>(by kernel_rfl))
def Cd.fx (K:Nat):FX PP:=⟨107,Cd.sg,_,Cd.ct K⟩
def Dy.C (K:Nat):CE:=⟨⟨PP,tys⟩,[(158,some (D1.fx K)),(107,some (Cd.fx K))],[],K,[],[],[2,3],19,[]⟩
theorem Dy.ct (K:Nat):CtX PP 159 Dy.sg (fun x=>Dy K x.1 x.2.1 x.2.2.1 x.2.2.2):=ct_x (C:=Dy.C K) (fn:=Tryz.f159) (c:=Tryz.f159.body.get!) (lt:=.t) fol (by kernel_rfl) (by kernel_rfl) rfl (fun x=>(by kernel_rfl)) (ok_t) (fun x=>(by kernel_rfl))
def Dy.fx (K:Nat):FX PP:=⟨159,Dy.sg,_,Dy.ct K⟩
def A4.l1.M:Tm:=⟨[(2,.c (.p (.int .i64) false (16,0))),(3,.fn 159 [.bx 4 0,.bx 5 0]),(8,.c (.bx 5008002 0)),(11,.c (.bx 5008003 0)),(18,.c (.p (.int .i64) true (1,1))),(19,.c (.p (.int .i64) false (11,0)))],[(4,.box [.p .str false (12,0),.p (.int .i64) false (13,0)]),(5,.box [.p (.int .i64) false (14,0),.p (.sl (.sl (.int .i64))) false (15,0)]),(5008002,.box [.p (.int .i64) false (10,0),.nl (.sl (.int .i64))]),(5008003,.box [.p (.int .i64) true (4000017,0),.vf 5008004]),(5008004,.row (.sl (.int .i64)) true false (17,0))],[(1,A4.sg.A),(4000017,Dp.sg.R)]⟩
def A4.C (K:Nat):CE:=⟨⟨PP,tys⟩,[(149,some (Dp.fx K)),(159,some (Dy.fx K)),(80,some (C0.fx K))],[],K,[],[],[4,5],44,[]⟩
def A4.lt (K:Nat):LT A4.sg.R.D:=.two .t (.two .t (.two (.two .t (.one (.loop A4.l1.M (fun n c p=>A4.l1 K c.2 c.1.2.1 n p.1 p.2.1 p.2.2.1 p.2.2.2.1 p.2.2.2.2.1 p.2.2.2.2.2.1 p.2.2.2.2.2.2.1 p.2.2.2.2.2.2.2) (fun nl1=>.t)))) .t))
theorem A4.ct (K:Nat):CtX PP 96 A4.sg (fun x=>A4 K x.1 x.2.1 x.2.2.1 x.2.2.2.2.1 x.2.2.2.2.2):=ct_x (C:=A4.C K) (fn:=Tryz.f96) (c:=Tryz.f96.body.get!) (lt:=(A4.lt K)) fol (by kernel_rfl) (by kernel_rfl) rfl (fun x=>(by kernel_rfl)) (ok_two ok_t (ok_two ok_t (ok_two (ok_two ok_t (ok_block (ok_loop (fun c p=>(by kernel_rfl)) (fun nl1=>⟨fun c p=>(by kernel_rfl),ok_t⟩)))) ok_t))) (fun x=>(by kernel_rfl))
def A4.fx (K:Nat):FX PP:=⟨96,A4.sg,_,A4.ct K⟩
def D6.C (K:Nat):CE:=⟨⟨PP,tys⟩,[(95,some (Du.fx K)),(96,some (A4.fx K))],[],K,[],[],[],37,[]⟩
theorem D6.ct (K:Nat):CtX PP 114 D6.sg (fun x=>D6 K x.1 x.2):=ct_x (C:=D6.C K) (fn:=Tryz.f114) (c:=Tryz.f114.body.get!) (lt:=.t) fol (by kernel_rfl) (by kernel_rfl) rfl (fun x=>(by kernel_rfl)) (ok_t) (fun x=>(by kernel_rfl))
def D6.fx (K:Nat):FX PP:=⟨114,D6.sg,_,D6.ct K⟩
def Dl.l1.M:Tm:=⟨[(4,.c (.bx 5021000 0)),(5,.c (.bx 5021001 0)),(8,.c (.bx 5021002 0))],[(5021000,.box [.p (.int .i64) false (10,0),.nl (.sl (.int .i64))]),(5021001,.box [.p (.int .i64) false (11,0)]),(5021002,.box [.p (.int .i64) false (12,0),.vf 5021003]),(5021003,.row (.sl (.int .i64)) true false (13,0))],[]⟩
def Dl.C (K:Nat):CE:=⟨⟨PP,tys⟩,[(123,some (D4.fx K)),(163,some (Db.fx K)),(90,some (D5.fx K)),(114,some (D6.fx K))],[],K,[],[],[],48,[(162,some slices_Backward___api_Object_api_Object_.bx)]⟩
def Dl.lt (K:Nat):LX Dl.sg.R.D:=.seqR .t (.seqR .t (.seqR .t (.seqL (.seqR .t (.blk (.range 162 Dl.l1.M Ba (fun n c p=>Dl.l1 K n p.1 p.2.1 p.2.2.1 p.2.2.2) (fun nl1=>.t) (fun nl1=>.t)))) .t)))
theorem Dl.ct (K:Nat):CtX PP 122 Dl.sg (fun x=>Dl K x.1 x.2):=ct_xX (C:=Dl.C K) (fn:=Tryz.f122) (c:=Tryz.f122.body.get!) (lx:=(Dl.lt K)) fol (by kernel_rfl) (by kernel_rfl) rfl (fun x=>(by kernel_rfl)) (okx_seqR ok_t (okx_seqR ok_t (okx_seqR ok_t (okx_seqL (okx_seqR ok_t (okx_blk (okx_range (fun c r=>(by kernel_rfl)) (fun x l=>⟨fun c r=>(by kernel_rfl),fun c r=>⟨ok_t,ok_t⟩⟩)))) ok_t)))) (fun x=>(by kernel_rfl))
def Dl.fx (K:Nat):FX PP:=⟨122,Dl.sg,_,Dl.ct K⟩
def C7.l1.M:Tm:=⟨[(0,.c (.bx 0 0)),(1,.c (.p (.int .i64) true (1,2))),(9,.c (.vf 5008002)),(23,.c (.vf 5008003)),(24,.c (.p (.int .i64) false (10,0))),(25,.c (.p (.int .i64) false (11,0)))],[(0,.box [.vf 5008001,.p (.int .i64) false (13,0)]),(5008001,.row (.int .u8) false false (12,0)),(5008002,.row (.int .i64) false true (4000015,1)),(5008003,.row (.int .i64) false true (4000015,0))],[(1,C7.sg.A),(4000015,Br.sg.R)]⟩
def C7.C (K:Nat):CE:=⟨⟨PP,tys⟩,[(156,some (Br.fx K)),(133,some (Ck.fx K)),(134,some (Cm.fx K))],[],K,[],[],[0],42,[]⟩
def C7.lt (K:Nat):LT C7.sg.R.D:=.two .t (.two .t (.two (.two .t (.one (.loop C7.l1.M (fun n c p=>C7.l1 K c.2 c.1.2.1 n p.1 p.2.1 p.2.2.1 p.2.2.2) (fun nl1=>.t)))) .t))
theorem C7.ct (K:Nat):CtX PP 103 C7.sg (fun x=>C7 K x.1 x.2.1 x.2.2.1 x.2.2.2):=ct_x (C:=C7.C K) (fn:=Tryz.f103) (c:=Tryz.f103.body.get!) (lt:=(C7.lt K)) fol (by kernel_rfl) (by kernel_rfl) rfl (fun x=>(by kernel_rfl)) (ok_two ok_t (ok_two ok_t (ok_two (ok_two ok_t (ok_block (ok_loop (fun c p=>(by kernel_rfl)) (fun nl1=>⟨fun c p=>(by kernel_rfl),ok_t⟩)))) ok_t))) (fun x=>(by kernel_rfl))
def C7.fx (K:Nat):FX PP:=⟨103,C7.sg,_,C7.ct K⟩
def Cx.l1.M:Tm:=⟨[(2,.c (.bx 5010000 0)),(4,.c (.bx 5010001 0)),(5,.c (.bx 5010002 0)),(18,.c (.p (.sl (.sl (.int .i64))) true (1,3))),(19,.c (.p (.int .i64) false (12,0))),(20,.c (.p (.int .i64) false (13,0)))],[(5010000,.box [.p (.int .i64) true (1,0),.p (.sl (.sl (.int .i64))) true (1,1)]),(5010001,.box [.p .str false (10,0),.p (.int .i64) false (11,0)]),(5010002,.box [.vf 5010003,.p (.int .i64) false (15,0)]),(5010003,.row (.int .u8) false false (14,0))],[(1,Cx.sg.A)]⟩
def Cx.C (K:Nat):CE:=⟨⟨PP,tys⟩,[(133,some (Ck.fx K)),(158,some (D1.fx K)),(103,some (C7.fx K)),(82,some (C6.fx K))],[],K,[],[(2,[.nilB 11 0 7500200 false])],[],39,[]⟩
def Cx.lt (K:Nat):LT Cx.sg.R.D:=.two .t (.two .t (.two .t (.two (.two .t (.one (.loop Cx.l1.M (fun n c p=>Cx.l1 K c.1 c.2 n p.1 p.2.1 p.2.2.1 p.2.2.2.1 p.2.2.2.2.1 p.2.2.2.2.2) (fun nl1=>.t)))) .t)))
theorem Cx.ct (K:Nat):CtX PP 111 Cx.sg (fun x=>Cx K x.1 x.2):=ct_x (C:=Cx.C K) (fn:=Tryz.f111) (c:=Tryz.f111.body.get!) (lt:=(Cx.lt K)) fol (by kernel_rfl) (by kernel_rfl) rfl (fun x=>(by kernel_rfl)) (ok_two ok_t (ok_two ok_t (ok_two ok_t (ok_two (ok_two ok_t (ok_block (ok_loop (fun c p=>(by kernel_rfl)) (fun nl1=>⟨fun c p=>(by kernel_rfl),ok_t⟩)))) ok_t)))) (fun x=>(by kernel_rfl))
def Cx.fx (K:Nat):FX PP:=⟨111,Cx.sg,_,Cx.ct K⟩
def De.j1.M:Tm:=⟨[(0,.c (.p (.sl Ba) true (1,0))),(1,.c (.p (.int .i64) true (1,1))),(5,.c (.bx 5012000 0)),(6,.c (.bx 5012001 0)),(8,.c (.bx 5012002 0))],[(5012000,.box [.p (.int .i64) true (1,2),.p (.sl (.sl (.int .i64))) true (1,3)]),(5012001,.box [.p (.int .i64) false (10,0),.p (.int .i64) false (11,0),.p .str false (12,0),.p (.int .i64) false (13,0)]),(5012002,.box [.p (.int .i64) false (14,0),.p (.int .i64) false (15,0),.p .str true (4000024,0),.p (.int .i64) true (4000024,1)])],[(1,De.sg.A),(4000024,D0.sg.R)]⟩
def De.C (K:Nat):CE:=⟨⟨PP,tys⟩,[(121,some (C5.fx K)),(80,some (C0.fx K)),(112,some (D0.fx K)),(122,some (Dl.fx K)),(123,some (D4.fx K)),(111,some (Cx.fx K))],[],K,[],[],[],84,[]⟩
def De.lt (K:Nat):LT De.sg.R.D:=.two .t (.two .t (.two .t (.join De.j1.M (fun c p=>De.j1 K c.2 c.1.1 c.1.2.1 c.1.2.2 p.1 p.2.1 p.2.2.1 p.2.2.2.1 p.2.2.2.2.1 p.2.2.2.2.2) .t .t)))
theorem De.ct (K:Nat):CtX PP 61 De.sg (fun x=>De K x.1 x.2.1 x.2.2):=ct_x (C:=De.C K) (fn:=Tryz.f61) (c:=Tryz.f61.body.get!) (lt:=(De.lt K)) fol (by kernel_rfl) (by kernel_rfl) rfl (fun x=>(by kernel_rfl)) (ok_two ok_t (ok_two ok_t (ok_two ok_t (ok_join ok_t (fun c p=>(by kernel_rfl)) ok_t)))) (fun x=>(by kernel_rfl))
def De.fx (K:Nat):FX PP:=⟨61,De.sg,_,De.ct K⟩
def Cr.C (K:Nat):CE:=⟨⟨PP,tys⟩,[],[],K,[],[],[],4,[]⟩
theorem Cr.ct (K:Nat):CtX PP 54 Cr.sg (fun x=>Cr K x):=ct_x (C:=Cr.C K) (fn:=Tryz.f54) (c:=Tryz.f54.body.get!) (lt:=.t) fol (by kernel_rfl) (by kernel_rfl) rfl (fun x=>(by kernel_rfl)) (ok_t) (fun x=>(by kernel_rfl))
def Cr.fx (K:Nat):FX PP:=⟨54,Cr.sg,_,Cr.ct K⟩
def Bz.l1.M:Tm:=⟨[(0,.c (.p (.sl Ba) true (1,0))),(4,.c (.vf 5016000)),(12,.c (.p (.sl Ba) true (1,0))),(13,.c (.p (.int .i64) false (10,0))),(14,.c (.p (.int .i64) false (11,0)))],[(5016000,.row A5 false false (12,0))],[(1,Bz.sg.A)]⟩
def Bz.C (K:Nat):CE:=⟨⟨PP,tys⟩,[(121,some (C5.fx K)),(122,some (Dl.fx K))],[],K,[],[(10,[.frz 4022001])],[],34,[]⟩
def Bz.lt (K:Nat):LT Bz.sg.R.D:=.two .t (.two .t (.two .t (.two (.two .t (.one (.loop Bz.l1.M (fun n c p=>Bz.l1 K c n p.1 p.2.1 p.2.2) (fun nl1=>.t)))) .t)))
theorem Bz.ct (K:Nat):CtX PP 116 Bz.sg (fun x=>Bz K x):=ct_x (C:=Bz.C K) (fn:=Tryz.f116) (c:=Tryz.f116.body.get!) (lt:=(Bz.lt K)) fol (by kernel_rfl) (by kernel_rfl) rfl (fun x=>(by kernel_rfl)) (ok_two ok_t (ok_two ok_t (ok_two ok_t (ok_two (ok_two ok_t (ok_block (ok_loop (fun c p=>(by kernel_rfl)) (fun nl1=>⟨fun c p=>(by kernel_rfl),ok_t⟩)))) ok_t)))) (fun x=>(by kernel_rfl))
def Bz.fx (K:Nat):FX PP:=⟨116,Bz.sg,_,Bz.ct K⟩
def B8.l1.M:Tm:=⟨[(0,.c (.p (.sl Ba) true (1,0))),(1,.c (.p (.int .i64) true (1,1))),(2,.c (.p (.int .i64) true (1,2))),(10,.c (.vf 5026000)),(29,.c (.vf 5026001)),(30,.c (.p (.int .i64) false (10,0))),(31,.c (.p (.int .i64) false (11,0)))],[(5026000,.row (.int .i64) false false (13,0)),(5026001,.row A5 false true (4000023,0))],[(1,B8.sg.A),(4000023,Bz.sg.R)]⟩
def B8.j2.M:Tm:=⟨[(0,.c (.p (.sl Ba) true (1,0))),(1,.c (.p (.int .i64) true (1,1))),(2,.c (.p (.int .i64) true (1,2))),(10,.c (.vf 5037000)),(11,.c (.p (.int .i64) true (11,0))),(29,.c (.vf 5037001)),(30,.c (.p (.int .i64) true (10,0))),(31,.c (.p (.int .i64) true (11,0))),(47,.c (.p .bool false (12,0)))],[(5037000,.row (.int .i64) false true (13,0)),(5037001,.row A5 false true (4000023,0))],[(1,B8.sg.A),(10,(.int .i64)),(11,(.int .i64)),(13,(.sl (.int .i64))),(4000023,Bz.sg.R)]⟩
def B8.C (K:Nat):CE:=⟨⟨PP,tys⟩,[(101,some (Ds.fx K)),(116,some (Bz.fx K)),(118,some (Ea.fx K)),(119,some (B4.fx K))],[],K,[],[],[],58,[]⟩
def B8.lt (K:Nat):LT B8.sg.R.D:=.two .t (.two .t (.two .t (.two .t (.two .t (.two (.two .t (.one (.loop B8.l1.M (fun n c p=>B8.l1 K c.2 c.1.1 c.1.2.1 c.1.2.2 n p.1 p.2.1 p.2.2) (fun nl1=>.two .t (.two .t (.two (.one (.two .t (.join B8.j2.M (fun c p=>B8.j2 K (B8.l1 K c.2.2.2.2 c.1.1 c.1.2.1 c.1.2.2 nl1) c.2.2.2.1 c.2.2.2.2 c.2.1 c.2.2.1 c.1.1 c.1.2.1 c.1.2.2 p) .t .t))) .t)))))) .t)))))
theorem B8.ct (K:Nat):CtX PP 55 B8.sg (fun x=>B8 K x.1 x.2.1 x.2.2):=ct_x (C:=B8.C K) (fn:=Tryz.f55) (c:=Tryz.f55.body.get!) (lt:=(B8.lt K)) fol (by kernel_rfl) (by kernel_rfl) rfl (fun x=>(by kernel_rfl)) (ok_two ok_t (ok_two ok_t (ok_two ok_t (ok_two ok_t (ok_two ok_t (ok_two (ok_two ok_t (ok_block (ok_loop (fun c p=>(by kernel_rfl)) (fun nl1=>⟨fun c p=>(by kernel_rfl),ok_two ok_t (ok_two ok_t (ok_two (ok_block (ok_two ok_t (ok_join ok_t (fun c p=>(by kernel_rfl)) ok_t))) ok_t))⟩)))) ok_t)))))) (fun x=>(by kernel_rfl))
def B8.fx (K:Nat):FX PP:=⟨55,B8.sg,_,B8.ct K⟩
def Ci.C (K:Nat):CE:=⟨⟨PP,tys⟩,[],[],K,[],[],[],12,[]⟩
theorem Ci.ct (K:Nat):CtX PP 83 Ci.sg (fun x=>Ci K x.1 x.2):=ct_x (C:=Ci.C K) (fn:=Tryz.f83) (c:=Tryz.f83.body.get!) (lt:=.t) fol (by kernel_rfl) (by kernel_rfl) rfl (fun x=>(by kernel_rfl)) (ok_t) (fun x=>(by kernel_rfl))
def Ci.fx (K:Nat):FX PP:=⟨83,Ci.sg,_,Ci.ct K⟩
def Bv.l1.M:Tm:=⟨[(0,.c (.p (.sl (.int .i64)) true (1,0))),(1,.c (.p (.int .i64) true (1,1))),(5,.c (.p (.int .i64) false (10,0)))],[],[(1,Bv.sg.A)]⟩
def Bv.C (K:Nat):CE:=⟨⟨PP,tys⟩,[],[],K,[],[],[],19,[]⟩
def Bv.lt (K:Nat):LT Bv.sg.R.D:=.two .t (.two (.two .t (.one (.loop Bv.l1.M (fun n c p=>Bv.l1 K c.1 c.2 n p) (fun nl1=>.t)))) .t)
theorem Bv.ct (K:Nat):CtX PP 130 Bv.sg (fun x=>Bv K x.1 x.2):=ct_x (C:=Bv.C K) (fn:=Tryz.f130) (c:=Tryz.f130.body.get!) (lt:=(Bv.lt K)) fol (by kernel_rfl) (by kernel_rfl) rfl (fun x=>(by kernel_rfl)) (ok_two ok_t (ok_two (ok_two ok_t (ok_block (ok_loop (fun c p=>(by kernel_rfl)) (fun nl1=>⟨fun c p=>(by kernel_rfl),ok_t⟩)))) ok_t)) (fun x=>(by kernel_rfl))
def Bv.fx (K:Nat):FX PP:=⟨130,Bv.sg,_,Bv.ct K⟩
def Dj.C (K:Nat):CE:=⟨⟨PP,tys⟩,[(83,some (Ci.fx K)),(130,some (Bv.fx K))],[],K,[],[],[],22,[]⟩
theorem Dj.ct (K:Nat):CtX PP 76 Dj.sg (fun x=>Dj K x.1 x.2.1 x.2.2):=ct_x (C:=Dj.C K) (fn:=Tryz.f76) (c:=Tryz.f76.body.get!) (lt:=.t) fol (by kernel_rfl) (by kernel_rfl) rfl (fun x=>(by kernel_rfl)) (ok_t) (fun x=>(by kernel_rfl))
def Dj.fx (K:Nat):FX PP:=⟨76,Dj.sg,_,Dj.ct K⟩
def Az.l1.M:Tm:=⟨[(0,.c (.p (.sl (.int .i64)) true (1,0))),(1,.c (.p (.sl (.int .i64)) true (1,1))),(5,.c (.p (.int .i64) false (10,0)))],[],[(1,Az.sg.A)]⟩
def Az.C (K:Nat):CE:=⟨⟨PP,tys⟩,[],[],K,[],[],[],26,[]⟩
def Az.lt (K:Nat):LT Az.sg.R.D:=.two .t (.two .t (.two (.two .t (.one (.loop Az.l1.M (fun n c p=>Az.l1 K c.1 c.2 n p) (fun nl1=>.t)))) .t))
theorem Az.ct (K:Nat):CtX PP 20 Az.sg (fun x=>Az K x.1 x.2):=ct_x (C:=Az.C K) (fn:=Tryz.f20) (c:=Tryz.f20.body.get!) (lt:=(Az.lt K)) fol (by kernel_rfl) (by kernel_rfl) rfl (fun x=>(by kernel_rfl)) (ok_two ok_t (ok_two ok_t (ok_two (ok_two ok_t (ok_block (ok_loop (fun c p=>(by kernel_rfl)) (fun nl1=>⟨fun c p=>(by kernel_rfl),ok_t⟩)))) ok_t))) (fun x=>(by kernel_rfl))
def Az.fx (K:Nat):FX PP:=⟨20,Az.sg,_,Az.ct K⟩
def B9.l1.M:Tm:=⟨[(0,.c (.p (.sl Ba) true (1,0))),(4,.c (.p (.sl A5) false (18,0))),(6,.c (.vf 5018000)),(22,.c (.p (.sl A5) true (4000016,0))),(23,.c (.p (.int .i64) false (10,0))),(24,.c (.p (.int .i64) false (11,0)))],[(5018000,.row (.int .i64) false false (19,0))],[(1,B9.sg.A),(4000016,Bz.sg.R)]⟩
def B9.l2.M:Tm:=⟨[(0,.c (.p (.sl Ba) true (1,0))),(4,.c (.p (.sl A5) false (20,0))),(6,.c (.vf 5035000)),(8,.c (.bx 5035001 0)),(9,.c (.p (.int .i64) false (14,0))),(10,.c (.p (.int .i64) false (21,0))),(22,.c (.p (.sl A5) true (4000016,0))),(23,.c (.p (.int .i64) true (10,0))),(24,.c (.p (.int .i64) true (11,0))),(34,.c (.p (.sl A5) false (15,0))),(35,.c (.p (.int .i64) false (16,0))),(36,.c (.p (.int .i64) false (17,0)))],[(5035000,.row (.int .i64) false false (22,0)),(5035001,.box [.p (.int .i64) false (12,0),.p (.sl (.sl (.int .i64))) false (13,0)])],[(1,B9.sg.A),(10,(.int .i64)),(11,(.int .i64)),(4000016,Bz.sg.R)]⟩
def B9.C (K:Nat):CE:=⟨⟨PP,tys⟩,[(116,some (Bz.fx K)),(112,some (D0.fx K)),(111,some (Cx.fx K))],[],K,[],[],[],61,[]⟩
def B9.lt (K:Nat):LT B9.sg.R.D:=.two .t (.two .t (.two .t (.two .t (.two (.two .t (.one (.loop B9.l1.M (fun n c p=>B9.l1 K c.2 c.1 n p.1 p.2.1 p.2.2.1 p.2.2.2) (fun nl1=>.two .t (.two .t (.two (.one (.two .t (.two .t (.two (.two .t (.one (.loop B9.l2.M (fun n c p=>B9.l2 K (B9.l1 K c.2.2.2 c.1 nl1) c.2.2.2 c.2.1 c.2.2.1 c.1 n p.1 p.2.1 p.2.2.1 p.2.2.2.1 p.2.2.2.2.1 p.2.2.2.2.2.1 p.2.2.2.2.2.2.1 p.2.2.2.2.2.2.2.1 p.2.2.2.2.2.2.2.2) (fun nl2=>.t)))) .t)))) .t)))))) .t))))
theorem B9.ct (K:Nat):CtX PP 77 B9.sg (fun x=>B9 K x):=ct_x (C:=B9.C K) (fn:=Tryz.f77) (c:=Tryz.f77.body.get!) (lt:=(B9.lt K)) fol (by kernel_rfl) (by kernel_rfl) rfl (fun x=>(by kernel_rfl)) (ok_two ok_t (ok_two ok_t (ok_two ok_t (ok_two ok_t (ok_two (ok_two ok_t (ok_block (ok_loop (fun c p=>(by kernel_rfl)) (fun nl1=>⟨fun c p=>(by kernel_rfl),ok_two ok_t (ok_two ok_t (ok_two (ok_block (ok_two ok_t (ok_two ok_t (ok_two (ok_two ok_t (ok_block (ok_loop (fun c p=>(by kernel_rfl)) (fun nl2=>⟨fun c p=>(by kernel_rfl),ok_t⟩)))) ok_t)))) ok_t))⟩)))) ok_t))))) (fun x=>(by kernel_rfl))
def B9.fx (K:Nat):FX PP:=⟨77,B9.sg,_,B9.ct K⟩
def Aw.l1.M:Tm:=⟨[(0,.c (.p (.int .i64) false (11,0))),(3,.c (.p (.int .i64) false (10,0)))],[],[]⟩
def Aw.C (K:Nat):CE:=⟨⟨PP,tys⟩,[],[],K,[],[],[],11,[]⟩
def Aw.lt (K:Nat):LT Aw.sg.R.D:=.two .t (.two .t (.two (.one (.loop Aw.l1.M (fun n c p=>Aw.l1 K n p.1 p.2) (fun nl1=>.t))) .t))
theorem Aw.ct (K:Nat):CtX PP 136 Aw.sg (fun x=>Aw K x):=ct_x (C:=Aw.C K) (fn:=Tryz.f136) (c:=Tryz.f136.body.get!) (lt:=(Aw.lt K)) fol (by kernel_rfl) (by kernel_rfl) rfl (fun x=>(by kernel_rfl)) (ok_two ok_t (ok_two ok_t (ok_two (ok_block (ok_loop (fun c p=>(by kernel_rfl)) (fun nl1=>⟨fun c p=>(by kernel_rfl),ok_t⟩))) ok_t))) (fun x=>(by kernel_rfl))
def Aw.fx (K:Nat):FX PP:=⟨136,Aw.sg,_,Aw.ct K⟩
def Ak.l1.M:Tm:=⟨[(0,.c (.vf 5006000)),(1,.c (.p (.int .i64) true (1,1))),(7,.c (.p (.int .i64) false (10,0)))],[(5006000,.row (.int .u8) false false (11,0))],[(1,Ak.sg.A)]⟩
def Ak.C (K:Nat):CE:=⟨⟨PP,tys⟩,[],[],K,[],[],[],23,[]⟩
def Ak.lt (K:Nat):LT Ak.sg.R.D:=.two .t (.two (.two .t (.one (.loop Ak.l1.M (fun n c p=>Ak.l1 K c.2.1 n p.1 p.2) (fun nl1=>.t)))) .t)
theorem Ak.ct (K:Nat):CtX PP 135 Ak.sg (fun x=>Ak K x.1 x.2.1 x.2.2):=ct_x (C:=Ak.C K) (fn:=Tryz.f135) (c:=Tryz.f135.body.get!) (lt:=(Ak.lt K)) fol (by kernel_rfl) (by kernel_rfl) rfl (fun x=>(by kernel_rfl)) (ok_two ok_t (ok_two (ok_two ok_t (ok_block (ok_loop (fun c p=>(by kernel_rfl)) (fun nl1=>⟨fun c p=>(by kernel_rfl),ok_t⟩)))) ok_t)) (fun x=>(by kernel_rfl))
def Ak.fx (K:Nat):FX PP:=⟨135,Ak.sg,_,Ak.ct K⟩
def Ag.l1.M:Tm:=⟨[(0,.c (.vf 5013000)),(2,.c (.p (.int .i64) true (1,2))),(7,.c (.p (.int .i64) false (10,0)))],[(5013000,.row (.int .u8) false false (12,0))],[(1,Ag.sg.A)]⟩
def Ag.j2.M:Tm:=⟨[(0,.c (.vf 5042000)),(2,.c (.p (.int .i64) true (1,2))),(8,.c (.p (.int .i64) false (11,0)))],[(5042000,.row (.int .u8) false true (1,0))],[(1,Ag.sg.A)]⟩
def Ag.C (K:Nat) (ih:CtX PP 85 Ag.sg (fun x=>Ag K x.1 x.2.1 x.2.2)):CE:=⟨⟨PP,tys⟩,[(136,some (Aw.fx K)),(135,some (Ak.fx K)),(85,some ⟨85,Ag.sg,_,ih⟩)],[],K,[],[],[],103,[]⟩
def Ag.lt (K:Nat):LT Ag.sg.R.D:=.two .t (.two (.two .t (.one (.two .t (.two (.two (.two .t (.one (.loop Ag.l1.M (fun n c p=>Ag.l1 K (Ag K) c.2.2 n p.1 p.2) (fun nl1=>.t)))) .t) .t)))) (.two .t (.join Ag.j2.M (fun c p=>Ag.j2 K (Ag K) c.1 c.2.2 p) .t .t)))
theorem Ag.ct:∀ K:Nat,CtX PP 85 Ag.sg (fun x=>Ag K x.1 x.2.1 x.2.2)
 | 0=>fun v x r h=>by cases h
 | K+1=>ct_x (C:=Ag.C K (Ag.ct K)) (fn:=Tryz.f85) (c:=Tryz.f85.body.get!) (lt:=(Ag.lt K)) fol (by kernel_rfl) (by kernel_rfl) rfl (fun x=>(by kernel_rfl)) (ok_two ok_t (ok_two (ok_two ok_t (ok_block (ok_two ok_t (ok_cond (ok_two (ok_two ok_t (ok_block (ok_loop (fun c p=>(by kernel_rfl)) (fun nl1=>⟨fun c p=>(by kernel_rfl),ok_t⟩)))) ok_t) ok_t)))) (ok_two ok_t (ok_join ok_t (fun c p=>(by kernel_rfl)) ok_t)))) (fun x=>(by kernel_rfl))
def Ag.fx (K:Nat):FX PP:=⟨85,Ag.sg,_,Ag.ct K⟩
def As.l1.M:Tm:=⟨[(0,.c (.p (.sl (.int .i64)) true (1,0))),(4,.c (.vf 5010000)),(5,.c (.vf 5010001)),(6,.c (.p (.int .i64) false (10,0)))],[(5010000,.row Cp false false (12,0)),(5010001,.row (.int .i64) false false (13,0))],[(1,As.sg.A)]⟩
def As.l2.M:Tm:=⟨[(0,.c (.p (.sl (.int .i64)) true (1,0))),(4,.c (.vf 5022000)),(5,.c (.vf 5022001)),(6,.c (.p (.int .i64) true (10,0))),(7,.c (.p (.int .i64) false (11,0)))],[(5022000,.row Cp false false (14,0)),(5022001,.row (.int .i64) false false (15,0))],[(1,As.sg.A),(10,(.int .i64))]⟩
def As.C (K:Nat):CE:=⟨⟨PP,tys⟩,[],[],K,[],[],[],57,[]⟩
def As.lt (K:Nat):LT As.sg.R.D:=.two .t (.two .t (.two .t (.two (.two .t (.one (.loop As.l1.M (fun n c p=>As.l1 K c n p.1 p.2.1 p.2.2) (fun nl1=>.two .t (.one (.two .t (.two (.one (.loop As.l2.M (fun n c p=>As.l2 K (As.l1 K c.1 nl1) c.2 c.1 n p.1 p.2.1 p.2.2) (fun nl2=>.t))) .t))))))) .t)))
theorem As.ct (K:Nat):CtX PP 137 As.sg (fun x=>As K x):=ct_x (C:=As.C K) (fn:=Tryz.f137) (c:=Tryz.f137.body.get!) (lt:=(As.lt K)) fol (by kernel_rfl) (by kernel_rfl) rfl (fun x=>(by kernel_rfl)) (ok_two ok_t (ok_two ok_t (ok_two ok_t (ok_two (ok_two ok_t (ok_block (ok_loop (fun c p=>(by kernel_rfl)) (fun nl1=>⟨fun c p=>(by kernel_rfl),ok_two ok_t (ok_block (ok_two ok_t (ok_two (ok_block (ok_loop (fun c p=>(by kernel_rfl)) (fun nl2=>⟨fun c p=>(by kernel_rfl),ok_t⟩))) ok_t)))⟩)))) ok_t)))) (fun x=>(by kernel_rfl))
def As.fx (K:Nat):FX PP:=⟨137,As.sg,_,As.ct K⟩
def Cs.C (K:Nat):CE:=⟨⟨PP,tys⟩,[],[],K,[],[],[],10,[]⟩
theorem Cs.ct (K:Nat):CtX PP 138 Cs.sg (fun x=>Cs K x):=ct_x (C:=Cs.C K) (fn:=Tryz.f138) (c:=Tryz.f138.body.get!) (lt:=.t) fol (by kernel_rfl) (by kernel_rfl) rfl (fun x=>(by kernel_rfl)) (ok_t) (fun x=>(by kernel_rfl))
def Cs.fx (K:Nat):FX PP:=⟨138,Cs.sg,_,Cs.ct K⟩
def Bk.l1.M:Tm:=⟨[(0,.c (.vf 5008000)),(1,.c (.p (.int .i64) true (1,1))),(2,.c (.p (.sl (.int .i64)) true (1,2))),(7,.c (.p (.int .i64) false (10,0)))],[(5008000,.row (.int .u8) false false (11,0))],[(1,Bk.sg.A)]⟩
def Bk.C (K:Nat):CE:=⟨⟨PP,tys⟩,[(85,some (Ag.fx K)),(138,some (Cs.fx K))],[],K,[],[],[],43,[]⟩
def Bk.lt (K:Nat):LT Bk.sg.R.D:=.two .t (.two .t (.two (.two .t (.one (.loop Bk.l1.M (fun n c p=>Bk.l1 K c.2.1 c.2.2 n p.1 p.2) (fun nl1=>.t)))) .t))
theorem Bk.ct (K:Nat):CtX PP 139 Bk.sg (fun x=>Bk K x.1 x.2.1 x.2.2):=ct_x (C:=Bk.C K) (fn:=Tryz.f139) (c:=Tryz.f139.body.get!) (lt:=(Bk.lt K)) fol (by kernel_rfl) (by kernel_rfl) rfl (fun x=>(by kernel_rfl)) (ok_two ok_t (ok_two ok_t (ok_two (ok_two ok_t (ok_block (ok_loop (fun c p=>(by kernel_rfl)) (fun nl1=>⟨fun c p=>(by kernel_rfl),ok_t⟩)))) ok_t))) (fun x=>(by kernel_rfl))
def Bk.fx (K:Nat):FX PP:=⟨139,Bk.sg,_,Bk.ct K⟩
def Au.l1.M:Tm:=⟨[(0,.c (.vf 5010000)),(1,.c (.p (.int .i64) true (1,1))),(7,.c (.vf 5010001)),(8,.c (.vf 5010002)),(9,.c (.p (.int .i64) false (10,0)))],[(5010000,.row (.int .u8) false false (12,0)),(5010001,.row Cp false true (4000012,0)),(5010002,.row (.int .i64) false true (4000012,1))],[(1,Au.sg.A),(4000012,As.sg.R)]⟩
def Au.j2.M:Tm:=⟨[(0,.c (.vf 5019000)),(1,.c (.p (.int .i64) true (1,1))),(7,.c (.vf 5019001)),(8,.c (.vf 5019002)),(9,.c (.p (.int .i64) true (10,0)))],[(5019000,.row (.int .u8) false false (11,0)),(5019001,.row Cp false true (4000012,0)),(5019002,.row (.int .i64) false true (4000012,1))],[(1,Au.sg.A),(10,(.int .i64)),(4000012,As.sg.R)]⟩
def Au.C (K:Nat):CE:=⟨⟨PP,tys⟩,[(137,some (As.fx K)),(85,some (Ag.fx K)),(138,some (Cs.fx K)),(139,some (Bk.fx K))],[],K,[],[],[],72,[]⟩
def Au.lt (K:Nat):LT Au.sg.R.D:=.two .t (.two .t (.two .t (.two (.two .t (.one (.loop Au.l1.M (fun n c p=>Au.l1 K c.2 c.1.2.1 n p.1 p.2) (fun nl1=>.two .t (.two (.one (.join Au.j2.M (fun c p=>Au.j2 K (Au.l1 K c.2.2 c.1.2.1 nl1) c.2.2 c.2.1 c.1.2.1 p) .t .t)) .t))))) .t)))
theorem Au.ct (K:Nat):CtX PP 86 Au.sg (fun x=>Au K x.1 x.2.1 x.2.2):=ct_x (C:=Au.C K) (fn:=Tryz.f86) (c:=Tryz.f86.body.get!) (lt:=(Au.lt K)) fol (by kernel_rfl) (by kernel_rfl) rfl (fun x=>(by kernel_rfl)) (ok_two ok_t (ok_two ok_t (ok_two ok_t (ok_two (ok_two ok_t (ok_block (ok_loop (fun c p=>(by kernel_rfl)) (fun nl1=>⟨fun c p=>(by kernel_rfl),ok_two ok_t (ok_two (ok_block (ok_join ok_t (fun c p=>(by kernel_rfl)) ok_t)) ok_t)⟩)))) ok_t)))) (fun x=>(by kernel_rfl))
def Au.fx (K:Nat):FX PP:=⟨86,Au.sg,_,Au.ct K⟩
def Al.l1.M:Tm:=⟨[(0,.c (.vf 5013000)),(2,.c (.p (.int .i64) true (1,2))),(7,.c (.p (.int .i64) false (10,0)))],[(5013000,.row (.int .u8) false false (12,0))],[(1,Al.sg.A)]⟩
def Al.j2.M:Tm:=⟨[(0,.c (.nl (.int .u8))),(2,.c (.p (.int .i64) true (1,2))),(8,.c (.p (.int .i64) false (11,0)))],[],[(1,Al.sg.A)]⟩
def Al.C (K:Nat):CE:=⟨⟨PP,tys⟩,[(136,some (Aw.fx K)),(135,some (Ak.fx K)),(85,some (Ag.fx K))],[],K,[],[(9,[.nilS 0 6500000 false]),(11,[.nilS 0 6500000 false]),(16,[.nilS 0 6500000 false])],[],103,[]⟩
def Al.lt (K:Nat):LT Al.sg.R.D:=.two .t (.two (.two .t (.one (.two .t (.two (.two (.two .t (.one (.loop Al.l1.M (fun n c p=>Al.l1 K c.2.2 n p.1 p.2) (fun nl1=>.t)))) .t) .t)))) (.two .t (.join Al.j2.M (fun c p=>Al.j2 K c.2.2 p) .t .t)))
theorem Al.ct (K:Nat):CtX PP 85 Al.sg (fun x=>Al K x.1 x.2.1 x.2.2):=ct_x (C:=Al.C K) (fn:=Tryz.f85) (c:=Tryz.f85.body.get!) (lt:=(Al.lt K)) fol (by kernel_rfl) (by kernel_rfl) rfl (fun x=>(by kernel_rfl)) (ok_two ok_t (ok_two (ok_two ok_t (ok_block (ok_two ok_t (ok_cond (ok_two (ok_two ok_t (ok_block (ok_loop (fun c p=>(by kernel_rfl)) (fun nl1=>⟨fun c p=>(by kernel_rfl),ok_t⟩)))) ok_t) ok_t)))) (ok_two ok_t (ok_join ok_t (fun c p=>(by kernel_rfl)) ok_t)))) (fun x=>(by kernel_rfl))
def Al.fx (K:Nat):FX PP:=⟨85,Al.sg,_,Al.ct K⟩
def Bi.l1.M:Tm:=⟨[(1,.c (.bx 5010000 0)),(4,.c (.vf 5010001)),(5,.c (.vf 5010002)),(6,.c (.p (.int .i64) false (10,0)))],[(5010000,.box [.p (.int .i64) true (1,0),.p (.sl (.sl (.int .i64))) true (1,1)]),(5010001,.row (.int .u8) false false (11,0)),(5010002,.row (.int .i64) false false (12,0))],[(1,Bi.sg.A)]⟩
def Bi.C (K:Nat):CE:=⟨⟨PP,tys⟩,[(85,some (Al.fx K)),(86,some (Au.fx K))],[],K,[],[],[],32,[]⟩
def Bi.lt (K:Nat):LT Bi.sg.R.D:=.two .t (.two .t (.two .t (.two (.two .t (.one (.loop Bi.l1.M (fun n c p=>Bi.l1 K c n p.1 p.2.1 p.2.2) (fun nl1=>.t)))) .t)))
theorem Bi.ct (K:Nat):CtX PP 17 Bi.sg (fun x=>Bi K x):=ct_x (C:=Bi.C K) (fn:=Tryz.f17) (c:=Tryz.f17.body.get!) (lt:=(Bi.lt K)) fol (by kernel_rfl) (by kernel_rfl) rfl (fun x=>(by kernel_rfl)) (ok_two ok_t (ok_two ok_t (ok_two ok_t (ok_two (ok_two ok_t (ok_block (ok_loop (fun c p=>(by kernel_rfl)) (fun nl1=>⟨fun c p=>(by kernel_rfl),ok_t⟩)))) ok_t)))) (fun x=>(by kernel_rfl))
def Bi.fx (K:Nat):FX PP:=⟨17,Bi.sg,_,Bi.ct K⟩
def C1.C (K:Nat):CE:=⟨⟨PP,tys⟩,[],[],K,[],[],[],14,[]⟩
theorem C1.ct (K:Nat):CtX PP 113 C1.sg (fun x=>C1 K x.1 x.2):=ct_x (C:=C1.C K) (fn:=Tryz.f113) (c:=Tryz.f113.body.get!) (lt:=.t) fol (by kernel_rfl) (by kernel_rfl) rfl (fun x=>(by kernel_rfl)) (ok_t) (fun x=>(by kernel_rfl))
def C1.fx (K:Nat):FX PP:=⟨113,C1.sg,_,C1.ct K⟩
def Aq.l1.M:Tm:=⟨[(0,.c (.p (.sl (.int .i64)) true (1,0))),(1,.c (.p (.sl (.int .i64)) true (1,1))),(6,.c (.vf 5010000)),(7,.c (.nl (.int .i64))),(8,.c (.p .bool false (14,0))),(9,.c (.p (.int .i64) false (10,0))),(10,.c (.p (.int .i64) false (11,0)))],[(5010000,.row (.int .i64) false false (13,0))],[(1,Aq.sg.A)]⟩
def Aq.l2.M:Tm:=⟨[(0,.c (.p (.sl (.int .i64)) true (1,0))),(1,.c (.p (.sl (.int .i64)) true (1,1))),(6,.c (.vf 5035000)),(7,.c (.vf 5035001)),(12,.c (.p (.int .i64) false (12,0)))],[(5035000,.row (.int .i64) false false (16,0)),(5035001,.row (.int .i64) false false (15,0))],[(1,Aq.sg.A)]⟩
def Aq.C (K:Nat):CE:=⟨⟨PP,tys⟩,[(130,some (Bv.fx K))],[],K,[],[],[],58,[]⟩
def Aq.lt (K:Nat):LT Aq.sg.R.D:=.two .t (.two .t (.two .t (.two (.two .t (.one (.loop Aq.l1.M (fun n c p=>Aq.l1 K c.1 c.2 n p.1 p.2.1 p.2.2.1 p.2.2.2) (fun nl1=>.t)))) (.two (.two .t (.one (.loop Aq.l2.M (fun n c p=>Aq.l2 K c.1 c.2 n p.1 p.2.1 p.2.2) (fun nl2=>.t)))) .t))))
theorem Aq.ct (K:Nat):CtX PP 106 Aq.sg (fun x=>Aq K x.1 x.2):=ct_x (C:=Aq.C K) (fn:=Tryz.f106) (c:=Tryz.f106.body.get!) (lt:=(Aq.lt K)) fol (by kernel_rfl) (by kernel_rfl) rfl (fun x=>(by kernel_rfl)) (ok_two ok_t (ok_two ok_t (ok_two ok_t (ok_two (ok_two ok_t (ok_block (ok_loop (fun c p=>(by kernel_rfl)) (fun nl1=>⟨fun c p=>(by kernel_rfl),ok_t⟩)))) (ok_two (ok_two ok_t (ok_block (ok_loop (fun c p=>(by kernel_rfl)) (fun nl2=>⟨fun c p=>(by kernel_rfl),ok_t⟩)))) ok_t))))) (fun x=>(by kernel_rfl))
def Aq.fx (K:Nat):FX PP:=⟨106,Aq.sg,_,Aq.ct K⟩
def Bn.l1.M:Tm:=⟨[(0,.c (.vf 5010000)),(1,.c (.p (.int .i64) true (1,1))),(9,.c (.vf 5010001)),(10,.c (.vf 5010002)),(11,.c (.p (.int .i64) false (10,0)))],[(5010000,.row (.int .u8) false false (11,0)),(5010001,.row (.int .i64) false true (4000016,0)),(5010002,.row (.int .i64) false true (4000016,1))],[(1,Bn.sg.A),(4000016,Aq.sg.R)]⟩
def Bn.C (K:Nat):CE:=⟨⟨PP,tys⟩,[(106,some (Aq.fx K)),(85,some (Ag.fx K)),(86,some (Au.fx K))],[],K,[],[],[],45,[]⟩
def Bn.lt (K:Nat):LT Bn.sg.R.D:=.two .t (.two .t (.two .t (.two (.two .t (.one (.loop Bn.l1.M (fun n c p=>Bn.l1 K c.2 c.1.2.1 n p.1 p.2) (fun nl1=>.t)))) .t)))
theorem Bn.ct (K:Nat):CtX PP 36 Bn.sg (fun x=>Bn K x.1 x.2.1 x.2.2.1 x.2.2.2):=ct_x (C:=Bn.C K) (fn:=Tryz.f36) (c:=Tryz.f36.body.get!) (lt:=(Bn.lt K)) fol (by kernel_rfl) (by kernel_rfl) rfl (fun x=>(by kernel_rfl)) (ok_two ok_t (ok_two ok_t (ok_two ok_t (ok_two (ok_two ok_t (ok_block (ok_loop (fun c p=>(by kernel_rfl)) (fun nl1=>⟨fun c p=>(by kernel_rfl),ok_t⟩)))) ok_t)))) (fun x=>(by kernel_rfl))
def Bn.fx (K:Nat):FX PP:=⟨36,Bn.sg,_,Bn.ct K⟩
def Bj.l1.M:Tm:=⟨[(2,.c (.bx 5008000 0)),(3,.c (.bx 5008001 0)),(5,.c (.vf 5008002)),(6,.c (.p (.int .i64) false (10,0)))],[(5008000,.box [.p (.int .i64) true (1,0),.p (.sl (.sl (.int .i64))) true (1,1)]),(5008001,.box [.p (.int .i64) true (1,2),.p (.sl (.sl (.int .i64))) true (1,3)]),(5008002,.row (.int .u8) false false (11,0))],[(1,Bj.sg.A)]⟩
def Bj.C (K:Nat):CE:=⟨⟨PP,tys⟩,[(85,some (Al.fx K)),(113,some (C1.fx K)),(36,some (Bn.fx K))],[],K,[],[],[],29,[]⟩
def Bj.lt (K:Nat):LT Bj.sg.R.D:=.two .t (.two .t (.two (.two .t (.one (.loop Bj.l1.M (fun n c p=>Bj.l1 K c.1 c.2 n p.1 p.2) (fun nl1=>.t)))) .t))
theorem Bj.ct (K:Nat):CtX PP 46 Bj.sg (fun x=>Bj K x.1 x.2):=ct_x (C:=Bj.C K) (fn:=Tryz.f46) (c:=Tryz.f46.body.get!) (lt:=(Bj.lt K)) fol (by kernel_rfl) (by kernel_rfl) rfl (fun x=>(by kernel_rfl)) (ok_two ok_t (ok_two ok_t (ok_two (ok_two ok_t (ok_block (ok_loop (fun c p=>(by kernel_rfl)) (fun nl1=>⟨fun c p=>(by kernel_rfl),ok_t⟩)))) ok_t))) (fun x=>(by kernel_rfl))
def Bj.fx (K:Nat):FX PP:=⟨46,Bj.sg,_,Bj.ct K⟩
def Cj.C (K:Nat):CE:=⟨⟨PP,tys⟩,[(17,some (Bi.fx K)),(46,some (Bj.fx K))],[],K,[],[],[],19,[]⟩
theorem Cj.ct (K:Nat):CtX PP 47 Cj.sg (fun x=>Cj K x.1 x.2):=ct_x (C:=Cj.C K) (fn:=Tryz.f47) (c:=Tryz.f47.body.get!) (lt:=.t) fol (by kernel_rfl) (by kernel_rfl) rfl (fun x=>(by kernel_rfl)) (ok_t) (fun x=>(by kernel_rfl))
def Cj.fx (K:Nat):FX PP:=⟨47,Cj.sg,_,Cj.ct K⟩
def Cy.l1.M:Tm:=⟨[(2,.c (.vf 5006000)),(8,.c (.p (.sl (.sl (.int .i64))) true (1,1))),(9,.c (.p (.int .i64) false (10,0))),(10,.c (.p (.int .i64) false (11,0)))],[(5006000,.row Eg false false (16,0))],[(1,Cy.sg.A)]⟩
def Cy.l2.M:Tm:=⟨[(2,.c (.vf 5020000)),(3,.c (.p (.int .i64) true (11,0))),(8,.c (.p (.sl (.sl (.int .i64))) true (1,1))),(9,.c (.p (.int .i64) true (10,0))),(10,.c (.p (.int .i64) true (11,0))),(15,.c (.p (.sl (.int .i64)) false (12,0))),(16,.c (.p (.int .i64) false (13,0))),(17,.c (.p (.int .i64) false (14,0)))],[(5020000,.row Eg false false (15,0))],[(1,Cy.sg.A),(10,(.int .i64)),(11,(.int .i64))]⟩
def Cy.C (K:Nat):CE:=⟨⟨PP,tys⟩,[],[],K,[],[],[],30,[]⟩
def Cy.lt (K:Nat):LT Cy.sg.R.D:=.two .t (.two (.two .t (.one (.loop Cy.l1.M (fun n c p=>Cy.l1 K c n p.1 p.2.1 p.2.2) (fun nl1=>.two .t (.two .t (.two (.one (.two .t (.two .t (.one (.loop Cy.l2.M (fun n c p=>Cy.l2 K (Cy.l1 K c.1 nl1) c.2.1 c.2.2 c.1 n p.1 p.2.1 p.2.2.1 p.2.2.2) (fun nl2=>.t)))))) .t)))))) .t)
theorem Cy.ct (K:Nat):CtX PP 117 Cy.sg (fun x=>Cy K x):=ct_x (C:=Cy.C K) (fn:=Tryz.f117) (c:=Tryz.f117.body.get!) (lt:=(Cy.lt K)) fol (by kernel_rfl) (by kernel_rfl) rfl (fun x=>(by kernel_rfl)) (ok_two ok_t (ok_two (ok_two ok_t (ok_block (ok_loop (fun c p=>(by kernel_rfl)) (fun nl1=>⟨fun c p=>(by kernel_rfl),ok_two ok_t (ok_two ok_t (ok_two (ok_block (ok_two ok_t (ok_two ok_t (ok_block (ok_loop (fun c p=>(by kernel_rfl)) (fun nl2=>⟨fun c p=>(by kernel_rfl),ok_t⟩)))))) ok_t))⟩)))) ok_t)) (fun x=>(by kernel_rfl))
def Cy.fx (K:Nat):FX PP:=⟨117,Cy.sg,_,Cy.ct K⟩
def Dh.l1.M:Tm:=⟨[(6,.c (.vf 5018000)),(17,.c (.vf 5018001)),(18,.c (.p (.int .i64) false (10,0))),(19,.c (.p (.int .i64) false (11,0)))],[(5018000,.row (.int .i64) false false (12,0)),(5018001,.row A5 false true (4000011,0))],[(4000011,Bz.sg.R)]⟩
def Dh.C (K:Nat):CE:=⟨⟨PP,tys⟩,[(116,some (Bz.fx K)),(117,some (Cy.fx K))],[],K,[],[],[],31,[]⟩
def Dh.lt (K:Nat):LT Dh.sg.R.D:=.two .t (.two .t (.two .t (.two .t (.two (.two .t (.one (.loop Dh.l1.M (fun n c p=>Dh.l1 K c n p.1 p.2.1 p.2.2) (fun nl1=>.t)))) .t))))
theorem Dh.ct (K:Nat):CtX PP 53 Dh.sg (fun x=>Dh K x):=ct_x (C:=Dh.C K) (fn:=Tryz.f53) (c:=Tryz.f53.body.get!) (lt:=(Dh.lt K)) fol (by kernel_rfl) (by kernel_rfl) rfl (fun x=>(by kernel_rfl)) (ok_two ok_t (ok_two ok_t (ok_two ok_t (ok_two ok_t (ok_two (ok_two ok_t (ok_block (ok_loop (fun c p=>(by kernel_rfl)) (fun nl1=>⟨fun c p=>(by kernel_rfl),ok_t⟩)))) ok_t))))) (fun x=>(by kernel_rfl))
def Dh.fx (K:Nat):FX PP:=⟨53,Dh.sg,_,Dh.ct K⟩
def Bw.l1.M:Tm:=⟨[(0,.c (.p (.sl Ba) true (1,0))),(1,.c (.p (.int .i64) true (1,1))),(5,.c (.p (.int .i64) false (10,0)))],[],[(1,Bw.sg.A)]⟩
def Bw.C (K:Nat):CE:=⟨⟨PP,tys⟩,[],[],K,[],[],[],20,[]⟩
def Bw.lt (K:Nat):LT Bw.sg.R.D:=.two .t (.two (.two .t (.one (.loop Bw.l1.M (fun n c p=>Bw.l1 K c.1 c.2 n p) (fun nl1=>.t)))) .t)
theorem Bw.ct (K:Nat):CtX PP 125 Bw.sg (fun x=>Bw K x.1 x.2):=ct_x (C:=Bw.C K) (fn:=Tryz.f125) (c:=Tryz.f125.body.get!) (lt:=(Bw.lt K)) fol (by kernel_rfl) (by kernel_rfl) rfl (fun x=>(by kernel_rfl)) (ok_two ok_t (ok_two (ok_two ok_t (ok_block (ok_loop (fun c p=>(by kernel_rfl)) (fun nl1=>⟨fun c p=>(by kernel_rfl),ok_t⟩)))) ok_t)) (fun x=>(by kernel_rfl))
def Bw.fx (K:Nat):FX PP:=⟨125,Bw.sg,_,Bw.ct K⟩
def Bl.l1.M:Tm:=⟨[(0,.c (.p (.sl Ba) true (1,0))),(1,.c (.p (.int .i64) false (11,0))),(6,.c (.p (.int .i64) false (10,0)))],[],[(1,Bl.sg.A)]⟩
def Bl.C (K:Nat):CE:=⟨⟨PP,tys⟩,[(125,some (Bw.fx K))],[],K,[],[],[],25,[]⟩
def Bl.lt (K:Nat):LT Bl.sg.R.D:=.two .t (.two .t (.two .t (.two (.one (.loop Bl.l1.M (fun n c p=>Bl.l1 K c.1 n p.1 p.2) (fun nl1=>.t))) .t)))
theorem Bl.ct (K:Nat):CtX PP 72 Bl.sg (fun x=>Bl K x.1 x.2):=ct_x (C:=Bl.C K) (fn:=Tryz.f72) (c:=Tryz.f72.body.get!) (lt:=(Bl.lt K)) fol (by kernel_rfl) (by kernel_rfl) rfl (fun x=>(by kernel_rfl)) (ok_two ok_t (ok_two ok_t (ok_two ok_t (ok_two (ok_block (ok_loop (fun c p=>(by kernel_rfl)) (fun nl1=>⟨fun c p=>(by kernel_rfl),ok_t⟩))) ok_t)))) (fun x=>(by kernel_rfl))
def Bl.fx (K:Nat):FX PP:=⟨72,Bl.sg,_,Bl.ct K⟩
def Df.C (K:Nat):CE:=⟨⟨PP,tys⟩,[],[],K,[],[],[],16,[]⟩
theorem Df.ct (K:Nat):CtX PP 91 Df.sg (fun x=>Df K x.1 x.2):=ct_x (C:=Df.C K) (fn:=Tryz.f91) (c:=Tryz.f91.body.get!) (lt:=.t) fol (by kernel_rfl) (by kernel_rfl) rfl (fun x=>(by kernel_rfl)) (ok_t) (fun x=>(by kernel_rfl))
def Df.fx (K:Nat):FX PP:=⟨91,Df.sg,_,Df.ct K⟩
def B6.l1.M:Tm:=⟨[(1,.c (.bx 5008000 0)),(3,.c (.vf 5008001)),(4,.c (.p (.int .i64) false (10,0)))],[(5008000,.box [.p .str true (1,0),.p (.int .i64) true (1,1)]),(5008001,.row (.int .u8) false false (11,0))],[(1,B6.sg.A)]⟩
def B6.C (K:Nat):CE:=⟨⟨PP,tys⟩,[(91,some (Df.fx K))],[],K,[],[],[],19,[]⟩
def B6.lt (K:Nat):LT B6.sg.R.D:=.two .t (.two .t (.two (.two .t (.one (.loop B6.l1.M (fun n c p=>B6.l1 K c n p.1 p.2) (fun nl1=>.t)))) .t))
theorem B6.ct (K:Nat):CtX PP 24 B6.sg (fun x=>B6 K x):=ct_x (C:=B6.C K) (fn:=Tryz.f24) (c:=Tryz.f24.body.get!) (lt:=(B6.lt K)) fol (by kernel_rfl) (by kernel_rfl) rfl (fun x=>(by kernel_rfl)) (ok_two ok_t (ok_two ok_t (ok_two (ok_two ok_t (ok_block (ok_loop (fun c p=>(by kernel_rfl)) (fun nl1=>⟨fun c p=>(by kernel_rfl),ok_t⟩)))) ok_t))) (fun x=>(by kernel_rfl))
def B6.fx (K:Nat):FX PP:=⟨24,B6.sg,_,B6.ct K⟩
def Ay.l1.M:Tm:=⟨[(0,.c (.p (.sl (.int .u8)) true (1,0))),(1,.c (.p (.int .i64) true (1,1))),(5,.c (.p (.int .i64) false (10,0)))],[],[(1,Ay.sg.A)]⟩
def Ay.C (K:Nat):CE:=⟨⟨PP,tys⟩,[],[],K,[],[],[],21,[]⟩
def Ay.lt (K:Nat):LT Ay.sg.R.D:=.two .t (.two (.two .t (.one (.loop Ay.l1.M (fun n c p=>Ay.l1 K c.1 c.2 n p) (fun nl1=>.t)))) .t)
theorem Ay.ct (K:Nat):CtX PP 141 Ay.sg (fun x=>Ay K x.1 x.2):=ct_x (C:=Ay.C K) (fn:=Tryz.f141) (c:=Tryz.f141.body.get!) (lt:=(Ay.lt K)) fol (by kernel_rfl) (by kernel_rfl) rfl (fun x=>(by kernel_rfl)) (ok_two ok_t (ok_two (ok_two ok_t (ok_block (ok_loop (fun c p=>(by kernel_rfl)) (fun nl1=>⟨fun c p=>(by kernel_rfl),ok_t⟩)))) ok_t)) (fun x=>(by kernel_rfl))
def Ay.fx (K:Nat):FX PP:=⟨141,Ay.sg,_,Ay.ct K⟩
def A6.l1.M:Tm:=⟨[(0,.c (.p (.sl (.int .u8)) true (1,0))),(1,.c (.p (.int .i64) true (1,1))),(2,.c (.p (.int .i64) true (1,2))),(7,.c (.p (.int .i64) false (10,0))),(8,.c (.p (.int .i64) false (11,0)))],[],[(1,A6.sg.A)]⟩
def A6.C (K:Nat):CE:=⟨⟨PP,tys⟩,[],[],K,[],[],[],26,[]⟩
def A6.lt (K:Nat):LT A6.sg.R.D:=.two .t (.two .t (.two (.two .t (.one (.loop A6.l1.M (fun n c p=>A6.l1 K c.1 c.2.1 c.2.2 n p.1 p.2) (fun nl1=>.t)))) .t))
theorem A6.ct (K:Nat):CtX PP 142 A6.sg (fun x=>A6 K x.1 x.2.1 x.2.2):=ct_x (C:=A6.C K) (fn:=Tryz.f142) (c:=Tryz.f142.body.get!) (lt:=(A6.lt K)) fol (by kernel_rfl) (by kernel_rfl) rfl (fun x=>(by kernel_rfl)) (ok_two ok_t (ok_two ok_t (ok_two (ok_two ok_t (ok_block (ok_loop (fun c p=>(by kernel_rfl)) (fun nl1=>⟨fun c p=>(by kernel_rfl),ok_t⟩)))) ok_t))) (fun x=>(by kernel_rfl))
def A6.fx (K:Nat):FX PP:=⟨142,A6.sg,_,A6.ct K⟩
def Ch.C (K:Nat):CE:=⟨⟨PP,tys⟩,[],[],K,[],[],[],15,[]⟩
theorem Ch.ct (K:Nat):CtX PP 124 Ch.sg (fun x=>Ch K x.1 x.2.1 x.2.2):=ct_x (C:=Ch.C K) (fn:=Tryz.f124) (c:=Tryz.f124.body.get!) (lt:=.t) fol (by kernel_rfl) (by kernel_rfl) rfl (fun x=>(by kernel_rfl)) (ok_t) (fun x=>(by kernel_rfl))
def Ch.fx (K:Nat):FX PP:=⟨124,Ch.sg,_,Ch.ct K⟩
def Dc.C (K:Nat):CE:=⟨⟨PP,tys⟩,[(124,some (Ch.fx K))],[],K,[],[],[],15,[]⟩
theorem Dc.ct (K:Nat):CtX PP 143 Dc.sg (fun x=>Dc K x.1 x.2):=ct_x (C:=Dc.C K) (fn:=Tryz.f143) (c:=Tryz.f143.body.get!) (lt:=.t) fol (by kernel_rfl) (by kernel_rfl) rfl (fun x=>(by kernel_rfl)) (ok_t) (fun x=>(by kernel_rfl))
def Dc.fx (K:Nat):FX PP:=⟨143,Dc.sg,_,Dc.ct K⟩
def Ad.j1.M:Tm:=⟨[(2,.c (.p (.int .i64) true (1,2))),(9,.c (.p (.int .i64) false (14,0))),(10,.c (.p (.int .i64) false (15,0)))],[],[(1,Ad.sg.A)]⟩
def Ad.j2.M:Tm:=⟨[(0,.c (.p (.sl (.int .u8)) true (1,0))),(2,.c (.p (.int .i64) true (1,2))),(8,.c (.p (.int .i64) true (4000019,0))),(10,.c (.p (.int .i64) false (10,0))),(13,.c (.p (.int .i64) false (11,0)))],[],[(1,Ad.sg.A),(4000019,Ay.sg.R)]⟩
def Ad.j3.M:Tm:=⟨[(2,.c (.p (.int .i64) true (1,2))),(8,.c (.p (.int .i64) true (4000019,0))),(10,.c (.p (.int .i64) false (12,0))),(13,.c (.p (.int .i64) true (11,0))),(16,.c (.p (.int .i64) false (13,0)))],[],[(1,Ad.sg.A),(11,(.int .i64)),(4000019,Ay.sg.R)]⟩
def Ad.C (K:Nat) (ih:CtX PP 92 Ad.sg (fun x=>Ad K x.1 x.2.1 x.2.2)):CE:=⟨⟨PP,tys⟩,[(141,some (Ay.fx K)),(142,some (A6.fx K)),(92,some ⟨92,Ad.sg,_,ih⟩),(136,some (Aw.fx K)),(143,some (Dc.fx K))],[],K,[],[],[],165,[]⟩
def Ad.lt (K:Nat):LT Ad.sg.R.D:=.two .t (.two .t (.two .t (.two .t (.join Ad.j1.M (fun c p=>Ad.j1 K (Ad K) c.2.2 p.1 p.2) (.two .t (.one (.two .t (.two .t (.two .t (.two .t (.two .t (.two .t (.two .t (.join Ad.j2.M (fun c p=>Ad.j2 K (Ad K) c.2 c.1.1 c.1.2.2 p.1 p.2) .t (.two .t (.two .t (.two .t (.two .t (.two .t (.two .t (.join Ad.j3.M (fun c p=>Ad.j3 K (Ad K) c.2.2 c.2.1 c.1.2.2 p.1 p.2) .t .t))))))))))))))))) .t))))
theorem Ad.ct:∀ K:Nat,CtX PP 92 Ad.sg (fun x=>Ad K x.1 x.2.1 x.2.2)
 | 0=>fun v x r h=>by cases h
 | K+1=>ct_x (C:=Ad.C K (Ad.ct K)) (fn:=Tryz.f92) (c:=Tryz.f92.body.get!) (lt:=(Ad.lt K)) fol (by kernel_rfl) (by kernel_rfl) rfl (fun x=>(by kernel_rfl)) (ok_two ok_t (ok_two ok_t (ok_two ok_t (ok_two ok_t (ok_join (ok_two ok_t (ok_block (ok_two ok_t (ok_cond ok_t (ok_two ok_t (ok_cond ok_t (ok_two ok_t (ok_cond ok_t (ok_two ok_t (ok_join ok_t (fun c p=>(by kernel_rfl)) (ok_two ok_t (ok_two ok_t (ok_two ok_t (ok_two ok_t (ok_two ok_t (ok_two ok_t (ok_join ok_t (fun c p=>(by kernel_rfl)) ok_t))))))))))))))))) (fun c p=>(by kernel_rfl)) ok_t))))) (fun x=>(by kernel_rfl))
def Ad.fx (K:Nat):FX PP:=⟨92,Ad.sg,_,Ad.ct K⟩
def Cu.C (K:Nat):CE:=⟨⟨PP,tys⟩,[],[],K,[(1,[2])],[],[],7,[]⟩
theorem Cu.ct (K:Nat):CtX PP 93 Cu.sg (fun x=>Cu K x):=ct_x (C:=Cu.C K) (fn:=Tryz.f93) (c:=Tryz.f93.body.get!) (lt:=.t) fol (by kernel_rfl) (by kernel_rfl) rfl (fun x=>(by kernel_rfl)) (ok_t) (fun x=>(by kernel_rfl))
def Cu.fx (K:Nat):FX PP:=⟨93,Cu.sg,_,Cu.ct K⟩
def Cv.C (K:Nat):CE:=⟨⟨PP,tys⟩,[],[],K,[],[],[],12,[]⟩
theorem Cv.ct (K:Nat):CtX PP 144 Cv.sg (fun x=>Cv K x):=ct_x (C:=Cv.C K) (fn:=Tryz.f144) (c:=Tryz.f144.body.get!) (lt:=.t) fol (by kernel_rfl) (by kernel_rfl) rfl (fun x=>(by kernel_rfl)) (ok_t) (fun x=>(by kernel_rfl))
def Cv.fx (K:Nat):FX PP:=⟨144,Cv.sg,_,Cv.ct K⟩
def Co.C (K:Nat):CE:=⟨⟨PP,tys⟩,[(83,some (Ci.fx K))],[],K,[],[],[],5,[]⟩
theorem Co.ct (K:Nat):CtX PP 35 Co.sg (fun x=>Co K x):=ct_x (C:=Co.C K) (fn:=Tryz.f35) (c:=Tryz.f35.body.get!) (lt:=.t) fol (by kernel_rfl) (by kernel_rfl) rfl (fun x=>(by kernel_rfl)) (ok_t) (fun x=>(by kernel_rfl))
def Co.fx (K:Nat):FX PP:=⟨35,Co.sg,_,Co.ct K⟩
def Bh.l1.M:Tm:=⟨[(0,.c (.p (.sl (.int .i64)) true (1,0))),(3,.c (.p (.int .i64) false (10,0)))],[],[(1,Bh.sg.A)]⟩
def Bh.C (K:Nat):CE:=⟨⟨PP,tys⟩,[(35,some (Co.fx K))],[],K,[],[],[],39,[]⟩
def Bh.lt (K:Nat):LT Bh.sg.R.D:=.two .t (.two (.two .t (.one (.loop Bh.l1.M (fun n c p=>Bh.l1 K c n p) (fun nl1=>.t)))) .t)
theorem Bh.ct (K:Nat):CtX PP 34 Bh.sg (fun x=>Bh K x):=ct_x (C:=Bh.C K) (fn:=Tryz.f34) (c:=Tryz.f34.body.get!) (lt:=(Bh.lt K)) fol (by kernel_rfl) (by kernel_rfl) rfl (fun x=>(by kernel_rfl)) (ok_two ok_t (ok_two (ok_two ok_t (ok_block (ok_loop (fun c p=>(by kernel_rfl)) (fun nl1=>⟨fun c p=>(by kernel_rfl),ok_t⟩)))) ok_t)) (fun x=>(by kernel_rfl))
def Bh.fx (K:Nat):FX PP:=⟨34,Bh.sg,_,Bh.ct K⟩
def A9.l1.M:Tm:=⟨[(0,.c (.p (.sl (.int .u8)) true (1,0))),(1,.c (.p (.int .i64) false (12,0))),(2,.c (.p (.int .i64) true (1,2))),(9,.c (.p (.int .i64) true (4000018,0))),(10,.c (.vf 5020000)),(11,.c (.p (.int .i64) false (10,0))),(12,.c (.p (.int .i64) false (11,0)))],[(5020000,.row (.int .i64) false false (13,0))],[(1,A9.sg.A),(4000018,Ad.sg.R)]⟩
def A9.C (K:Nat):CE:=⟨⟨PP,tys⟩,[(92,some (Ad.fx K)),(144,some (Cv.fx K)),(34,some (Bh.fx K))],[],K,[],[],[],62,[]⟩
def A9.lt (K:Nat):LT A9.sg.R.D:=.two .t (.two .t (.two .t (.two .t (.two .t (.two (.two .t (.one (.loop A9.l1.M (fun n c p=>A9.l1 K c.2 c.1.1 c.1.2.2 n p.1 p.2.1 p.2.2.1 p.2.2.2) (fun nl1=>.t)))) .t)))))
theorem A9.ct (K:Nat):CtX PP 145 A9.sg (fun x=>A9 K x.1 x.2.1 x.2.2):=ct_x (C:=A9.C K) (fn:=Tryz.f145) (c:=Tryz.f145.body.get!) (lt:=(A9.lt K)) fol (by kernel_rfl) (by kernel_rfl) rfl (fun x=>(by kernel_rfl)) (ok_two ok_t (ok_two ok_t (ok_two ok_t (ok_two ok_t (ok_two ok_t (ok_two (ok_two ok_t (ok_block (ok_loop (fun c p=>(by kernel_rfl)) (fun nl1=>⟨fun c p=>(by kernel_rfl),ok_t⟩)))) ok_t)))))) (fun x=>(by kernel_rfl))
def A9.fx (K:Nat):FX PP:=⟨145,A9.sg,_,A9.ct K⟩
def Ai.l1.M:Tm:=⟨[(0,.c (.p (.sl Cp) true (1,0))),(1,.c (.p (.sl (.int .i64)) true (1,1))),(6,.c (.av 5016000)),(7,.c (.p (.int .i64) false (11,0)))],[(5016000,.row .bool false false (10,0))],[(1,Ai.sg.A)]⟩
def Ai.l2.M:Tm:=⟨[(0,.c (.p (.sl Cp) true (1,0))),(1,.c (.p (.sl (.int .i64)) true (1,1))),(6,.c (.av 5038000)),(7,.c (.p (.int .i64) true (11,0))),(8,.c (.bx 5038001 0)),(9,.c (.p (.int .i64) false (14,0)))],[(5038000,.row .bool false false (17,0)),(5038001,.box [.p (.int .i64) false (12,0),.p (.int .i64) false (13,0)])],[(1,Ai.sg.A),(11,(.int .i64))]⟩
def Ai.l3.M:Tm:=⟨[(1,.c (.p (.sl (.int .i64)) true (1,1))),(6,.c (.av 5054000)),(10,.c (.p (.int .i64) false (15,0)))],[(5054000,.row .bool false false (18,0))],[(1,Ai.sg.A)]⟩
def Ai.l4.M:Tm:=⟨[(6,.c (.av 5079000)),(11,.c (.vf 5079001)),(12,.c (.p (.int .i64) false (16,0)))],[(5079000,.row .bool false false (20,0)),(5079001,.row (.int .i64) false false (19,0))],[]⟩
def Ai.C (K:Nat):CE:=⟨⟨PP,tys⟩,[(34,some (Bh.fx K)),(35,some (Co.fx K))],[],K,[],[],[],105,[]⟩
def Ai.lt (K:Nat):LT Ai.sg.R.D:=.two .t (.two .t (.two .t (.two (.two .t (.one (.loop Ai.l1.M (fun n c p=>Ai.l1 K c.1 c.2 n p.1 p.2) (fun nl1=>.two .t (.two (.one (.two .t (.two .t (.two .t (.one (.loop Ai.l2.M (fun n c p=>Ai.l2 K (Ai.l1 K c.1.1 c.1.2 nl1) c.2 c.1.1 c.1.2 n p.1 p.2.1 p.2.2.1 p.2.2.2) (fun nl2=>.t))))))) .t))))) (.two (.two .t (.one (.loop Ai.l3.M (fun n c p=>Ai.l3 K c.2 n p.1 p.2) (fun nl3=>.t)))) (.two .t (.two (.two .t (.one (.loop Ai.l4.M (fun n c p=>Ai.l4 K n p.1 p.2.1 p.2.2) (fun nl4=>.t)))) .t))))))
theorem Ai.ct (K:Nat):CtX PP 146 Ai.sg (fun x=>Ai K x.1 x.2):=ct_x (C:=Ai.C K) (fn:=Tryz.f146) (c:=Tryz.f146.body.get!) (lt:=(Ai.lt K)) fol (by kernel_rfl) (by kernel_rfl) rfl (fun x=>(by kernel_rfl)) (ok_two ok_t (ok_two ok_t (ok_two ok_t (ok_two (ok_two ok_t (ok_block (ok_loop (fun c p=>(by kernel_rfl)) (fun nl1=>⟨fun c p=>(by kernel_rfl),ok_two ok_t (ok_two (ok_block (ok_two ok_t (ok_two ok_t (ok_two ok_t (ok_block (ok_loop (fun c p=>(by kernel_rfl)) (fun nl2=>⟨fun c p=>(by kernel_rfl),ok_t⟩))))))) ok_t)⟩)))) (ok_two (ok_two ok_t (ok_block (ok_loop (fun c p=>(by kernel_rfl)) (fun nl3=>⟨fun c p=>(by kernel_rfl),ok_t⟩)))) (ok_two ok_t (ok_two (ok_two ok_t (ok_block (ok_loop (fun c p=>(by kernel_rfl)) (fun nl4=>⟨fun c p=>(by kernel_rfl),ok_t⟩)))) ok_t))))))) (fun x=>(by kernel_rfl))
def Ai.fx (K:Nat):FX PP:=⟨146,Ai.sg,_,Ai.ct K⟩
def Bu.l1.M:Tm:=⟨[(0,.c (.p (.sl (.int .u8)) true (1,0))),(1,.c (.p (.int .i64) true (1,1))),(2,.c (.p (.sl (.int .u8)) true (1,2))),(7,.c (.p (.int .i64) false (10,0)))],[],[(1,Bu.sg.A)]⟩
def Bu.C (K:Nat):CE:=⟨⟨PP,tys⟩,[],[],K,[],[],[],33,[]⟩
def Bu.lt (K:Nat):LT Bu.sg.R.D:=.two .t (.two (.two .t (.one (.loop Bu.l1.M (fun n c p=>Bu.l1 K c.1 c.2.1 c.2.2 n p) (fun nl1=>.t)))) .t)
theorem Bu.ct (K:Nat):CtX PP 147 Bu.sg (fun x=>Bu K x.1 x.2.1 x.2.2):=ct_x (C:=Bu.C K) (fn:=Tryz.f147) (c:=Tryz.f147.body.get!) (lt:=(Bu.lt K)) fol (by kernel_rfl) (by kernel_rfl) rfl (fun x=>(by kernel_rfl)) (ok_two ok_t (ok_two (ok_two ok_t (ok_block (ok_loop (fun c p=>(by kernel_rfl)) (fun nl1=>⟨fun c p=>(by kernel_rfl),ok_t⟩)))) ok_t)) (fun x=>(by kernel_rfl))
def Bu.fx (K:Nat):FX PP:=⟨147,Bu.sg,_,Bu.ct K⟩
def Ap.l1.M:Tm:=⟨[(0,.c (.vf 5010000)),(1,.c (.p (.int .i64) true (1,1))),(7,.c (.vf 5010001)),(8,.c (.vf 5010002)),(9,.c (.p (.int .i64) false (10,0)))],[(5010000,.row (.int .u8) false false (12,0)),(5010001,.row Cp false true (4000012,0)),(5010002,.row (.int .i64) false true (4000012,1))],[(1,Ap.sg.A),(4000012,As.sg.R)]⟩
def Ap.j2.M:Tm:=⟨[(0,.c (.vf 5019000)),(1,.c (.p (.int .i64) true (1,1))),(7,.c (.vf 5019001)),(8,.c (.vf 5019002)),(9,.c (.p (.int .i64) true (10,0)))],[(5019000,.row (.int .u8) false false (11,0)),(5019001,.row Cp false true (4000012,0)),(5019002,.row (.int .i64) false true (4000012,1))],[(1,Ap.sg.A),(10,(.int .i64)),(4000012,As.sg.R)]⟩
def Ap.C (K:Nat):CE:=⟨⟨PP,tys⟩,[(137,some (As.fx K)),(85,some (Ag.fx K)),(138,some (Cs.fx K)),(139,some (Bk.fx K))],[],K,[],[(2,[.nilS 0 6500000 false])],[],72,[]⟩
def Ap.lt (K:Nat):LT Ap.sg.R.D:=.two .t (.two .t (.two .t (.two (.two .t (.one (.loop Ap.l1.M (fun n c p=>Ap.l1 K c.2 c.1.2.1 n p.1 p.2) (fun nl1=>.two .t (.two (.one (.join Ap.j2.M (fun c p=>Ap.j2 K (Ap.l1 K c.2.2 c.1.2.1 nl1) c.2.2 c.2.1 c.1.2.1 p) .t .t)) .t))))) .t)))
theorem Ap.ct (K:Nat):CtX PP 86 Ap.sg (fun x=>Ap K x.1 x.2.1 x.2.2):=ct_x (C:=Ap.C K) (fn:=Tryz.f86) (c:=Tryz.f86.body.get!) (lt:=(Ap.lt K)) fol (by kernel_rfl) (by kernel_rfl) rfl (fun x=>(by kernel_rfl)) (ok_two ok_t (ok_two ok_t (ok_two ok_t (ok_two (ok_two ok_t (ok_block (ok_loop (fun c p=>(by kernel_rfl)) (fun nl1=>⟨fun c p=>(by kernel_rfl),ok_two ok_t (ok_two (ok_block (ok_join ok_t (fun c p=>(by kernel_rfl)) ok_t)) ok_t)⟩)))) ok_t)))) (fun x=>(by kernel_rfl))
def Ap.fx (K:Nat):FX PP:=⟨86,Ap.sg,_,Ap.ct K⟩
def Am.l1.M:Tm:=⟨[(0,.c (.p (.sl (.int .u8)) true (1,0))),(1,.c (.p (.int .i64) false (14,0))),(2,.c (.p (.int .i64) true (1,2))),(9,.c (.p (.int .i64) true (1,1))),(10,.c (.p (.int .i64) true (4000028,0))),(11,.c (.vf 5022000)),(12,.c (.p (.int .i64) false (10,0))),(13,.c (.p (.int .i64) false (11,0)))],[(5022000,.row Cp false false (15,0))],[(1,Am.sg.A),(4000028,Ad.sg.R)]⟩
def Am.j2.M:Tm:=⟨[(0,.c (.p (.sl (.int .u8)) true (1,0))),(1,.c (.p (.int .i64) true (4000055,1))),(2,.c (.p (.int .i64) true (1,2))),(9,.c (.p (.int .i64) true (1,1))),(10,.c (.p (.int .i64) true (4000028,0))),(11,.c (.vf 5055000)),(13,.c (.p (.int .i64) true (11,0))),(18,.c (.bx 5055001 0))],[(5055000,.row Cp false true (15,0)),(5055001,.box [.p (.int .i64) false (12,0),.p (.int .i64) false (13,0)])],[(1,Am.sg.A),(11,(.int .i64)),(15,(.sl Cp)),(4000028,Ad.sg.R),(4000055,Ad.sg.R)]⟩
def Am.C (K:Nat):CE:=⟨⟨PP,tys⟩,[(92,some (Ad.fx K)),(144,some (Cv.fx K)),(145,some (A9.fx K)),(146,some (Ai.fx K)),(86,some (Ap.fx K)),(147,some (Bu.fx K))],[],K,[],[],[],130,[]⟩
def Am.lt (K:Nat):LT Am.sg.R.D:=.two .t (.two .t (.two .t (.two .t (.two .t (.two .t (.two (.two .t (.one (.loop Am.l1.M (fun n c p=>Am.l1 K c.2 c.1.1 c.1.2.1 c.1.2.2 n p.1 p.2.1 p.2.2.1 p.2.2.2) (fun nl1=>.two .t (.two (.one (.two .t (.two .t (.two .t (.two .t (.two .t (.two .t (.join Am.j2.M (fun c p=>Am.j2 K (Am.l1 K c.2.2.2.1 c.1.1 c.1.2.1 c.1.2.2 nl1) c.2.2.2.1 c.2.2.2.2 c.2.1 c.2.2.1 c.1.1 c.1.2.1 c.1.2.2 p.1 p.2) .t .t)))))))) .t))))) .t))))))
theorem Am.ct (K:Nat):CtX PP 94 Am.sg (fun x=>Am K x.1 x.2.1 x.2.2):=ct_x (C:=Am.C K) (fn:=Tryz.f94) (c:=Tryz.f94.body.get!) (lt:=(Am.lt K)) fol (by kernel_rfl) (by kernel_rfl) rfl (fun x=>(by kernel_rfl)) (ok_two ok_t (ok_two ok_t (ok_two ok_t (ok_two ok_t (ok_two ok_t (ok_two ok_t (ok_two (ok_two ok_t (ok_block (ok_loop (fun c p=>(by kernel_rfl)) (fun nl1=>⟨fun c p=>(by kernel_rfl),ok_two ok_t (ok_two (ok_block (ok_two ok_t (ok_two ok_t (ok_two ok_t (ok_two ok_t (ok_two ok_t (ok_two ok_t (ok_join ok_t (fun c p=>(by kernel_rfl)) ok_t)))))))) ok_t)⟩)))) ok_t))))))) (fun x=>(by kernel_rfl))
def Am.fx (K:Nat):FX PP:=⟨94,Am.sg,_,Am.ct K⟩
def Bq.l1.M:Tm:=⟨[(1,.c (.bx 5008000 0)),(3,.c (.p (.int .i64) false (10,0))),(4,.c (.p (.int .i64) false (11,0)))],[(5008000,.box [.p (.int .i64) true (1,0),.p (.sl (.sl (.int .i64))) true (1,1)])],[(1,Bq.sg.A)]⟩
def Bq.C (K:Nat):CE:=⟨⟨PP,tys⟩,[],[],K,[],[],[],21,[]⟩
def Bq.lt (K:Nat):LT Bq.sg.R.D:=.two .t (.two .t (.two (.two .t (.one (.loop Bq.l1.M (fun n c p=>Bq.l1 K c n p.1 p.2) (fun nl1=>.t)))) .t))
theorem Bq.ct (K:Nat):CtX PP 84 Bq.sg (fun x=>Bq K x):=ct_x (C:=Bq.C K) (fn:=Tryz.f84) (c:=Tryz.f84.body.get!) (lt:=(Bq.lt K)) fol (by kernel_rfl) (by kernel_rfl) rfl (fun x=>(by kernel_rfl)) (ok_two ok_t (ok_two ok_t (ok_two (ok_two ok_t (ok_block (ok_loop (fun c p=>(by kernel_rfl)) (fun nl1=>⟨fun c p=>(by kernel_rfl),ok_t⟩)))) ok_t))) (fun x=>(by kernel_rfl))
def Bq.fx (K:Nat):FX PP:=⟨84,Bq.sg,_,Bq.ct K⟩
def Bm.l1.M:Tm:=⟨[(1,.c (.bx 5014000 0)),(3,.c (.p (.int .i64) false (10,0)))],[(5014000,.box [.p (.int .i64) true (1,0),.p (.sl (.sl (.int .i64))) true (1,1)])],[(1,Bm.sg.A)]⟩
def Bm.C (K:Nat):CE:=⟨⟨PP,tys⟩,[(83,some (Ci.fx K)),(34,some (Bh.fx K)),(84,some (Bq.fx K))],[],K,[],[],[],60,[]⟩
def Bm.lt (K:Nat):LT Bm.sg.R.D:=.two .t (.two .t (.two (.two .t (.one (.loop Bm.l1.M (fun n c p=>Bm.l1 K c n p) (fun nl1=>.t)))) .t))
theorem Bm.ct (K:Nat):CtX PP 16 Bm.sg (fun x=>Bm K x):=ct_x (C:=Bm.C K) (fn:=Tryz.f16) (c:=Tryz.f16.body.get!) (lt:=(Bm.lt K)) fol (by kernel_rfl) (by kernel_rfl) rfl (fun x=>(by kernel_rfl)) (ok_two ok_t (ok_two ok_t (ok_two (ok_two ok_t (ok_block (ok_loop (fun c p=>(by kernel_rfl)) (fun nl1=>⟨fun c p=>(by kernel_rfl),ok_t⟩)))) ok_t))) (fun x=>(by kernel_rfl))
def Bm.fx (K:Nat):FX PP:=⟨16,Bm.sg,_,Bm.ct K⟩
def Bf.l1.M:Tm:=⟨[(0,.c (.p (.sl (.int .u8)) true (1,0))),(2,.c (.bx 5018000 0)),(5,.c (.p (.int .i64) false (12,0))),(6,.c (.bx 5018001 0)),(7,.c (.p (.int .i64) false (11,0)))],[(5018000,.box [.p (.int .i64) false (10,0),.nl (.sl (.int .i64))]),(5018001,.box [.p (.int .i64) true (4000026,0),.vf 5018002]),(5018002,.row (.sl (.int .i64)) true false (13,0))],[(1,Bf.sg.A),(4000026,Cu.sg.R)]⟩
def Bf.C (K:Nat):CE:=⟨⟨PP,tys⟩,[(92,some (Ad.fx K)),(93,some (Cu.fx K)),(94,some (Am.fx K)),(16,some (Bm.fx K))],[],K,[],[],[],61,[]⟩
def Bf.lt (K:Nat):LT Bf.sg.R.D:=.two .t (.two .t (.two .t (.two .t (.two (.two .t (.one (.loop Bf.l1.M (fun n c p=>Bf.l1 K c.2 c.1 n p.1 p.2.1 p.2.2.1 p.2.2.2) (fun nl1=>.t)))) .t))))
theorem Bf.ct (K:Nat):CtX PP 25 Bf.sg (fun x=>Bf K x):=ct_x (C:=Bf.C K) (fn:=Tryz.f25) (c:=Tryz.f25.body.get!) (lt:=(Bf.lt K)) fol (by kernel_rfl) (by kernel_rfl) rfl (fun x=>(by kernel_rfl)) (ok_two ok_t (ok_two ok_t (ok_two ok_t (ok_two ok_t (ok_two (ok_two ok_t (ok_block (ok_loop (fun c p=>(by kernel_rfl)) (fun nl1=>⟨fun c p=>(by kernel_rfl),ok_t⟩)))) ok_t))))) (fun x=>(by kernel_rfl))
def Bf.fx (K:Nat):FX PP:=⟨25,Bf.sg,_,Bf.ct K⟩
def Af.l1.M:Tm:=⟨[(0,.c (.p (.sl (.int .i64)) true (1,0))),(1,.c (.p (.sl (.int .i64)) true (1,1))),(2,.c (.p (.sl (.int .i64)) true (1,2))),(8,.c (.av 5018000)),(9,.c (.p (.int .i64) false (11,0))),(10,.c (.p (.int .i64) false (12,0)))],[(5018000,.row .bool false false (10,0))],[(1,Af.sg.A)]⟩
def Af.j2.M:Tm:=⟨[(0,.c (.p (.sl (.int .i64)) true (1,0))),(1,.c (.p (.sl (.int .i64)) true (1,1))),(2,.c (.p (.sl (.int .i64)) true (1,2))),(8,.c (.av 5029000)),(9,.c (.p (.int .i64) true (11,0))),(10,.c (.p (.int .i64) true (12,0))),(11,.c (.p (.int .i64) false (13,0)))],[(5029000,.row .bool false true (10,0))],[(1,Af.sg.A),(10,(.sl .bool)),(11,(.int .i64)),(12,(.int .i64))]⟩
def Af.l3.M:Tm:=⟨[(0,.c (.p (.sl (.int .i64)) true (1,0))),(1,.c (.p (.sl (.int .i64)) true (1,1))),(2,.c (.p (.sl (.int .i64)) true (1,2))),(8,.c (.av 5047000)),(9,.c (.p (.int .i64) true (11,0))),(10,.c (.p (.int .i64) true (12,0))),(11,.c (.p (.int .i64) true (13,0))),(12,.c (.p (.int .i64) false (14,0)))],[(5047000,.row .bool false false (17,0))],[(1,Af.sg.A),(11,(.int .i64)),(12,(.int .i64)),(13,(.int .i64))]⟩
def Af.l4.M:Tm:=⟨[(0,.c (.p (.sl (.int .i64)) true (1,0))),(1,.c (.p (.sl (.int .i64)) true (1,1))),(2,.c (.p (.sl (.int .i64)) true (1,2))),(8,.c (.av 5064000)),(13,.c (.p (.int .i64) false (15,0)))],[(5064000,.row .bool false false (18,0))],[(1,Af.sg.A)]⟩
def Af.l5.M:Tm:=⟨[(0,.c (.p (.sl (.int .i64)) true (1,0))),(1,.c (.p (.sl (.int .i64)) true (1,1))),(2,.c (.p (.sl (.int .i64)) true (1,2))),(8,.c (.av 5081000)),(14,.c (.vf 5081001)),(15,.c (.p (.int .i64) false (16,0)))],[(5081000,.row .bool false false (20,0)),(5081001,.row (.int .i64) false false (19,0))],[(1,Af.sg.A)]⟩
def Af.C (K:Nat):CE:=⟨⟨PP,tys⟩,[(34,some (Bh.fx K)),(106,some (Aq.fx K)),(20,some (Az.fx K))],[],K,[],[],[],116,[]⟩
def Af.lt (K:Nat):LT Af.sg.R.D:=.two .t (.two .t (.two .t (.two .t (.two (.two .t (.one (.loop Af.l1.M (fun n c p=>Af.l1 K c.1 c.2.1 c.2.2 n p.1 p.2.1 p.2.2) (fun nl1=>.two .t (.two (.one (.two .t (.join Af.j2.M (fun c p=>Af.j2 K (Af.l1 K c.1.1 c.1.2.1 c.1.2.2 nl1) c.2.1 c.2.2.1 c.2.2.2 c.1.1 c.1.2.1 c.1.2.2 p) .t (.two .t (.two (.two .t (.one (.loop Af.l3.M (fun n c p=>Af.l3 K (Af.l1 K c.1.1 c.1.2.1 c.1.2.2 nl1) c.2.1 c.2.2.1 c.2.2.2 c.1.1 c.1.2.1 c.1.2.2 n p.1 p.2) (fun nl3=>.t)))) .t))))) .t))))) (.two (.two .t (.one (.loop Af.l4.M (fun n c p=>Af.l4 K c.1 c.2.1 c.2.2 n p.1 p.2) (fun nl4=>.t)))) (.two .t (.two (.two .t (.one (.loop Af.l5.M (fun n c p=>Af.l5 K c.1 c.2.1 c.2.2 n p.1 p.2.1 p.2.2) (fun nl5=>.t)))) .t)))))))
theorem Af.ct (K:Nat):CtX PP 108 Af.sg (fun x=>Af K x.1 x.2.1 x.2.2):=ct_x (C:=Af.C K) (fn:=Tryz.f108) (c:=Tryz.f108.body.get!) (lt:=(Af.lt K)) fol (by kernel_rfl) (by kernel_rfl) rfl (fun x=>(by kernel_rfl)) (ok_two ok_t (ok_two ok_t (ok_two ok_t (ok_two ok_t (ok_two (ok_two ok_t (ok_block (ok_loop (fun c p=>(by kernel_rfl)) (fun nl1=>⟨fun c p=>(by kernel_rfl),ok_two ok_t (ok_two (ok_block (ok_two ok_t (ok_join ok_t (fun c p=>(by kernel_rfl)) (ok_two ok_t (ok_two (ok_two ok_t (ok_block (ok_loop (fun c p=>(by kernel_rfl)) (fun nl3=>⟨fun c p=>(by kernel_rfl),ok_t⟩)))) ok_t))))) ok_t)⟩)))) (ok_two (ok_two ok_t (ok_block (ok_loop (fun c p=>(by kernel_rfl)) (fun nl4=>⟨fun c p=>(by kernel_rfl),ok_t⟩)))) (ok_two ok_t (ok_two (ok_two ok_t (ok_block (ok_loop (fun c p=>(by kernel_rfl)) (fun nl5=>⟨fun c p=>(by kernel_rfl),ok_t⟩)))) ok_t)))))))) (fun x=>(by kernel_rfl))
def Af.fx (K:Nat):FX PP:=⟨108,Af.sg,_,Af.ct K⟩
def Bc.l1.M:Tm:=⟨[(0,.c (.p (.sl (.int .u8)) true (1,0))),(1,.c (.p (.int .i64) false (11,0))),(2,.c (.p (.int .i64) true (1,2))),(3,.c (.p (.sl (.int .i64)) true (1,3))),(11,.c (.p (.int .i64) true (4000023,0))),(12,.c (.vf 5018000)),(13,.c (.p (.int .i64) false (10,0)))],[(5018000,.row (.int .i64) false false (12,0))],[(1,Bc.sg.A),(4000023,Ad.sg.R)]⟩
def Bc.C (K:Nat):CE:=⟨⟨PP,tys⟩,[(92,some (Ad.fx K)),(94,some (Am.fx K)),(108,some (Af.fx K))],[],K,[],[],[],81,[]⟩
def Bc.lt (K:Nat):LT Bc.sg.R.D:=.two .t (.two .t (.two .t (.two .t (.two (.two .t (.one (.loop Bc.l1.M (fun n c p=>Bc.l1 K c.2 c.1.1 c.1.2.2.1 c.1.2.2.2 n p.1 p.2.1 p.2.2) (fun nl1=>.t)))) .t))))
theorem Bc.ct (K:Nat):CtX PP 40 Bc.sg (fun x=>Bc K x.1 x.2.1 x.2.2.1 x.2.2.2):=ct_x (C:=Bc.C K) (fn:=Tryz.f40) (c:=Tryz.f40.body.get!) (lt:=(Bc.lt K)) fol (by kernel_rfl) (by kernel_rfl) rfl (fun x=>(by kernel_rfl)) (ok_two ok_t (ok_two ok_t (ok_two ok_t (ok_two ok_t (ok_two (ok_two ok_t (ok_block (ok_loop (fun c p=>(by kernel_rfl)) (fun nl1=>⟨fun c p=>(by kernel_rfl),ok_t⟩)))) ok_t))))) (fun x=>(by kernel_rfl))
def Bc.fx (K:Nat):FX PP:=⟨40,Bc.sg,_,Bc.ct K⟩
def Bg.l1.M:Tm:=⟨[(1,.c (.p (.sl (.int .u8)) true (1,2))),(2,.c (.bx 5018000 0)),(4,.c (.bx 5018001 0)),(7,.c (.p (.int .i64) false (12,0))),(8,.c (.bx 5018002 0)),(9,.c (.p (.int .i64) false (11,0)))],[(5018000,.box [.p (.int .i64) true (1,0),.p (.sl (.sl (.int .i64))) true (1,1)]),(5018001,.box [.p (.int .i64) false (10,0),.nl (.sl (.int .i64))]),(5018002,.box [.p (.int .i64) true (4000028,0),.vf 5018003]),(5018003,.row (.sl (.int .i64)) true false (13,0))],[(1,Bg.sg.A),(4000028,Cu.sg.R)]⟩
def Bg.C (K:Nat):CE:=⟨⟨PP,tys⟩,[(92,some (Ad.fx K)),(93,some (Cu.fx K)),(113,some (C1.fx K)),(40,some (Bc.fx K)),(16,some (Bm.fx K))],[],K,[],[],[],66,[]⟩
def Bg.lt (K:Nat):LT Bg.sg.R.D:=.two .t (.two .t (.two .t (.two .t (.two (.two .t (.one (.loop Bg.l1.M (fun n c p=>Bg.l1 K c.2 c.1.1 c.1.2 n p.1 p.2.1 p.2.2.1 p.2.2.2) (fun nl1=>.t)))) .t))))
theorem Bg.ct (K:Nat):CtX PP 50 Bg.sg (fun x=>Bg K x.1 x.2):=ct_x (C:=Bg.C K) (fn:=Tryz.f50) (c:=Tryz.f50.body.get!) (lt:=(Bg.lt K)) fol (by kernel_rfl) (by kernel_rfl) rfl (fun x=>(by kernel_rfl)) (ok_two ok_t (ok_two ok_t (ok_two ok_t (ok_two ok_t (ok_two (ok_two ok_t (ok_block (ok_loop (fun c p=>(by kernel_rfl)) (fun nl1=>⟨fun c p=>(by kernel_rfl),ok_t⟩)))) ok_t))))) (fun x=>(by kernel_rfl))
def Bg.fx (K:Nat):FX PP:=⟨50,Bg.sg,_,Bg.ct K⟩
def Ax.j1.M:Tm:=⟨[(4,.c (.bx 5020000 0)),(10,.c (.bx 5020001 0)),(11,.c (.p .bool false (13,0)))],[(5020000,.box [.p (.int .i64) false (10,0),.nl (.sl (.int .i64))]),(5020001,.box [.p (.int .i64) false (11,0),.vf 5020002]),(5020002,.row (.sl (.int .i64)) true false (12,0))],[]⟩
def Ax.C (K:Nat) (ih:CtX PP 73 Ax.sg (fun x=>Ax K x.1 x.2)):CE:=⟨⟨PP,tys⟩,[(72,some (Bl.fx K)),(125,some (Bw.fx K)),(24,some (B6.fx K)),(25,some (Bf.fx K)),(73,some ⟨73,Ax.sg,_,ih⟩),(50,some (Bg.fx K))],[],K,[],[],[],62,[]⟩
def Ax.lt (K:Nat):LT Ax.sg.R.D:=.two .t (.two .t (.two .t (.two .t (.two .t (.two .t (.two .t (.join Ax.j1.M (fun c p=>Ax.j1 K (Ax K) p.1 p.2.1 p.2.2.1 p.2.2.2) .t .t)))))))
theorem Ax.ct:∀ K:Nat,CtX PP 73 Ax.sg (fun x=>Ax K x.1 x.2)
 | 0=>fun v x r h=>by cases h
 | K+1=>ct_x (C:=Ax.C K (Ax.ct K)) (fn:=Tryz.f73) (c:=Tryz.f73.body.get!) (lt:=(Ax.lt K)) fol (by kernel_rfl) (by kernel_rfl) rfl (fun x=>(by kernel_rfl)) (ok_two ok_t (ok_two ok_t (ok_two ok_t (ok_two ok_t (ok_two ok_t (ok_two ok_t (ok_two ok_t (ok_join ok_t (fun c p=>(by kernel_rfl)) ok_t)))))))) (fun x=>(by kernel_rfl))
def Ax.fx (K:Nat):FX PP:=⟨73,Ax.sg,_,Ax.ct K⟩
def A0.l1.M:Tm:=⟨[(0,.c (.p (.sl (.int .u8)) true (1,0))),(2,.c (.bx 5008000 0)),(3,.c (.vf 5008001)),(4,.c (.p (.int .i64) false (13,0)))],[(5008000,.box [.p .str false (10,0),.p (.int .i64) false (11,0)]),(5008001,.row (.int .u8) false false (12,0))],[(1,A0.sg.A)]⟩
def A0.C (K:Nat):CE:=⟨⟨PP,tys⟩,[],[],K,[],[],[],39,[]⟩
def A0.lt (K:Nat):LT A0.sg.R.D:=.two .t (.two .t (.two (.two .t (.one (.loop A0.l1.M (fun n c p=>A0.l1 K c n p.1 p.2.1 p.2.2.1 p.2.2.2) (fun nl1=>.t)))) .t))
theorem A0.ct (K:Nat):CtX PP 18 A0.sg (fun x=>A0 K x):=ct_x (C:=A0.C K) (fn:=Tryz.f18) (c:=Tryz.f18.body.get!) (lt:=(A0.lt K)) fol (by kernel_rfl) (by kernel_rfl) rfl (fun x=>(by kernel_rfl)) (ok_two ok_t (ok_two ok_t (ok_two (ok_two ok_t (ok_block (ok_loop (fun c p=>(by kernel_rfl)) (fun nl1=>⟨fun c p=>(by kernel_rfl),ok_t⟩)))) ok_t))) (fun x=>(by kernel_rfl))
def A0.fx (K:Nat):FX PP:=⟨18,A0.sg,_,A0.ct K⟩
def Dm.C (K:Nat):CE:=⟨⟨PP,tys⟩,[(17,some (Bi.fx K)),(18,some (A0.fx K)),(73,some (Ax.fx K)),(46,some (Bj.fx K))],[],K,[],[],[],30,[]⟩
theorem Dm.ct (K:Nat):CtX PP 126 Dm.sg (fun x=>Dm K x.1 x.2.1 x.2.2):=ct_x (C:=Dm.C K) (fn:=Tryz.f126) (c:=Tryz.f126.body.get!) (lt:=.t) fol (by kernel_rfl) (by kernel_rfl) rfl (fun x=>(by kernel_rfl)) (ok_t) (fun x=>(by kernel_rfl))
def Dm.fx (K:Nat):FX PP:=⟨126,Dm.sg,_,Dm.ct K⟩
def Be.j1.M:Tm:=⟨[(0,.c (.p (.sl Ba) true (1,0))),(1,.c (.p (.int .i64) true (1,1))),(5,.c (.bx 5004000 0)),(6,.c (.bx 5004001 0)),(8,.c (.p (.int .i64) false (14,0)))],[(5004000,.box [.p (.int .i64) true (1,2),.p (.sl (.sl (.int .i64))) true (1,3)]),(5004001,.box [.p (.int .i64) false (10,0),.p (.int .i64) false (11,0),.p .str false (12,0),.p (.int .i64) false (13,0)])],[(1,Be.sg.A)]⟩
def Be.j2.M:Tm:=⟨[(0,.c (.p (.sl Ba) true (1,0))),(5,.c (.bx 5020000 0)),(6,.c (.bx 5020001 0)),(9,.c (.bx 5020002 0))],[(5020000,.box [.p (.int .i64) true (1,2),.p (.sl (.sl (.int .i64))) true (1,3)]),(5020001,.box [.p (.int .i64) true (10,0),.p (.int .i64) true (11,0),.p .str true (12,0),.p (.int .i64) true (13,0)]),(5020002,.box [.p (.int .i64) true (14,0),.p (.int .i64) false (15,0),.p .str false (16,0),.p (.int .i64) false (17,0)])],[(1,Be.sg.A),(10,(.int .i64)),(11,(.int .i64)),(12,.str),(13,(.int .i64)),(14,(.int .i64))]⟩
def Be.C (K:Nat):CE:=⟨⟨PP,tys⟩,[(73,some (Ax.fx K)),(72,some (Bl.fx K)),(47,some (Cj.fx K)),(126,some (Dm.fx K))],[],K,[],[],[],69,[]⟩
def Be.lt (K:Nat):LT Be.sg.R.D:=.two .t (.two .t (.join Be.j1.M (fun c p=>Be.j1 K c.1 c.2.1 c.2.2 p.1 p.2.1 p.2.2.1 p.2.2.2.1 p.2.2.2.2) .t (.two .t (.two .t (.join Be.j2.M (fun c p=>Be.j2 K c.2.2.2.2.2 c.1.1 c.1.2.2 p.1 p.2.1 p.2.2) .t .t)))))
theorem Be.ct (K:Nat):CtX PP 63 Be.sg (fun x=>Be K x.1 x.2.1 x.2.2):=ct_x (C:=Be.C K) (fn:=Tryz.f63) (c:=Tryz.f63.body.get!) (lt:=(Be.lt K)) fol (by kernel_rfl) (by kernel_rfl) rfl (fun x=>(by kernel_rfl)) (ok_two ok_t (ok_two ok_t (ok_join ok_t (fun c p=>(by kernel_rfl)) (ok_two ok_t (ok_two ok_t (ok_join ok_t (fun c p=>(by kernel_rfl)) ok_t)))))) (fun x=>(by kernel_rfl))
def Be.fx (K:Nat):FX PP:=⟨63,Be.sg,_,Be.ct K⟩
def C4.C (K:Nat):CE:=⟨⟨PP,tys⟩,[(53,some (Dh.fx K)),(63,some (Be.fx K)),(55,some (B8.fx K)),(54,some (Cr.fx K)),(20,some (Az.fx K))],[],K,[],[],[],42,[]⟩
theorem C4.ct (K:Nat):CtX PP 58 C4.sg (fun x=>C4 K):=ct_x (C:=C4.C K) (fn:=Tryz.f58) (c:=Tryz.f58.body.get!) (lt:=.t) fol (by kernel_rfl) (by kernel_rfl) rfl (fun x=>(by kernel_rfl)) (ok_t) (fun x=>(by kernel_rfl))
def C4.fx (K:Nat):FX PP:=⟨58,C4.sg,_,C4.ct K⟩
def Ae.l1.M:Tm:=⟨[(1,.c (.bx 5010000 0)),(3,.c (.vf 5010001)),(4,.c (.vf 5010002)),(5,.c (.p (.int .i64) false (10,0)))],[(5010000,.box [.p (.sl (.sl Ba)) true (1,0),.p (.sl A5) true (1,1),.p (.sl Ef) true (1,2),.p (.sl (.int .i64)) true (1,3)]),(5010001,.row Ba false false (16,0)),(5010002,.row A5 false false (17,0))],[(1,Ae.sg.A)]⟩
def Ae.j2.M:Tm:=⟨[(1,.c (.bx 5023000 0)),(3,.c (.vf 5023001)),(4,.c (.vf 5023002)),(5,.c (.p (.int .i64) true (10,0))),(6,.c (.bx 5023003 0)),(7,.c (.p (.int .i64) false (11,0)))],[(5023000,.box [.p (.sl (.sl Ba)) true (1,0),.p (.sl A5) true (1,1),.p (.sl Ef) true (1,2),.p (.sl (.int .i64)) true (1,3)]),(5023001,.row Ba false true (16,0)),(5023002,.row A5 false true (17,0)),(5023003,.box [.p (.int .i64) true (4000029,0),.vf 5023004]),(5023004,.row (.sl (.int .i64)) true true (4000029,1))],[(1,Ae.sg.A),(10,(.int .i64)),(16,(.sl Ba)),(17,(.sl A5)),(4000029,Ac.sg.R)]⟩
def Ae.l3.M:Tm:=⟨[(3,.c (.vf 5047000)),(4,.c (.vf 5047001)),(10,.c (.p (.int .i64) false (12,0)))],[(5047000,.row Ba false false (18,0)),(5047001,.row A5 false false (19,0))],[]⟩
def Ae.l4.M:Tm:=⟨[(3,.c (.vf 5059000)),(4,.c (.vf 5059001)),(10,.c (.p (.int .i64) true (12,0))),(11,.c (.p (.int .i64) false (13,0)))],[(5059000,.row Ba false false (20,0)),(5059001,.row A5 false false (21,0))],[(12,(.int .i64))]⟩
def Ae.l5.M:Tm:=⟨[(3,.c (.vf 5076000)),(4,.c (.vf 5076001)),(10,.c (.p (.int .i64) true (12,0))),(11,.c (.p (.int .i64) true (13,0))),(12,.c (.vf 5076002)),(13,.c (.p (.int .i64) true (4000063,1))),(14,.c (.vf 5076003)),(15,.c (.p (.int .i64) false (14,0)))],[(5076000,.row Ba false true (20,0)),(5076001,.row A5 false true (21,0)),(5076002,.row (.int .i64) false true (4000063,0)),(5076003,.row (.int .i64) false false (23,0))],[(12,(.int .i64)),(13,(.int .i64)),(20,(.sl Ba)),(21,(.sl A5)),(4000063,B8.sg.R)]⟩
def Ae.l6.M:Tm:=⟨[(4,.c (.vf 5114000)),(16,.c (.vf 5114001)),(18,.c (.p (.int .i64) false (15,0)))],[(5114000,.row A5 false false (22,0)),(5114001,.row (.int .i64) false true (4000093,0))],[(4000093,B9.sg.R)]⟩
def Ae.C (K:Nat):CE:=⟨⟨PP,tys⟩,[(67,some (Ac.fx K)),(61,some (De.fx K)),(54,some (Cr.fx K)),(55,some (B8.fx K)),(20,some (Az.fx K)),(77,some (B9.fx K)),(58,some (C4.fx K)),(47,some (Cj.fx K)),(76,some (Dj.fx K))],[],K,[],[(14,[.frz 5023004])],[],147,[]⟩
def Ae.lt (K:Nat):LT Ae.sg.R.D:=.two .t (.two .t (.two .t (.two (.two .t (.one (.loop Ae.l1.M (fun n c p=>Ae.l1 K c n p.1 p.2.1 p.2.2) (fun nl1=>.two .t (.two (.one (.two .t (.two .t (.join Ae.j2.M (fun c p=>Ae.j2 K (Ae.l1 K c.1 nl1) c.2.2.2.2 c.2.1 c.2.2.1 c.2.2.2.1 c.1 p) .t .t)))) .t))))) (.two (.two .t (.one (.loop Ae.l3.M (fun n c p=>Ae.l3 K n p.1 p.2.1 p.2.2) (fun nl3=>.two .t (.two (.one (.two .t (.one (.loop Ae.l4.M (fun n c p=>Ae.l4 K (Ae.l3 K nl3) c n p.1 p.2.1 p.2.2) (fun nl4=>.two .t (.two (.one (.two .t (.two .t (.two (.two .t (.one (.loop Ae.l5.M (fun n c p=>Ae.l5 K (Ae.l3 K nl3) (Ae.l4 K (Ae.l3 K nl3) c.1 nl4) c.2.2.2.2 c.1 c.2.1 c.2.2.1 c.2.2.2.1 n p.1 p.2) (fun nl5=>.t)))) .t)))) .t)))))) .t))))) (.two .t (.two .t (.two (.two .t (.one (.loop Ae.l6.M (fun n c p=>Ae.l6 K c n p.1 p.2) (fun nl6=>.t)))) .t)))))))
theorem Ae.ct (K:Nat):CtX PP 10 Ae.sg (fun x=>Ae K x):=ct_x (C:=Ae.C K) (fn:=Tryz.f10) (c:=Tryz.f10.body.get!) (lt:=(Ae.lt K)) fol (by kernel_rfl) (by kernel_rfl) rfl (fun x=>(by kernel_rfl)) (ok_two ok_t (ok_two ok_t (ok_two ok_t (ok_two (ok_two ok_t (ok_block (ok_loop (fun c p=>(by kernel_rfl)) (fun nl1=>⟨fun c p=>(by kernel_rfl),ok_two ok_t (ok_two (ok_block (ok_two ok_t (ok_two ok_t (ok_join ok_t (fun c p=>(by kernel_rfl)) ok_t)))) ok_t)⟩)))) (ok_two (ok_two ok_t (ok_block (ok_loop (fun c p=>(by kernel_rfl)) (fun nl3=>⟨fun c p=>(by kernel_rfl),ok_two ok_t (ok_two (ok_block (ok_two ok_t (ok_block (ok_loop (fun c p=>(by kernel_rfl)) (fun nl4=>⟨fun c p=>(by kernel_rfl),ok_two ok_t (ok_two (ok_block (ok_two ok_t (ok_two ok_t (ok_two (ok_two ok_t (ok_block (ok_loop (fun c p=>(by kernel_rfl)) (fun nl5=>⟨fun c p=>(by kernel_rfl),ok_t⟩)))) ok_t)))) ok_t)⟩))))) ok_t)⟩)))) (ok_two ok_t (ok_two ok_t (ok_two (ok_two ok_t (ok_block (ok_loop (fun c p=>(by kernel_rfl)) (fun nl6=>⟨fun c p=>(by kernel_rfl),ok_t⟩)))) ok_t)))))))) (fun x=>(by kernel_rfl))
def Ae.fx (K:Nat):FX PP:=⟨10,Ae.sg,_,Ae.ct K⟩
end
end Go.XM
end
