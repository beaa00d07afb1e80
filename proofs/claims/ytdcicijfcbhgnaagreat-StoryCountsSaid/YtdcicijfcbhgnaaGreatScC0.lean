import Derived.Test.YtdcicijfcbhgnaaGreatScY0
import Derived.Test.YtdcicijfcbhgnaaGreatProg
set_option linter.all false
section
namespace Go.XM
open Go.Proofs
noncomputable section
set_option maxRecDepth 100000
noncomputable abbrev PP:=Tryz.prog
theorem fol:PP.follows .mixedOrders=true:=by kernel_rfl
def tys:List (Nat × Option Ty):=[(3,some (.int .i64)),(4,some .bool),(5,some (.int .u8)),(30,some Ba),(33,some C8),(34,some (.int .i64)),(37,some (.sl (.int .i64))),(96,some Bb),(170,some Dg),(184,some C1),(206,some Eb)]
def A0.l1.M:Tm:=⟨[(0,.c (.p (.sl Bb) true (1,0))),(3,.c (.p (.int .i64) false (10,0))),(4,.c (.p (.int .i64) false (11,0)))],[],[(1,A0.sg.A)]⟩
def A0.C (K:Nat):CE:=⟨⟨PP,tys⟩,[],[],K,[],[],[],28,[]⟩
def A0.lt (K:Nat):LT A0.sg.R.D:=.two .t (.two .t (.two (.two .t (.one (.loop A0.l1.M (fun n c p=>A0.l1 K c n p.1 p.2) (fun nl1=>.t)))) .t))
theorem A0.ct (K:Nat):CtX PP 115 A0.sg (fun x=>A0 K x):=ct_x (C:=A0.C K) (fn:=Tryz.f115) (c:=Tryz.f115.body.get!) (lt:=(A0.lt K)) fol (by kernel_rfl) (by kernel_rfl) rfl (fun x=>(by kernel_rfl)) (ok_two ok_t (ok_two ok_t (ok_two (ok_two ok_t (ok_block (ok_loop (fun c p=>(by kernel_rfl)) (fun nl1=>⟨fun c p=>(by kernel_rfl),ok_t⟩)))) ok_t))) (fun x=>(by kernel_rfl))
def A0.fx (K:Nat):FX PP:=⟨115,A0.sg,_,A0.ct K⟩
def Bu.l1.M:Tm:=⟨[(0,.c (.p (.sl (.sl (.int .i64))) true (1,0))),(3,.c (.p (.int .i64) false (10,0))),(4,.c (.p (.int .i64) false (11,0)))],[],[(1,Bu.sg.A)]⟩
def Bu.C (K:Nat):CE:=⟨⟨PP,tys⟩,[],[],K,[],[],[],25,[]⟩
def Bu.lt (K:Nat):LT Bu.sg.R.D:=.two .t (.two .t (.two (.two .t (.one (.loop Bu.l1.M (fun n c p=>Bu.l1 K c n p.1 p.2) (fun nl1=>.t)))) .t))
theorem Bu.ct (K:Nat):CtX PP 99 Bu.sg (fun x=>Bu K x):=ct_x (C:=Bu.C K) (fn:=Tryz.f99) (c:=Tryz.f99.body.get!) (lt:=(Bu.lt K)) fol (by kernel_rfl) (by kernel_rfl) rfl (fun x=>(by kernel_rfl)) (ok_two ok_t (ok_two ok_t (ok_two (ok_two ok_t (ok_block (ok_loop (fun c p=>(by kernel_rfl)) (fun nl1=>⟨fun c p=>(by kernel_rfl),ok_t⟩)))) ok_t))) (fun x=>(by kernel_rfl))
def Bu.fx (K:Nat):FX PP:=⟨99,Bu.sg,_,Bu.ct K⟩
def A6.l1.M:Tm:=⟨[(0,.c (.p (.sl Ba) true (1,0))),(3,.c (.p (.int .i64) false (10,0))),(4,.c (.p (.int .i64) false (11,0)))],[],[(1,A6.sg.A)]⟩
def A6.C (K:Nat):CE:=⟨⟨PP,tys⟩,[(99,some (Bu.fx K))],[],K,[],[],[],26,[]⟩
def A6.lt (K:Nat):LT A6.sg.R.D:=.two .t (.two .t (.two (.two .t (.one (.loop A6.l1.M (fun n c p=>A6.l1 K c n p.1 p.2) (fun nl1=>.t)))) .t))
theorem A6.ct (K:Nat):CtX PP 78 A6.sg (fun x=>A6 K x):=ct_x (C:=A6.C K) (fn:=Tryz.f78) (c:=Tryz.f78.body.get!) (lt:=(A6.lt K)) fol (by kernel_rfl) (by kernel_rfl) rfl (fun x=>(by kernel_rfl)) (ok_two ok_t (ok_two ok_t (ok_two (ok_two ok_t (ok_block (ok_loop (fun c p=>(by kernel_rfl)) (fun nl1=>⟨fun c p=>(by kernel_rfl),ok_t⟩)))) ok_t))) (fun x=>(by kernel_rfl))
def A6.fx (K:Nat):FX PP:=⟨78,A6.sg,_,A6.ct K⟩
def C3.C (K:Nat):CE:=⟨⟨PP,tys⟩,[(78,some (A6.fx K))],[],K,[],[],[],11,[]⟩
theorem C3.ct (K:Nat):CtX PP 11 C3.sg (fun x=>C3 K x):=ct_x (C:=C3.C K) (fn:=Tryz.f11) (c:=Tryz.f11.body.get!) (lt:=.t) fol (by kernel_rfl) (by kernel_rfl) rfl (fun x=>(by kernel_rfl)) (ok_t) (fun x=>(by kernel_rfl))
def C3.fx (K:Nat):FX PP:=⟨11,C3.sg,_,C3.ct K⟩
def Bj.l1.M:Tm:=⟨[(1,.c (.bx 5008000 0)),(3,.c (.p (.int .i64) false (10,0))),(4,.c (.p (.int .i64) false (11,0)))],[(5008000,.box [.p (.sl (.sl Bb)) true (1,0),.p (.sl Ba) true (1,1),.p (.sl Dw) true (1,2),.p (.sl (.int .i64)) true (1,3)])],[(1,Bj.sg.A)]⟩
def Bj.C (K:Nat):CE:=⟨⟨PP,tys⟩,[(115,some (A0.fx K)),(11,some (C3.fx K))],[],K,[],[],[],38,[]⟩
def Bj.lt (K:Nat):LT Bj.sg.R.D:=.two .t (.two .t (.two (.two .t (.one (.loop Bj.l1.M (fun n c p=>Bj.l1 K c n p.1 p.2) (fun nl1=>.t)))) .t))
theorem Bj.ct (K:Nat):CtX PP 52 Bj.sg (fun x=>Bj K x):=ct_x (C:=Bj.C K) (fn:=Tryz.f52) (c:=Tryz.f52.body.get!) (lt:=(Bj.lt K)) fol (by kernel_rfl) (by kernel_rfl) rfl (fun x=>(by kernel_rfl)) (ok_two ok_t (ok_two ok_t (ok_two (ok_two ok_t (ok_block (ok_loop (fun c p=>(by kernel_rfl)) (fun nl1=>⟨fun c p=>(by kernel_rfl),ok_t⟩)))) ok_t))) (fun x=>(by kernel_rfl))
def Bj.fx (K:Nat):FX PP:=⟨52,Bj.sg,_,Bj.ct K⟩
def Dq.C (K:Nat):CE:=⟨⟨PP,tys⟩,[],[],K,[],[],[],41,[]⟩
theorem Dq.ct (K:Nat):CtX PP 89 Dq.sg (fun x=>Dq K x):=ct_x (C:=Dq.C K) (fn:=Tryz.f89) (c:=Tryz.f89.body.get!) (lt:=.t) fol (by kernel_rfl) (by kernel_rfl) rfl (fun x=>(by kernel_rfl)) (ok_t) (fun x=>(by kernel_rfl))
def Dq.fx (K:Nat):FX PP:=⟨89,Dq.sg,_,Dq.ct K⟩
def D1.C (K:Nat):CE:=⟨⟨PP,tys⟩,[],[],K,[],[],[1],8,[]⟩
theorem D1.ct (K:Nat):CtX PP 166 D1.sg (fun x=>D1 K x.1 x.2):=ct_x (C:=D1.C K) (fn:=Tryz.f166) (c:=Tryz.f166.body.get!) (lt:=.t) fol (by kernel_rfl) (by kernel_rfl) rfl (fun x=>(by kernel_rfl)) (ok_t) (fun x=>(by kernel_rfl))
def D1.fx (K:Nat):FX PP:=⟨166,D1.sg,_,D1.ct K⟩
def Ag.l1.M:Tm:=⟨[(0,.c (.p (.sl Bb) true (1,0))),(1,.fn 166 [.bx 2 0]),(7,.c (.p (.int .i64) false (10,0))),(8,.c (.p (.int .i64) false (11,0)))],[(2,.box [.p (.int .i64) false (12,0)])],[(1,Ag.sg.A)]⟩
def Ag.C (K:Nat):CE:=⟨⟨PP,tys⟩,[(166,some (D1.fx K))],[],K,[],[],[2],19,[]⟩
def Ag.lt (K:Nat):LT Ag.sg.R.D:=.two .t (.two (.two .t (.one (.loop Ag.l1.M (fun n c p=>Ag.l1 K c.1 n p.1 p.2.1 p.2.2) (fun nl1=>.t)))) .t)
theorem Ag.ct (K:Nat):CtX PP 164 Ag.sg (fun x=>Ag K x.1 x.2.2):=ct_x (C:=Ag.C K) (fn:=Tryz.f164) (c:=Tryz.f164.body.get!) (lt:=(Ag.lt K)) fol (by kernel_rfl) (by kernel_rfl) rfl (fun x=>(by kernel_rfl)) (ok_two ok_t (ok_two (ok_two ok_t (ok_block (ok_loop (fun c p=>(by kernel_rfl)) (fun nl1=>⟨fun c p=>(by kernel_rfl),ok_t⟩)))) ok_t)) (fun x=>(by kernel_rfl))
def Ag.fx (K:Nat):FX PP:=⟨164,Ag.sg,_,Ag.ct K⟩
def Dm.C (K:Nat):CE:=⟨⟨PP,tys⟩,[(164,some (Ag.fx K))],[],K,[],[],[],8,[]⟩
theorem Dm.ct (K:Nat):CtX PP 129 Dm.sg (fun x=>Dm K x.1 x.2):=ct_x (C:=Dm.C K) (fn:=Tryz.f129) (c:=Tryz.f129.body.get!) (lt:=.t) fol (by kernel_rfl) (by kernel_rfl) rfl (fun x=>(by kernel_rfl)) (ok_t) (fun x=>(by kernel_rfl))
def Dm.fx (K:Nat):FX PP:=⟨129,Dm.sg,_,Dm.ct K⟩
def C6.l1.M:Tm:=⟨[(0,.c (.p (.sl Bb) true (1,0))),(8,.c (.p (.sl Bb) true (1,0))),(9,.c (.p (.int .i64) false (10,0))),(10,.c (.p (.int .i64) false (11,0)))],[],[(1,C6.sg.A)]⟩
def C6.C (K:Nat):CE:=⟨⟨PP,tys⟩,[(89,some (Dq.fx K)),(129,some (Dm.fx K))],[],K,[],[],[],62,[]⟩
def C6.lt (K:Nat):LT C6.sg.R.D:=.two .t (.two .t (.two (.two .t (.one (.loop C6.l1.M (fun n c p=>C6.l1 K c n p.1 p.2) (fun nl1=>.t)))) .t))
theorem C6.ct (K:Nat):CtX PP 121 C6.sg (fun x=>C6 K x):=ct_x (C:=C6.C K) (fn:=Tryz.f121) (c:=Tryz.f121.body.get!) (lt:=(C6.lt K)) fol (by kernel_rfl) (by kernel_rfl) rfl (fun x=>(by kernel_rfl)) (ok_two ok_t (ok_two ok_t (ok_two (ok_two ok_t (ok_block (ok_loop (fun c p=>(by kernel_rfl)) (fun nl1=>⟨fun c p=>(by kernel_rfl),ok_t⟩)))) ok_t))) (fun x=>(by kernel_rfl))
def C6.fx (K:Nat):FX PP:=⟨121,C6.sg,_,C6.ct K⟩
def Dc.l1.M:Tm:=⟨[(0,.c (.p (.sl Bb) true (1,0))),(1,.c (.p (.int .i64) false (10,0))),(2,.c (.p (.int .i64) true (1,2))),(6,.c (.vf 5004000))],[(5004000,.row Bb false false (11,0))],[(1,Dc.sg.A)]⟩
def Dc.C (K:Nat):CE:=⟨⟨PP,tys⟩,[(129,some (Dm.fx K))],[],K,[],[],[],29,[]⟩
def Dc.lt (K:Nat):LT Dc.sg.R.D:=.two .t (.two (.one (.loop Dc.l1.M (fun n c p=>Dc.l1 K c.1 c.2.2 n p.1 p.2) (fun nl1=>.t))) .t)
theorem Dc.ct (K:Nat):CtX PP 163 Dc.sg (fun x=>Dc K x.1 x.2.1 x.2.2):=ct_x (C:=Dc.C K) (fn:=Tryz.f163) (c:=Tryz.f163.body.get!) (lt:=(Dc.lt K)) fol (by kernel_rfl) (by kernel_rfl) rfl (fun x=>(by kernel_rfl)) (ok_two ok_t (ok_two (ok_block (ok_loop (fun c p=>(by kernel_rfl)) (fun nl1=>⟨fun c p=>(by kernel_rfl),ok_t⟩))) ok_t)) (fun x=>(by kernel_rfl))
def Dc.fx (K:Nat):FX PP:=⟨163,Dc.sg,_,Dc.ct K⟩
def D8.C (K:Nat):CE:=⟨⟨PP,tys⟩,[(129,some (Dm.fx K)),(163,some (Dc.fx K))],[],K,[],[],[],18,[]⟩
theorem D8.ct (K:Nat):CtX PP 123 D8.sg (fun x=>D8 K x.1 x.2):=ct_x (C:=D8.C K) (fn:=Tryz.f123) (c:=Tryz.f123.body.get!) (lt:=.t) fol (by kernel_rfl) (by kernel_rfl) rfl (fun x=>(by kernel_rfl)) (ok_t) (fun x=>(by kernel_rfl))
def D8.fx (K:Nat):FX PP:=⟨123,D8.sg,_,D8.ct K⟩
noncomputable def slices_Backward___api_Object_api_Object_.bx:BX PP:=mkBX (f1:=Tryz.f162) (f2:=Tryz.f183) 162 183 89 96 196 195 210 (by kernel_rfl) (by kernel_rfl) (by kernel_rfl) (by kernel_rfl) (by kernel_rfl) (by kernel_rfl) (by kernel_rfl) (by kernel_rfl) (by kernel_rfl) (by kernel_rfl) (by kernel_rfl) (by kernel_rfl)
def D2.C (K:Nat):CE:=⟨⟨PP,tys⟩,[],[],K,[],[],[],16,[]⟩
theorem D2.ct (K:Nat):CtX PP 202 D2.sg (fun x=>D2 K x.1 x.2):=ct_x (C:=D2.C K) (fn:=Tryz.f202) (c:=Tryz.f202.body.get!) (lt:=.t) fol (by kernel_rfl) (by kernel_rfl) rfl (fun x=>(by kernel_rfl)) (ok_t) (fun x=>(by kernel_rfl))
def D2.fx (K:Nat):FX PP:=⟨202,D2.sg,_,D2.ct K⟩
def C4.l1.M:Tm:=⟨[(1,.c (.p (.int .i64) true (1,2))),(2,.c (.bx 5006000 0)),(5,.c (.p (.int .i64) false (10,0)))],[(5006000,.box [.p .str true (1,0),.p (.int .i64) true (1,1)])],[(1,C4.sg.A)]⟩
def C4.C (K:Nat):CE:=⟨⟨PP,tys⟩,[(202,some (D2.fx K))],[],K,[],[],[],20,[]⟩
def C4.lt (K:Nat):LT C4.sg.R.D:=.two .t (.two (.two .t (.one (.loop C4.l1.M (fun n c p=>C4.l1 K c.1 c.2 n p) (fun nl1=>.t)))) .t)
theorem C4.ct (K:Nat):CtX PP 191 C4.sg (fun x=>C4 K x.1 x.2):=ct_x (C:=C4.C K) (fn:=Tryz.f191) (c:=Tryz.f191.body.get!) (lt:=(C4.lt K)) fol (by kernel_rfl) (by kernel_rfl) rfl (fun x=>(by kernel_rfl)) (ok_two ok_t (ok_two (ok_two ok_t (ok_block (ok_loop (fun c p=>(by kernel_rfl)) (fun nl1=>⟨fun c p=>(by kernel_rfl),ok_t⟩)))) ok_t)) (fun x=>(by kernel_rfl))
def C4.fx (K:Nat):FX PP:=⟨191,C4.sg,_,C4.ct K⟩
def Cy.C (K:Nat):CE:=⟨⟨PP,tys⟩,[(191,some (C4.fx K))],[],K,[],[],[0],40,[]⟩
theorem Cy.ct (K:Nat):CtX PP 185 Cy.sg (fun x=>Cy K x.1 x.2):=ct_x (C:=Cy.C K) (fn:=Tryz.f185) (c:=Tryz.f185.body.get!) (lt:=.t) fol (by kernel_rfl) (by kernel_rfl) rfl (fun x=>(by kernel_rfl)) (ok_t) (fun x=>(by kernel_rfl))
def Cy.fx (K:Nat):FX PP:=⟨185,Cy.sg,_,Cy.ct K⟩
def C9.l1.M:Tm:=⟨[(1,.c (.p (.int .i64) true (1,2))),(3,.c (.bx 5016000 0)),(8,.c (.p (.int .i64) false (10,0))),(22,.c (.p (.int .i64) true (1,3))),(23,.c (.p (.int .i64) false (11,0)))],[(5016000,.box [.p .str true (1,0),.p (.int .i64) true (1,1)])],[(1,C9.sg.A)]⟩
def C9.C (K:Nat):CE:=⟨⟨PP,tys⟩,[(202,some (D2.fx K))],[],K,[],[],[],36,[]⟩
def C9.lt (K:Nat):LT C9.sg.R.D:=.two .t (.two .t (.two .t (.two (.two .t (.one (.loop C9.l1.M (fun n c p=>C9.l1 K c.1 c.2.1 c.2.2 n p.1 p.2) (fun nl1=>.t)))) .t)))
theorem C9.ct (K:Nat):CtX PP 192 C9.sg (fun x=>C9 K x.1 x.2.1 x.2.2):=ct_x (C:=C9.C K) (fn:=Tryz.f192) (c:=Tryz.f192.body.get!) (lt:=(C9.lt K)) fol (by kernel_rfl) (by kernel_rfl) rfl (fun x=>(by kernel_rfl)) (ok_two ok_t (ok_two ok_t (ok_two ok_t (ok_two (ok_two ok_t (ok_block (ok_loop (fun c p=>(by kernel_rfl)) (fun nl1=>⟨fun c p=>(by kernel_rfl),ok_t⟩)))) ok_t)))) (fun x=>(by kernel_rfl))
def C9.fx (K:Nat):FX PP:=⟨192,C9.sg,_,C9.ct K⟩
def Ce.C (K:Nat):CE:=⟨⟨PP,tys⟩,[(192,some (C9.fx K))],[],K,[],[],[0],40,[]⟩
theorem Ce.ct (K:Nat):CtX PP 186 Ce.sg (fun x=>Ce K x.1 x.2):=ct_x (C:=Ce.C K) (fn:=Tryz.f186) (c:=Tryz.f186.body.get!) (lt:=.t) fol (by kernel_rfl) (by kernel_rfl) rfl (fun x=>(by kernel_rfl)) (ok_t) (fun x=>(by kernel_rfl))
def Ce.fx (K:Nat):FX PP:=⟨186,Ce.sg,_,Ce.ct K⟩
def C5.C (K:Nat):CE:=⟨⟨PP,tys⟩,[(185,some (Cy.fx K)),(186,some (Ce.fx K))],[],K,[],[],[0],14,[]⟩
theorem C5.ct (K:Nat):CtX PP 173 C5.sg (fun x=>C5 K x.1 x.2):=ct_x (C:=C5.C K) (fn:=Tryz.f173) (c:=Tryz.f173.body.get!) (lt:=.t) fol (by kernel_rfl) (by kernel_rfl) rfl (fun x=>(by kernel_rfl)) (ok_t) (fun x=>(by kernel_rfl))
def C5.fx (K:Nat):FX PP:=⟨173,C5.sg,_,C5.ct K⟩
def Cr.C (K:Nat):CE:=⟨⟨PP,tys⟩,[(185,some (Cy.fx K)),(186,some (Ce.fx K))],[],K,[],[],[0],10,[]⟩
theorem Cr.ct (K:Nat):CtX PP 174 Cr.sg (fun x=>Cr K x):=ct_x (C:=Cr.C K) (fn:=Tryz.f174) (c:=Tryz.f174.body.get!) (lt:=.t) fol (by kernel_rfl) (by kernel_rfl) rfl (fun x=>(by kernel_rfl)) (ok_t) (fun x=>(by kernel_rfl))
def Cr.fx (K:Nat):FX PP:=⟨174,Cr.sg,_,Cr.ct K⟩
def De.C (K:Nat):CE:=⟨⟨PP,tys⟩,[(174,some (Cr.fx K)),(186,some (Ce.fx K))],[],K,[],[],[0],24,[]⟩
theorem De.ct (K:Nat):CtX PP 175 De.sg (fun x=>De K x):=ct_x (C:=De.C K) (fn:=Tryz.f175) (c:=Tryz.f175.body.get!) (lt:=.t) fol (by kernel_rfl) (by kernel_rfl) rfl (fun x=>(by kernel_rfl)) (ok_t) (fun x=>(by kernel_rfl))
def De.fx (K:Nat):FX PP:=⟨175,De.sg,_,De.ct K⟩
def Ea.C (K:Nat):CE:=⟨⟨PP,tys⟩,[],[],K,[],[],[],6,[]⟩
theorem Ea.ct (K:Nat):CtX PP 169 Ea.sg (fun x=>Ea K x):=ct_x (C:=Ea.C K) (fn:=Tryz.f169) (c:=Tryz.f169.body.get!) (lt:=.t) fol (by kernel_rfl) (by kernel_rfl) rfl (fun x=>(by kernel_rfl)) (ok_t) (fun x=>(by kernel_rfl))
def Ea.fx (K:Nat):FX PP:=⟨169,Ea.sg,_,Ea.ct K⟩
def Ck.j1.M:Tm:=⟨[(0,.c (.p (.int .u32) false (10,0))),(2,.c (.p (.int .i64) false (11,0)))],[],[]⟩
def Ck.j2.M:Tm:=⟨[(0,.c (.p (.int .u32) false (12,0))),(2,.c (.p (.int .i64) false (13,0)))],[],[]⟩
def Ck.C (K:Nat):CE:=⟨⟨PP,tys⟩,[],[],K,[],[],[],19,[]⟩
def Ck.lt (K:Nat):LT Ck.sg.R.D:=.two .t (.join Ck.j1.M (fun c p=>Ck.j1 K p.1 p.2) .t (.join Ck.j2.M (fun c p=>Ck.j2 K p.1 p.2) .t .t))
theorem Ck.ct (K:Nat):CtX PP 189 Ck.sg (fun x=>Ck K x):=ct_x (C:=Ck.C K) (fn:=Tryz.f189) (c:=Tryz.f189.body.get!) (lt:=(Ck.lt K)) fol (by kernel_rfl) (by kernel_rfl) rfl (fun x=>(by kernel_rfl)) (ok_two ok_t (ok_join ok_t (fun c p=>(by kernel_rfl)) (ok_join ok_t (fun c p=>(by kernel_rfl)) ok_t))) (fun x=>(by kernel_rfl))
def Ck.fx (K:Nat):FX PP:=⟨189,Ck.sg,_,Ck.ct K⟩
def Bx.j1.M:Tm:=⟨[(0,.c (.p (.int .u64) false (10,0))),(2,.c (.p (.int .i64) false (11,0)))],[],[]⟩
def Bx.j2.M:Tm:=⟨[(0,.c (.p (.int .u64) false (12,0))),(2,.c (.p (.int .i64) false (13,0)))],[],[]⟩
def Bx.j3.M:Tm:=⟨[(0,.c (.p (.int .u64) false (14,0))),(2,.c (.p (.int .i64) false (15,0)))],[],[]⟩
def Bx.C (K:Nat):CE:=⟨⟨PP,tys⟩,[],[],K,[],[],[],25,[]⟩
def Bx.lt (K:Nat):LT Bx.sg.R.D:=.two .t (.join Bx.j1.M (fun c p=>Bx.j1 K p.1 p.2) .t (.join Bx.j2.M (fun c p=>Bx.j2 K p.1 p.2) .t (.join Bx.j3.M (fun c p=>Bx.j3 K p.1 p.2) .t .t)))
theorem Bx.ct (K:Nat):CtX PP 190 Bx.sg (fun x=>Bx K x):=ct_x (C:=Bx.C K) (fn:=Tryz.f190) (c:=Tryz.f190.body.get!) (lt:=(Bx.lt K)) fol (by kernel_rfl) (by kernel_rfl) rfl (fun x=>(by kernel_rfl)) (ok_two ok_t (ok_join ok_t (fun c p=>(by kernel_rfl)) (ok_join ok_t (fun c p=>(by kernel_rfl)) (ok_join ok_t (fun c p=>(by kernel_rfl)) ok_t)))) (fun x=>(by kernel_rfl))
def Bx.fx (K:Nat):FX PP:=⟨190,Bx.sg,_,Bx.ct K⟩
def Dy.C (K:Nat):CE:=⟨⟨PP,tys⟩,[(190,some (Bx.fx K))],[],K,[],[],[],8,[]⟩
theorem Dy.ct (K:Nat):CtX PP 184 Dy.sg (fun x=>Dy K x):=ct_x (C:=Dy.C K) (fn:=Tryz.f184) (c:=Tryz.f184.body.get!) (lt:=.t) fol (by kernel_rfl) (by kernel_rfl) rfl (fun x=>(by kernel_rfl)) (ok_t) (fun x=>(by kernel_rfl))
def Dy.fx (K:Nat):FX PP:=⟨184,Dy.sg,_,Dy.ct K⟩
def Ec.C (K:Nat):CE:=⟨⟨PP,tys⟩,[(184,some (Dy.fx K))],[],K,[],[],[],28,[]⟩
theorem Ec.ct (K:Nat):CtX PP 170 Ec.sg (fun x=>Ec K x.1 x.2):=ct_x (C:=Ec.C K) (fn:=Tryz.f170) (c:=Tryz.f170.body.get!) (lt:=.t) fol (by kernel_rfl) (by kernel_rfl) rfl (fun x=>(by kernel_rfl)) (ok_t) (fun x=>(by kernel_rfl))
def Ec.fx (K:Nat):FX PP:=⟨170,Ec.sg,_,Ec.ct K⟩
def Dh.C (K:Nat):CE:=⟨⟨PP,tys⟩,[(173,some (C5.fx K)),(170,some (Ec.fx K)),(186,some (Ce.fx K))],[],K,[],[],[0],46,[]⟩
theorem Dh.ct (K:Nat):CtX PP 176 Dh.sg (fun x=>Dh K x.1 x.2):=ct_x (C:=Dh.C K) (fn:=Tryz.f176) (c:=Tryz.f176.body.get!) (lt:=.t) fol (by kernel_rfl) (by kernel_rfl) rfl (fun x=>(by kernel_rfl)) (ok_t) (fun x=>(by kernel_rfl))
def Dh.fx (K:Nat):FX PP:=⟨176,Dh.sg,_,Dh.ct K⟩
def Ch.j1.M:Tm:=⟨[(9,.c (.bx 5006000 0)),(10,.c (.p (.int .i64) false (14,0)))],[(5006000,.box [.p .str false (10,0),.p (.int .i64) false (11,0),.p (.int .i64) false (12,0),.p .bool false (13,0)])],[]⟩
def Ch.C (K:Nat):CE:=⟨⟨PP,tys⟩,[(173,some (C5.fx K)),(174,some (Cr.fx K)),(175,some (De.fx K)),(169,some (Ea.fx K)),(176,some (Dh.fx K))],[],K,[],[],[],45,[]⟩
def Ch.lt (K:Nat):LT Ch.sg.R.D:=.two .t (.two .t (.two .t (.join Ch.j1.M (fun c p=>Ch.j1 K p.1 p.2.1 p.2.2.1 p.2.2.2.1 p.2.2.2.2) .t .t)))
theorem Ch.ct (K:Nat):CtX PP 148 Ch.sg (fun x=>Ch K x.1 x.2.1 x.2.2):=ct_x (C:=Ch.C K) (fn:=Tryz.f148) (c:=Tryz.f148.body.get!) (lt:=(Ch.lt K)) fol (by kernel_rfl) (by kernel_rfl) rfl (fun x=>(by kernel_rfl)) (ok_two ok_t (ok_two ok_t (ok_two ok_t (ok_join ok_t (fun c p=>(by kernel_rfl)) ok_t)))) (fun x=>(by kernel_rfl))
def Ch.fx (K:Nat):FX PP:=⟨148,Ch.sg,_,Ch.ct K⟩
def Dp.C (K:Nat):CE:=⟨⟨PP,tys⟩,[(148,some (Ch.fx K))],[],K,[],[],[],20,[]⟩
theorem Dp.ct (K:Nat):CtX PP 95 Dp.sg (fun x=>Dp K x):=ct_x (C:=Dp.C K) (fn:=Tryz.f95) (c:=Tryz.f95.body.get!) (lt:=.t) fol (by kernel_rfl) (by kernel_rfl) rfl (fun x=>(by kernel_rfl)) (ok_t) (fun x=>(by kernel_rfl))
def Dp.fx (K:Nat):FX PP:=⟨95,Dp.sg,_,Dp.ct K⟩
def Di.C (K:Nat):CE:=⟨⟨PP,tys⟩,[],[],K,[],[],[],12,[]⟩
theorem Di.ct (K:Nat):CtX PP 177 Di.sg (fun x=>Di K x):=ct_x (C:=Di.C K) (fn:=Tryz.f177) (c:=Tryz.f177.body.get!) (lt:=.t) fol (by kernel_rfl) (by kernel_rfl) rfl (fun x=>(by kernel_rfl)) (ok_t) (fun x=>(by kernel_rfl))
def Di.fx (K:Nat):FX PP:=⟨177,Di.sg,_,Di.ct K⟩
def B8.l1.M:Tm:=⟨[(3,.c (.bx 5018000 0)),(6,.c (.vf 5018001)),(7,.c (.p (.int .i64) false (14,0))),(10,.c (.p (.int .i64) false (15,0))),(32,.c (.p (.int .i64) false (10,0))),(33,.c (.p (.int .i64) false (11,0)))],[(5018000,.box [.p .str true (1,0),.p (.int .i64) true (1,1)]),(5018001,.row C1 false false (13,0))],[(1,B8.sg.A)]⟩
def B8.j2.M:Tm:=⟨[(3,.c (.bx 5049000 0)),(6,.c (.vf 5049001)),(10,.c (.p (.int .i64) true (15,0))),(12,.c (.p (.int .i64) false (12,0))),(13,.c (.p (.int .i64) true (4000048,1))),(15,.c (.p (.int .i64) true (4000048,0))),(32,.c (.p (.int .i64) true (10,0))),(33,.c (.p (.int .i64) true (11,0)))],[(5049000,.box [.p .str true (1,0),.p (.int .i64) true (1,1)]),(5049001,.row C1 false true (13,0))],[(1,B8.sg.A),(10,(.int .i64)),(11,(.int .i64)),(13,(.sl C1)),(15,(.int .i64)),(4000048,Ch.sg.R)]⟩
def B8.C (K:Nat):CE:=⟨⟨PP,tys⟩,[(148,some (Ch.fx K)),(177,some (Di.fx K))],[],K,[],[],[],79,[]⟩
def B8.lt (K:Nat):LT B8.sg.R.D:=.two .t (.two .t (.two .t (.two .t (.two (.two .t (.one (.loop B8.l1.M (fun n c p=>B8.l1 K c.1 n p.1 p.2.1 p.2.2.1 p.2.2.2.1 p.2.2.2.2) (fun nl1=>.two .t (.two .t (.two (.one (.two .t (.two .t (.two .t (.two .t (.two .t (.join B8.j2.M (fun c p=>B8.j2 K (B8.l1 K c.1.1 nl1) c.2.2.2.2.2 c.2.1 c.2.2.1 c.2.2.2.1 c.2.2.2.2.1 c.1.1 p) .t .t))))))) .t)))))) .t))))
theorem B8.ct (K:Nat):CtX PP 150 B8.sg (fun x=>B8 K x.1 x.2.1 x.2.2):=ct_x (C:=B8.C K) (fn:=Tryz.f150) (c:=Tryz.f150.body.get!) (lt:=(B8.lt K)) fol (by kernel_rfl) (by kernel_rfl) rfl (fun x=>(by kernel_rfl)) (ok_two ok_t (ok_two ok_t (ok_two ok_t (ok_two ok_t (ok_two (ok_two ok_t (ok_block (ok_loop (fun c p=>(by kernel_rfl)) (fun nl1=>⟨fun c p=>(by kernel_rfl),ok_two ok_t (ok_two ok_t (ok_two (ok_block (ok_two ok_t (ok_two ok_t (ok_two ok_t (ok_two ok_t (ok_two ok_t (ok_join ok_t (fun c p=>(by kernel_rfl)) ok_t))))))) ok_t))⟩)))) ok_t))))) (fun x=>(by kernel_rfl))
def B8.fx (K:Nat):FX PP:=⟨150,B8.sg,_,B8.ct K⟩
def Dn.C (K:Nat):CE:=⟨⟨PP,tys⟩,[],[],K,[],[],[],9,[]⟩
theorem Dn.ct (K:Nat):CtX PP 101 Dn.sg (fun x=>Dn K x):=ct_x (C:=Dn.C K) (fn:=Tryz.f101) (c:=Tryz.f101.body.get!) (lt:=.t) fol (by kernel_rfl) (by kernel_rfl) rfl (fun x=>(by kernel_rfl)) (ok_t) (fun x=>(by kernel_rfl))
def Dn.fx (K:Nat):FX PP:=⟨101,Dn.sg,_,Dn.ct K⟩
def B6.l1.M:Tm:=⟨[(3,.c (.bx 5018000 0)),(6,.c (.vf 5018001)),(7,.c (.p (.int .i64) false (14,0))),(10,.c (.p (.int .i64) false (15,0))),(28,.c (.p (.int .i64) false (10,0))),(29,.c (.p (.int .i64) false (11,0)))],[(5018000,.box [.p .str true (1,0),.p (.int .i64) true (1,1)]),(5018001,.row (.int .i64) false false (13,0))],[(1,B6.sg.A)]⟩
def B6.j2.M:Tm:=⟨[(3,.c (.bx 5041000 0)),(6,.c (.vf 5041001)),(7,.c (.p (.int .i64) true (4000035,1))),(10,.c (.p (.int .i64) true (15,0))),(12,.c (.p (.int .i64) false (12,0))),(28,.c (.p (.int .i64) true (10,0))),(29,.c (.p (.int .i64) true (11,0)))],[(5041000,.box [.p .str true (1,0),.p (.int .i64) true (1,1)]),(5041001,.row (.int .i64) false true (13,0))],[(1,B6.sg.A),(10,(.int .i64)),(11,(.int .i64)),(13,(.sl (.int .i64))),(15,(.int .i64)),(4000035,Ch.sg.R)]⟩
def B6.C (K:Nat):CE:=⟨⟨PP,tys⟩,[(148,some (Ch.fx K)),(177,some (Di.fx K)),(101,some (Dn.fx K))],[],K,[],[],[],59,[]⟩
def B6.lt (K:Nat):LT B6.sg.R.D:=.two .t (.two .t (.two .t (.two .t (.two (.two .t (.one (.loop B6.l1.M (fun n c p=>B6.l1 K c.1 n p.1 p.2.1 p.2.2.1 p.2.2.2.1 p.2.2.2.2) (fun nl1=>.two .t (.two .t (.two (.one (.two .t (.two .t (.two .t (.join B6.j2.M (fun c p=>B6.j2 K (B6.l1 K c.1.1 nl1) c.2.2.2.1 c.2.2.2.2.1 c.2.2.2.2.2 c.2.1 c.2.2.1 c.1.1 p) .t .t))))) .t)))))) .t))))
theorem B6.ct (K:Nat):CtX PP 151 B6.sg (fun x=>B6 K x.1 x.2.1 x.2.2):=ct_x (C:=B6.C K) (fn:=Tryz.f151) (c:=Tryz.f151.body.get!) (lt:=(B6.lt K)) fol (by kernel_rfl) (by kernel_rfl) rfl (fun x=>(by kernel_rfl)) (ok_two ok_t (ok_two ok_t (ok_two ok_t (ok_two ok_t (ok_two (ok_two ok_t (ok_block (ok_loop (fun c p=>(by kernel_rfl)) (fun nl1=>⟨fun c p=>(by kernel_rfl),ok_two ok_t (ok_two ok_t (ok_two (ok_block (ok_two ok_t (ok_two ok_t (ok_two ok_t (ok_join ok_t (fun c p=>(by kernel_rfl)) ok_t))))) ok_t))⟩)))) ok_t))))) (fun x=>(by kernel_rfl))
def B6.fx (K:Nat):FX PP:=⟨151,B6.sg,_,B6.ct K⟩
def Cm.C (K:Nat):CE:=⟨⟨PP,tys⟩,[],[],K,[],[],[],8,[]⟩
theorem Cm.ct (K:Nat):CtX PP 178 Cm.sg (fun x=>Cm K x):=ct_clone (C:=Cm.C K) (fn:=Tryz.f178) (c:=Tryz.f178.body.get!) (lt:=.t) fol (by kernel_rfl) (by kernel_rfl) rfl (fun x=>(by kernel_rfl)) ok_t (fun x xs=>(by kernel_rfl)) (fun b n=>(by kernel_rfl)) (fun a b n=>(by kernel_rfl))
def Cm.fx (K:Nat):FX PP:=⟨178,Cm.sg,_,Cm.ct K⟩
def slices_Sort___int_int_.sx:SX PP:=⟨179,sortF,ct_sort Tryz.laysNm189⟩
def Db.l1.M:Tm:=⟨[(0,.c (.p (.sl (.int .i64)) true (1,0))),(5,.c (.p (.sl (.int .i64)) true (1,0))),(6,.c (.p (.int .i64) false (10,0))),(7,.c (.p (.int .i64) false (11,0)))],[],[(1,Db.sg.A)]⟩
def Db.C (K:Nat):CE:=⟨⟨PP,tys⟩,[(101,some (Dn.fx K))],[],K,[],[],[],29,[]⟩
def Db.lt (K:Nat):LT Db.sg.R.D:=.two .t (.two (.two .t (.one (.loop Db.l1.M (fun n c p=>Db.l1 K c n p.1 p.2) (fun nl1=>.t)))) .t)
theorem Db.ct (K:Nat):CtX PP 102 Db.sg (fun x=>Db K x):=ct_x (C:=Db.C K) (fn:=Tryz.f102) (c:=Tryz.f102.body.get!) (lt:=(Db.lt K)) fol (by kernel_rfl) (by kernel_rfl) rfl (fun x=>(by kernel_rfl)) (ok_two ok_t (ok_two (ok_two ok_t (ok_block (ok_loop (fun c p=>(by kernel_rfl)) (fun nl1=>⟨fun c p=>(by kernel_rfl),ok_t⟩)))) ok_t)) (fun x=>(by kernel_rfl))
def Db.fx (K:Nat):FX PP:=⟨102,Db.sg,_,Db.ct K⟩
def Cf.l1.M:Tm:=⟨[(1,.c (.p (.sl (.int .i64)) true (1,1))),(6,.c (.vf 5010000)),(7,.c (.p (.int .i64) false (10,0))),(13,.c (.p (.sl C1) true (1,0))),(14,.c (.p (.int .i64) false (11,0))),(15,.c (.p (.int .i64) false (12,0)))],[(5010000,.row (.int .i64) false false (16,0))],[(1,Cf.sg.A)]⟩
def Cf.l2.M:Tm:=⟨[(1,.c (.p (.sl (.int .i64)) true (1,1))),(6,.c (.vf 5034000)),(7,.c (.p (.int .i64) false (13,0))),(10,.c (.p (.int .i64) false (14,0))),(13,.c (.p (.sl C1) true (1,0))),(14,.c (.p (.int .i64) true (11,0))),(15,.c (.p (.int .i64) true (12,0)))],[(5034000,.row (.int .i64) false false (15,0))],[(1,Cf.sg.A),(11,(.int .i64)),(12,(.int .i64))]⟩
def Cf.C (K:Nat):CE:=⟨⟨PP,tys⟩,[(178,some (Cm.fx K)),(101,some (Dn.fx K)),(102,some (Db.fx K))],[(179,some slices_Sort___int_int_.sx)],K,[],[],[],75,[]⟩
def Cf.lt (K:Nat):LT Cf.sg.R.D:=.two .t (.two .t (.two .t (.two (.two .t (.one (.loop Cf.l1.M (fun n c p=>Cf.l1 K c.1 c.2 n p.1 p.2.1 p.2.2.1 p.2.2.2) (fun nl1=>.two .t (.two .t (.two (.one (.two .t (.two .t (.two .t (.two .t (.one (.loop Cf.l2.M (fun n c p=>Cf.l2 K (Cf.l1 K c.1.1 c.1.2 nl1) c.2.1 c.2.2 c.1.1 c.1.2 n p.1 p.2.1 p.2.2) (fun nl2=>.t)))))))) .t)))))) .t)))
theorem Cf.ct (K:Nat):CtX PP 152 Cf.sg (fun x=>Cf K x.1 x.2):=ct_x (C:=Cf.C K) (fn:=Tryz.f152) (c:=Tryz.f152.body.get!) (lt:=(Cf.lt K)) fol (by kernel_rfl) (by kernel_rfl) rfl (fun x=>(by kernel_rfl)) (ok_two ok_t (ok_two ok_t (ok_two ok_t (ok_two (ok_two ok_t (ok_block (ok_loop (fun c p=>(by kernel_rfl)) (fun nl1=>⟨fun c p=>(by kernel_rfl),ok_two ok_t (ok_two ok_t (ok_two (ok_block (ok_two ok_t (ok_two ok_t (ok_two ok_t (ok_two ok_t (ok_block (ok_loop (fun c p=>(by kernel_rfl)) (fun nl2=>⟨fun c p=>(by kernel_rfl),ok_t⟩)))))))) ok_t))⟩)))) ok_t)))) (fun x=>(by kernel_rfl))
def Cf.fx (K:Nat):FX PP:=⟨152,Cf.sg,_,Cf.ct K⟩
def Cj.l1.M:Tm:=⟨[(0,.c (.p (.sl (.int .i64)) true (1,0))),(2,.c (.vf 5006000)),(3,.c (.vf 5006001)),(4,.c (.p (.int .i64) false (10,0)))],[(5006000,.row C1 false false (12,0)),(5006001,.row (.int .i64) false false (13,0))],[(1,Cj.sg.A)]⟩
def Cj.l2.M:Tm:=⟨[(0,.c (.p (.sl (.int .i64)) true (1,0))),(2,.c (.vf 5018000)),(3,.c (.vf 5018001)),(4,.c (.p (.int .i64) true (10,0))),(5,.c (.p (.int .i64) false (11,0)))],[(5018000,.row C1 false false (14,0)),(5018001,.row (.int .i64) false false (15,0))],[(1,Cj.sg.A),(10,(.int .i64))]⟩
def Cj.C (K:Nat):CE:=⟨⟨PP,tys⟩,[],[],K,[],[],[],55,[]⟩
def Cj.lt (K:Nat):LT Cj.sg.R.D:=.two .t (.two (.two .t (.one (.loop Cj.l1.M (fun n c p=>Cj.l1 K c n p.1 p.2.1 p.2.2) (fun nl1=>.two .t (.one (.two .t (.two (.one (.loop Cj.l2.M (fun n c p=>Cj.l2 K (Cj.l1 K c.1 nl1) c.2 c.1 n p.1 p.2.1 p.2.2) (fun nl2=>.t))) .t))))))) .t)
theorem Cj.ct (K:Nat):CtX PP 153 Cj.sg (fun x=>Cj K x):=ct_x (C:=Cj.C K) (fn:=Tryz.f153) (c:=Tryz.f153.body.get!) (lt:=(Cj.lt K)) fol (by kernel_rfl) (by kernel_rfl) rfl (fun x=>(by kernel_rfl)) (ok_two ok_t (ok_two (ok_two ok_t (ok_block (ok_loop (fun c p=>(by kernel_rfl)) (fun nl1=>⟨fun c p=>(by kernel_rfl),ok_two ok_t (ok_block (ok_two ok_t (ok_two (ok_block (ok_loop (fun c p=>(by kernel_rfl)) (fun nl2=>⟨fun c p=>(by kernel_rfl),ok_t⟩))) ok_t)))⟩)))) ok_t)) (fun x=>(by kernel_rfl))
def Cj.fx (K:Nat):FX PP:=⟨153,Cj.sg,_,Cj.ct K⟩
def Ar.l1.M:Tm:=⟨[(0,.c (.p (.sl C1) true (1,0))),(1,.c (.p (.sl C1) true (1,1))),(12,.c (.p (.int .i64) false (10,0))),(13,.c (.p (.int .i64) false (11,0)))],[],[(1,Ar.sg.A)]⟩
def Ar.C (K:Nat):CE:=⟨⟨PP,tys⟩,[],[],K,[],[],[],26,[]⟩
def Ar.lt (K:Nat):LT Ar.sg.R.D:=.two .t (.two .t (.two (.two .t (.one (.loop Ar.l1.M (fun n c p=>Ar.l1 K c.1 c.2 n p.1 p.2) (fun nl1=>.t)))) .t))
theorem Ar.ct (K:Nat):CtX PP 154 Ar.sg (fun x=>Ar K x.1 x.2):=ct_x (C:=Ar.C K) (fn:=Tryz.f154) (c:=Tryz.f154.body.get!) (lt:=(Ar.lt K)) fol (by kernel_rfl) (by kernel_rfl) rfl (fun x=>(by kernel_rfl)) (ok_two ok_t (ok_two ok_t (ok_two (ok_two ok_t (ok_block (ok_loop (fun c p=>(by kernel_rfl)) (fun nl1=>⟨fun c p=>(by kernel_rfl),ok_t⟩)))) ok_t))) (fun x=>(by kernel_rfl))
def Ar.fx (K:Nat):FX PP:=⟨154,Ar.sg,_,Ar.ct K⟩
def A8.l1.M:Tm:=⟨[(0,.c (.p (.sl (.int .i64)) true (1,0))),(1,.c (.p (.sl (.int .i64)) true (1,1))),(12,.c (.p (.int .i64) false (10,0))),(13,.c (.p (.int .i64) false (11,0)))],[],[(1,A8.sg.A)]⟩
def A8.C (K:Nat):CE:=⟨⟨PP,tys⟩,[],[],K,[],[],[],26,[]⟩
def A8.lt (K:Nat):LT A8.sg.R.D:=.two .t (.two .t (.two (.two .t (.one (.loop A8.l1.M (fun n c p=>A8.l1 K c.1 c.2 n p.1 p.2) (fun nl1=>.t)))) .t))
theorem A8.ct (K:Nat):CtX PP 155 A8.sg (fun x=>A8 K x.1 x.2):=ct_x (C:=A8.C K) (fn:=Tryz.f155) (c:=Tryz.f155.body.get!) (lt:=(A8.lt K)) fol (by kernel_rfl) (by kernel_rfl) rfl (fun x=>(by kernel_rfl)) (ok_two ok_t (ok_two ok_t (ok_two (ok_two ok_t (ok_block (ok_loop (fun c p=>(by kernel_rfl)) (fun nl1=>⟨fun c p=>(by kernel_rfl),ok_t⟩)))) ok_t))) (fun x=>(by kernel_rfl))
def A8.fx (K:Nat):FX PP:=⟨155,A8.sg,_,A8.ct K⟩
def Dv.C (K:Nat):CE:=⟨⟨PP,tys⟩,[(150,some (B8.fx K)),(151,some (B6.fx K)),(152,some (Cf.fx K)),(153,some (Cj.fx K)),(154,some (Ar.fx K)),(155,some (A8.fx K))],[],K,[],[],[],56,[]⟩
theorem Dv.ct (K:Nat):CtX PP 98 Dv.sg (fun x=>Dv K x.1 x.2.1 x.2.2):=ct_x (C:=Dv.C K) (fn:=Tryz.f98) (c:=Tryz.f98.body.get!) (lt:=.t) fol (by kernel_rfl) (by kernel_rfl) rfl (fun x=>(by kernel_rfl)) (ok_t) (fun x=>(by kernel_rfl))
def Dv.fx (K:Nat):FX PP:=⟨98,Dv.sg,_,Dv.ct K⟩
def Dr.C (K:Nat):CE:=⟨⟨PP,tys⟩,[(98,some (Dv.fx K))],[],K,[],[],[2],15,[]⟩
theorem Dr.ct (K:Nat):CtX PP 140 Dr.sg (fun x=>Dr K x.1 x.2.1 x.2.2):=ct_x (C:=Dr.C K) (fn:=Tryz.f140) (c:=Tryz.f140.body.get!) (lt:=.t) fol (by kernel_rfl) (by kernel_rfl) rfl (fun x=>(by kernel_rfl)) (ok_t) (fun x=>(by kernel_rfl))
def Dr.fx (K:Nat):FX PP:=⟨140,Dr.sg,_,Dr.ct K⟩
def Dl.C (K:Nat):CE:=⟨⟨PP,tys⟩,[],[],K,[(1,[2])],[],[],7,[]⟩
theorem Dl.ct (K:Nat):CtX PP 149 Dl.sg (fun x=>Dl K x):=ct_x (C:=Dl.C K) (fn:=Tryz.f149) (c:=Tryz.f149.body.get!) (lt:=.t) fol (by kernel_rfl) (by kernel_rfl) rfl (fun x=>(by kernel_rfl)) (ok_t) (fun x=>(by kernel_rfl))
def Dl.fx (K:Nat):FX PP:=⟨149,Dl.sg,_,Dl.ct K⟩
def Da.l1.M:Tm:=⟨[(3,.c (.p (.int .i64) false (10,0))),(7,.c (.p (.sl (.sl (.int .i64))) true (1,1))),(8,.c (.p (.int .i64) false (11,0))),(9,.c (.p (.int .i64) false (12,0)))],[],[(1,Da.sg.A)]⟩
def Da.C (K:Nat):CE:=⟨⟨PP,tys⟩,[],[],K,[],[],[],19,[]⟩
def Da.lt (K:Nat):LT Da.sg.R.D:=.two .t (.two .t (.two (.two .t (.one (.loop Da.l1.M (fun n c p=>Da.l1 K c n p.1 p.2.1 p.2.2) (fun nl1=>.t)))) .t))
theorem Da.ct (K:Nat):CtX PP 132 Da.sg (fun x=>Da K x):=ct_x (C:=Da.C K) (fn:=Tryz.f132) (c:=Tryz.f132.body.get!) (lt:=(Da.lt K)) fol (by kernel_rfl) (by kernel_rfl) rfl (fun x=>(by kernel_rfl)) (ok_two ok_t (ok_two ok_t (ok_two (ok_two ok_t (ok_block (ok_loop (fun c p=>(by kernel_rfl)) (fun nl1=>⟨fun c p=>(by kernel_rfl),ok_t⟩)))) ok_t))) (fun x=>(by kernel_rfl))
def Da.fx (K:Nat):FX PP:=⟨132,Da.sg,_,Da.ct K⟩
def C0.l1.M:Tm:=⟨[(1,.c (.bx 5014000 0)),(22,.c (.p (.sl (.sl (.int .i64))) true (1,1))),(23,.c (.p (.int .i64) false (10,0))),(24,.c (.p (.int .i64) false (11,0)))],[(5014000,.box [.p (.int .i64) true (1,0),.p (.sl (.sl (.int .i64))) true (1,1)])],[(1,C0.sg.A)]⟩
def C0.C (K:Nat):CE:=⟨⟨PP,tys⟩,[(102,some (Db.fx K)),(132,some (Da.fx K))],[],K,[],[],[],51,[]⟩
def C0.lt (K:Nat):LT C0.sg.R.D:=.two .t (.two .t (.two (.two .t (.one (.loop C0.l1.M (fun n c p=>C0.l1 K c n p.1 p.2) (fun nl1=>.t)))) .t))
theorem C0.ct (K:Nat):CtX PP 80 C0.sg (fun x=>C0 K x):=ct_x (C:=C0.C K) (fn:=Tryz.f80) (c:=Tryz.f80.body.get!) (lt:=(C0.lt K)) fol (by kernel_rfl) (by kernel_rfl) rfl (fun x=>(by kernel_rfl)) (ok_two ok_t (ok_two ok_t (ok_two (ok_two ok_t (ok_block (ok_loop (fun c p=>(by kernel_rfl)) (fun nl1=>⟨fun c p=>(by kernel_rfl),ok_t⟩)))) ok_t))) (fun x=>(by kernel_rfl))
def C0.fx (K:Nat):FX PP:=⟨80,C0.sg,_,C0.ct K⟩
def Aw.l1.M:Tm:=⟨[(2,.c (.p (.int .i64) false (14,0))),(3,.fn 140 [.bx 4 0]),(8,.c (.bx 5008001 0)),(11,.c (.bx 5008002 0)),(18,.c (.p (.int .i64) true (1,1))),(19,.c (.p (.int .i64) false (11,0)))],[(4,.box [.p .str false (12,0),.p (.int .i64) false (13,0)]),(5008001,.box [.p (.int .i64) false (10,0),.nl (.sl (.int .i64))]),(5008002,.box [.p (.int .i64) true (4000017,0),.vf 5008003]),(5008003,.row (.sl (.int .i64)) true false (15,0))],[(1,Aw.sg.A),(4000017,Dl.sg.R)]⟩
def Aw.C (K:Nat):CE:=⟨⟨PP,tys⟩,[(149,some (Dl.fx K)),(140,some (Dr.fx K)),(80,some (C0.fx K))],[],K,[],[],[4],44,[]⟩
def Aw.lt (K:Nat):LT Aw.sg.R.D:=.two .t (.two .t (.two (.two .t (.one (.loop Aw.l1.M (fun n c p=>Aw.l1 K c.2 c.1.2.1 n p.1 p.2.1 p.2.2.1 p.2.2.2.1 p.2.2.2.2.1 p.2.2.2.2.2) (fun nl1=>.t)))) .t))
theorem Aw.ct (K:Nat):CtX PP 96 Aw.sg (fun x=>Aw K x.1 x.2.1 x.2.2.1 x.2.2.2.2):=ct_x (C:=Aw.C K) (fn:=Tryz.f96) (c:=Tryz.f96.body.get!) (lt:=(Aw.lt K)) fol (by kernel_rfl) (by kernel_rfl) rfl (fun x=>(by kernel_rfl)) (ok_two ok_t (ok_two ok_t (ok_two (ok_two ok_t (ok_block (ok_loop (fun c p=>(by kernel_rfl)) (fun nl1=>⟨fun c p=>(by kernel_rfl),ok_t⟩)))) ok_t))) (fun x=>(by kernel_rfl))
def Aw.fx (K:Nat):FX PP:=⟨96,Aw.sg,_,Aw.ct K⟩
def D4.C (K:Nat):CE:=⟨⟨PP,tys⟩,[(95,some (Dp.fx K)),(96,some (Aw.fx K))],[],K,[],[],[],35,[]⟩
theorem D4.ct (K:Nat):CtX PP 90 D4.sg (fun x=>D4 K x):=ct_x (C:=D4.C K) (fn:=Tryz.f90) (c:=Tryz.f90.body.get!) (lt:=.t) fol (by kernel_rfl) (by kernel_rfl) rfl (fun x=>(by kernel_rfl)) (ok_t) (fun x=>(by kernel_rfl))
def D4.fx (K:Nat):FX PP:=⟨90,D4.sg,_,D4.ct K⟩
def Dx.C (K:Nat):CE:=⟨⟨PP,tys⟩,[],[],K,[],[],[],13,[]⟩
theorem Dx.ct (K:Nat):CtX PP 118 Dx.sg (fun x=>Dx K x.1 x.2):=ct_x (C:=Dx.C K) (fn:=Tryz.f118) (c:=Tryz.f118.body.get!) (lt:=.t) fol (by kernel_rfl) (by kernel_rfl) rfl (fun x=>(by kernel_rfl)) (ok_t) (fun x=>(by kernel_rfl))
def Dx.fx (K:Nat):FX PP:=⟨118,Dx.sg,_,Dx.ct K⟩
def D5.C (K:Nat):CE:=⟨⟨PP,tys⟩,[(118,some (Dx.fx K))],[],K,[],[],[],14,[]⟩
theorem D5.ct (K:Nat):CtX PP 158 D5.sg (fun x=>D5 K x.1 x.2):=ct_x (C:=D5.C K) (fn:=Tryz.f158) (c:=Tryz.f158.body.get!) (lt:=.t) fol (by kernel_rfl) (by kernel_rfl) rfl (fun x=>(by kernel_rfl)) (ok_t) (fun x=>(by kernel_rfl))
def D5.fx (K:Nat):FX PP:=⟨158,D5.sg,_,D5.ct K⟩
def Bd.l1.M:Tm:=⟨[(0,.c (.p (.sl (.int .i64)) true (1,0))),(1,.c (.p (.int .i64) true (1,1))),(7,.c (.p (.int .i64) false (10,0))),(8,.c (.p (.int .i64) false (11,0)))],[],[(1,Bd.sg.A)]⟩
def Bd.C (K:Nat):CE:=⟨⟨PP,tys⟩,[],[],K,[],[],[],19,[]⟩
def Bd.lt (K:Nat):LT Bd.sg.R.D:=.two .t (.two (.two .t (.one (.loop Bd.l1.M (fun n c p=>Bd.l1 K c.1 c.2 n p.1 p.2) (fun nl1=>.t)))) .t)
theorem Bd.ct (K:Nat):CtX PP 160 Bd.sg (fun x=>Bd K x.1 x.2):=ct_x (C:=Bd.C K) (fn:=Tryz.f160) (c:=Tryz.f160.body.get!) (lt:=(Bd.lt K)) fol (by kernel_rfl) (by kernel_rfl) rfl (fun x=>(by kernel_rfl)) (ok_two ok_t (ok_two (ok_two ok_t (ok_block (ok_loop (fun c p=>(by kernel_rfl)) (fun nl1=>⟨fun c p=>(by kernel_rfl),ok_t⟩)))) ok_t)) (fun x=>(by kernel_rfl))
def Bd.fx (K:Nat):FX PP:=⟨160,Bd.sg,_,Bd.ct K⟩
def Bz.C (K:Nat):CE:=⟨⟨PP,tys⟩,[(160,some (Bd.fx K))],[],K,[],[],[],9,[]⟩
theorem Bz.ct (K:Nat):CtX PP 119 Bz.sg (fun x=>Bz K x.1 x.2):=ct_x (C:=Bz.C K) (fn:=Tryz.f119) (c:=Tryz.f119.body.get!) (lt:=.t) fol (by kernel_rfl) (by kernel_rfl) rfl (fun x=>(by kernel_rfl)) (ok_t) (fun x=>(by kernel_rfl))
def Bz.fx (K:Nat):FX PP:=⟨119,Bz.sg,_,Bz.ct K⟩
def B7.l1.M:Tm:=⟨[(0,.c (.p (.sl (.int .i64)) true (1,0))),(1,.c (.p (.sl (.int .i64)) true (1,1))),(4,.c (.vf 5008000)),(5,.c (.nl (.int .i64))),(6,.c (.p .bool false (16,0))),(7,.c (.p (.int .i64) false (10,0))),(12,.c (.p (.sl (.int .i64)) true (1,0))),(13,.c (.p (.int .i64) false (11,0))),(14,.c (.p (.int .i64) false (12,0)))],[(5008000,.row (.int .i64) false false (15,0))],[(1,B7.sg.A)]⟩
def B7.l2.M:Tm:=⟨[(0,.c (.p (.sl (.int .i64)) true (1,0))),(4,.c (.vf 5033000)),(5,.c (.vf 5033001)),(32,.c (.p (.sl (.int .i64)) true (1,1))),(33,.c (.p (.int .i64) false (13,0))),(34,.c (.p (.int .i64) false (14,0)))],[(5033000,.row (.int .i64) false false (18,0)),(5033001,.row (.int .i64) false false (17,0))],[(1,B7.sg.A)]⟩
def B7.C (K:Nat):CE:=⟨⟨PP,tys⟩,[(119,some (Bz.fx K))],[],K,[],[],[],49,[]⟩
def B7.lt (K:Nat):LT B7.sg.R.D:=.two .t (.two .t (.two (.two .t (.one (.loop B7.l1.M (fun n c p=>B7.l1 K c.1 c.2 n p.1 p.2.1 p.2.2.1 p.2.2.2.1 p.2.2.2.2) (fun nl1=>.t)))) (.two (.two .t (.one (.loop B7.l2.M (fun n c p=>B7.l2 K c.1 c.2 n p.1 p.2.1 p.2.2.1 p.2.2.2) (fun nl2=>.t)))) .t)))
theorem B7.ct (K:Nat):CtX PP 156 B7.sg (fun x=>B7 K x.1 x.2):=ct_x (C:=B7.C K) (fn:=Tryz.f156) (c:=Tryz.f156.body.get!) (lt:=(B7.lt K)) fol (by kernel_rfl) (by kernel_rfl) rfl (fun x=>(by kernel_rfl)) (ok_two ok_t (ok_two ok_t (ok_two (ok_two ok_t (ok_block (ok_loop (fun c p=>(by kernel_rfl)) (fun nl1=>⟨fun c p=>(by kernel_rfl),ok_t⟩)))) (ok_two (ok_two ok_t (ok_block (ok_loop (fun c p=>(by kernel_rfl)) (fun nl2=>⟨fun c p=>(by kernel_rfl),ok_t⟩)))) ok_t)))) (fun x=>(by kernel_rfl))
def B7.fx (K:Nat):FX PP:=⟨156,B7.sg,_,B7.ct K⟩
def Bf.l1.M:Tm:=⟨[(0,.c (.p (.sl (.int .i64)) true (1,0))),(1,.c (.p (.sl (.int .i64)) true (1,1))),(2,.c (.p (.sl (.int .i64)) true (1,2))),(8,.c (.vf 5012000)),(9,.c (.p (.sl (.int .i64)) false (16,0))),(10,.c (.p .bool false (17,0))),(18,.c (.p (.sl (.int .i64)) true (1,1))),(19,.c (.p (.int .i64) false (10,0))),(20,.c (.p (.int .i64) false (11,0)))],[(5012000,.row (.int .i64) false false (15,0))],[(1,Bf.sg.A)]⟩
def Bf.j2.M:Tm:=⟨[(0,.c (.p (.sl (.int .i64)) true (1,0))),(1,.c (.p (.sl (.int .i64)) true (1,1))),(2,.c (.p (.sl (.int .i64)) true (1,2))),(8,.c (.vf 5031000)),(9,.c (.p (.sl (.int .i64)) true (16,0))),(10,.c (.p .bool true (17,0))),(12,.c (.p (.int .i64) false (13,0))),(18,.c (.p (.sl (.int .i64)) true (1,1))),(19,.c (.p (.int .i64) true (10,0))),(20,.c (.p (.int .i64) true (11,0)))],[(5031000,.row (.int .i64) false false (12,0))],[(1,Bf.sg.A),(10,(.int .i64)),(11,(.int .i64)),(16,(.sl (.int .i64))),(17,.bool)]⟩
def Bf.j3.M:Tm:=⟨[(0,.c (.p (.sl (.int .i64)) true (1,0))),(1,.c (.p (.sl (.int .i64)) true (1,1))),(2,.c (.p (.sl (.int .i64)) true (1,2))),(8,.c (.vf 5039000))],[(5039000,.row (.int .i64) false false (14,0))],[(1,Bf.sg.A)]⟩
def Bf.C (K:Nat):CE:=⟨⟨PP,tys⟩,[(178,some (Cm.fx K)),(102,some (Db.fx K)),(156,some (B7.fx K)),(155,some (A8.fx K))],[(179,some slices_Sort___int_int_.sx)],K,[],[],[],68,[]⟩
def Bf.lt (K:Nat):LT Bf.sg.R.D:=.two .t (.two .t (.two .t (.two .t (.two (.two .t (.one (.loop Bf.l1.M (fun n c p=>Bf.l1 K c.1 c.2.1 c.2.2 n p.1 p.2.1 p.2.2.1 p.2.2.2.1 p.2.2.2.2) (fun nl1=>.two .t (.two .t (.two (.one (.two .t (.two .t (.join Bf.j2.M (fun c p=>Bf.j2 K (Bf.l1 K c.1.1 c.1.2.1 c.1.2.2 nl1) c.2.1 c.2.2.1 c.2.2.2.1 c.2.2.2.2 c.1.1 c.1.2.1 c.1.2.2 p.1 p.2) .t .t)))) .t)))))) (.join Bf.j3.M (fun c p=>Bf.j3 K c.1 c.2.1 c.2.2 p) .t .t)))))
theorem Bf.ct (K:Nat):CtX PP 157 Bf.sg (fun x=>Bf K x.1 x.2.1 x.2.2):=ct_x (C:=Bf.C K) (fn:=Tryz.f157) (c:=Tryz.f157.body.get!) (lt:=(Bf.lt K)) fol (by kernel_rfl) (by kernel_rfl) rfl (fun x=>(by kernel_rfl)) (ok_two ok_t (ok_two ok_t (ok_two ok_t (ok_two ok_t (ok_two (ok_two ok_t (ok_block (ok_loop (fun c p=>(by kernel_rfl)) (fun nl1=>⟨fun c p=>(by kernel_rfl),ok_two ok_t (ok_two ok_t (ok_two (ok_block (ok_two ok_t (ok_two ok_t (ok_join ok_t (fun c p=>(by kernel_rfl)) ok_t)))) ok_t))⟩)))) (ok_join ok_t (fun c p=>(by kernel_rfl)) ok_t)))))) (fun x=>(by kernel_rfl))
def Bf.fx (K:Nat):FX PP:=⟨157,Bf.sg,_,Bf.ct K⟩
def Ci.l1.M:Tm:=⟨[(2,.c (.p (.int .i64) true (1,3))),(3,.c (.p (.sl (.int .i64)) true (1,4))),(4,.c (.bx 5018000 0)),(9,.c (.p (.int .i64) false (12,0))),(12,.c (.vf 5018001)),(30,.c (.p (.int .i64) false (10,0))),(31,.c (.p (.int .i64) false (11,0)))],[(5018000,.box [.p .str true (1,0),.p (.int .i64) true (1,1)]),(5018001,.row (.int .i64) false false (13,0))],[(1,Ci.sg.A)]⟩
def Ci.C (K:Nat):CE:=⟨⟨PP,tys⟩,[(148,some (Ch.fx K)),(98,some (Dv.fx K)),(157,some (Bf.fx K))],[],K,[],[],[],72,[]⟩
def Ci.lt (K:Nat):LT Ci.sg.R.D:=.two .t (.two .t (.two .t (.two .t (.two (.two .t (.one (.loop Ci.l1.M (fun n c p=>Ci.l1 K c.1 c.2.2.1 c.2.2.2 n p.1 p.2.1 p.2.2.1 p.2.2.2) (fun nl1=>.t)))) .t))))
theorem Ci.ct (K:Nat):CtX PP 107 Ci.sg (fun x=>Ci K x.1 x.2.1 x.2.2.1 x.2.2.2):=ct_x (C:=Ci.C K) (fn:=Tryz.f107) (c:=Tryz.f107.body.get!) (lt:=(Ci.lt K)) fol (by kernel_rfl) (by kernel_rfl) rfl (fun x=>(by kernel_rfl)) (ok_two ok_t (ok_two ok_t (ok_two ok_t (ok_two ok_t (ok_two (ok_two ok_t (ok_block (ok_loop (fun c p=>(by kernel_rfl)) (fun nl1=>⟨fun c p=>(by kernel_rfl),ok_t⟩)))) ok_t))))) (fun x=>(by kernel_rfl))
def Ci.fx (K:Nat):FX PP:=⟨107,Ci.sg,_,Ci.ct K⟩
def Ds.C (K:Nat):CE:=⟨⟨PP,tys⟩,[(158,some (D5.fx K)),(107,some (Ci.fx K))],[],K,[],[],[2,3],19,[]⟩
theorem Ds.ct (K:Nat):CtX PP 159 Ds.sg (fun x=>Ds K x.1 x.2.1 x.2.2.1 x.2.2.2):=ct_x (C:=Ds.C K) (fn:=Tryz.f159) (c:=Tryz.f159.body.get!) (lt:=.t) fol (by kernel_rfl) (by kernel_rfl) rfl (fun x=>(by kernel_rfl)) (ok_t) (fun x=>(by kernel_rfl))
def Ds.fx (K:Nat):FX PP:=⟨159,Ds.sg,_,Ds.ct K⟩
def A5.l1.M:Tm:=⟨[(2,.c (.p (.int .i64) false (16,0))),(3,.fn 159 [.bx 4 0,.bx 5 0]),(8,.c (.bx 5008002 0)),(11,.c (.bx 5008003 0)),(18,.c (.p (.int .i64) true (1,1))),(19,.c (.p (.int .i64) false (11,0)))],[(4,.box [.p .str false (12,0),.p (.int .i64) false (13,0)]),(5,.box [.p (.int .i64) false (14,0),.p (.sl (.sl (.int .i64))) false (15,0)]),(5008002,.box [.p (.int .i64) false (10,0),.nl (.sl (.int .i64))]),(5008003,.box [.p (.int .i64) true (4000017,0),.vf 5008004]),(5008004,.row (.sl (.int .i64)) true false (17,0))],[(1,A5.sg.A),(4000017,Dl.sg.R)]⟩
def A5.C (K:Nat):CE:=⟨⟨PP,tys⟩,[(149,some (Dl.fx K)),(159,some (Ds.fx K)),(80,some (C0.fx K))],[],K,[],[],[4,5],44,[]⟩
def A5.lt (K:Nat):LT A5.sg.R.D:=.two .t (.two .t (.two (.two .t (.one (.loop A5.l1.M (fun n c p=>A5.l1 K c.2 c.1.2.1 n p.1 p.2.1 p.2.2.1 p.2.2.2.1 p.2.2.2.2.1 p.2.2.2.2.2.1 p.2.2.2.2.2.2.1 p.2.2.2.2.2.2.2) (fun nl1=>.t)))) .t))
theorem A5.ct (K:Nat):CtX PP 96 A5.sg (fun x=>A5 K x.1 x.2.1 x.2.2.1 x.2.2.2.2.1 x.2.2.2.2.2):=ct_x (C:=A5.C K) (fn:=Tryz.f96) (c:=Tryz.f96.body.get!) (lt:=(A5.lt K)) fol (by kernel_rfl) (by kernel_rfl) rfl (fun x=>(by kernel_rfl)) (ok_two ok_t (ok_two ok_t (ok_two (ok_two ok_t (ok_block (ok_loop (fun c p=>(by kernel_rfl)) (fun nl1=>⟨fun c p=>(by kernel_rfl),ok_t⟩)))) ok_t))) (fun x=>(by kernel_rfl))
def A5.fx (K:Nat):FX PP:=⟨96,A5.sg,_,A5.ct K⟩
def D6.C (K:Nat):CE:=⟨⟨PP,tys⟩,[(95,some (Dp.fx K)),(96,some (A5.fx K))],[],K,[],[],[],37,[]⟩
theorem D6.ct (K:Nat):CtX PP 114 D6.sg (fun x=>D6 K x.1 x.2):=ct_x (C:=D6.C K) (fn:=Tryz.f114) (c:=Tryz.f114.body.get!) (lt:=.t) fol (by kernel_rfl) (by kernel_rfl) rfl (fun x=>(by kernel_rfl)) (ok_t) (fun x=>(by kernel_rfl))
def D6.fx (K:Nat):FX PP:=⟨114,D6.sg,_,D6.ct K⟩
def Dj.l1.M:Tm:=⟨[(4,.c (.bx 5021000 0)),(5,.c (.bx 5021001 0)),(8,.c (.bx 5021002 0))],[(5021000,.box [.p (.int .i64) false (10,0),.nl (.sl (.int .i64))]),(5021001,.box [.p (.int .i64) false (11,0)]),(5021002,.box [.p (.int .i64) false (12,0),.vf 5021003]),(5021003,.row (.sl (.int .i64)) true false (13,0))],[]⟩
def Dj.C (K:Nat):CE:=⟨⟨PP,tys⟩,[(123,some (D8.fx K)),(163,some (Dc.fx K)),(90,some (D4.fx K)),(114,some (D6.fx K))],[],K,[],[],[],48,[(162,some slices_Backward___api_Object_api_Object_.bx)]⟩
def Dj.lt (K:Nat):LX Dj.sg.R.D:=.seqR .t (.seqR .t (.seqR .t (.seqL (.seqR .t (.blk (.range 162 Dj.l1.M Bb (fun n c p=>Dj.l1 K n p.1 p.2.1 p.2.2.1 p.2.2.2) (fun nl1=>.t) (fun nl1=>.t)))) .t)))
theorem Dj.ct (K:Nat):CtX PP 122 Dj.sg (fun x=>Dj K x.1 x.2):=ct_xX (C:=Dj.C K) (fn:=Tryz.f122) (c:=Tryz.f122.body.get!) (lx:=(Dj.lt K)) fol (by kernel_rfl) (by kernel_rfl) rfl (fun x=>(by kernel_rfl)) (okx_seqR ok_t (okx_seqR ok_t (okx_seqR ok_t (okx_seqL (okx_seqR ok_t (okx_blk (okx_range (fun c r=>(by kernel_rfl)) (fun x l=>⟨fun c r=>(by kernel_rfl),fun c r=>⟨ok_t,ok_t⟩⟩)))) ok_t)))) (fun x=>(by kernel_rfl))
def Dj.fx (K:Nat):FX PP:=⟨122,Dj.sg,_,Dj.ct K⟩
def Ca.l1.M:Tm:=⟨[(0,.c (.p (.sl Bb) true (1,0))),(4,.c (.vf 5016000)),(12,.c (.p (.sl Bb) true (1,0))),(13,.c (.p (.int .i64) false (10,0))),(14,.c (.p (.int .i64) false (11,0)))],[(5016000,.row Ba false false (12,0))],[(1,Ca.sg.A)]⟩
def Ca.C (K:Nat):CE:=⟨⟨PP,tys⟩,[(121,some (C6.fx K)),(122,some (Dj.fx K))],[],K,[],[(10,[.frz 4022001])],[],34,[]⟩
def Ca.lt (K:Nat):LT Ca.sg.R.D:=.two .t (.two .t (.two .t (.two (.two .t (.one (.loop Ca.l1.M (fun n c p=>Ca.l1 K c n p.1 p.2.1 p.2.2) (fun nl1=>.t)))) .t)))
theorem Ca.ct (K:Nat):CtX PP 116 Ca.sg (fun x=>Ca K x):=ct_x (C:=Ca.C K) (fn:=Tryz.f116) (c:=Tryz.f116.body.get!) (lt:=(Ca.lt K)) fol (by kernel_rfl) (by kernel_rfl) rfl (fun x=>(by kernel_rfl)) (ok_two ok_t (ok_two ok_t (ok_two ok_t (ok_two (ok_two ok_t (ok_block (ok_loop (fun c p=>(by kernel_rfl)) (fun nl1=>⟨fun c p=>(by kernel_rfl),ok_t⟩)))) ok_t)))) (fun x=>(by kernel_rfl))
def Ca.fx (K:Nat):FX PP:=⟨116,Ca.sg,_,Ca.ct K⟩
def Cd.l1.M:Tm:=⟨[(2,.c (.vf 5006000)),(8,.c (.p (.sl (.sl (.int .i64))) true (1,1))),(9,.c (.p (.int .i64) false (10,0))),(10,.c (.p (.int .i64) false (11,0)))],[(5006000,.row Dg false false (16,0))],[(1,Cd.sg.A)]⟩
def Cd.l2.M:Tm:=⟨[(2,.c (.vf 5020000)),(3,.c (.p (.int .i64) true (11,0))),(8,.c (.p (.sl (.sl (.int .i64))) true (1,1))),(9,.c (.p (.int .i64) true (10,0))),(10,.c (.p (.int .i64) true (11,0))),(15,.c (.p (.sl (.int .i64)) false (12,0))),(16,.c (.p (.int .i64) false (13,0))),(17,.c (.p (.int .i64) false (14,0)))],[(5020000,.row Dg false false (15,0))],[(1,Cd.sg.A),(10,(.int .i64)),(11,(.int .i64))]⟩
def Cd.C (K:Nat):CE:=⟨⟨PP,tys⟩,[],[],K,[],[],[],30,[]⟩
def Cd.lt (K:Nat):LT Cd.sg.R.D:=.two .t (.two (.two .t (.one (.loop Cd.l1.M (fun n c p=>Cd.l1 K c n p.1 p.2.1 p.2.2) (fun nl1=>.two .t (.two .t (.two (.one (.two .t (.two .t (.one (.loop Cd.l2.M (fun n c p=>Cd.l2 K (Cd.l1 K c.1 nl1) c.2.1 c.2.2 c.1 n p.1 p.2.1 p.2.2.1 p.2.2.2) (fun nl2=>.t)))))) .t)))))) .t)
theorem Cd.ct (K:Nat):CtX PP 117 Cd.sg (fun x=>Cd K x):=ct_x (C:=Cd.C K) (fn:=Tryz.f117) (c:=Tryz.f117.body.get!) (lt:=(Cd.lt K)) fol (by kernel_rfl) (by kernel_rfl) rfl (fun x=>(by kernel_rfl)) (ok_two ok_t (ok_two (ok_two ok_t (ok_block (ok_loop (fun c p=>(by kernel_rfl)) (fun nl1=>⟨fun c p=>(by kernel_rfl),ok_two ok_t (ok_two ok_t (ok_two (ok_block (ok_two ok_t (ok_two ok_t (ok_block (ok_loop (fun c p=>(by kernel_rfl)) (fun nl2=>⟨fun c p=>(by kernel_rfl),ok_t⟩)))))) ok_t))⟩)))) ok_t)) (fun x=>(by kernel_rfl))
def Cd.fx (K:Nat):FX PP:=⟨117,Cd.sg,_,Cd.ct K⟩
def Co.l1.M:Tm:=⟨[(6,.c (.vf 5018000)),(17,.c (.vf 5018001)),(18,.c (.p (.int .i64) false (10,0))),(19,.c (.p (.int .i64) false (11,0)))],[(5018000,.row (.int .i64) false false (12,0)),(5018001,.row Ba false true (4000011,0))],[(4000011,Ca.sg.R)]⟩
def Co.C (K:Nat):CE:=⟨⟨PP,tys⟩,[(116,some (Ca.fx K)),(117,some (Cd.fx K))],[],K,[],[],[],31,[]⟩
def Co.lt (K:Nat):LT Co.sg.R.D:=.two .t (.two .t (.two .t (.two .t (.two (.two .t (.one (.loop Co.l1.M (fun n c p=>Co.l1 K c n p.1 p.2.1 p.2.2) (fun nl1=>.t)))) .t))))
theorem Co.ct (K:Nat):CtX PP 53 Co.sg (fun x=>Co K x):=ct_x (C:=Co.C K) (fn:=Tryz.f53) (c:=Tryz.f53.body.get!) (lt:=(Co.lt K)) fol (by kernel_rfl) (by kernel_rfl) rfl (fun x=>(by kernel_rfl)) (ok_two ok_t (ok_two ok_t (ok_two ok_t (ok_two ok_t (ok_two (ok_two ok_t (ok_block (ok_loop (fun c p=>(by kernel_rfl)) (fun nl1=>⟨fun c p=>(by kernel_rfl),ok_t⟩)))) ok_t))))) (fun x=>(by kernel_rfl))
def Co.fx (K:Nat):FX PP:=⟨53,Co.sg,_,Co.ct K⟩
def Cp.C (K:Nat):CE:=⟨⟨PP,tys⟩,[],[],K,[],[],[],4,[]⟩
theorem Cp.ct (K:Nat):CtX PP 54 Cp.sg (fun x=>Cp K x):=ct_x (C:=Cp.C K) (fn:=Tryz.f54) (c:=Tryz.f54.body.get!) (lt:=.t) fol (by kernel_rfl) (by kernel_rfl) rfl (fun x=>(by kernel_rfl)) (ok_t) (fun x=>(by kernel_rfl))
def Cp.fx (K:Nat):FX PP:=⟨54,Cp.sg,_,Cp.ct K⟩
def Cg.l1.M:Tm:=⟨[(0,.c (.p (.sl Bb) true (1,0))),(1,.c (.p (.int .i64) true (1,1))),(2,.c (.p (.int .i64) true (1,2))),(10,.c (.vf 5026000)),(29,.c (.vf 5026001)),(30,.c (.p (.int .i64) false (10,0))),(31,.c (.p (.int .i64) false (11,0)))],[(5026000,.row (.int .i64) false false (13,0)),(5026001,.row Ba false true (4000023,0))],[(1,Cg.sg.A),(4000023,Ca.sg.R)]⟩
def Cg.j2.M:Tm:=⟨[(0,.c (.p (.sl Bb) true (1,0))),(1,.c (.p (.int .i64) true (1,1))),(2,.c (.p (.int .i64) true (1,2))),(10,.c (.vf 5037000)),(11,.c (.p (.int .i64) true (11,0))),(29,.c (.vf 5037001)),(30,.c (.p (.int .i64) true (10,0))),(31,.c (.p (.int .i64) true (11,0))),(47,.c (.p .bool false (12,0)))],[(5037000,.row (.int .i64) false true (13,0)),(5037001,.row Ba false true (4000023,0))],[(1,Cg.sg.A),(10,(.int .i64)),(11,(.int .i64)),(13,(.sl (.int .i64))),(4000023,Ca.sg.R)]⟩
def Cg.C (K:Nat):CE:=⟨⟨PP,tys⟩,[(101,some (Dn.fx K)),(116,some (Ca.fx K)),(118,some (Dx.fx K)),(119,some (Bz.fx K))],[],K,[],[],[],58,[]⟩
def Cg.lt (K:Nat):LT Cg.sg.R.D:=.two .t (.two .t (.two .t (.two .t (.two .t (.two (.two .t (.one (.loop Cg.l1.M (fun n c p=>Cg.l1 K c.2 c.1.1 c.1.2.1 c.1.2.2 n p.1 p.2.1 p.2.2) (fun nl1=>.two .t (.two .t (.two (.one (.two .t (.join Cg.j2.M (fun c p=>Cg.j2 K (Cg.l1 K c.2.2.2.2 c.1.1 c.1.2.1 c.1.2.2 nl1) c.2.2.2.1 c.2.2.2.2 c.2.1 c.2.2.1 c.1.1 c.1.2.1 c.1.2.2 p) .t .t))) .t)))))) .t)))))
theorem Cg.ct (K:Nat):CtX PP 55 Cg.sg (fun x=>Cg K x.1 x.2.1 x.2.2):=ct_x (C:=Cg.C K) (fn:=Tryz.f55) (c:=Tryz.f55.body.get!) (lt:=(Cg.lt K)) fol (by kernel_rfl) (by kernel_rfl) rfl (fun x=>(by kernel_rfl)) (ok_two ok_t (ok_two ok_t (ok_two ok_t (ok_two ok_t (ok_two ok_t (ok_two (ok_two ok_t (ok_block (ok_loop (fun c p=>(by kernel_rfl)) (fun nl1=>⟨fun c p=>(by kernel_rfl),ok_two ok_t (ok_two ok_t (ok_two (ok_block (ok_two ok_t (ok_join ok_t (fun c p=>(by kernel_rfl)) ok_t))) ok_t))⟩)))) ok_t)))))) (fun x=>(by kernel_rfl))
def Cg.fx (K:Nat):FX PP:=⟨55,Cg.sg,_,Cg.ct K⟩
def Du.C (K:Nat):CE:=⟨⟨PP,tys⟩,[(121,some (C6.fx K)),(122,some (Dj.fx K))],[],K,[],[],[],15,[]⟩
theorem Du.ct (K:Nat):CtX PP 68 Du.sg (fun x=>Du K x.1 x.2):=ct_x (C:=Du.C K) (fn:=Tryz.f68) (c:=Tryz.f68.body.get!) (lt:=.t) fol (by kernel_rfl) (by kernel_rfl) rfl (fun x=>(by kernel_rfl)) (ok_t) (fun x=>(by kernel_rfl))
def Du.fx (K:Nat):FX PP:=⟨68,Du.sg,_,Du.ct K⟩
def D3.C (K:Nat):CE:=⟨⟨PP,tys⟩,[(118,some (Dx.fx K)),(119,some (Bz.fx K))],[],K,[],[],[],20,[]⟩
theorem D3.ct (K:Nat):CtX PP 182 D3.sg (fun x=>D3 K x.1 x.2):=ct_x (C:=D3.C K) (fn:=Tryz.f182) (c:=Tryz.f182.body.get!) (lt:=.t) fol (by kernel_rfl) (by kernel_rfl) rfl (fun x=>(by kernel_rfl)) (ok_t) (fun x=>(by kernel_rfl))
def D3.fx (K:Nat):FX PP:=⟨182,D3.sg,_,D3.ct K⟩
def Dt.C (K:Nat):CE:=⟨⟨PP,tys⟩,[(182,some (D3.fx K))],[],K,[],[],[],7,[]⟩
theorem Dt.ct (K:Nat):CtX PP 181 Dt.sg (fun x=>Dt K x.1 x.2):=ct_x (C:=Dt.C K) (fn:=Tryz.f181) (c:=Tryz.f181.body.get!) (lt:=.t) fol (by kernel_rfl) (by kernel_rfl) rfl (fun x=>(by kernel_rfl)) (ok_t) (fun x=>(by kernel_rfl))
def Dt.fx (K:Nat):FX PP:=⟨181,Dt.sg,_,Dt.ct K⟩
def Ai.l1.M:Tm:=⟨[(0,.c (.p (.sl Dg) true (1,0))),(1,.fn 181 [.ia Ba 0 10]),(7,.c (.p (.int .i64) false (11,0))),(8,.c (.p (.int .i64) false (12,0)))],[],[(1,Ai.sg.A)]⟩
def Ai.C (K:Nat):CE:=⟨⟨PP,tys⟩,[(181,some (Dt.fx K))],[],K,[],[],[],19,[]⟩
def Ai.lt (K:Nat):LT Ai.sg.R.D:=.two .t (.two (.two .t (.one (.loop Ai.l1.M (fun n c p=>Ai.l1 K c.1 n p.1 p.2.1 p.2.2) (fun nl1=>.t)))) .t)
theorem Ai.ct (K:Nat):CtX PP 188 Ai.sg (fun x=>Ai K x.1 x.2):=ct_x (C:=Ai.C K) (fn:=Tryz.f188) (c:=Tryz.f188.body.get!) (lt:=(Ai.lt K)) fol (by kernel_rfl) (by kernel_rfl) rfl (fun x=>(by kernel_rfl)) (ok_two ok_t (ok_two (ok_two ok_t (ok_block (ok_loop (fun c p=>(by kernel_rfl)) (fun nl1=>⟨fun c p=>(by kernel_rfl),ok_t⟩)))) ok_t)) (fun x=>(by kernel_rfl))
def Ai.fx (K:Nat):FX PP:=⟨188,Ai.sg,_,Ai.ct K⟩
def Ah.l1.M:Tm:=⟨[(0,.c (.vf 5016000)),(1,.fn 181 [.ia Ba 0 10]),(5,.c (.p (.int .i64) false (13,0))),(6,.c (.p (.int .i64) false (11,0)))],[(5016000,.row Dg false false (12,0))],[]⟩
def Ah.C (K:Nat):CE:=⟨⟨PP,tys⟩,[(188,some (Ai.fx K)),(181,some (Dt.fx K))],[],K,[(12,[2])],[],[],42,[]⟩
def Ah.lt (K:Nat):LT Ah.sg.R.D:=.two .t (.two .t (.two .t (.two (.two .t (.one (.loop Ah.l1.M (fun n c p=>Ah.l1 K n p.1 p.2.1 p.2.2.1 p.2.2.2) (fun nl1=>.t)))) .t)))
theorem Ah.ct (K:Nat):CtX PP 180 Ah.sg (fun x=>Ah K x.1 x.2):=ct_x (C:=Ah.C K) (fn:=Tryz.f180) (c:=Tryz.f180.body.get!) (lt:=(Ah.lt K)) fol (by kernel_rfl) (by kernel_rfl) rfl (fun x=>(by kernel_rfl)) (ok_two ok_t (ok_two ok_t (ok_two ok_t (ok_two (ok_two ok_t (ok_block (ok_loop (fun c p=>(by kernel_rfl)) (fun nl1=>⟨fun c p=>(by kernel_rfl),ok_t⟩)))) ok_t)))) (fun x=>(by kernel_rfl))
def Ah.fx (K:Nat):FX PP:=⟨180,Ah.sg,_,Ah.ct K⟩
def D7.C (K:Nat):CE:=⟨⟨PP,tys⟩,[(117,some (Cd.fx K)),(180,some (Ah.fx K))],[],K,[],[(1,[.fzb 2 Ba])],[],9,[]⟩
theorem D7.ct (K:Nat):CtX PP 161 D7.sg (fun x=>D7 K x.1 x.2):=ct_x (C:=D7.C K) (fn:=Tryz.f161) (c:=Tryz.f161.body.get!) (lt:=.t) fol (by kernel_rfl) (by kernel_rfl) rfl (fun x=>(by kernel_rfl)) (ok_t) (fun x=>(by kernel_rfl))
def D7.fx (K:Nat):FX PP:=⟨161,D7.sg,_,D7.ct K⟩
def D9.C (K:Nat):CE:=⟨⟨PP,tys⟩,[(80,some (C0.fx K)),(161,some (D7.fx K))],[],K,[],[],[],21,[]⟩
theorem D9.ct (K:Nat):CtX PP 120 D9.sg (fun x=>D9 K x.1 x.2):=ct_x (C:=D9.C K) (fn:=Tryz.f120) (c:=Tryz.f120.body.get!) (lt:=.t) fol (by kernel_rfl) (by kernel_rfl) rfl (fun x=>(by kernel_rfl)) (ok_t) (fun x=>(by kernel_rfl))
def D9.fx (K:Nat):FX PP:=⟨120,D9.sg,_,D9.ct K⟩
def D0.C (K:Nat):CE:=⟨⟨PP,tys⟩,[(68,some (Du.fx K)),(120,some (D9.fx K))],[],K,[],[],[],35,[]⟩
theorem D0.ct (K:Nat):CtX PP 56 D0.sg (fun x=>D0 K x.1 x.2.1 x.2.2):=ct_x (C:=D0.C K) (fn:=Tryz.f56) (c:=Tryz.f56.body.get!) (lt:=.t) fol (by kernel_rfl) (by kernel_rfl) rfl (fun x=>(by kernel_rfl)) (ok_t) (fun x=>(by kernel_rfl))
def D0.fx (K:Nat):FX PP:=⟨56,D0.sg,_,D0.ct K⟩
def Bn.l1.M:Tm:=⟨[(0,.c (.p (.sl Dg) true (1,0))),(1,.c (.p (.sl Dg) true (1,1))),(5,.c (.p (.int .i64) false (10,0)))],[],[(1,Bn.sg.A)]⟩
def Bn.C (K:Nat):CE:=⟨⟨PP,tys⟩,[],[],K,[],[],[],26,[]⟩
def Bn.lt (K:Nat):LT Bn.sg.R.D:=.two .t (.two .t (.two (.two .t (.one (.loop Bn.l1.M (fun n c p=>Bn.l1 K c.1 c.2 n p) (fun nl1=>.t)))) .t))
theorem Bn.ct (K:Nat):CtX PP 57 Bn.sg (fun x=>Bn K x.1 x.2):=ct_x (C:=Bn.C K) (fn:=Tryz.f57) (c:=Tryz.f57.body.get!) (lt:=(Bn.lt K)) fol (by kernel_rfl) (by kernel_rfl) rfl (fun x=>(by kernel_rfl)) (ok_two ok_t (ok_two ok_t (ok_two (ok_two ok_t (ok_block (ok_loop (fun c p=>(by kernel_rfl)) (fun nl1=>⟨fun c p=>(by kernel_rfl),ok_t⟩)))) ok_t))) (fun x=>(by kernel_rfl))
def Bn.fx (K:Nat):FX PP:=⟨57,Bn.sg,_,Bn.ct K⟩
def B5.l1.M:Tm:=⟨[(0,.c (.p (.sl Bb) true (1,0))),(1,.c (.p (.int .i64) true (1,1))),(5,.c (.p (.int .i64) false (10,0)))],[],[(1,B5.sg.A)]⟩
def B5.C (K:Nat):CE:=⟨⟨PP,tys⟩,[],[],K,[],[],[],20,[]⟩
def B5.lt (K:Nat):LT B5.sg.R.D:=.two .t (.two (.two .t (.one (.loop B5.l1.M (fun n c p=>B5.l1 K c.1 c.2 n p) (fun nl1=>.t)))) .t)
theorem B5.ct (K:Nat):CtX PP 125 B5.sg (fun x=>B5 K x.1 x.2):=ct_x (C:=B5.C K) (fn:=Tryz.f125) (c:=Tryz.f125.body.get!) (lt:=(B5.lt K)) fol (by kernel_rfl) (by kernel_rfl) rfl (fun x=>(by kernel_rfl)) (ok_two ok_t (ok_two (ok_two ok_t (ok_block (ok_loop (fun c p=>(by kernel_rfl)) (fun nl1=>⟨fun c p=>(by kernel_rfl),ok_t⟩)))) ok_t)) (fun x=>(by kernel_rfl))
def B5.fx (K:Nat):FX PP:=⟨125,B5.sg,_,B5.ct K⟩
def Bp.l1.M:Tm:=⟨[(0,.c (.p (.sl Bb) true (1,0))),(1,.c (.p (.int .i64) false (11,0))),(6,.c (.p (.int .i64) false (10,0)))],[],[(1,Bp.sg.A)]⟩
def Bp.C (K:Nat):CE:=⟨⟨PP,tys⟩,[(125,some (B5.fx K))],[],K,[],[],[],25,[]⟩
def Bp.lt (K:Nat):LT Bp.sg.R.D:=.two .t (.two .t (.two .t (.two (.one (.loop Bp.l1.M (fun n c p=>Bp.l1 K c.1 n p.1 p.2) (fun nl1=>.t))) .t)))
theorem Bp.ct (K:Nat):CtX PP 72 Bp.sg (fun x=>Bp K x.1 x.2):=ct_x (C:=Bp.C K) (fn:=Tryz.f72) (c:=Tryz.f72.body.get!) (lt:=(Bp.lt K)) fol (by kernel_rfl) (by kernel_rfl) rfl (fun x=>(by kernel_rfl)) (ok_two ok_t (ok_two ok_t (ok_two ok_t (ok_two (ok_block (ok_loop (fun c p=>(by kernel_rfl)) (fun nl1=>⟨fun c p=>(by kernel_rfl),ok_t⟩))) ok_t)))) (fun x=>(by kernel_rfl))
def Bp.fx (K:Nat):FX PP:=⟨72,Bp.sg,_,Bp.ct K⟩
def Df.C (K:Nat):CE:=⟨⟨PP,tys⟩,[],[],K,[],[],[],16,[]⟩
theorem Df.ct (K:Nat):CtX PP 91 Df.sg (fun x=>Df K x.1 x.2):=ct_x (C:=Df.C K) (fn:=Tryz.f91) (c:=Tryz.f91.body.get!) (lt:=.t) fol (by kernel_rfl) (by kernel_rfl) rfl (fun x=>(by kernel_rfl)) (ok_t) (fun x=>(by kernel_rfl))
def Df.fx (K:Nat):FX PP:=⟨91,Df.sg,_,Df.ct K⟩
def Cb.l1.M:Tm:=⟨[(1,.c (.bx 5008000 0)),(3,.c (.vf 5008001)),(4,.c (.p (.int .i64) false (10,0)))],[(5008000,.box [.p .str true (1,0),.p (.int .i64) true (1,1)]),(5008001,.row (.int .u8) false false (11,0))],[(1,Cb.sg.A)]⟩
def Cb.C (K:Nat):CE:=⟨⟨PP,tys⟩,[(91,some (Df.fx K))],[],K,[],[],[],19,[]⟩
def Cb.lt (K:Nat):LT Cb.sg.R.D:=.two .t (.two .t (.two (.two .t (.one (.loop Cb.l1.M (fun n c p=>Cb.l1 K c n p.1 p.2) (fun nl1=>.t)))) .t))
theorem Cb.ct (K:Nat):CtX PP 24 Cb.sg (fun x=>Cb K x):=ct_x (C:=Cb.C K) (fn:=Tryz.f24) (c:=Tryz.f24.body.get!) (lt:=(Cb.lt K)) fol (by kernel_rfl) (by kernel_rfl) rfl (fun x=>(by kernel_rfl)) (ok_two ok_t (ok_two ok_t (ok_two (ok_two ok_t (ok_block (ok_loop (fun c p=>(by kernel_rfl)) (fun nl1=>⟨fun c p=>(by kernel_rfl),ok_t⟩)))) ok_t))) (fun x=>(by kernel_rfl))
def Cb.fx (K:Nat):FX PP:=⟨24,Cb.sg,_,Cb.ct K⟩
def Az.l1.M:Tm:=⟨[(0,.c (.p (.sl (.int .u8)) true (1,0))),(1,.c (.p (.int .i64) true (1,1))),(5,.c (.p (.int .i64) false (10,0)))],[],[(1,Az.sg.A)]⟩
def Az.C (K:Nat):CE:=⟨⟨PP,tys⟩,[],[],K,[],[],[],21,[]⟩
def Az.lt (K:Nat):LT Az.sg.R.D:=.two .t (.two (.two .t (.one (.loop Az.l1.M (fun n c p=>Az.l1 K c.1 c.2 n p) (fun nl1=>.t)))) .t)
theorem Az.ct (K:Nat):CtX PP 141 Az.sg (fun x=>Az K x.1 x.2):=ct_x (C:=Az.C K) (fn:=Tryz.f141) (c:=Tryz.f141.body.get!) (lt:=(Az.lt K)) fol (by kernel_rfl) (by kernel_rfl) rfl (fun x=>(by kernel_rfl)) (ok_two ok_t (ok_two (ok_two ok_t (ok_block (ok_loop (fun c p=>(by kernel_rfl)) (fun nl1=>⟨fun c p=>(by kernel_rfl),ok_t⟩)))) ok_t)) (fun x=>(by kernel_rfl))
def Az.fx (K:Nat):FX PP:=⟨141,Az.sg,_,Az.ct K⟩
def A7.l1.M:Tm:=⟨[(0,.c (.p (.sl (.int .u8)) true (1,0))),(1,.c (.p (.int .i64) true (1,1))),(2,.c (.p (.int .i64) true (1,2))),(7,.c (.p (.int .i64) false (10,0))),(8,.c (.p (.int .i64) false (11,0)))],[],[(1,A7.sg.A)]⟩
def A7.C (K:Nat):CE:=⟨⟨PP,tys⟩,[],[],K,[],[],[],26,[]⟩
def A7.lt (K:Nat):LT A7.sg.R.D:=.two .t (.two .t (.two (.two .t (.one (.loop A7.l1.M (fun n c p=>A7.l1 K c.1 c.2.1 c.2.2 n p.1 p.2) (fun nl1=>.t)))) .t))
theorem A7.ct (K:Nat):CtX PP 142 A7.sg (fun x=>A7 K x.1 x.2.1 x.2.2):=ct_x (C:=A7.C K) (fn:=Tryz.f142) (c:=Tryz.f142.body.get!) (lt:=(A7.lt K)) fol (by kernel_rfl) (by kernel_rfl) rfl (fun x=>(by kernel_rfl)) (ok_two ok_t (ok_two ok_t (ok_two (ok_two ok_t (ok_block (ok_loop (fun c p=>(by kernel_rfl)) (fun nl1=>⟨fun c p=>(by kernel_rfl),ok_t⟩)))) ok_t))) (fun x=>(by kernel_rfl))
def A7.fx (K:Nat):FX PP:=⟨142,A7.sg,_,A7.ct K⟩
def Ax.l1.M:Tm:=⟨[(0,.c (.p (.int .i64) false (11,0))),(3,.c (.p (.int .i64) false (10,0)))],[],[]⟩
def Ax.C (K:Nat):CE:=⟨⟨PP,tys⟩,[],[],K,[],[],[],11,[]⟩
def Ax.lt (K:Nat):LT Ax.sg.R.D:=.two .t (.two .t (.two (.one (.loop Ax.l1.M (fun n c p=>Ax.l1 K n p.1 p.2) (fun nl1=>.t))) .t))
theorem Ax.ct (K:Nat):CtX PP 136 Ax.sg (fun x=>Ax K x):=ct_x (C:=Ax.C K) (fn:=Tryz.f136) (c:=Tryz.f136.body.get!) (lt:=(Ax.lt K)) fol (by kernel_rfl) (by kernel_rfl) rfl (fun x=>(by kernel_rfl)) (ok_two ok_t (ok_two ok_t (ok_two (ok_block (ok_loop (fun c p=>(by kernel_rfl)) (fun nl1=>⟨fun c p=>(by kernel_rfl),ok_t⟩))) ok_t))) (fun x=>(by kernel_rfl))
def Ax.fx (K:Nat):FX PP:=⟨136,Ax.sg,_,Ax.ct K⟩
def Cn.C (K:Nat):CE:=⟨⟨PP,tys⟩,[],[],K,[],[],[],15,[]⟩
theorem Cn.ct (K:Nat):CtX PP 124 Cn.sg (fun x=>Cn K x.1 x.2.1 x.2.2):=ct_x (C:=Cn.C K) (fn:=Tryz.f124) (c:=Tryz.f124.body.get!) (lt:=.t) fol (by kernel_rfl) (by kernel_rfl) rfl (fun x=>(by kernel_rfl)) (ok_t) (fun x=>(by kernel_rfl))
def Cn.fx (K:Nat):FX PP:=⟨124,Cn.sg,_,Cn.ct K⟩
def Dd.C (K:Nat):CE:=⟨⟨PP,tys⟩,[(124,some (Cn.fx K))],[],K,[],[],[],15,[]⟩
theorem Dd.ct (K:Nat):CtX PP 143 Dd.sg (fun x=>Dd K x.1 x.2):=ct_x (C:=Dd.C K) (fn:=Tryz.f143) (c:=Tryz.f143.body.get!) (lt:=.t) fol (by kernel_rfl) (by kernel_rfl) rfl (fun x=>(by kernel_rfl)) (ok_t) (fun x=>(by kernel_rfl))
def Dd.fx (K:Nat):FX PP:=⟨143,Dd.sg,_,Dd.ct K⟩
def Ac.j1.M:Tm:=⟨[(2,.c (.p (.int .i64) true (1,2))),(9,.c (.p (.int .i64) false (14,0))),(10,.c (.p (.int .i64) false (15,0)))],[],[(1,Ac.sg.A)]⟩
def Ac.j2.M:Tm:=⟨[(0,.c (.p (.sl (.int .u8)) true (1,0))),(2,.c (.p (.int .i64) true (1,2))),(8,.c (.p (.int .i64) true (4000019,0))),(10,.c (.p (.int .i64) false (10,0))),(13,.c (.p (.int .i64) false (11,0)))],[],[(1,Ac.sg.A),(4000019,Az.sg.R)]⟩
def Ac.j3.M:Tm:=⟨[(2,.c (.p (.int .i64) true (1,2))),(8,.c (.p (.int .i64) true (4000019,0))),(10,.c (.p (.int .i64) false (12,0))),(13,.c (.p (.int .i64) true (11,0))),(16,.c (.p (.int .i64) false (13,0)))],[],[(1,Ac.sg.A),(11,(.int .i64)),(4000019,Az.sg.R)]⟩
def Ac.C (K:Nat) (ih:CtX PP 92 Ac.sg (fun x=>Ac K x.1 x.2.1 x.2.2)):CE:=⟨⟨PP,tys⟩,[(141,some (Az.fx K)),(142,some (A7.fx K)),(92,some ⟨92,Ac.sg,_,ih⟩),(136,some (Ax.fx K)),(143,some (Dd.fx K))],[],K,[],[],[],165,[]⟩
def Ac.lt (K:Nat):LT Ac.sg.R.D:=.two .t (.two .t (.two .t (.two .t (.join Ac.j1.M (fun c p=>Ac.j1 K (Ac K) c.2.2 p.1 p.2) (.two .t (.one (.two .t (.two .t (.two .t (.two .t (.two .t (.two .t (.two .t (.join Ac.j2.M (fun c p=>Ac.j2 K (Ac K) c.2 c.1.1 c.1.2.2 p.1 p.2) .t (.two .t (.two .t (.two .t (.two .t (.two .t (.two .t (.join Ac.j3.M (fun c p=>Ac.j3 K (Ac K) c.2.2 c.2.1 c.1.2.2 p.1 p.2) .t .t))))))))))))))))) .t))))
theorem Ac.ct:∀ K:Nat,CtX PP 92 Ac.sg (fun x=>Ac K x.1 x.2.1 x.2.2)
 | 0=>fun v x r h=>by cases h
 | K+1=>ct_x (C:=Ac.C K (Ac.ct K)) (fn:=Tryz.f92) (c:=Tryz.f92.body.get!) (lt:=(Ac.lt K)) fol (by kernel_rfl) (by kernel_rfl) rfl (fun x=>(by kernel_rfl)) (ok_two ok_t (ok_two ok_t (ok_two ok_t (ok_two ok_t (ok_join (ok_two ok_t (ok_block (ok_two ok_t (ok_cond ok_t (ok_two ok_t (ok_cond ok_t (ok_two ok_t (ok_cond ok_t (ok_two ok_t (ok_join ok_t (fun c p=>(by kernel_rfl)) (ok_two ok_t (ok_two ok_t (ok_two ok_t (ok_two ok_t (ok_two ok_t (ok_two ok_t (ok_join ok_t (fun c p=>(by kernel_rfl)) ok_t))))))))))))))))) (fun c p=>(by kernel_rfl)) ok_t))))) (fun x=>(by kernel_rfl))
def Ac.fx (K:Nat):FX PP:=⟨92,Ac.sg,_,Ac.ct K⟩
def Cu.C (K:Nat):CE:=⟨⟨PP,tys⟩,[],[],K,[(1,[2])],[],[],7,[]⟩
theorem Cu.ct (K:Nat):CtX PP 93 Cu.sg (fun x=>Cu K x):=ct_x (C:=Cu.C K) (fn:=Tryz.f93) (c:=Tryz.f93.body.get!) (lt:=.t) fol (by kernel_rfl) (by kernel_rfl) rfl (fun x=>(by kernel_rfl)) (ok_t) (fun x=>(by kernel_rfl))
def Cu.fx (K:Nat):FX PP:=⟨93,Cu.sg,_,Cu.ct K⟩
def Cv.C (K:Nat):CE:=⟨⟨PP,tys⟩,[],[],K,[],[],[],12,[]⟩
theorem Cv.ct (K:Nat):CtX PP 144 Cv.sg (fun x=>Cv K x):=ct_x (C:=Cv.C K) (fn:=Tryz.f144) (c:=Tryz.f144.body.get!) (lt:=.t) fol (by kernel_rfl) (by kernel_rfl) rfl (fun x=>(by kernel_rfl)) (ok_t) (fun x=>(by kernel_rfl))
def Cv.fx (K:Nat):FX PP:=⟨144,Cv.sg,_,Cv.ct K⟩
def Cw.C (K:Nat):CE:=⟨⟨PP,tys⟩,[],[],K,[],[],[],12,[]⟩
theorem Cw.ct (K:Nat):CtX PP 83 Cw.sg (fun x=>Cw K x.1 x.2):=ct_x (C:=Cw.C K) (fn:=Tryz.f83) (c:=Tryz.f83.body.get!) (lt:=.t) fol (by kernel_rfl) (by kernel_rfl) rfl (fun x=>(by kernel_rfl)) (ok_t) (fun x=>(by kernel_rfl))
def Cw.fx (K:Nat):FX PP:=⟨83,Cw.sg,_,Cw.ct K⟩
def Cs.C (K:Nat):CE:=⟨⟨PP,tys⟩,[(83,some (Cw.fx K))],[],K,[],[],[],5,[]⟩
theorem Cs.ct (K:Nat):CtX PP 35 Cs.sg (fun x=>Cs K x):=ct_x (C:=Cs.C K) (fn:=Tryz.f35) (c:=Tryz.f35.body.get!) (lt:=.t) fol (by kernel_rfl) (by kernel_rfl) rfl (fun x=>(by kernel_rfl)) (ok_t) (fun x=>(by kernel_rfl))
def Cs.fx (K:Nat):FX PP:=⟨35,Cs.sg,_,Cs.ct K⟩
def Bk.l1.M:Tm:=⟨[(0,.c (.p (.sl (.int .i64)) true (1,0))),(3,.c (.p (.int .i64) false (10,0)))],[],[(1,Bk.sg.A)]⟩
def Bk.C (K:Nat):CE:=⟨⟨PP,tys⟩,[(35,some (Cs.fx K))],[],K,[],[],[],39,[]⟩
def Bk.lt (K:Nat):LT Bk.sg.R.D:=.two .t (.two (.two .t (.one (.loop Bk.l1.M (fun n c p=>Bk.l1 K c n p) (fun nl1=>.t)))) .t)
theorem Bk.ct (K:Nat):CtX PP 34 Bk.sg (fun x=>Bk K x):=ct_x (C:=Bk.C K) (fn:=Tryz.f34) (c:=Tryz.f34.body.get!) (lt:=(Bk.lt K)) fol (by kernel_rfl) (by kernel_rfl) rfl (fun x=>(by kernel_rfl)) (ok_two ok_t (ok_two (ok_two ok_t (ok_block (ok_loop (fun c p=>(by kernel_rfl)) (fun nl1=>⟨fun c p=>(by kernel_rfl),ok_t⟩)))) ok_t)) (fun x=>(by kernel_rfl))
def Bk.fx (K:Nat):FX PP:=⟨34,Bk.sg,_,Bk.ct K⟩
def Bc.l1.M:Tm:=⟨[(0,.c (.p (.sl (.int .u8)) true (1,0))),(1,.c (.p (.int .i64) false (12,0))),(2,.c (.p (.int .i64) true (1,2))),(9,.c (.p (.int .i64) true (4000018,0))),(10,.c (.vf 5020000)),(11,.c (.p (.int .i64) false (10,0))),(12,.c (.p (.int .i64) false (11,0)))],[(5020000,.row (.int .i64) false false (13,0))],[(1,Bc.sg.A),(4000018,Ac.sg.R)]⟩
def Bc.C (K:Nat):CE:=⟨⟨PP,tys⟩,[(92,some (Ac.fx K)),(144,some (Cv.fx K)),(34,some (Bk.fx K))],[],K,[],[],[],62,[]⟩
def Bc.lt (K:Nat):LT Bc.sg.R.D:=.two .t (.two .t (.two .t (.two .t (.two .t (.two (.two .t (.one (.loop Bc.l1.M (fun n c p=>Bc.l1 K c.2 c.1.1 c.1.2.2 n p.1 p.2.1 p.2.2.1 p.2.2.2) (fun nl1=>.t)))) .t)))))
theorem Bc.ct (K:Nat):CtX PP 145 Bc.sg (fun x=>Bc K x.1 x.2.1 x.2.2):=ct_x (C:=Bc.C K) (fn:=Tryz.f145) (c:=Tryz.f145.body.get!) (lt:=(Bc.lt K)) fol (by kernel_rfl) (by kernel_rfl) rfl (fun x=>(by kernel_rfl)) (ok_two ok_t (ok_two ok_t (ok_two ok_t (ok_two ok_t (ok_two ok_t (ok_two (ok_two ok_t (ok_block (ok_loop (fun c p=>(by kernel_rfl)) (fun nl1=>⟨fun c p=>(by kernel_rfl),ok_t⟩)))) ok_t)))))) (fun x=>(by kernel_rfl))
def Bc.fx (K:Nat):FX PP:=⟨145,Bc.sg,_,Bc.ct K⟩
def Aj.l1.M:Tm:=⟨[(0,.c (.p (.sl C1) true (1,0))),(1,.c (.p (.sl (.int .i64)) true (1,1))),(6,.c (.av 5016000)),(7,.c (.p (.int .i64) false (11,0)))],[(5016000,.row .bool false false (10,0))],[(1,Aj.sg.A)]⟩
def Aj.l2.M:Tm:=⟨[(0,.c (.p (.sl C1) true (1,0))),(1,.c (.p (.sl (.int .i64)) true (1,1))),(6,.c (.av 5038000)),(7,.c (.p (.int .i64) true (11,0))),(8,.c (.bx 5038001 0)),(9,.c (.p (.int .i64) false (14,0)))],[(5038000,.row .bool false false (17,0)),(5038001,.box [.p (.int .i64) false (12,0),.p (.int .i64) false (13,0)])],[(1,Aj.sg.A),(11,(.int .i64))]⟩
def Aj.l3.M:Tm:=⟨[(1,.c (.p (.sl (.int .i64)) true (1,1))),(6,.c (.av 5054000)),(10,.c (.p (.int .i64) false (15,0)))],[(5054000,.row .bool false false (18,0))],[(1,Aj.sg.A)]⟩
def Aj.l4.M:Tm:=⟨[(6,.c (.av 5079000)),(11,.c (.vf 5079001)),(12,.c (.p (.int .i64) false (16,0)))],[(5079000,.row .bool false false (20,0)),(5079001,.row (.int .i64) false false (19,0))],[]⟩
def Aj.C (K:Nat):CE:=⟨⟨PP,tys⟩,[(34,some (Bk.fx K)),(35,some (Cs.fx K))],[],K,[],[],[],105,[]⟩
def Aj.lt (K:Nat):LT Aj.sg.R.D:=.two .t (.two .t (.two .t (.two (.two .t (.one (.loop Aj.l1.M (fun n c p=>Aj.l1 K c.1 c.2 n p.1 p.2) (fun nl1=>.two .t (.two (.one (.two .t (.two .t (.two .t (.one (.loop Aj.l2.M (fun n c p=>Aj.l2 K (Aj.l1 K c.1.1 c.1.2 nl1) c.2 c.1.1 c.1.2 n p.1 p.2.1 p.2.2.1 p.2.2.2) (fun nl2=>.t))))))) .t))))) (.two (.two .t (.one (.loop Aj.l3.M (fun n c p=>Aj.l3 K c.2 n p.1 p.2) (fun nl3=>.t)))) (.two .t (.two (.two .t (.one (.loop Aj.l4.M (fun n c p=>Aj.l4 K n p.1 p.2.1 p.2.2) (fun nl4=>.t)))) .t))))))
theorem Aj.ct (K:Nat):CtX PP 146 Aj.sg (fun x=>Aj K x.1 x.2):=ct_x (C:=Aj.C K) (fn:=Tryz.f146) (c:=Tryz.f146.body.get!) (lt:=(Aj.lt K)) fol (by kernel_rfl) (by kernel_rfl) rfl (fun x=>(by kernel_rfl)) (ok_two ok_t (ok_two ok_t (ok_two ok_t (ok_two (ok_two ok_t (ok_block (ok_loop (fun c p=>(by kernel_rfl)) (fun nl1=>⟨fun c p=>(by kernel_rfl),ok_two ok_t (ok_two (ok_block (ok_two ok_t (ok_two ok_t (ok_two ok_t (ok_block (ok_loop (fun c p=>(by kernel_rfl)) (fun nl2=>⟨fun c p=>(by kernel_rfl),ok_t⟩))))))) ok_t)⟩)))) (ok_two (ok_two ok_t (ok_block (ok_loop (fun c p=>(by kernel_rfl)) (fun nl3=>⟨fun c p=>(by kernel_rfl),ok_t⟩)))) (ok_two ok_t (ok_two (ok_two ok_t (ok_block (ok_loop (fun c p=>(by kernel_rfl)) (fun nl4=>⟨fun c p=>(by kernel_rfl),ok_t⟩)))) ok_t))))))) (fun x=>(by kernel_rfl))
def Aj.fx (K:Nat):FX PP:=⟨146,Aj.sg,_,Aj.ct K⟩
def As.l1.M:Tm:=⟨[(0,.c (.p (.sl (.int .i64)) true (1,0))),(4,.c (.vf 5010000)),(5,.c (.vf 5010001)),(6,.c (.p (.int .i64) false (10,0)))],[(5010000,.row C1 false false (12,0)),(5010001,.row (.int .i64) false false (13,0))],[(1,As.sg.A)]⟩
def As.l2.M:Tm:=⟨[(0,.c (.p (.sl (.int .i64)) true (1,0))),(4,.c (.vf 5022000)),(5,.c (.vf 5022001)),(6,.c (.p (.int .i64) true (10,0))),(7,.c (.p (.int .i64) false (11,0)))],[(5022000,.row C1 false false (14,0)),(5022001,.row (.int .i64) false false (15,0))],[(1,As.sg.A),(10,(.int .i64))]⟩
def As.C (K:Nat):CE:=⟨⟨PP,tys⟩,[],[],K,[],[],[],57,[]⟩
def As.lt (K:Nat):LT As.sg.R.D:=.two .t (.two .t (.two .t (.two (.two .t (.one (.loop As.l1.M (fun n c p=>As.l1 K c n p.1 p.2.1 p.2.2) (fun nl1=>.two .t (.one (.two .t (.two (.one (.loop As.l2.M (fun n c p=>As.l2 K (As.l1 K c.1 nl1) c.2 c.1 n p.1 p.2.1 p.2.2) (fun nl2=>.t))) .t))))))) .t)))
theorem As.ct (K:Nat):CtX PP 137 As.sg (fun x=>As K x):=ct_x (C:=As.C K) (fn:=Tryz.f137) (c:=Tryz.f137.body.get!) (lt:=(As.lt K)) fol (by kernel_rfl) (by kernel_rfl) rfl (fun x=>(by kernel_rfl)) (ok_two ok_t (ok_two ok_t (ok_two ok_t (ok_two (ok_two ok_t (ok_block (ok_loop (fun c p=>(by kernel_rfl)) (fun nl1=>⟨fun c p=>(by kernel_rfl),ok_two ok_t (ok_block (ok_two ok_t (ok_two (ok_block (ok_loop (fun c p=>(by kernel_rfl)) (fun nl2=>⟨fun c p=>(by kernel_rfl),ok_t⟩))) ok_t)))⟩)))) ok_t)))) (fun x=>(by kernel_rfl))
def As.fx (K:Nat):FX PP:=⟨137,As.sg,_,As.ct K⟩
def Al.l1.M:Tm:=⟨[(0,.c (.vf 5006000)),(1,.c (.p (.int .i64) true (1,1))),(7,.c (.p (.int .i64) false (10,0)))],[(5006000,.row (.int .u8) false false (11,0))],[(1,Al.sg.A)]⟩
def Al.C (K:Nat):CE:=⟨⟨PP,tys⟩,[],[],K,[],[],[],23,[]⟩
def Al.lt (K:Nat):LT Al.sg.R.D:=.two .t (.two (.two .t (.one (.loop Al.l1.M (fun n c p=>Al.l1 K c.2.1 n p.1 p.2) (fun nl1=>.t)))) .t)
theorem Al.ct (K:Nat):CtX PP 135 Al.sg (fun x=>Al K x.1 x.2.1 x.2.2):=ct_x (C:=Al.C K) (fn:=Tryz.f135) (c:=Tryz.f135.body.get!) (lt:=(Al.lt K)) fol (by kernel_rfl) (by kernel_rfl) rfl (fun x=>(by kernel_rfl)) (ok_two ok_t (ok_two (ok_two ok_t (ok_block (ok_loop (fun c p=>(by kernel_rfl)) (fun nl1=>⟨fun c p=>(by kernel_rfl),ok_t⟩)))) ok_t)) (fun x=>(by kernel_rfl))
def Al.fx (K:Nat):FX PP:=⟨135,Al.sg,_,Al.ct K⟩
def Af.l1.M:Tm:=⟨[(0,.c (.vf 5013000)),(2,.c (.p (.int .i64) true (1,2))),(7,.c (.p (.int .i64) false (10,0)))],[(5013000,.row (.int .u8) false false (12,0))],[(1,Af.sg.A)]⟩
def Af.j2.M:Tm:=⟨[(0,.c (.vf 5042000)),(2,.c (.p (.int .i64) true (1,2))),(8,.c (.p (.int .i64) false (11,0)))],[(5042000,.row (.int .u8) false true (1,0))],[(1,Af.sg.A)]⟩
def Af.C (K:Nat) (ih:CtX PP 85 Af.sg (fun x=>Af K x.1 x.2.1 x.2.2)):CE:=⟨⟨PP,tys⟩,[(136,some (Ax.fx K)),(135,some (Al.fx K)),(85,some ⟨85,Af.sg,_,ih⟩)],[],K,[],[],[],103,[]⟩
def Af.lt (K:Nat):LT Af.sg.R.D:=.two .t (.two (.two .t (.one (.two .t (.two (.two (.two .t (.one (.loop Af.l1.M (fun n c p=>Af.l1 K (Af K) c.2.2 n p.1 p.2) (fun nl1=>.t)))) .t) .t)))) (.two .t (.join Af.j2.M (fun c p=>Af.j2 K (Af K) c.1 c.2.2 p) .t .t)))
theorem Af.ct:∀ K:Nat,CtX PP 85 Af.sg (fun x=>Af K x.1 x.2.1 x.2.2)
 | 0=>fun v x r h=>by cases h
 | K+1=>ct_x (C:=Af.C K (Af.ct K)) (fn:=Tryz.f85) (c:=Tryz.f85.body.get!) (lt:=(Af.lt K)) fol (by kernel_rfl) (by kernel_rfl) rfl (fun x=>(by kernel_rfl)) (ok_two ok_t (ok_two (ok_two ok_t (ok_block (ok_two ok_t (ok_cond (ok_two (ok_two ok_t (ok_block (ok_loop (fun c p=>(by kernel_rfl)) (fun nl1=>⟨fun c p=>(by kernel_rfl),ok_t⟩)))) ok_t) ok_t)))) (ok_two ok_t (ok_join ok_t (fun c p=>(by kernel_rfl)) ok_t)))) (fun x=>(by kernel_rfl))
def Af.fx (K:Nat):FX PP:=⟨85,Af.sg,_,Af.ct K⟩
def Cx.C (K:Nat):CE:=⟨⟨PP,tys⟩,[],[],K,[],[],[],10,[]⟩
theorem Cx.ct (K:Nat):CtX PP 138 Cx.sg (fun x=>Cx K x):=ct_x (C:=Cx.C K) (fn:=Tryz.f138) (c:=Tryz.f138.body.get!) (lt:=.t) fol (by kernel_rfl) (by kernel_rfl) rfl (fun x=>(by kernel_rfl)) (ok_t) (fun x=>(by kernel_rfl))
def Cx.fx (K:Nat):FX PP:=⟨138,Cx.sg,_,Cx.ct K⟩
def Bo.l1.M:Tm:=⟨[(0,.c (.vf 5008000)),(1,.c (.p (.int .i64) true (1,1))),(2,.c (.p (.sl (.int .i64)) true (1,2))),(7,.c (.p (.int .i64) false (10,0)))],[(5008000,.row (.int .u8) false false (11,0))],[(1,Bo.sg.A)]⟩
def Bo.C (K:Nat):CE:=⟨⟨PP,tys⟩,[(85,some (Af.fx K)),(138,some (Cx.fx K))],[],K,[],[],[],43,[]⟩
def Bo.lt (K:Nat):LT Bo.sg.R.D:=.two .t (.two .t (.two (.two .t (.one (.loop Bo.l1.M (fun n c p=>Bo.l1 K c.2.1 c.2.2 n p.1 p.2) (fun nl1=>.t)))) .t))
theorem Bo.ct (K:Nat):CtX PP 139 Bo.sg (fun x=>Bo K x.1 x.2.1 x.2.2):=ct_x (C:=Bo.C K) (fn:=Tryz.f139) (c:=Tryz.f139.body.get!) (lt:=(Bo.lt K)) fol (by kernel_rfl) (by kernel_rfl) rfl (fun x=>(by kernel_rfl)) (ok_two ok_t (ok_two ok_t (ok_two (ok_two ok_t (ok_block (ok_loop (fun c p=>(by kernel_rfl)) (fun nl1=>⟨fun c p=>(by kernel_rfl),ok_t⟩)))) ok_t))) (fun x=>(by kernel_rfl))
def Bo.fx (K:Nat):FX PP:=⟨139,Bo.sg,_,Bo.ct K⟩
def Au.l1.M:Tm:=⟨[(0,.c (.vf 5010000)),(1,.c (.p (.int .i64) true (1,1))),(7,.c (.vf 5010001)),(8,.c (.vf 5010002)),(9,.c (.p (.int .i64) false (10,0)))],[(5010000,.row (.int .u8) false false (12,0)),(5010001,.row C1 false true (4000012,0)),(5010002,.row (.int .i64) false true (4000012,1))],[(1,Au.sg.A),(4000012,As.sg.R)]⟩
def Au.j2.M:Tm:=⟨[(0,.c (.vf 5019000)),(1,.c (.p (.int .i64) true (1,1))),(7,.c (.vf 5019001)),(8,.c (.vf 5019002)),(9,.c (.p (.int .i64) true (10,0)))],[(5019000,.row (.int .u8) false false (11,0)),(5019001,.row C1 false true (4000012,0)),(5019002,.row (.int .i64) false true (4000012,1))],[(1,Au.sg.A),(10,(.int .i64)),(4000012,As.sg.R)]⟩
def Au.C (K:Nat):CE:=⟨⟨PP,tys⟩,[(137,some (As.fx K)),(85,some (Af.fx K)),(138,some (Cx.fx K)),(139,some (Bo.fx K))],[],K,[],[],[],72,[]⟩
def Au.lt (K:Nat):LT Au.sg.R.D:=.two .t (.two .t (.two .t (.two (.two .t (.one (.loop Au.l1.M (fun n c p=>Au.l1 K c.2 c.1.2.1 n p.1 p.2) (fun nl1=>.two .t (.two (.one (.join Au.j2.M (fun c p=>Au.j2 K (Au.l1 K c.2.2 c.1.2.1 nl1) c.2.2 c.2.1 c.1.2.1 p) .t .t)) .t))))) .t)))
theorem Au.ct (K:Nat):CtX PP 86 Au.sg (fun x=>Au K x.1 x.2.1 x.2.2):=ct_x (C:=Au.C K) (fn:=Tryz.f86) (c:=Tryz.f86.body.get!) (lt:=(Au.lt K)) fol (by kernel_rfl) (by kernel_rfl) rfl (fun x=>(by kernel_rfl)) (ok_two ok_t (ok_two ok_t (ok_two ok_t (ok_two (ok_two ok_t (ok_block (ok_loop (fun c p=>(by kernel_rfl)) (fun nl1=>⟨fun c p=>(by kernel_rfl),ok_two ok_t (ok_two (ok_block (ok_join ok_t (fun c p=>(by kernel_rfl)) ok_t)) ok_t)⟩)))) ok_t)))) (fun x=>(by kernel_rfl))
def Au.fx (K:Nat):FX PP:=⟨86,Au.sg,_,Au.ct K⟩
def B4.l1.M:Tm:=⟨[(0,.c (.p (.sl (.int .u8)) true (1,0))),(1,.c (.p (.int .i64) true (1,1))),(2,.c (.p (.sl (.int .u8)) true (1,2))),(7,.c (.p (.int .i64) false (10,0)))],[],[(1,B4.sg.A)]⟩
def B4.C (K:Nat):CE:=⟨⟨PP,tys⟩,[],[],K,[],[],[],33,[]⟩
def B4.lt (K:Nat):LT B4.sg.R.D:=.two .t (.two (.two .t (.one (.loop B4.l1.M (fun n c p=>B4.l1 K c.1 c.2.1 c.2.2 n p) (fun nl1=>.t)))) .t)
theorem B4.ct (K:Nat):CtX PP 147 B4.sg (fun x=>B4 K x.1 x.2.1 x.2.2):=ct_x (C:=B4.C K) (fn:=Tryz.f147) (c:=Tryz.f147.body.get!) (lt:=(B4.lt K)) fol (by kernel_rfl) (by kernel_rfl) rfl (fun x=>(by kernel_rfl)) (ok_two ok_t (ok_two (ok_two ok_t (ok_block (ok_loop (fun c p=>(by kernel_rfl)) (fun nl1=>⟨fun c p=>(by kernel_rfl),ok_t⟩)))) ok_t)) (fun x=>(by kernel_rfl))
def B4.fx (K:Nat):FX PP:=⟨147,B4.sg,_,B4.ct K⟩
def Ap.l1.M:Tm:=⟨[(0,.c (.vf 5010000)),(1,.c (.p (.int .i64) true (1,1))),(7,.c (.vf 5010001)),(8,.c (.vf 5010002)),(9,.c (.p (.int .i64) false (10,0)))],[(5010000,.row (.int .u8) false false (12,0)),(5010001,.row C1 false true (4000012,0)),(5010002,.row (.int .i64) false true (4000012,1))],[(1,Ap.sg.A),(4000012,As.sg.R)]⟩
def Ap.j2.M:Tm:=⟨[(0,.c (.vf 5019000)),(1,.c (.p (.int .i64) true (1,1))),(7,.c (.vf 5019001)),(8,.c (.vf 5019002)),(9,.c (.p (.int .i64) true (10,0)))],[(5019000,.row (.int .u8) false false (11,0)),(5019001,.row C1 false true (4000012,0)),(5019002,.row (.int .i64) false true (4000012,1))],[(1,Ap.sg.A),(10,(.int .i64)),(4000012,As.sg.R)]⟩
def Ap.C (K:Nat):CE:=⟨⟨PP,tys⟩,[(137,some (As.fx K)),(85,some (Af.fx K)),(138,some (Cx.fx K)),(139,some (Bo.fx K))],[],K,[],[(2,[.nilS 0 6500000 false])],[],72,[]⟩
def Ap.lt (K:Nat):LT Ap.sg.R.D:=.two .t (.two .t (.two .t (.two (.two .t (.one (.loop Ap.l1.M (fun n c p=>Ap.l1 K c.2 c.1.2.1 n p.1 p.2) (fun nl1=>.two .t (.two (.one (.join Ap.j2.M (fun c p=>Ap.j2 K (Ap.l1 K c.2.2 c.1.2.1 nl1) c.2.2 c.2.1 c.1.2.1 p) .t .t)) .t))))) .t)))
theorem Ap.ct (K:Nat):CtX PP 86 Ap.sg (fun x=>Ap K x.1 x.2.1 x.2.2):=ct_x (C:=Ap.C K) (fn:=Tryz.f86) (c:=Tryz.f86.body.get!) (lt:=(Ap.lt K)) fol (by kernel_rfl) (by kernel_rfl) rfl (fun x=>(by kernel_rfl)) (ok_two ok_t (ok_two ok_t (ok_two ok_t (ok_two (ok_two ok_t (ok_block (ok_loop (fun c p=>(by kernel_rfl)) (fun nl1=>⟨fun c p=>(by kernel_rfl),ok_two ok_t (ok_two (ok_block (ok_join ok_t (fun c p=>(by kernel_rfl)) ok_t)) ok_t)⟩)))) ok_t)))) (fun x=>(by kernel_rfl))
def Ap.fx (K:Nat):FX PP:=⟨86,Ap.sg,_,Ap.ct K⟩
def Ao.l1.M:Tm:=⟨[(0,.c (.p (.sl (.int .u8)) true (1,0))),(1,.c (.p (.int .i64) false (14,0))),(2,.c (.p (.int .i64) true (1,2))),(9,.c (.p (.int .i64) true (1,1))),(10,.c (.p (.int .i64) true (4000028,0))),(11,.c (.vf 5022000)),(12,.c (.p (.int .i64) false (10,0))),(13,.c (.p (.int .i64) false (11,0)))],[(5022000,.row C1 false false (15,0))],[(1,Ao.sg.A),(4000028,Ac.sg.R)]⟩
def Ao.j2.M:Tm:=⟨[(0,.c (.p (.sl (.int .u8)) true (1,0))),(1,.c (.p (.int .i64) true (4000055,1))),(2,.c (.p (.int .i64) true (1,2))),(9,.c (.p (.int .i64) true (1,1))),(10,.c (.p (.int .i64) true (4000028,0))),(11,.c (.vf 5055000)),(13,.c (.p (.int .i64) true (11,0))),(18,.c (.bx 5055001 0))],[(5055000,.row C1 false true (15,0)),(5055001,.box [.p (.int .i64) false (12,0),.p (.int .i64) false (13,0)])],[(1,Ao.sg.A),(11,(.int .i64)),(15,(.sl C1)),(4000028,Ac.sg.R),(4000055,Ac.sg.R)]⟩
def Ao.C (K:Nat):CE:=⟨⟨PP,tys⟩,[(92,some (Ac.fx K)),(144,some (Cv.fx K)),(145,some (Bc.fx K)),(146,some (Aj.fx K)),(86,some (Ap.fx K)),(147,some (B4.fx K))],[],K,[],[],[],130,[]⟩
def Ao.lt (K:Nat):LT Ao.sg.R.D:=.two .t (.two .t (.two .t (.two .t (.two .t (.two .t (.two (.two .t (.one (.loop Ao.l1.M (fun n c p=>Ao.l1 K c.2 c.1.1 c.1.2.1 c.1.2.2 n p.1 p.2.1 p.2.2.1 p.2.2.2) (fun nl1=>.two .t (.two (.one (.two .t (.two .t (.two .t (.two .t (.two .t (.two .t (.join Ao.j2.M (fun c p=>Ao.j2 K (Ao.l1 K c.2.2.2.1 c.1.1 c.1.2.1 c.1.2.2 nl1) c.2.2.2.1 c.2.2.2.2 c.2.1 c.2.2.1 c.1.1 c.1.2.1 c.1.2.2 p.1 p.2) .t .t)))))))) .t))))) .t))))))
theorem Ao.ct (K:Nat):CtX PP 94 Ao.sg (fun x=>Ao K x.1 x.2.1 x.2.2):=ct_x (C:=Ao.C K) (fn:=Tryz.f94) (c:=Tryz.f94.body.get!) (lt:=(Ao.lt K)) fol (by kernel_rfl) (by kernel_rfl) rfl (fun x=>(by kernel_rfl)) (ok_two ok_t (ok_two ok_t (ok_two ok_t (ok_two ok_t (ok_two ok_t (ok_two ok_t (ok_two (ok_two ok_t (ok_block (ok_loop (fun c p=>(by kernel_rfl)) (fun nl1=>⟨fun c p=>(by kernel_rfl),ok_two ok_t (ok_two (ok_block (ok_two ok_t (ok_two ok_t (ok_two ok_t (ok_two ok_t (ok_two ok_t (ok_two ok_t (ok_join ok_t (fun c p=>(by kernel_rfl)) ok_t)))))))) ok_t)⟩)))) ok_t))))))) (fun x=>(by kernel_rfl))
def Ao.fx (K:Nat):FX PP:=⟨94,Ao.sg,_,Ao.ct K⟩
def B0.l1.M:Tm:=⟨[(1,.c (.bx 5008000 0)),(3,.c (.p (.int .i64) false (10,0))),(4,.c (.p (.int .i64) false (11,0)))],[(5008000,.box [.p (.int .i64) true (1,0),.p (.sl (.sl (.int .i64))) true (1,1)])],[(1,B0.sg.A)]⟩
def B0.C (K:Nat):CE:=⟨⟨PP,tys⟩,[],[],K,[],[],[],21,[]⟩
def B0.lt (K:Nat):LT B0.sg.R.D:=.two .t (.two .t (.two (.two .t (.one (.loop B0.l1.M (fun n c p=>B0.l1 K c n p.1 p.2) (fun nl1=>.t)))) .t))
theorem B0.ct (K:Nat):CtX PP 84 B0.sg (fun x=>B0 K x):=ct_x (C:=B0.C K) (fn:=Tryz.f84) (c:=Tryz.f84.body.get!) (lt:=(B0.lt K)) fol (by kernel_rfl) (by kernel_rfl) rfl (fun x=>(by kernel_rfl)) (ok_two ok_t (ok_two ok_t (ok_two (ok_two ok_t (ok_block (ok_loop (fun c p=>(by kernel_rfl)) (fun nl1=>⟨fun c p=>(by kernel_rfl),ok_t⟩)))) ok_t))) (fun x=>(by kernel_rfl))
def B0.fx (K:Nat):FX PP:=⟨84,B0.sg,_,B0.ct K⟩
def Bq.l1.M:Tm:=⟨[(1,.c (.bx 5014000 0)),(3,.c (.p (.int .i64) false (10,0)))],[(5014000,.box [.p (.int .i64) true (1,0),.p (.sl (.sl (.int .i64))) true (1,1)])],[(1,Bq.sg.A)]⟩
def Bq.C (K:Nat):CE:=⟨⟨PP,tys⟩,[(83,some (Cw.fx K)),(34,some (Bk.fx K)),(84,some (B0.fx K))],[],K,[],[],[],60,[]⟩
def Bq.lt (K:Nat):LT Bq.sg.R.D:=.two .t (.two .t (.two (.two .t (.one (.loop Bq.l1.M (fun n c p=>Bq.l1 K c n p) (fun nl1=>.t)))) .t))
theorem Bq.ct (K:Nat):CtX PP 16 Bq.sg (fun x=>Bq K x):=ct_x (C:=Bq.C K) (fn:=Tryz.f16) (c:=Tryz.f16.body.get!) (lt:=(Bq.lt K)) fol (by kernel_rfl) (by kernel_rfl) rfl (fun x=>(by kernel_rfl)) (ok_two ok_t (ok_two ok_t (ok_two (ok_two ok_t (ok_block (ok_loop (fun c p=>(by kernel_rfl)) (fun nl1=>⟨fun c p=>(by kernel_rfl),ok_t⟩)))) ok_t))) (fun x=>(by kernel_rfl))
def Bq.fx (K:Nat):FX PP:=⟨16,Bq.sg,_,Bq.ct K⟩
def Bh.l1.M:Tm:=⟨[(0,.c (.p (.sl (.int .u8)) true (1,0))),(2,.c (.bx 5018000 0)),(5,.c (.p (.int .i64) false (12,0))),(6,.c (.bx 5018001 0)),(7,.c (.p (.int .i64) false (11,0)))],[(5018000,.box [.p (.int .i64) false (10,0),.nl (.sl (.int .i64))]),(5018001,.box [.p (.int .i64) true (4000026,0),.vf 5018002]),(5018002,.row (.sl (.int .i64)) true false (13,0))],[(1,Bh.sg.A),(4000026,Cu.sg.R)]⟩
def Bh.C (K:Nat):CE:=⟨⟨PP,tys⟩,[(92,some (Ac.fx K)),(93,some (Cu.fx K)),(94,some (Ao.fx K)),(16,some (Bq.fx K))],[],K,[],[],[],61,[]⟩
def Bh.lt (K:Nat):LT Bh.sg.R.D:=.two .t (.two .t (.two .t (.two .t (.two (.two .t (.one (.loop Bh.l1.M (fun n c p=>Bh.l1 K c.2 c.1 n p.1 p.2.1 p.2.2.1 p.2.2.2) (fun nl1=>.t)))) .t))))
theorem Bh.ct (K:Nat):CtX PP 25 Bh.sg (fun x=>Bh K x):=ct_x (C:=Bh.C K) (fn:=Tryz.f25) (c:=Tryz.f25.body.get!) (lt:=(Bh.lt K)) fol (by kernel_rfl) (by kernel_rfl) rfl (fun x=>(by kernel_rfl)) (ok_two ok_t (ok_two ok_t (ok_two ok_t (ok_two ok_t (ok_two (ok_two ok_t (ok_block (ok_loop (fun c p=>(by kernel_rfl)) (fun nl1=>⟨fun c p=>(by kernel_rfl),ok_t⟩)))) ok_t))))) (fun x=>(by kernel_rfl))
def Bh.fx (K:Nat):FX PP:=⟨25,Bh.sg,_,Bh.ct K⟩
def C2.C (K:Nat):CE:=⟨⟨PP,tys⟩,[],[],K,[],[],[],14,[]⟩
theorem C2.ct (K:Nat):CtX PP 113 C2.sg (fun x=>C2 K x.1 x.2):=ct_x (C:=C2.C K) (fn:=Tryz.f113) (c:=Tryz.f113.body.get!) (lt:=.t) fol (by kernel_rfl) (by kernel_rfl) rfl (fun x=>(by kernel_rfl)) (ok_t) (fun x=>(by kernel_rfl))
def C2.fx (K:Nat):FX PP:=⟨113,C2.sg,_,C2.ct K⟩
def B9.l1.M:Tm:=⟨[(0,.c (.p (.sl (.int .i64)) true (1,0))),(1,.c (.p (.int .i64) true (1,1))),(5,.c (.p (.int .i64) false (10,0)))],[],[(1,B9.sg.A)]⟩
def B9.C (K:Nat):CE:=⟨⟨PP,tys⟩,[],[],K,[],[],[],19,[]⟩
def B9.lt (K:Nat):LT B9.sg.R.D:=.two .t (.two (.two .t (.one (.loop B9.l1.M (fun n c p=>B9.l1 K c.1 c.2 n p) (fun nl1=>.t)))) .t)
theorem B9.ct (K:Nat):CtX PP 130 B9.sg (fun x=>B9 K x.1 x.2):=ct_x (C:=B9.C K) (fn:=Tryz.f130) (c:=Tryz.f130.body.get!) (lt:=(B9.lt K)) fol (by kernel_rfl) (by kernel_rfl) rfl (fun x=>(by kernel_rfl)) (ok_two ok_t (ok_two (ok_two ok_t (ok_block (ok_loop (fun c p=>(by kernel_rfl)) (fun nl1=>⟨fun c p=>(by kernel_rfl),ok_t⟩)))) ok_t)) (fun x=>(by kernel_rfl))
def B9.fx (K:Nat):FX PP:=⟨130,B9.sg,_,B9.ct K⟩
def Aq.l1.M:Tm:=⟨[(0,.c (.p (.sl (.int .i64)) true (1,0))),(1,.c (.p (.sl (.int .i64)) true (1,1))),(6,.c (.vf 5010000)),(7,.c (.nl (.int .i64))),(8,.c (.p .bool false (14,0))),(9,.c (.p (.int .i64) false (10,0))),(10,.c (.p (.int .i64) false (11,0)))],[(5010000,.row (.int .i64) false false (13,0))],[(1,Aq.sg.A)]⟩
def Aq.l2.M:Tm:=⟨[(0,.c (.p (.sl (.int .i64)) true (1,0))),(1,.c (.p (.sl (.int .i64)) true (1,1))),(6,.c (.vf 5035000)),(7,.c (.vf 5035001)),(12,.c (.p (.int .i64) false (12,0)))],[(5035000,.row (.int .i64) false false (16,0)),(5035001,.row (.int .i64) false false (15,0))],[(1,Aq.sg.A)]⟩
def Aq.C (K:Nat):CE:=⟨⟨PP,tys⟩,[(130,some (B9.fx K))],[],K,[],[],[],58,[]⟩
def Aq.lt (K:Nat):LT Aq.sg.R.D:=.two .t (.two .t (.two .t (.two (.two .t (.one (.loop Aq.l1.M (fun n c p=>Aq.l1 K c.1 c.2 n p.1 p.2.1 p.2.2.1 p.2.2.2) (fun nl1=>.t)))) (.two (.two .t (.one (.loop Aq.l2.M (fun n c p=>Aq.l2 K c.1 c.2 n p.1 p.2.1 p.2.2) (fun nl2=>.t)))) .t))))
theorem Aq.ct (K:Nat):CtX PP 106 Aq.sg (fun x=>Aq K x.1 x.2):=ct_x (C:=Aq.C K) (fn:=Tryz.f106) (c:=Tryz.f106.body.get!) (lt:=(Aq.lt K)) fol (by kernel_rfl) (by kernel_rfl) rfl (fun x=>(by kernel_rfl)) (ok_two ok_t (ok_two ok_t (ok_two ok_t (ok_two (ok_two ok_t (ok_block (ok_loop (fun c p=>(by kernel_rfl)) (fun nl1=>⟨fun c p=>(by kernel_rfl),ok_t⟩)))) (ok_two (ok_two ok_t (ok_block (ok_loop (fun c p=>(by kernel_rfl)) (fun nl2=>⟨fun c p=>(by kernel_rfl),ok_t⟩)))) ok_t))))) (fun x=>(by kernel_rfl))
def Aq.fx (K:Nat):FX PP:=⟨106,Aq.sg,_,Aq.ct K⟩
def A9.l1.M:Tm:=⟨[(0,.c (.p (.sl (.int .i64)) true (1,0))),(1,.c (.p (.sl (.int .i64)) true (1,1))),(5,.c (.p (.int .i64) false (10,0)))],[],[(1,A9.sg.A)]⟩
def A9.C (K:Nat):CE:=⟨⟨PP,tys⟩,[],[],K,[],[],[],26,[]⟩
def A9.lt (K:Nat):LT A9.sg.R.D:=.two .t (.two .t (.two (.two .t (.one (.loop A9.l1.M (fun n c p=>A9.l1 K c.1 c.2 n p) (fun nl1=>.t)))) .t))
theorem A9.ct (K:Nat):CtX PP 20 A9.sg (fun x=>A9 K x.1 x.2):=ct_x (C:=A9.C K) (fn:=Tryz.f20) (c:=Tryz.f20.body.get!) (lt:=(A9.lt K)) fol (by kernel_rfl) (by kernel_rfl) rfl (fun x=>(by kernel_rfl)) (ok_two ok_t (ok_two ok_t (ok_two (ok_two ok_t (ok_block (ok_loop (fun c p=>(by kernel_rfl)) (fun nl1=>⟨fun c p=>(by kernel_rfl),ok_t⟩)))) ok_t))) (fun x=>(by kernel_rfl))
def A9.fx (K:Nat):FX PP:=⟨20,A9.sg,_,A9.ct K⟩
def Ad.l1.M:Tm:=⟨[(0,.c (.p (.sl (.int .i64)) true (1,0))),(1,.c (.p (.sl (.int .i64)) true (1,1))),(2,.c (.p (.sl (.int .i64)) true (1,2))),(8,.c (.av 5018000)),(9,.c (.p (.int .i64) false (11,0))),(10,.c (.p (.int .i64) false (12,0)))],[(5018000,.row .bool false false (10,0))],[(1,Ad.sg.A)]⟩
def Ad.j2.M:Tm:=⟨[(0,.c (.p (.sl (.int .i64)) true (1,0))),(1,.c (.p (.sl (.int .i64)) true (1,1))),(2,.c (.p (.sl (.int .i64)) true (1,2))),(8,.c (.av 5029000)),(9,.c (.p (.int .i64) true (11,0))),(10,.c (.p (.int .i64) true (12,0))),(11,.c (.p (.int .i64) false (13,0)))],[(5029000,.row .bool false true (10,0))],[(1,Ad.sg.A),(10,(.sl .bool)),(11,(.int .i64)),(12,(.int .i64))]⟩
def Ad.l3.M:Tm:=⟨[(0,.c (.p (.sl (.int .i64)) true (1,0))),(1,.c (.p (.sl (.int .i64)) true (1,1))),(2,.c (.p (.sl (.int .i64)) true (1,2))),(8,.c (.av 5047000)),(9,.c (.p (.int .i64) true (11,0))),(10,.c (.p (.int .i64) true (12,0))),(11,.c (.p (.int .i64) true (13,0))),(12,.c (.p (.int .i64) false (14,0)))],[(5047000,.row .bool false false (17,0))],[(1,Ad.sg.A),(11,(.int .i64)),(12,(.int .i64)),(13,(.int .i64))]⟩
def Ad.l4.M:Tm:=⟨[(0,.c (.p (.sl (.int .i64)) true (1,0))),(1,.c (.p (.sl (.int .i64)) true (1,1))),(2,.c (.p (.sl (.int .i64)) true (1,2))),(8,.c (.av 5064000)),(13,.c (.p (.int .i64) false (15,0)))],[(5064000,.row .bool false false (18,0))],[(1,Ad.sg.A)]⟩
def Ad.l5.M:Tm:=⟨[(0,.c (.p (.sl (.int .i64)) true (1,0))),(1,.c (.p (.sl (.int .i64)) true (1,1))),(2,.c (.p (.sl (.int .i64)) true (1,2))),(8,.c (.av 5081000)),(14,.c (.vf 5081001)),(15,.c (.p (.int .i64) false (16,0)))],[(5081000,.row .bool false false (20,0)),(5081001,.row (.int .i64) false false (19,0))],[(1,Ad.sg.A)]⟩
def Ad.C (K:Nat):CE:=⟨⟨PP,tys⟩,[(34,some (Bk.fx K)),(106,some (Aq.fx K)),(20,some (A9.fx K))],[],K,[],[],[],116,[]⟩
def Ad.lt (K:Nat):LT Ad.sg.R.D:=.two .t (.two .t (.two .t (.two .t (.two (.two .t (.one (.loop Ad.l1.M (fun n c p=>Ad.l1 K c.1 c.2.1 c.2.2 n p.1 p.2.1 p.2.2) (fun nl1=>.two .t (.two (.one (.two .t (.join Ad.j2.M (fun c p=>Ad.j2 K (Ad.l1 K c.1.1 c.1.2.1 c.1.2.2 nl1) c.2.1 c.2.2.1 c.2.2.2 c.1.1 c.1.2.1 c.1.2.2 p) .t (.two .t (.two (.two .t (.one (.loop Ad.l3.M (fun n c p=>Ad.l3 K (Ad.l1 K c.1.1 c.1.2.1 c.1.2.2 nl1) c.2.1 c.2.2.1 c.2.2.2 c.1.1 c.1.2.1 c.1.2.2 n p.1 p.2) (fun nl3=>.t)))) .t))))) .t))))) (.two (.two .t (.one (.loop Ad.l4.M (fun n c p=>Ad.l4 K c.1 c.2.1 c.2.2 n p.1 p.2) (fun nl4=>.t)))) (.two .t (.two (.two .t (.one (.loop Ad.l5.M (fun n c p=>Ad.l5 K c.1 c.2.1 c.2.2 n p.1 p.2.1 p.2.2) (fun nl5=>.t)))) .t)))))))
theorem Ad.ct (K:Nat):CtX PP 108 Ad.sg (fun x=>Ad K x.1 x.2.1 x.2.2):=ct_x (C:=Ad.C K) (fn:=Tryz.f108) (c:=Tryz.f108.body.get!) (lt:=(Ad.lt K)) fol (by kernel_rfl) (by kernel_rfl) rfl (fun x=>(by kernel_rfl)) (ok_two ok_t (ok_two ok_t (ok_two ok_t (ok_two ok_t (ok_two (ok_two ok_t (ok_block (ok_loop (fun c p=>(by kernel_rfl)) (fun nl1=>⟨fun c p=>(by kernel_rfl),ok_two ok_t (ok_two (ok_block (ok_two ok_t (ok_join ok_t (fun c p=>(by kernel_rfl)) (ok_two ok_t (ok_two (ok_two ok_t (ok_block (ok_loop (fun c p=>(by kernel_rfl)) (fun nl3=>⟨fun c p=>(by kernel_rfl),ok_t⟩)))) ok_t))))) ok_t)⟩)))) (ok_two (ok_two ok_t (ok_block (ok_loop (fun c p=>(by kernel_rfl)) (fun nl4=>⟨fun c p=>(by kernel_rfl),ok_t⟩)))) (ok_two ok_t (ok_two (ok_two ok_t (ok_block (ok_loop (fun c p=>(by kernel_rfl)) (fun nl5=>⟨fun c p=>(by kernel_rfl),ok_t⟩)))) ok_t)))))))) (fun x=>(by kernel_rfl))
def Ad.fx (K:Nat):FX PP:=⟨108,Ad.sg,_,Ad.ct K⟩
def Be.l1.M:Tm:=⟨[(0,.c (.p (.sl (.int .u8)) true (1,0))),(1,.c (.p (.int .i64) false (11,0))),(2,.c (.p (.int .i64) true (1,2))),(3,.c (.p (.sl (.int .i64)) true (1,3))),(11,.c (.p (.int .i64) true (4000023,0))),(12,.c (.vf 5018000)),(13,.c (.p (.int .i64) false (10,0)))],[(5018000,.row (.int .i64) false false (12,0))],[(1,Be.sg.A),(4000023,Ac.sg.R)]⟩
def Be.C (K:Nat):CE:=⟨⟨PP,tys⟩,[(92,some (Ac.fx K)),(94,some (Ao.fx K)),(108,some (Ad.fx K))],[],K,[],[],[],81,[]⟩
def Be.lt (K:Nat):LT Be.sg.R.D:=.two .t (.two .t (.two .t (.two .t (.two (.two .t (.one (.loop Be.l1.M (fun n c p=>Be.l1 K c.2 c.1.1 c.1.2.2.1 c.1.2.2.2 n p.1 p.2.1 p.2.2) (fun nl1=>.t)))) .t))))
theorem Be.ct (K:Nat):CtX PP 40 Be.sg (fun x=>Be K x.1 x.2.1 x.2.2.1 x.2.2.2):=ct_x (C:=Be.C K) (fn:=Tryz.f40) (c:=Tryz.f40.body.get!) (lt:=(Be.lt K)) fol (by kernel_rfl) (by kernel_rfl) rfl (fun x=>(by kernel_rfl)) (ok_two ok_t (ok_two ok_t (ok_two ok_t (ok_two ok_t (ok_two (ok_two ok_t (ok_block (ok_loop (fun c p=>(by kernel_rfl)) (fun nl1=>⟨fun c p=>(by kernel_rfl),ok_t⟩)))) ok_t))))) (fun x=>(by kernel_rfl))
def Be.fx (K:Nat):FX PP:=⟨40,Be.sg,_,Be.ct K⟩
def Bi.l1.M:Tm:=⟨[(1,.c (.p (.sl (.int .u8)) true (1,2))),(2,.c (.bx 5018000 0)),(4,.c (.bx 5018001 0)),(7,.c (.p (.int .i64) false (12,0))),(8,.c (.bx 5018002 0)),(9,.c (.p (.int .i64) false (11,0)))],[(5018000,.box [.p (.int .i64) true (1,0),.p (.sl (.sl (.int .i64))) true (1,1)]),(5018001,.box [.p (.int .i64) false (10,0),.nl (.sl (.int .i64))]),(5018002,.box [.p (.int .i64) true (4000028,0),.vf 5018003]),(5018003,.row (.sl (.int .i64)) true false (13,0))],[(1,Bi.sg.A),(4000028,Cu.sg.R)]⟩
def Bi.C (K:Nat):CE:=⟨⟨PP,tys⟩,[(92,some (Ac.fx K)),(93,some (Cu.fx K)),(113,some (C2.fx K)),(40,some (Be.fx K)),(16,some (Bq.fx K))],[],K,[],[],[],66,[]⟩
def Bi.lt (K:Nat):LT Bi.sg.R.D:=.two .t (.two .t (.two .t (.two .t (.two (.two .t (.one (.loop Bi.l1.M (fun n c p=>Bi.l1 K c.2 c.1.1 c.1.2 n p.1 p.2.1 p.2.2.1 p.2.2.2) (fun nl1=>.t)))) .t))))
theorem Bi.ct (K:Nat):CtX PP 50 Bi.sg (fun x=>Bi K x.1 x.2):=ct_x (C:=Bi.C K) (fn:=Tryz.f50) (c:=Tryz.f50.body.get!) (lt:=(Bi.lt K)) fol (by kernel_rfl) (by kernel_rfl) rfl (fun x=>(by kernel_rfl)) (ok_two ok_t (ok_two ok_t (ok_two ok_t (ok_two ok_t (ok_two (ok_two ok_t (ok_block (ok_loop (fun c p=>(by kernel_rfl)) (fun nl1=>⟨fun c p=>(by kernel_rfl),ok_t⟩)))) ok_t))))) (fun x=>(by kernel_rfl))
def Bi.fx (K:Nat):FX PP:=⟨50,Bi.sg,_,Bi.ct K⟩
def Ay.j1.M:Tm:=⟨[(4,.c (.bx 5020000 0)),(10,.c (.bx 5020001 0)),(11,.c (.p .bool false (13,0)))],[(5020000,.box [.p (.int .i64) false (10,0),.nl (.sl (.int .i64))]),(5020001,.box [.p (.int .i64) false (11,0),.vf 5020002]),(5020002,.row (.sl (.int .i64)) true false (12,0))],[]⟩
def Ay.C (K:Nat) (ih:CtX PP 73 Ay.sg (fun x=>Ay K x.1 x.2)):CE:=⟨⟨PP,tys⟩,[(72,some (Bp.fx K)),(125,some (B5.fx K)),(24,some (Cb.fx K)),(25,some (Bh.fx K)),(73,some ⟨73,Ay.sg,_,ih⟩),(50,some (Bi.fx K))],[],K,[],[],[],62,[]⟩
def Ay.lt (K:Nat):LT Ay.sg.R.D:=.two .t (.two .t (.two .t (.two .t (.two .t (.two .t (.two .t (.join Ay.j1.M (fun c p=>Ay.j1 K (Ay K) p.1 p.2.1 p.2.2.1 p.2.2.2) .t .t)))))))
theorem Ay.ct:∀ K:Nat,CtX PP 73 Ay.sg (fun x=>Ay K x.1 x.2)
 | 0=>fun v x r h=>by cases h
 | K+1=>ct_x (C:=Ay.C K (Ay.ct K)) (fn:=Tryz.f73) (c:=Tryz.f73.body.get!) (lt:=(Ay.lt K)) fol (by kernel_rfl) (by kernel_rfl) rfl (fun x=>(by kernel_rfl)) (ok_two ok_t (ok_two ok_t (ok_two ok_t (ok_two ok_t (ok_two ok_t (ok_two ok_t (ok_two ok_t (ok_join ok_t (fun c p=>(by kernel_rfl)) ok_t)))))))) (fun x=>(by kernel_rfl))
def Ay.fx (K:Nat):FX PP:=⟨73,Ay.sg,_,Ay.ct K⟩
def Am.l1.M:Tm:=⟨[(0,.c (.vf 5013000)),(2,.c (.p (.int .i64) true (1,2))),(7,.c (.p (.int .i64) false (10,0)))],[(5013000,.row (.int .u8) false false (12,0))],[(1,Am.sg.A)]⟩
def Am.j2.M:Tm:=⟨[(0,.c (.nl (.int .u8))),(2,.c (.p (.int .i64) true (1,2))),(8,.c (.p (.int .i64) false (11,0)))],[],[(1,Am.sg.A)]⟩
def Am.C (K:Nat):CE:=⟨⟨PP,tys⟩,[(136,some (Ax.fx K)),(135,some (Al.fx K)),(85,some (Af.fx K))],[],K,[],[(9,[.nilS 0 6500000 false]),(11,[.nilS 0 6500000 false]),(16,[.nilS 0 6500000 false])],[],103,[]⟩
def Am.lt (K:Nat):LT Am.sg.R.D:=.two .t (.two (.two .t (.one (.two .t (.two (.two (.two .t (.one (.loop Am.l1.M (fun n c p=>Am.l1 K c.2.2 n p.1 p.2) (fun nl1=>.t)))) .t) .t)))) (.two .t (.join Am.j2.M (fun c p=>Am.j2 K c.2.2 p) .t .t)))
theorem Am.ct (K:Nat):CtX PP 85 Am.sg (fun x=>Am K x.1 x.2.1 x.2.2):=ct_x (C:=Am.C K) (fn:=Tryz.f85) (c:=Tryz.f85.body.get!) (lt:=(Am.lt K)) fol (by kernel_rfl) (by kernel_rfl) rfl (fun x=>(by kernel_rfl)) (ok_two ok_t (ok_two (ok_two ok_t (ok_block (ok_two ok_t (ok_cond (ok_two (ok_two ok_t (ok_block (ok_loop (fun c p=>(by kernel_rfl)) (fun nl1=>⟨fun c p=>(by kernel_rfl),ok_t⟩)))) ok_t) ok_t)))) (ok_two ok_t (ok_join ok_t (fun c p=>(by kernel_rfl)) ok_t)))) (fun x=>(by kernel_rfl))
def Am.fx (K:Nat):FX PP:=⟨85,Am.sg,_,Am.ct K⟩
def Bl.l1.M:Tm:=⟨[(1,.c (.bx 5010000 0)),(4,.c (.vf 5010001)),(5,.c (.vf 5010002)),(6,.c (.p (.int .i64) false (10,0)))],[(5010000,.box [.p (.int .i64) true (1,0),.p (.sl (.sl (.int .i64))) true (1,1)]),(5010001,.row (.int .u8) false false (11,0)),(5010002,.row (.int .i64) false false (12,0))],[(1,Bl.sg.A)]⟩
def Bl.C (K:Nat):CE:=⟨⟨PP,tys⟩,[(85,some (Am.fx K)),(86,some (Au.fx K))],[],K,[],[],[],32,[]⟩
def Bl.lt (K:Nat):LT Bl.sg.R.D:=.two .t (.two .t (.two .t (.two (.two .t (.one (.loop Bl.l1.M (fun n c p=>Bl.l1 K c n p.1 p.2.1 p.2.2) (fun nl1=>.t)))) .t)))
theorem Bl.ct (K:Nat):CtX PP 17 Bl.sg (fun x=>Bl K x):=ct_x (C:=Bl.C K) (fn:=Tryz.f17) (c:=Tryz.f17.body.get!) (lt:=(Bl.lt K)) fol (by kernel_rfl) (by kernel_rfl) rfl (fun x=>(by kernel_rfl)) (ok_two ok_t (ok_two ok_t (ok_two ok_t (ok_two (ok_two ok_t (ok_block (ok_loop (fun c p=>(by kernel_rfl)) (fun nl1=>⟨fun c p=>(by kernel_rfl),ok_t⟩)))) ok_t)))) (fun x=>(by kernel_rfl))
def Bl.fx (K:Nat):FX PP:=⟨17,Bl.sg,_,Bl.ct K⟩
def Bv.l1.M:Tm:=⟨[(0,.c (.vf 5010000)),(1,.c (.p (.int .i64) true (1,1))),(9,.c (.vf 5010001)),(10,.c (.vf 5010002)),(11,.c (.p (.int .i64) false (10,0)))],[(5010000,.row (.int .u8) false false (11,0)),(5010001,.row (.int .i64) false true (4000016,0)),(5010002,.row (.int .i64) false true (4000016,1))],[(1,Bv.sg.A),(4000016,Aq.sg.R)]⟩
def Bv.C (K:Nat):CE:=⟨⟨PP,tys⟩,[(106,some (Aq.fx K)),(85,some (Af.fx K)),(86,some (Au.fx K))],[],K,[],[],[],45,[]⟩
def Bv.lt (K:Nat):LT Bv.sg.R.D:=.two .t (.two .t (.two .t (.two (.two .t (.one (.loop Bv.l1.M (fun n c p=>Bv.l1 K c.2 c.1.2.1 n p.1 p.2) (fun nl1=>.t)))) .t)))
theorem Bv.ct (K:Nat):CtX PP 36 Bv.sg (fun x=>Bv K x.1 x.2.1 x.2.2.1 x.2.2.2):=ct_x (C:=Bv.C K) (fn:=Tryz.f36) (c:=Tryz.f36.body.get!) (lt:=(Bv.lt K)) fol (by kernel_rfl) (by kernel_rfl) rfl (fun x=>(by kernel_rfl)) (ok_two ok_t (ok_two ok_t (ok_two ok_t (ok_two (ok_two ok_t (ok_block (ok_loop (fun c p=>(by kernel_rfl)) (fun nl1=>⟨fun c p=>(by kernel_rfl),ok_t⟩)))) ok_t)))) (fun x=>(by kernel_rfl))
def Bv.fx (K:Nat):FX PP:=⟨36,Bv.sg,_,Bv.ct K⟩
def Bm.l1.M:Tm:=⟨[(2,.c (.bx 5008000 0)),(3,.c (.bx 5008001 0)),(5,.c (.vf 5008002)),(6,.c (.p (.int .i64) false (10,0)))],[(5008000,.box [.p (.int .i64) true (1,0),.p (.sl (.sl (.int .i64))) true (1,1)]),(5008001,.box [.p (.int .i64) true (1,2),.p (.sl (.sl (.int .i64))) true (1,3)]),(5008002,.row (.int .u8) false false (11,0))],[(1,Bm.sg.A)]⟩
def Bm.C (K:Nat):CE:=⟨⟨PP,tys⟩,[(85,some (Am.fx K)),(113,some (C2.fx K)),(36,some (Bv.fx K))],[],K,[],[],[],29,[]⟩
def Bm.lt (K:Nat):LT Bm.sg.R.D:=.two .t (.two .t (.two (.two .t (.one (.loop Bm.l1.M (fun n c p=>Bm.l1 K c.1 c.2 n p.1 p.2) (fun nl1=>.t)))) .t))
theorem Bm.ct (K:Nat):CtX PP 46 Bm.sg (fun x=>Bm K x.1 x.2):=ct_x (C:=Bm.C K) (fn:=Tryz.f46) (c:=Tryz.f46.body.get!) (lt:=(Bm.lt K)) fol (by kernel_rfl) (by kernel_rfl) rfl (fun x=>(by kernel_rfl)) (ok_two ok_t (ok_two ok_t (ok_two (ok_two ok_t (ok_block (ok_loop (fun c p=>(by kernel_rfl)) (fun nl1=>⟨fun c p=>(by kernel_rfl),ok_t⟩)))) ok_t))) (fun x=>(by kernel_rfl))
def Bm.fx (K:Nat):FX PP:=⟨46,Bm.sg,_,Bm.ct K⟩
def C7.C (K:Nat):CE:=⟨⟨PP,tys⟩,[(17,some (Bl.fx K)),(46,some (Bm.fx K))],[],K,[],[],[],19,[]⟩
theorem C7.ct (K:Nat):CtX PP 47 C7.sg (fun x=>C7 K x.1 x.2):=ct_x (C:=C7.C K) (fn:=Tryz.f47) (c:=Tryz.f47.body.get!) (lt:=.t) fol (by kernel_rfl) (by kernel_rfl) rfl (fun x=>(by kernel_rfl)) (ok_t) (fun x=>(by kernel_rfl))
def C7.fx (K:Nat):FX PP:=⟨47,C7.sg,_,C7.ct K⟩
def A4.l1.M:Tm:=⟨[(0,.c (.p (.sl (.int .u8)) true (1,0))),(2,.c (.bx 5008000 0)),(3,.c (.vf 5008001)),(4,.c (.p (.int .i64) false (13,0)))],[(5008000,.box [.p .str false (10,0),.p (.int .i64) false (11,0)]),(5008001,.row (.int .u8) false false (12,0))],[(1,A4.sg.A)]⟩
def A4.C (K:Nat):CE:=⟨⟨PP,tys⟩,[],[],K,[],[],[],39,[]⟩
def A4.lt (K:Nat):LT A4.sg.R.D:=.two .t (.two .t (.two (.two .t (.one (.loop A4.l1.M (fun n c p=>A4.l1 K c n p.1 p.2.1 p.2.2.1 p.2.2.2) (fun nl1=>.t)))) .t))
theorem A4.ct (K:Nat):CtX PP 18 A4.sg (fun x=>A4 K x):=ct_x (C:=A4.C K) (fn:=Tryz.f18) (c:=Tryz.f18.body.get!) (lt:=(A4.lt K)) fol (by kernel_rfl) (by kernel_rfl) rfl (fun x=>(by kernel_rfl)) (ok_two ok_t (ok_two ok_t (ok_two (ok_two ok_t (ok_block (ok_loop (fun c p=>(by kernel_rfl)) (fun nl1=>⟨fun c p=>(by kernel_rfl),ok_t⟩)))) ok_t))) (fun x=>(by kernel_rfl))
def A4.fx (K:Nat):FX PP:=⟨18,A4.sg,_,A4.ct K⟩
def Dk.C (K:Nat):CE:=⟨⟨PP,tys⟩,[(17,some (Bl.fx K)),(18,some (A4.fx K)),(73,some (Ay.fx K)),(46,some (Bm.fx K))],[],K,[],[],[],30,[]⟩
theorem Dk.ct (K:Nat):CtX PP 126 Dk.sg (fun x=>Dk K x.1 x.2.1 x.2.2):=ct_x (C:=Dk.C K) (fn:=Tryz.f126) (c:=Tryz.f126.body.get!) (lt:=.t) fol (by kernel_rfl) (by kernel_rfl) rfl (fun x=>(by kernel_rfl)) (ok_t) (fun x=>(by kernel_rfl))
def Dk.fx (K:Nat):FX PP:=⟨126,Dk.sg,_,Dk.ct K⟩
def Bg.j1.M:Tm:=⟨[(0,.c (.p (.sl Bb) true (1,0))),(1,.c (.p (.int .i64) true (1,1))),(5,.c (.bx 5004000 0)),(6,.c (.bx 5004001 0)),(8,.c (.p (.int .i64) false (14,0)))],[(5004000,.box [.p (.int .i64) true (1,2),.p (.sl (.sl (.int .i64))) true (1,3)]),(5004001,.box [.p (.int .i64) false (10,0),.p (.int .i64) false (11,0),.p .str false (12,0),.p (.int .i64) false (13,0)])],[(1,Bg.sg.A)]⟩
def Bg.j2.M:Tm:=⟨[(0,.c (.p (.sl Bb) true (1,0))),(5,.c (.bx 5020000 0)),(6,.c (.bx 5020001 0)),(9,.c (.bx 5020002 0))],[(5020000,.box [.p (.int .i64) true (1,2),.p (.sl (.sl (.int .i64))) true (1,3)]),(5020001,.box [.p (.int .i64) true (10,0),.p (.int .i64) true (11,0),.p .str true (12,0),.p (.int .i64) true (13,0)]),(5020002,.box [.p (.int .i64) true (14,0),.p (.int .i64) false (15,0),.p .str false (16,0),.p (.int .i64) false (17,0)])],[(1,Bg.sg.A),(10,(.int .i64)),(11,(.int .i64)),(12,.str),(13,(.int .i64)),(14,(.int .i64))]⟩
def Bg.C (K:Nat):CE:=⟨⟨PP,tys⟩,[(73,some (Ay.fx K)),(72,some (Bp.fx K)),(47,some (C7.fx K)),(126,some (Dk.fx K))],[],K,[],[],[],69,[]⟩
def Bg.lt (K:Nat):LT Bg.sg.R.D:=.two .t (.two .t (.join Bg.j1.M (fun c p=>Bg.j1 K c.1 c.2.1 c.2.2 p.1 p.2.1 p.2.2.1 p.2.2.2.1 p.2.2.2.2) .t (.two .t (.two .t (.join Bg.j2.M (fun c p=>Bg.j2 K c.2.2.2.2.2 c.1.1 c.1.2.2 p.1 p.2.1 p.2.2) .t .t)))))
theorem Bg.ct (K:Nat):CtX PP 63 Bg.sg (fun x=>Bg K x.1 x.2.1 x.2.2):=ct_x (C:=Bg.C K) (fn:=Tryz.f63) (c:=Tryz.f63.body.get!) (lt:=(Bg.lt K)) fol (by kernel_rfl) (by kernel_rfl) rfl (fun x=>(by kernel_rfl)) (ok_two ok_t (ok_two ok_t (ok_join ok_t (fun c p=>(by kernel_rfl)) (ok_two ok_t (ok_two ok_t (ok_join ok_t (fun c p=>(by kernel_rfl)) ok_t)))))) (fun x=>(by kernel_rfl))
def Bg.fx (K:Nat):FX PP:=⟨63,Bg.sg,_,Bg.ct K⟩
def Cz.C (K:Nat):CE:=⟨⟨PP,tys⟩,[(53,some (Co.fx K)),(63,some (Bg.fx K)),(55,some (Cg.fx K)),(54,some (Cp.fx K)),(20,some (A9.fx K))],[],K,[],[],[],42,[]⟩
theorem Cz.ct (K:Nat):CtX PP 58 Cz.sg (fun x=>Cz K):=ct_x (C:=Cz.C K) (fn:=Tryz.f58) (c:=Tryz.f58.body.get!) (lt:=.t) fol (by kernel_rfl) (by kernel_rfl) rfl (fun x=>(by kernel_rfl)) (ok_t) (fun x=>(by kernel_rfl))
def Cz.fx (K:Nat):FX PP:=⟨58,Cz.sg,_,Cz.ct K⟩
def Ab.l1.M:Tm:=⟨[(1,.c (.bx 5014000 0)),(3,.c (.p (.int .i64) false (10,0)))],[(5014000,.box [.p (.sl (.sl Bb)) true (1,0),.p (.sl Ba) true (1,1),.p (.sl Dw) true (1,2),.p (.sl (.int .i64)) true (1,3)])],[(1,Ab.sg.A)]⟩
def Ab.l2.M:Tm:=⟨[(1,.c (.bx 5039000 0)),(3,.c (.p (.int .i64) true (10,0))),(4,.c (.p (.sl Bb) false (11,0))),(5,.c (.vf 5039001)),(7,.c (.p (.int .i64) false (12,0))),(8,.c (.p (.int .i64) false (13,0))),(9,.c (.p (.int .i64) false (14,0)))],[(5039000,.box [.p (.sl (.sl Bb)) true (1,0),.p (.sl Ba) true (1,1),.p (.sl Dw) true (1,2),.p (.sl (.int .i64)) true (1,3)]),(5039001,.row (.int .i64) false true (4000044,0))],[(1,Ab.sg.A),(10,(.int .i64)),(4000044,Co.sg.R)]⟩
def Ab.l3.M:Tm:=⟨[(1,.c (.bx 5054000 0)),(3,.c (.p (.int .i64) true (10,0))),(4,.c (.p (.sl Bb) true (11,0))),(5,.c (.vf 5054001)),(7,.c (.p (.int .i64) true (12,0))),(8,.c (.p (.int .i64) false (19,0))),(10,.c (.p (.int .i64) false (15,0)))],[(5054000,.box [.p (.sl (.sl Bb)) true (1,0),.p (.sl Ba) true (1,1),.p (.sl Dw) true (1,2),.p (.sl (.int .i64)) true (1,3)]),(5054001,.row (.int .i64) false true (4000044,0))],[(1,Ab.sg.A),(10,(.int .i64)),(11,(.sl Bb)),(12,(.int .i64)),(4000044,Co.sg.R)]⟩
def Ab.l4.M:Tm:=⟨[(1,.c (.bx 5066000 0)),(3,.c (.p (.int .i64) true (10,0))),(4,.c (.p (.sl Bb) true (11,0))),(5,.c (.vf 5066001)),(7,.c (.p (.int .i64) true (12,0))),(8,.c (.p (.int .i64) false (18,0))),(10,.c (.p (.int .i64) true (15,0))),(11,.c (.p (.int .i64) false (16,0)))],[(5066000,.box [.p (.sl (.sl Bb)) true (1,0),.p (.sl Ba) true (1,1),.p (.sl Dw) true (1,2),.p (.sl (.int .i64)) true (1,3)]),(5066001,.row (.int .i64) false true (4000044,0))],[(1,Ab.sg.A),(10,(.int .i64)),(11,(.sl Bb)),(12,(.int .i64)),(15,(.int .i64)),(4000044,Co.sg.R)]⟩
def Ab.l5.M:Tm:=⟨[(1,.c (.bx 5099000 0)),(3,.c (.p (.int .i64) true (10,0))),(4,.c (.p (.sl Bb) true (11,0))),(5,.c (.vf 5099001)),(14,.c (.p (.int .i64) false (17,0)))],[(5099000,.box [.p (.sl (.sl Bb)) true (1,0),.p (.sl Ba) true (1,1),.p (.sl Dw) true (1,2),.p (.sl (.int .i64)) true (1,3)]),(5099001,.row (.int .i64) false true (4000044,0))],[(1,Ab.sg.A),(10,(.int .i64)),(11,(.sl Bb)),(4000044,Co.sg.R)]⟩
def Ab.C (K:Nat):CE:=⟨⟨PP,tys⟩,[(52,some (Bj.fx K)),(53,some (Co.fx K)),(54,some (Cp.fx K)),(55,some (Cg.fx K)),(56,some (D0.fx K)),(57,some (Bn.fx K)),(58,some (Cz.fx K))],[],K,[],[],[],201,[]⟩
def Ab.lt (K:Nat):LT Ab.sg.R.D:=.two .t (.two .t (.two (.two .t (.one (.loop Ab.l1.M (fun n c p=>Ab.l1 K c n p) (fun nl1=>.two .t (.two (.one (.two .t (.two .t (.two .t (.two .t (.two (.two .t (.one (.loop Ab.l2.M (fun n c p=>Ab.l2 K (Ab.l1 K c.1 nl1) c.2.2 c.2.1 c.1 n p.1 p.2.1 p.2.2.1 p.2.2.2) (fun nl2=>.t)))) (.two (.two .t (.one (.loop Ab.l3.M (fun n c p=>Ab.l3 K (Ab.l1 K c.1 nl1) c.2.2.2.2 c.2.1 c.2.2.1 c.2.2.2.1 c.1 n p.1 p.2) (fun nl3=>.two .t (.two (.one (.two .t (.one (.loop Ab.l4.M (fun n c p=>Ab.l4 K (Ab.l1 K c.1 nl1) (Ab.l3 K (Ab.l1 K c.1 nl1) c.2.2.2.2.2 c.2.1 c.2.2.1 c.2.2.2.1 c.1 nl3) c.2.2.2.2.2 c.2.1 c.2.2.1 c.2.2.2.1 c.2.2.2.2.1 c.1 n p.1 p.2) (fun nl4=>.t))))) .t))))) (.two .t (.two .t (.one (.loop Ab.l5.M (fun n c p=>Ab.l5 K (Ab.l1 K c.1 nl1) c.2.2.2 c.2.1 c.2.2.1 c.1 n p) (fun nl5=>.t)))))))))))) .t))))) .t))
theorem Ab.ct (K:Nat):CtX PP 6 Ab.sg (fun x=>Ab K x):=ct_x (C:=Ab.C K) (fn:=Tryz.f6) (c:=Tryz.f6.body.get!) (lt:=(Ab.lt K)) fol (by kernel_rfl) (by kernel_rfl) rfl (fun x=>(by kernel_rfl)) (ok_two ok_t (ok_two ok_t (ok_two (ok_two ok_t (ok_block (ok_loop (fun c p=>(by kernel_rfl)) (fun nl1=>⟨fun c p=>(by kernel_rfl),ok_two ok_t (ok_two (ok_block (ok_two ok_t (ok_two ok_t (ok_two ok_t (ok_two ok_t (ok_two (ok_two ok_t (ok_block (ok_loop (fun c p=>(by kernel_rfl)) (fun nl2=>⟨fun c p=>(by kernel_rfl),ok_t⟩)))) (ok_two (ok_two ok_t (ok_block (ok_loop (fun c p=>(by kernel_rfl)) (fun nl3=>⟨fun c p=>(by kernel_rfl),ok_two ok_t (ok_two (ok_block (ok_two ok_t (ok_block (ok_loop (fun c p=>(by kernel_rfl)) (fun nl4=>⟨fun c p=>(by kernel_rfl),ok_t⟩))))) ok_t)⟩)))) (ok_two ok_t (ok_two ok_t (ok_block (ok_loop (fun c p=>(by kernel_rfl)) (fun nl5=>⟨fun c p=>(by kernel_rfl),ok_t⟩)))))))))))) ok_t)⟩)))) ok_t))) (fun x=>(by kernel_rfl))
def Ab.fx (K:Nat):FX PP:=⟨6,Ab.sg,_,Ab.ct K⟩
end
end Go.XM
end
