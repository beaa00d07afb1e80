import Derived.Test.YtocbppcndoeicaaGreatDoorIbY0
import Derived.Test.YtocbppcndoeicaaGreatDoorProg
set_option linter.all false
section
namespace Go.XM
open Go.Proofs
noncomputable section
set_option maxRecDepth 100000
noncomputable abbrev PP:=Tryz.prog
theorem fol:PP.follows .mixedOrders=true:=by kernel_rfl
def tys:List (Nat × Option Ty):=[(3,some (.int .i64)),(4,some .bool),(5,some (.int .u8)),(9,some .str),(30,some (.int .i64)),(37,some Cz),(41,some (.sl (.int .i64))),(62,some Ck),(68,some Br),(113,some G8),(136,some Bh),(141,some Dq),(143,some Bu),(190,some Ci),(193,some Dt),(311,some Ha),(365,some Fq)]
abbrev fe {n:Nat} {s:Sig} {f:s.A.D→Option s.R.D} (h:CtX PP n s f):Nat × Option (FX PP):=(n,some ⟨n,s,f,h⟩)
def cC (K nt:Nat) (F:List (Nat × Option (FX PP)):=[]) (own:List (Nat × List Nat):=[]) (pre:List (Nat × List Pre):=[]) (hs:List Nat:=[]) (I:List (Nat × Option (SX PP)):=[]) (B:List (Nat × Option (BX PP)):=[]):CE:=⟨⟨PP,tys⟩,F,I,K,own,pre,hs,nt,B⟩
theorem cy {num:Nat} {s:Sig} {f:s.A.D→Option s.R.D} (C:CE) (fn:Func) (lt:LT s.R.D:=.t) (hok:Okc C fn.body.get! lt (kEnd C.E.P s fn C.hs):=by exact ok_t) (hm:C.E.P.follows .mixedOrders=true:=by exact fol) (hf:C.E.P.funcs[num]?=some fn:=by kernel_rfl) (hb:fn.body=some fn.body.get!:=by kernel_rfl) (hnt:C.nt=fn.ntmps:=by rfl)
  (hsig:∀ x,sigOk s fn C.hs x=true:=by intro x;kernel_rfl) (hev:∀ x,f x=ev C fn.body.get! lt (s.st0 x) [(1,some ⟨s.A,x⟩)] (kEnd C.E.P s fn C.hs):=by intro x;kernel_rfl):CtX C.E.P num s f:=ct_x hm hf hb hnt hsig hok hev
section
variable {R:Type} {C:CE}
theorem oj {a b:Code} {M:Tm} {fn:M.caps.D→M.pars.D→Option R} {la lb:LT R} {k:KE R} (h1:Okc C a la (kSeq (fun τ ρ=>jump M C.hs τ ρ fn) k)) (h3:Okc C b lb k) (h2:∀ c p,fn c p=ev C b lb (M.st (M.env c p)) (M.env c p) k:=by intro c p;kernel_rfl):Okc C (.seq a b) (.join M fn la lb) k:=⟨h1,h2,h3⟩
theorem ol {c:Code} {M:Tm} {fn:Nat→M.caps.D→M.pars.D→Option R} {body:Nat→LT R} {k:KE R} (h:∀ n,Okc C c (body n) (kSeq (fun τ ρ=>jump M C.hs τ ρ (fn n)) k)) (h1:∀ c p,fn 0 c p=none:=by intro c p;kernel_rfl)
  (h2:∀ n p q,fn (n+1) p q=ev C c (body n) (M.st (M.env p q)) (M.env p q) (kSeq (fun τ ρ=>jump M C.hs τ ρ (fn n)) k):=by intro n p q;kernel_rfl):Okc C (.loop c) (.loop M fn body) k:=⟨h1,fun n=>⟨h2 n,h n⟩⟩
end
abbrev ot {R:Type} {C:CE} {c:Code} {k:KE R}:Okc C c .t k:=ok_t
abbrev o2 {R:Type} {C:CE} {a b:Code} {la lb:LT R} {k:KE R}:=@ok_two R C a b la lb k
abbrev oc {R:Type} {C:CE} {x:Operand} {a b:Code} {la lb:LT R} {k:KE R}:=@ok_cond R C x a b la lb k
abbrev ob {R:Type} {C:CE} {i:Nat} {c:Code} {l:LT R} {k:KE R}:=@ok_block R C i c l k
abbrev i8:Ty:=.int .i64
abbrev qI (i:Nat):VS:=.c (.p (.int .i64) false (i,0))
abbrev cI (i j:Nat):VS:=.c (.p (.int .i64) true (i,j))
abbrev q_ (t:Ty) (i:Nat):LS:=.p t false (i,0)
abbrev c_ (t:Ty) (i j:Nat):LS:=.p t true (i,j)
def Bv.l1.M:Tm:=⟨[(0,.c (.p (.sl (.sl i8)) true (1,0))),(3,qI 10),(4,qI 11)],[],[(1,Bv.sg.A)]⟩
def Bv.lt (K:Nat):LT Bv.sg.R.D:=.two .t (.two .t (.two (.two .t (.one (.loop Bv.l1.M (fun n c p=>Bv.l1 K c n p.1 p.2) (fun nl1=>.t)))) .t))
theorem Bv.ct (K:Nat):CtX PP 118 Bv.sg (fun x=>Bv K x):=cy (cC K 25) Tryz.f118 (Bv.lt K) (o2 ot (o2 ot (o2 (o2 ot (ob (ol (fun _=>ot)))) ot)))
theorem Es.ct (K:Nat):CtX PP 119 Es.sg (fun x=>Es K x):=cy (cC K 10) Tryz.f119
def Aj.l1.M:Tm:=⟨[(1,.c (.bx 5008000 0)),(3,qI 10),(4,qI 11)],[(5008000,.box [c_ i8 1 0,c_ i8 1 1,c_ (.sl Br) 1 2,c_ (.sl Bu) 1 3])],[(1,Aj.sg.A)]⟩
def Aj.l2.M:Tm:=⟨[(1,.c (.bx 5023000 0)),(3,qI 13),(5,qI 12)],[(5023000,.box [c_ i8 1 0,c_ i8 1 1,c_ (.sl Br) 1 2,c_ (.sl Bu) 1 3])],[(1,Aj.sg.A)]⟩
def Aj.lt (K:Nat):LT Aj.sg.R.D:=.two .t (.two .t (.two (.two .t (.one (.loop Aj.l1.M (fun n c p=>Aj.l1 K c n p.1 p.2) (fun nl1=>.t)))) (.two (.two .t (.one (.loop Aj.l2.M (fun n c p=>Aj.l2 K c n p.1 p.2) (fun nl2=>.t)))) .t)))
theorem Aj.ct (K:Nat):CtX PP 73 Aj.sg (fun x=>Aj K x):=cy (cC K 65 [fe (Bv.ct K),fe (Es.ct K)]) Tryz.f73 (Aj.lt K) (o2 ot (o2 ot (o2 (o2 ot (ob (ol (fun _=>ot)))) (o2 (o2 ot (ob (ol (fun _=>ot)))) ot))))
def A7.l1.M:Tm:=⟨[(0,.c (c_ (.sl Ci) 1 0)),(3,qI 10),(4,qI 11)],[],[(1,A7.sg.A)]⟩
def A7.lt (K:Nat):LT A7.sg.R.D:=.two .t (.two .t (.two (.two .t (.one (.loop A7.l1.M (fun n c p=>A7.l1 K c n p.1 p.2) (fun nl1=>.t)))) .t))
theorem A7.ct (K:Nat):CtX PP 120 A7.sg (fun x=>A7 K x):=cy (cC K 28) Tryz.f120 (A7.lt K) (o2 ot (o2 ot (o2 (o2 ot (ob (ol (fun _=>ot)))) ot)))
def A9.l1.M:Tm:=⟨[(0,.c (c_ (.sl Bh) 1 0)),(3,qI 10),(4,qI 11)],[],[(1,A9.sg.A)]⟩
def A9.lt (K:Nat):LT A9.sg.R.D:=.two .t (.two .t (.two (.two .t (.one (.loop A9.l1.M (fun n c p=>A9.l1 K c n p.1 p.2) (fun nl1=>.t)))) .t))
theorem A9.ct (K:Nat):CtX PP 179 A9.sg (fun x=>A9 K x):=cy (cC K 26 [fe (Bv.ct K)]) Tryz.f179 (A9.lt K) (o2 ot (o2 ot (o2 (o2 ot (ob (ol (fun _=>ot)))) ot)))
theorem Ec.ct (K:Nat):CtX PP 121 Ec.sg (fun x=>Ec K x):=cy (cC K 11 [fe (A9.ct K)]) Tryz.f121
def Bd.l1.M:Tm:=⟨[(1,.c (.bx 5008000 0)),(3,qI 10),(4,qI 11)],[(5008000,.box [c_ (.sl (.sl Ci)) 1 0,c_ (.sl Bh) 1 1,c_ (.sl E5) 1 2,c_ (.sl i8) 1 3])],[(1,Bd.sg.A)]⟩
def Bd.lt (K:Nat):LT Bd.sg.R.D:=.two .t (.two .t (.two (.two .t (.one (.loop Bd.l1.M (fun n c p=>Bd.l1 K c n p.1 p.2) (fun nl1=>.t)))) .t))
theorem Bd.ct (K:Nat):CtX PP 74 Bd.sg (fun x=>Bd K x):=cy (cC K 38 [fe (A7.ct K),fe (Ec.ct K)]) Tryz.f74 (Bd.lt K) (o2 ot (o2 ot (o2 (o2 ot (ob (ol (fun _=>ot)))) ot)))
def Bz.l1.M:Tm:=⟨[(1,.c (.bx 5008000 0)),(3,qI 10),(4,qI 11)],[(5008000,.box [c_ (.sl Ck) 1 0,c_ (.sl (.sl Ci)) 1 1,c_ (.sl Bh) 1 2,c_ (.sl E5) 1 3,c_ (.sl i8) 1 4])],[(1,Bz.sg.A)]⟩
def Bz.lt (K:Nat):LT Bz.sg.R.D:=.two .t (.two .t (.two (.two .t (.one (.loop Bz.l1.M (fun n c p=>Bz.l1 K c n p.1 p.2) (fun nl1=>.t)))) .t))
theorem Bz.ct (K:Nat):CtX PP 25 Bz.sg (fun x=>Bz K x):=cy (cC K 34 [fe (Aj.ct K),fe (Bd.ct K)]) Tryz.f25 (Bz.lt K) (o2 ot (o2 ot (o2 (o2 ot (ob (ol (fun _=>ot)))) ot)))
def D6.l1.M:Tm:=⟨[(2,.c (.vf 5006000)),(6,.c (c_ (.sl Br) 1 2)),(7,qI 10),(8,qI 11)],[(5006000,.row Ci false false (12,0))],[(1,D6.sg.A)]⟩
def D6.lt (K:Nat):LT D6.sg.R.D:=.two .t (.two (.two .t (.one (.loop D6.l1.M (fun n c p=>D6.l1 K c n p.1 p.2.1 p.2.2) (fun nl1=>.t)))) .t)
theorem D6.ct (K:Nat):CtX PP 180 D6.sg (fun x=>D6 K x):=cy (cC K 24) Tryz.f180 (D6.lt K) (o2 ot (o2 (o2 ot (ob (ol (fun _=>ot)))) ot))
theorem Fg.ct (K:Nat):CtX PP 63 Fg.sg (fun x=>Fg K x):=cy (cC K 41) Tryz.f63
theorem Gh.ct (K:Nat):CtX PP 283 Gh.sg (fun x=>Gh K x.1 x.2):=cy (cC K 8 [] [] [] [1]) Tryz.f283
def Af.l1.M:Tm:=⟨[(0,.c (c_ (.sl Ci) 1 0)),(1,.fn 283 [.bx 2 0]),(7,qI 10),(8,qI 11)],[(2,.box [q_ i8 12])],[(1,Af.sg.A)]⟩
def Af.lt (K:Nat):LT Af.sg.R.D:=.two .t (.two (.two .t (.one (.loop Af.l1.M (fun n c p=>Af.l1 K c.1 n p.1 p.2.1 p.2.2) (fun nl1=>.t)))) .t)
theorem Af.ct (K:Nat):CtX PP 282 Af.sg (fun x=>Af K x.1 x.2.2):=cy (cC K 19 [fe (Gh.ct K)] [] [] [2]) Tryz.f282 (Af.lt K) (o2 ot (o2 (o2 ot (ob (ol (fun _=>ot)))) ot))
theorem E8.ct (K:Nat):CtX PP 238 E8.sg (fun x=>E8 K x.1 x.2):=cy (cC K 8 [fe (Af.ct K)]) Tryz.f238
def Dv.l1.M:Tm:=⟨[(0,.c (c_ (.sl Ci) 1 0)),(8,.c (c_ (.sl Ci) 1 0)),(9,qI 10),(10,qI 11)],[],[(1,Dv.sg.A)]⟩
def Dv.lt (K:Nat):LT Dv.sg.R.D:=.two .t (.two .t (.two (.two .t (.one (.loop Dv.l1.M (fun n c p=>Dv.l1 K c n p.1 p.2) (fun nl1=>.t)))) .t))
theorem Dv.ct (K:Nat):CtX PP 188 Dv.sg (fun x=>Dv K x):=cy (cC K 62 [fe (Fg.ct K),fe (E8.ct K)]) Tryz.f188 (Dv.lt K) (o2 ot (o2 ot (o2 (o2 ot (ob (ol (fun _=>ot)))) ot)))
def Dj.l1.M:Tm:=⟨[(1,.c (.bx 5014000 0)),(24,.c (c_ (.sl Br) 1 2)),(25,qI 10),(26,qI 11)],[(5014000,.box [c_ i8 1 0,c_ i8 1 1,c_ (.sl Br) 1 2,c_ (.sl Bu) 1 3])],[(1,Dj.sg.A)]⟩
def Dj.lt (K:Nat):LT Dj.sg.R.D:=.two .t (.two .t (.two (.two .t (.one (.loop Dj.l1.M (fun n c p=>Dj.l1 K c n p.1 p.2) (fun nl1=>.t)))) .t))
theorem Dj.ct (K:Nat):CtX PP 128 Dj.sg (fun x=>Dj K x):=cy (cC K 65 [fe (D6.ct K),fe (Dv.ct K)]) Tryz.f128 (Dj.lt K) (o2 ot (o2 ot (o2 (o2 ot (ob (ol (fun _=>ot)))) ot)))
def D7.l1.M:Tm:=⟨[(0,.c (c_ (.sl Ci) 1 0)),(1,qI 10),(2,cI 1 2),(6,.c (.vf 5004000))],[(5004000,.row Ci false false (11,0))],[(1,D7.sg.A)]⟩
def D7.lt (K:Nat):LT D7.sg.R.D:=.two .t (.two (.one (.loop D7.l1.M (fun n c p=>D7.l1 K c.1 c.2.2 n p.1 p.2) (fun nl1=>.t))) .t)
theorem D7.ct (K:Nat):CtX PP 225 D7.sg (fun x=>D7 K x.1 x.2.1 x.2.2):=cy (cC K 29 [fe (E8.ct K)]) Tryz.f225 (D7.lt K) (o2 ot (o2 (ob (ol (fun _=>ot))) ot))
theorem Gl.ct (K:Nat):CtX PP 223 Gl.sg (fun x=>Gl K x.1 x.2):=cy (cC K 18 [fe (E8.ct K),fe (D7.ct K)]) Tryz.f223
noncomputable def slices_Backward___api_Object_api_Object_.bx:BX PP:=mkBX (f1:=Tryz.f224) (f2:=Tryz.f267) 224 267 128 190 291 290 327 (by kernel_rfl) (by kernel_rfl) (by kernel_rfl) (by kernel_rfl) (by kernel_rfl) (by kernel_rfl) (by kernel_rfl) (by kernel_rfl) (by kernel_rfl) (by kernel_rfl) (by kernel_rfl) (by kernel_rfl)
theorem F3.ct (K:Nat):CtX PP 344 F3.sg (fun x=>F3 K x.1 x.2):=cy (cC K 16) Tryz.f344
def Dm.l1.M:Tm:=⟨[(1,cI 1 2),(2,.c (.bx 5006000 0)),(5,qI 10)],[(5006000,.box [c_ .str 1 0,c_ i8 1 1])],[(1,Dm.sg.A)]⟩
def Dm.lt (K:Nat):LT Dm.sg.R.D:=.two .t (.two (.two .t (.one (.loop Dm.l1.M (fun n c p=>Dm.l1 K c.1 c.2 n p) (fun nl1=>.t)))) .t)
theorem Dm.ct (K:Nat):CtX PP 331 Dm.sg (fun x=>Dm K x.1 x.2):=cy (cC K 20 [fe (F3.ct K)]) Tryz.f331 (Dm.lt K) (o2 ot (o2 (o2 ot (ob (ol (fun _=>ot)))) ot))
theorem D9.ct (K:Nat):CtX PP 326 D9.sg (fun x=>D9 K x.1 x.2):=cy (cC K 40 [fe (Dm.ct K)] [] [] [0]) Tryz.f326
def Dw.l1.M:Tm:=⟨[(1,cI 1 2),(3,.c (.bx 5016000 0)),(8,qI 10),(22,cI 1 3),(23,qI 11)],[(5016000,.box [c_ .str 1 0,c_ i8 1 1])],[(1,Dw.sg.A)]⟩
def Dw.lt (K:Nat):LT Dw.sg.R.D:=.two .t (.two .t (.two .t (.two (.two .t (.one (.loop Dw.l1.M (fun n c p=>Dw.l1 K c.1 c.2.1 c.2.2 n p.1 p.2) (fun nl1=>.t)))) .t)))
theorem Dw.ct (K:Nat):CtX PP 332 Dw.sg (fun x=>Dw K x.1 x.2.1 x.2.2):=cy (cC K 36 [fe (F3.ct K)]) Tryz.f332 (Dw.lt K) (o2 ot (o2 ot (o2 ot (o2 (o2 ot (ob (ol (fun _=>ot)))) ot))))
theorem Cw.ct (K:Nat):CtX PP 327 Cw.sg (fun x=>Cw K x.1 x.2):=cy (cC K 40 [fe (Dw.ct K)] [] [] [0]) Tryz.f327
theorem Ei.ct (K:Nat):CtX PP 315 Ei.sg (fun x=>Ei K x.1 x.2):=cy (cC K 14 [fe (D9.ct K),fe (Cw.ct K)] [] [] [0]) Tryz.f315
theorem Dr.ct (K:Nat):CtX PP 316 Dr.sg (fun x=>Dr K x):=cy (cC K 10 [fe (D9.ct K),fe (Cw.ct K)] [] [] [0]) Tryz.f316
theorem E9.ct (K:Nat):CtX PP 317 E9.sg (fun x=>E9 K x):=cy (cC K 24 [fe (Dr.ct K),fe (Cw.ct K)] [] [] [0]) Tryz.f317
theorem Gx.ct (K:Nat):CtX PP 319 Gx.sg (fun x=>Gx K x):=cy (cC K 6) Tryz.f319
def Cx.j1.M:Tm:=⟨[(0,.c (q_ (.int .u32) 10)),(2,qI 11)],[],[]⟩
def Cx.j2.M:Tm:=⟨[(0,.c (q_ (.int .u32) 12)),(2,qI 13)],[],[]⟩
def Cx.lt (K:Nat):LT Cx.sg.R.D:=.two .t (.join Cx.j1.M (fun c p=>Cx.j1 K p.1 p.2) .t (.join Cx.j2.M (fun c p=>Cx.j2 K p.1 p.2) .t .t))
theorem Cx.ct (K:Nat):CtX PP 342 Cx.sg (fun x=>Cx K x):=cy (cC K 19) Tryz.f342 (Cx.lt K) (o2 ot (oj ot (oj ot ot)))
def Cb.j1.M:Tm:=⟨[(0,.c (q_ (.int .u64) 10)),(2,qI 11)],[],[]⟩
def Cb.j2.M:Tm:=⟨[(0,.c (q_ (.int .u64) 12)),(2,qI 13)],[],[]⟩
def Cb.j3.M:Tm:=⟨[(0,.c (q_ (.int .u64) 14)),(2,qI 15)],[],[]⟩
def Cb.lt (K:Nat):LT Cb.sg.R.D:=.two .t (.join Cb.j1.M (fun c p=>Cb.j1 K p.1 p.2) .t (.join Cb.j2.M (fun c p=>Cb.j2 K p.1 p.2) .t (.join Cb.j3.M (fun c p=>Cb.j3 K p.1 p.2) .t .t)))
theorem Cb.ct (K:Nat):CtX PP 343 Cb.sg (fun x=>Cb K x):=cy (cC K 25) Tryz.f343 (Cb.lt K) (o2 ot (oj ot (oj ot (oj ot ot))))
theorem Gc.ct (K:Nat):CtX PP 330 Gc.sg (fun x=>Gc K x):=cy (cC K 8 [fe (Cb.ct K)]) Tryz.f330
theorem G6.ct (K:Nat):CtX PP 328 G6.sg (fun x=>G6 K x.1 x.2):=cy (cC K 28 [fe (Gc.ct K)]) Tryz.f328
theorem Fa.ct (K:Nat):CtX PP 318 Fa.sg (fun x=>Fa K x.1 x.2):=cy (cC K 46 [fe (Ei.ct K),fe (G6.ct K),fe (Cw.ct K)] [] [] [0]) Tryz.f318
def Cs.j1.M:Tm:=⟨[(9,.c (.bx 5006000 0)),(10,qI 14)],[(5006000,.box [q_ .str 10,q_ i8 11,q_ i8 12,q_ .bool 13])],[]⟩
def Cs.lt (K:Nat):LT Cs.sg.R.D:=.two .t (.two .t (.two .t (.join Cs.j1.M (fun c p=>Cs.j1 K p.1 p.2.1 p.2.2.1 p.2.2.2.1 p.2.2.2.2) .t .t)))
theorem Cs.ct (K:Nat):CtX PP 297 Cs.sg (fun x=>Cs K x.1 x.2.1 x.2.2):=cy (cC K 45 [fe (Ei.ct K),fe (Dr.ct K),fe (E9.ct K),fe (Gx.ct K),fe (Fa.ct K)]) Tryz.f297 (Cs.lt K) (o2 ot (o2 ot (o2 ot (oj ot ot))))
theorem F6.ct (K:Nat):CtX PP 268 F6.sg (fun x=>F6 K x):=cy (cC K 20 [fe (Cs.ct K)]) Tryz.f268
theorem Eo.ct (K:Nat):CtX PP 320 Eo.sg (fun x=>Eo K x):=cy (cC K 12) Tryz.f320
def Cf.l1.M:Tm:=⟨[(3,.c (.bx 5018000 0)),(6,.c (.vf 5018001)),(7,qI 14),(10,qI 15),(32,qI 10),(33,qI 11)],[(5018000,.box [c_ .str 1 0,c_ i8 1 1]),(5018001,.row Dt false false (13,0))],[(1,Cf.sg.A)]⟩
def Cf.j2.M:Tm:=⟨[(3,.c (.bx 5049000 0)),(6,.c (.vf 5049001)),(10,cI 15 0),(12,qI 12),(13,cI 4000048 1),(15,cI 4000048 0),(32,cI 10 0),(33,cI 11 0)],[(5049000,.box [c_ .str 1 0,c_ i8 1 1]),(5049001,.row Dt false true (13,0))],[(1,Cf.sg.A),(10,i8),(11,i8),(13,(.sl Dt)),(15,i8),(4000048,Cs.sg.R)]⟩
def Cf.lt (K:Nat):LT Cf.sg.R.D:=.two .t (.two .t (.two .t (.two .t (.two (.two .t (.one (.loop Cf.l1.M (fun n c p=>Cf.l1 K c.1 n p.1 p.2.1 p.2.2.1 p.2.2.2.1 p.2.2.2.2) (fun nl1=>.two .t (.two .t (.two (.one (.two .t (.two .t (.two .t (.two .t (.two .t (.join Cf.j2.M (fun c p=>Cf.j2 K (Cf.l1 K c.1.1 nl1) c.2.2.2.2.2 c.2.1 c.2.2.1 c.2.2.2.1 c.2.2.2.2.1 c.1.1 p) .t .t))))))) .t)))))) .t))))
theorem Cf.ct (K:Nat):CtX PP 298 Cf.sg (fun x=>Cf K x.1 x.2.1 x.2.2):=cy (cC K 79 [fe (Cs.ct K),fe (Eo.ct K)]) Tryz.f298 (Cf.lt K) (o2 ot (o2 ot (o2 ot (o2 ot (o2 (o2 ot (ob (ol (fun _=>o2 ot (o2 ot (o2 (ob (o2 ot (o2 ot (o2 ot (o2 ot (o2 ot (oj ot ot))))))) ot)))))) ot)))))
theorem Fs.ct (K:Nat):CtX PP 306 Fs.sg (fun x=>Fs K x):=cy (cC K 9) Tryz.f306
def Ce.l1.M:Tm:=⟨[(3,.c (.bx 5018000 0)),(6,.c (.vf 5018001)),(7,qI 14),(10,qI 15),(28,qI 10),(29,qI 11)],[(5018000,.box [c_ .str 1 0,c_ i8 1 1]),(5018001,.row i8 false false (13,0))],[(1,Ce.sg.A)]⟩
def Ce.j2.M:Tm:=⟨[(3,.c (.bx 5041000 0)),(6,.c (.vf 5041001)),(7,cI 4000035 1),(10,cI 15 0),(12,qI 12),(28,cI 10 0),(29,cI 11 0)],[(5041000,.box [c_ .str 1 0,c_ i8 1 1]),(5041001,.row i8 false true (13,0))],[(1,Ce.sg.A),(10,i8),(11,i8),(13,(.sl i8)),(15,i8),(4000035,Cs.sg.R)]⟩
def Ce.lt (K:Nat):LT Ce.sg.R.D:=.two .t (.two .t (.two .t (.two .t (.two (.two .t (.one (.loop Ce.l1.M (fun n c p=>Ce.l1 K c.1 n p.1 p.2.1 p.2.2.1 p.2.2.2.1 p.2.2.2.2) (fun nl1=>.two .t (.two .t (.two (.one (.two .t (.two .t (.two .t (.join Ce.j2.M (fun c p=>Ce.j2 K (Ce.l1 K c.1.1 nl1) c.2.2.2.1 c.2.2.2.2.1 c.2.2.2.2.2 c.2.1 c.2.2.1 c.1.1 p) .t .t))))) .t)))))) .t))))
theorem Ce.ct (K:Nat):CtX PP 299 Ce.sg (fun x=>Ce K x.1 x.2.1 x.2.2):=cy (cC K 59 [fe (Cs.ct K),fe (Eo.ct K),fe (Fs.ct K)]) Tryz.f299 (Ce.lt K) (o2 ot (o2 ot (o2 ot (o2 ot (o2 (o2 ot (ob (ol (fun _=>o2 ot (o2 ot (o2 (ob (o2 ot (o2 ot (o2 ot (oj ot ot))))) ot)))))) ot)))))
def Cm.C (K:Nat):CE:=cC K 8
theorem Cm.ct (K:Nat):CtX PP 310 Cm.sg (fun x=>Cm K x):=ct_clone (C:=Cm.C K) (fn:=Tryz.f310) (c:=Tryz.f310.body.get!) (lt:=.t) fol (by kernel_rfl) (by kernel_rfl) rfl (fun x=>(by kernel_rfl)) ok_t (fun x xs=>(by kernel_rfl)) (fun b n=>(by kernel_rfl)) (fun a b n=>(by kernel_rfl))
def slices_Sort___int_int_.sx:SX PP:=⟨321,sortF,ct_sort Tryz.laysNm189⟩
def Dx.l1.M:Tm:=⟨[(0,.c (c_ (.sl i8) 1 0)),(5,.c (c_ (.sl i8) 1 0)),(6,qI 10),(7,qI 11)],[],[(1,Dx.sg.A)]⟩
def Dx.lt (K:Nat):LT Dx.sg.R.D:=.two .t (.two (.two .t (.one (.loop Dx.l1.M (fun n c p=>Dx.l1 K c n p.1 p.2) (fun nl1=>.t)))) .t)
theorem Dx.ct (K:Nat):CtX PP 276 Dx.sg (fun x=>Dx K x):=cy (cC K 29 [fe (Fs.ct K)]) Tryz.f276 (Dx.lt K) (o2 ot (o2 (o2 ot (ob (ol (fun _=>ot)))) ot))
def Cn.l1.M:Tm:=⟨[(1,.c (c_ (.sl i8) 1 1)),(6,.c (.vf 5010000)),(7,qI 10),(13,.c (c_ (.sl Dt) 1 0)),(14,qI 11),(15,qI 12)],[(5010000,.row i8 false false (16,0))],[(1,Cn.sg.A)]⟩
def Cn.l2.M:Tm:=⟨[(1,.c (c_ (.sl i8) 1 1)),(6,.c (.vf 5034000)),(7,qI 13),(10,qI 14),(13,.c (c_ (.sl Dt) 1 0)),(14,cI 11 0),(15,cI 12 0)],[(5034000,.row i8 false false (15,0))],[(1,Cn.sg.A),(11,i8),(12,i8)]⟩
def Cn.lt (K:Nat):LT Cn.sg.R.D:=.two .t (.two .t (.two .t (.two (.two .t (.one (.loop Cn.l1.M (fun n c p=>Cn.l1 K c.1 c.2 n p.1 p.2.1 p.2.2.1 p.2.2.2) (fun nl1=>.two .t (.two .t (.two (.one (.two .t (.two .t (.two .t (.two .t (.one (.loop Cn.l2.M (fun n c p=>Cn.l2 K (Cn.l1 K c.1.1 c.1.2 nl1) c.2.1 c.2.2 c.1.1 c.1.2 n p.1 p.2.1 p.2.2) (fun nl2=>.t)))))))) .t)))))) .t)))
theorem Cn.ct (K:Nat):CtX PP 300 Cn.sg (fun x=>Cn K x.1 x.2):=cy (cC K 75 [fe (Cm.ct K),fe (Fs.ct K),fe (Dx.ct K)] [] [] [] [(321,some slices_Sort___int_int_.sx)]) Tryz.f300 (Cn.lt K) (o2 ot (o2 ot (o2 ot (o2 (o2 ot (ob (ol (fun _=>o2 ot (o2 ot (o2 (ob (o2 ot (o2 ot (o2 ot (o2 ot (ob (ol (fun _=>ot)))))))) ot)))))) ot))))
def Cq.l1.M:Tm:=⟨[(0,.c (c_ (.sl i8) 1 0)),(2,.c (.vf 5006000)),(3,.c (.vf 5006001)),(4,qI 10)],[(5006000,.row Dt false false (12,0)),(5006001,.row i8 false false (13,0))],[(1,Cq.sg.A)]⟩
def Cq.l2.M:Tm:=⟨[(0,.c (c_ (.sl i8) 1 0)),(2,.c (.vf 5018000)),(3,.c (.vf 5018001)),(4,cI 10 0),(5,qI 11)],[(5018000,.row Dt false false (14,0)),(5018001,.row i8 false false (15,0))],[(1,Cq.sg.A),(10,i8)]⟩
def Cq.lt (K:Nat):LT Cq.sg.R.D:=.two .t (.two (.two .t (.one (.loop Cq.l1.M (fun n c p=>Cq.l1 K c n p.1 p.2.1 p.2.2) (fun nl1=>.two .t (.one (.two .t (.two (.one (.loop Cq.l2.M (fun n c p=>Cq.l2 K (Cq.l1 K c.1 nl1) c.2 c.1 n p.1 p.2.1 p.2.2) (fun nl2=>.t))) .t))))))) .t)
theorem Cq.ct (K:Nat):CtX PP 301 Cq.sg (fun x=>Cq K x):=cy (cC K 55) Tryz.f301 (Cq.lt K) (o2 ot (o2 (o2 ot (ob (ol (fun _=>o2 ot (ob (o2 ot (o2 (ob (ol (fun _=>ot))) ot))))))) ot))
def Au.l1.M:Tm:=⟨[(0,.c (c_ (.sl Dt) 1 0)),(1,.c (c_ (.sl Dt) 1 1)),(12,qI 10),(13,qI 11)],[],[(1,Au.sg.A)]⟩
def Au.lt (K:Nat):LT Au.sg.R.D:=.two .t (.two .t (.two (.two .t (.one (.loop Au.l1.M (fun n c p=>Au.l1 K c.1 c.2 n p.1 p.2) (fun nl1=>.t)))) .t))
theorem Au.ct (K:Nat):CtX PP 302 Au.sg (fun x=>Au K x.1 x.2):=cy (cC K 26) Tryz.f302 (Au.lt K) (o2 ot (o2 ot (o2 (o2 ot (ob (ol (fun _=>ot)))) ot)))
def Ay.l1.M:Tm:=⟨[(0,.c (c_ (.sl i8) 1 0)),(1,.c (c_ (.sl i8) 1 1)),(12,qI 10),(13,qI 11)],[],[(1,Ay.sg.A)]⟩
def Ay.lt (K:Nat):LT Ay.sg.R.D:=.two .t (.two .t (.two (.two .t (.one (.loop Ay.l1.M (fun n c p=>Ay.l1 K c.1 c.2 n p.1 p.2) (fun nl1=>.t)))) .t))
theorem Ay.ct (K:Nat):CtX PP 303 Ay.sg (fun x=>Ay K x.1 x.2):=cy (cC K 26) Tryz.f303 (Ay.lt K) (o2 ot (o2 ot (o2 (o2 ot (ob (ol (fun _=>ot)))) ot)))
theorem Fv.ct (K:Nat):CtX PP 271 Fv.sg (fun x=>Fv K x.1 x.2.1 x.2.2):=cy (cC K 56 [fe (Cf.ct K),fe (Ce.ct K),fe (Cn.ct K),fe (Cq.ct K),fe (Au.ct K),fe (Ay.ct K)]) Tryz.f271
theorem F9.ct (K:Nat):CtX PP 270 F9.sg (fun x=>F9 K x.1 x.2.1 x.2.2):=cy (cC K 15 [fe (Fv.ct K)] [] [] [2]) Tryz.f270
theorem Ep.ct (K:Nat):CtX PP 278 Ep.sg (fun x=>Ep K x):=cy (cC K 7 [] [(1,[2])]) Tryz.f278
def Dy.l1.M:Tm:=⟨[(3,qI 10),(7,.c (.p (.sl (.sl i8)) true (1,1))),(8,qI 11),(9,qI 12)],[],[(1,Dy.sg.A)]⟩
def Dy.lt (K:Nat):LT Dy.sg.R.D:=.two .t (.two .t (.two (.two .t (.one (.loop Dy.l1.M (fun n c p=>Dy.l1 K c n p.1 p.2.1 p.2.2) (fun nl1=>.t)))) .t))
theorem Dy.ct (K:Nat):CtX PP 277 Dy.sg (fun x=>Dy K x):=cy (cC K 19) Tryz.f277 (Dy.lt K) (o2 ot (o2 ot (o2 (o2 ot (ob (ol (fun _=>ot)))) ot)))
def C9.l1.M:Tm:=⟨[(1,.c (.bx 5014000 0)),(22,.c (.p (.sl (.sl i8)) true (1,1))),(23,qI 10),(24,qI 11)],[(5014000,.box [c_ i8 1 0,.p (.sl (.sl i8)) true (1,1)])],[(1,C9.sg.A)]⟩
def C9.lt (K:Nat):LT C9.sg.R.D:=.two .t (.two .t (.two (.two .t (.one (.loop C9.l1.M (fun n c p=>C9.l1 K c n p.1 p.2) (fun nl1=>.t)))) .t))
theorem C9.ct (K:Nat):CtX PP 233 C9.sg (fun x=>C9 K x):=cy (cC K 51 [fe (Dx.ct K),fe (Dy.ct K)]) Tryz.f233 (C9.lt K) (o2 ot (o2 ot (o2 (o2 ot (ob (ol (fun _=>ot)))) ot)))
def Bn.l1.M:Tm:=⟨[(2,qI 14),(3,.fn 270 [.bx 4 0]),(8,.c (.bx 5008001 0)),(11,.c (.bx 5008002 0)),(18,cI 1 1),(19,qI 11)],[(4,.box [q_ .str 12,q_ i8 13]),(5008001,.box [q_ i8 10,.nl (.sl i8)]),(5008002,.box [c_ i8 4000017 0,.vf 5008003]),(5008003,.row (.sl i8) true false (15,0))],[(1,Bn.sg.A),(4000017,Ep.sg.R)]⟩
def Bn.lt (K:Nat):LT Bn.sg.R.D:=.two .t (.two .t (.two (.two .t (.one (.loop Bn.l1.M (fun n c p=>Bn.l1 K c.2 c.1.2.1 n p.1 p.2.1 p.2.2.1 p.2.2.2.1 p.2.2.2.2.1 p.2.2.2.2.2) (fun nl1=>.t)))) .t))
theorem Bn.ct (K:Nat):CtX PP 269 Bn.sg (fun x=>Bn K x.1 x.2.1 x.2.2.1 x.2.2.2.2):=cy (cC K 44 [fe (Ep.ct K),fe (F9.ct K),fe (C9.ct K)] [] [] [4]) Tryz.f269 (Bn.lt K) (o2 ot (o2 ot (o2 (o2 ot (ob (ol (fun _=>ot)))) ot)))
theorem Gm.ct (K:Nat):CtX PP 226 Gm.sg (fun x=>Gm K x):=cy (cC K 35 [fe (F6.ct K),fe (Bn.ct K)]) Tryz.f226
theorem F4.ct (K:Nat):CtX PP 305 F4.sg (fun x=>F4 K x.1 x.2):=cy (cC K 13) Tryz.f305
theorem Gd.ct (K:Nat):CtX PP 274 Gd.sg (fun x=>Gd K x.1 x.2):=cy (cC K 14 [fe (F4.ct K)]) Tryz.f274
def Bj.l1.M:Tm:=⟨[(0,.c (c_ (.sl i8) 1 0)),(1,cI 1 1),(7,qI 10),(8,qI 11)],[],[(1,Bj.sg.A)]⟩
def Bj.lt (K:Nat):LT Bj.sg.R.D:=.two .t (.two (.two .t (.one (.loop Bj.l1.M (fun n c p=>Bj.l1 K c.1 c.2 n p.1 p.2) (fun nl1=>.t)))) .t)
theorem Bj.ct (K:Nat):CtX PP 325 Bj.sg (fun x=>Bj K x.1 x.2):=cy (cC K 19) Tryz.f325 (Bj.lt K) (o2 ot (o2 (o2 ot (ob (ol (fun _=>ot)))) ot))
theorem Cv.ct (K:Nat):CtX PP 311 Cv.sg (fun x=>Cv K x.1 x.2):=cy (cC K 9 [fe (Bj.ct K)]) Tryz.f311
def Cg.l1.M:Tm:=⟨[(0,.c (c_ (.sl i8) 1 0)),(1,.c (c_ (.sl i8) 1 1)),(4,.c (.vf 5008000)),(5,.c (.nl i8)),(6,.c (q_ .bool 16)),(7,qI 10),(12,.c (c_ (.sl i8) 1 0)),(13,qI 11),(14,qI 12)],[(5008000,.row i8 false false (15,0))],[(1,Cg.sg.A)]⟩
def Cg.l2.M:Tm:=⟨[(0,.c (c_ (.sl i8) 1 0)),(4,.c (.vf 5033000)),(5,.c (.vf 5033001)),(32,.c (c_ (.sl i8) 1 1)),(33,qI 13),(34,qI 14)],[(5033000,.row i8 false false (18,0)),(5033001,.row i8 false false (17,0))],[(1,Cg.sg.A)]⟩
def Cg.lt (K:Nat):LT Cg.sg.R.D:=.two .t (.two .t (.two (.two .t (.one (.loop Cg.l1.M (fun n c p=>Cg.l1 K c.1 c.2 n p.1 p.2.1 p.2.2.1 p.2.2.2.1 p.2.2.2.2) (fun nl1=>.t)))) (.two (.two .t (.one (.loop Cg.l2.M (fun n c p=>Cg.l2 K c.1 c.2 n p.1 p.2.1 p.2.2.1 p.2.2.2) (fun nl2=>.t)))) .t)))
theorem Cg.ct (K:Nat):CtX PP 322 Cg.sg (fun x=>Cg K x.1 x.2):=cy (cC K 49 [fe (Cv.ct K)]) Tryz.f322 (Cg.lt K) (o2 ot (o2 ot (o2 (o2 ot (ob (ol (fun _=>ot)))) (o2 (o2 ot (ob (ol (fun _=>ot)))) ot))))
def Bc.l1.M:Tm:=⟨[(0,.c (c_ (.sl i8) 1 0)),(1,.c (c_ (.sl i8) 1 1)),(2,.c (c_ (.sl i8) 1 2)),(8,.c (.vf 5012000)),(9,.c (q_ (.sl i8) 16)),(10,.c (q_ .bool 17)),(18,.c (c_ (.sl i8) 1 1)),(19,qI 10),(20,qI 11)],[(5012000,.row i8 false false (15,0))],[(1,Bc.sg.A)]⟩
def Bc.j2.M:Tm:=⟨[(0,.c (c_ (.sl i8) 1 0)),(1,.c (c_ (.sl i8) 1 1)),(2,.c (c_ (.sl i8) 1 2)),(8,.c (.vf 5031000)),(9,.c (c_ (.sl i8) 16 0)),(10,.c (c_ .bool 17 0)),(12,qI 13),(18,.c (c_ (.sl i8) 1 1)),(19,cI 10 0),(20,cI 11 0)],[(5031000,.row i8 false false (12,0))],[(1,Bc.sg.A),(10,i8),(11,i8),(16,(.sl i8)),(17,.bool)]⟩
def Bc.j3.M:Tm:=⟨[(0,.c (c_ (.sl i8) 1 0)),(1,.c (c_ (.sl i8) 1 1)),(2,.c (c_ (.sl i8) 1 2)),(8,.c (.vf 5039000))],[(5039000,.row i8 false false (14,0))],[(1,Bc.sg.A)]⟩
def Bc.lt (K:Nat):LT Bc.sg.R.D:=.two .t (.two .t (.two .t (.two .t (.two (.two .t (.one (.loop Bc.l1.M (fun n c p=>Bc.l1 K c.1 c.2.1 c.2.2 n p.1 p.2.1 p.2.2.1 p.2.2.2.1 p.2.2.2.2) (fun nl1=>.two .t (.two .t (.two (.one (.two .t (.two .t (.join Bc.j2.M (fun c p=>Bc.j2 K (Bc.l1 K c.1.1 c.1.2.1 c.1.2.2 nl1) c.2.1 c.2.2.1 c.2.2.2.1 c.2.2.2.2 c.1.1 c.1.2.1 c.1.2.2 p.1 p.2) .t .t)))) .t)))))) (.join Bc.j3.M (fun c p=>Bc.j3 K c.1 c.2.1 c.2.2 p) .t .t)))))
theorem Bc.ct (K:Nat):CtX PP 304 Bc.sg (fun x=>Bc K x.1 x.2.1 x.2.2):=cy (cC K 68 [fe (Cm.ct K),fe (Dx.ct K),fe (Cg.ct K),fe (Ay.ct K)] [] [] [] [(321,some slices_Sort___int_int_.sx)]) Tryz.f304 (Bc.lt K) (o2 ot (o2 ot (o2 ot (o2 ot (o2 (o2 ot (ob (ol (fun _=>o2 ot (o2 ot (o2 (ob (o2 ot (o2 ot (oj ot ot)))) ot)))))) (oj ot ot))))))
def Cu.l1.M:Tm:=⟨[(2,cI 1 3),(3,.c (c_ (.sl i8) 1 4)),(4,.c (.bx 5018000 0)),(9,qI 12),(12,.c (.vf 5018001)),(30,qI 10),(31,qI 11)],[(5018000,.box [c_ .str 1 0,c_ i8 1 1]),(5018001,.row i8 false false (13,0))],[(1,Cu.sg.A)]⟩
def Cu.lt (K:Nat):LT Cu.sg.R.D:=.two .t (.two .t (.two .t (.two .t (.two (.two .t (.one (.loop Cu.l1.M (fun n c p=>Cu.l1 K c.1 c.2.2.1 c.2.2.2 n p.1 p.2.1 p.2.2.1 p.2.2.2) (fun nl1=>.t)))) .t))))
theorem Cu.ct (K:Nat):CtX PP 273 Cu.sg (fun x=>Cu K x.1 x.2.1 x.2.2.1 x.2.2.2):=cy (cC K 72 [fe (Cs.ct K),fe (Fv.ct K),fe (Bc.ct K)]) Tryz.f273 (Cu.lt K) (o2 ot (o2 ot (o2 ot (o2 ot (o2 (o2 ot (ob (ol (fun _=>ot)))) ot)))))
theorem Ga.ct (K:Nat):CtX PP 272 Ga.sg (fun x=>Ga K x.1 x.2.1 x.2.2.1 x.2.2.2):=cy (cC K 19 [fe (Gd.ct K),fe (Cu.ct K)] [] [] [2,3]) Tryz.f272
def Bo.l1.M:Tm:=⟨[(2,qI 16),(3,.fn 272 [.bx 4 0,.bx 5 0]),(8,.c (.bx 5008002 0)),(11,.c (.bx 5008003 0)),(18,cI 1 1),(19,qI 11)],[(4,.box [q_ .str 12,q_ i8 13]),(5,.box [q_ i8 14,.p (.sl (.sl i8)) false (15,0)]),(5008002,.box [q_ i8 10,.nl (.sl i8)]),(5008003,.box [c_ i8 4000017 0,.vf 5008004]),(5008004,.row (.sl i8) true false (17,0))],[(1,Bo.sg.A),(4000017,Ep.sg.R)]⟩
def Bo.lt (K:Nat):LT Bo.sg.R.D:=.two .t (.two .t (.two (.two .t (.one (.loop Bo.l1.M (fun n c p=>Bo.l1 K c.2 c.1.2.1 n p.1 p.2.1 p.2.2.1 p.2.2.2.1 p.2.2.2.2.1 p.2.2.2.2.2.1 p.2.2.2.2.2.2.1 p.2.2.2.2.2.2.2) (fun nl1=>.t)))) .t))
theorem Bo.ct (K:Nat):CtX PP 269 Bo.sg (fun x=>Bo K x.1 x.2.1 x.2.2.1 x.2.2.2.2.1 x.2.2.2.2.2):=cy (cC K 44 [fe (Ep.ct K),fe (Ga.ct K),fe (C9.ct K)] [] [] [4,5]) Tryz.f269 (Bo.lt K) (o2 ot (o2 ot (o2 (o2 ot (ob (ol (fun _=>ot)))) ot)))
theorem Gn.ct (K:Nat):CtX PP 227 Gn.sg (fun x=>Gn K x.1 x.2):=cy (cC K 37 [fe (F6.ct K),fe (Bo.ct K)]) Tryz.f227
def Eb.l1.M:Tm:=⟨[(4,.c (.bx 5021000 0)),(5,.c (.bx 5021001 0)),(8,.c (.bx 5021002 0))],[(5021000,.box [q_ i8 10,.nl (.sl i8)]),(5021001,.box [q_ i8 11]),(5021002,.box [q_ i8 12,.vf 5021003]),(5021003,.row (.sl i8) true false (13,0))],[]⟩
def Eb.lt (K:Nat):LX Eb.sg.R.D:=.seqR .t (.seqR .t (.seqR .t (.seqL (.seqR .t (.blk (.range 224 Eb.l1.M Ci (fun n c p=>Eb.l1 K n p.1 p.2.1 p.2.2.1 p.2.2.2) (fun nl1=>.t) (fun nl1=>.t)))) .t)))
def Eb.C (K:Nat):CE:=cC K 48 [fe (Gl.ct K),fe (D7.ct K),fe (Gm.ct K),fe (Gn.ct K)] [] [] [] [] [(224,some slices_Backward___api_Object_api_Object_.bx)]
theorem Eb.ct (K:Nat):CtX PP 181 Eb.sg (fun x=>Eb K x.1 x.2):=ct_xX (C:=Eb.C K) (fn:=Tryz.f181) (c:=Tryz.f181.body.get!) (lx:=(Eb.lt K)) fol (by kernel_rfl) (by kernel_rfl) rfl (fun x=>(by kernel_rfl)) (okx_seqR ok_t (okx_seqR ok_t (okx_seqR ok_t (okx_seqL (okx_seqR ok_t (okx_blk (okx_range (fun c r=>(by kernel_rfl)) (fun x l=>⟨fun c r=>(by kernel_rfl),fun c r=>⟨ok_t,ok_t⟩⟩)))) ok_t)))) (fun x=>(by kernel_rfl))
theorem Gp.ct (K:Nat):CtX PP 229 Gp.sg (fun x=>Gp K x):=cy (cC K 12) Tryz.f229
theorem Gq.ct (K:Nat):CtX PP 230 Gq.sg (fun x=>Gq K x):=cy (cC K 31) Tryz.f230
theorem Gt.ct (K:Nat):CtX PP 275 Gt.sg (fun x=>Gt K x.1 x.2):=cy (cC K 8 [] [] [] [1]) Tryz.f275
def Ae.l1.M:Tm:=⟨[(0,.c (c_ (.sl Br) 1 0)),(1,.fn 275 [.bx 2 0]),(7,qI 10),(8,qI 11)],[(2,.box [q_ i8 12])],[(1,Ae.sg.A)]⟩
def Ae.lt (K:Nat):LT Ae.sg.R.D:=.two .t (.two (.two .t (.one (.loop Ae.l1.M (fun n c p=>Ae.l1 K c.1 n p.1 p.2.1 p.2.2) (fun nl1=>.t)))) .t)
theorem Ae.ct (K:Nat):CtX PP 215 Ae.sg (fun x=>Ae K x.1 x.2.2):=cy (cC K 19 [fe (Gt.ct K)] [] [] [2]) Tryz.f215 (Ae.lt K) (o2 ot (o2 (o2 ot (ob (ol (fun _=>ot)))) ot))
theorem Gv.ct (K:Nat):CtX PP 231 Gv.sg (fun x=>Gv K x.1 x.2):=cy (cC K 9 [fe (Ae.ct K)]) Tryz.f231
theorem Gw.ct (K:Nat):CtX PP 232 Gw.sg (fun x=>Gw K x):=cy (cC K 16) Tryz.f232
theorem Hd.ct (K:Nat):CtX PP 234 Hd.sg (fun x=>Hd K x.1 x.2):=cy (cC K 18 [fe (Ep.ct K),fe (D6.ct K),fe (Eb.ct K)]) Tryz.f234
theorem Fb.ct (K:Nat):CtX PP 323 Fb.sg (fun x=>Fb K x):=cy (cC K 13) Tryz.f323
def Df.j1.M:Tm:=⟨[(1,cI 1 2),(2,cI 1 3),(3,.c (.bx 5004000 0)),(7,.c (q_ .bool 10))],[(5004000,.box [c_ i8 1 0,.p (.sl (.sl i8)) true (1,1)])],[(1,Df.sg.A)]⟩
def Df.lt (K:Nat):LT Df.sg.R.D:=.two .t (.two (.one (.join Df.j1.M (fun c p=>Df.j1 K c.1 c.2.1 c.2.2 p) .t .t)) .t)
theorem Df.ct (K:Nat):CtX PP 307 Df.sg (fun x=>Df K x.1 x.2.1 x.2.2):=cy (cC K 28 [fe (C9.ct K),fe (Fb.ct K),fe (F4.ct K)]) Tryz.f307 (Df.lt K) (o2 ot (o2 (ob (oj ot ot)) ot))
theorem Gu.ct (K:Nat):CtX PP 216 Gu.sg (fun x=>Gu K x.1 x.2):=cy (cC K 17) Tryz.f216
theorem Fy.ct (K:Nat):CtX PP 217 Fy.sg (fun x=>Fy K x.1 x.2):=cy (cC K 51) Tryz.f217
theorem F5.ct (K:Nat):CtX PP 169 F5.sg (fun x=>F5 K x.1 x.2):=cy (cC K 30 [fe (Fy.ct K)]) Tryz.f169
def Ar.j1.M:Tm:=⟨[(0,.c (c_ (.sl i8) 1 0)),(1,cI 1 1)],[],[(1,Ar.sg.A)]⟩
def Ar.j2.M:Tm:=⟨[(0,.c (c_ (.sl i8) 1 0)),(6,.c (c_ (.int .u64) 4000018 1))],[],[(1,Ar.sg.A),(4000018,F5.sg.R)]⟩
def Ar.l3.M:Tm:=⟨[(7,.c (.vf 5022000)),(8,qI 11)],[(5022000,.row i8 false false (10,0))],[]⟩
def Ar.lt (K:Nat):LT Ar.sg.R.D:=.two .t (.join Ar.j1.M (fun c p=>Ar.j1 K c.1 c.2) .t (.two .t (.join Ar.j2.M (fun c p=>Ar.j2 K c.2 c.1.1) .t (.two .t (.two .t (.two (.one (.loop Ar.l3.M (fun n c p=>Ar.l3 K n p.1 p.2) (fun nl3=>.t))) .t))))))
theorem Ar.ct (K:Nat):CtX PP 324 Ar.sg (fun x=>Ar K x.1 x.2):=cy (cC K 48 [fe (F5.ct K)]) Tryz.f324 (Ar.lt K) (o2 ot (oj ot (o2 ot (oj ot (o2 ot (o2 ot (o2 (ob (ol (fun _=>ot))) ot)))))))
def Cy.j1.M:Tm:=⟨[(1,cI 1 2),(2,cI 1 3),(3,.c (.bx 5004000 0)),(6,.c (.bx 5004001 0)),(7,.c (.bx 5004002 0))],[(5004000,.box [c_ i8 1 0,.p (.sl (.sl i8)) true (1,1)]),(5004001,.box [q_ i8 10,q_ i8 11,q_ i8 12,.kb false,.nl i8,.nl i8]),(5004002,.box [c_ i8 1 2,q_ i8 13,q_ i8 14,.kb false,.nl i8,.nl i8])],[(1,Cy.sg.A)]⟩
def Cy.l2.M:Tm:=⟨[(6,.c (.bx 5026000 0)),(7,.c (.bx 5026001 0)),(33,cI 1 0),(34,qI 15)],[(5026000,.box [c_ i8 10 0,c_ i8 11 0,c_ i8 12 0,.kb false,.nl i8,.nl i8]),(5026001,.box [c_ i8 1 2,c_ i8 13 0,c_ i8 14 0,.kb false,.nl i8,.vf 5026002]),(5026002,.row i8 false false (16,0))],[(1,Cy.sg.A),(10,i8),(11,i8),(12,i8),(13,i8),(14,i8)]⟩
def Cy.lt (K:Nat):LT Cy.sg.R.D:=.two .t (.two .t (.join Cy.j1.M (fun c p=>Cy.j1 K c.1 c.2.1 c.2.2 p.1 p.2.1 p.2.2.1 p.2.2.2.1 p.2.2.2.2) .t (.two (.two .t (.one (.two .t (.two .t (.two .t (.two (.two .t (.one (.loop Cy.l2.M (fun n c p=>Cy.l2 K c.2.2.2.2.1 c.2.2.2.2.2 c.1.1 c.1.2.1 n p.1 p.2) (fun nl2=>.t)))) .t)))))) .t)))
theorem Cy.ct (K:Nat):CtX PP 308 Cy.sg (fun x=>Cy K x.1 x.2.1 x.2.2):=cy (cC K 45 [fe (Fb.ct K),fe (Ar.ct K)]) Tryz.f308 (Cy.lt K) (o2 ot (o2 ot (oj ot (o2 (o2 ot (ob (o2 ot (oc ot (o2 ot (oc (o2 ot (ob (ol (fun _=>ot)))) ot)))))) ot))))
theorem Ff.ct (K:Nat):CtX PP 279 Ff.sg (fun x=>Ff K x.1 x.2.1 x.2.2):=cy (cC K 21 [fe (Df.ct K),fe (Cy.ct K)]) Tryz.f279
theorem Gi.ct (K:Nat):CtX PP 280 Gi.sg (fun x=>Gi K x.1 x.2):=cy (cC K 45 [fe (Ay.ct K)]) Tryz.f280
theorem F8.ct (K:Nat):CtX PP 236 F8.sg (fun x=>F8 K x.1 x.2):=cy (cC K 25) Tryz.f236
def Cj.l1.M:Tm:=⟨[(1,.c (.bx 1 0)),(2,.c (.bx 5008003 0)),(4,cI 1 4),(16,.c (q_ (.sl i8) 10)),(17,qI 11),(18,qI 12)],[(1,.box [c_ i8 1 2,c_ i8 1 3,c_ i8 1 4,q_ .bool 18,.vf 5008001,.vf 5008002]),(5008001,.row i8 false true (1,6)),(5008002,.row i8 false false (19,0)),(5008003,.box [c_ i8 1 0,.p (.sl (.sl i8)) true (1,1)])],[(1,Cj.sg.A)]⟩
def Cj.j2.M:Tm:=⟨[(1,.c (.bx 1 0)),(2,.c (.bx 5021003 0)),(4,cI 1 4),(6,qI 14),(7,qI 15),(16,.c (c_ (.sl i8) 10 0)),(17,cI 11 0),(18,cI 12 0)],[(1,.box [c_ i8 1 2,c_ i8 1 3,c_ i8 1 4,q_ .bool 13,.vf 5021001,.vf 5021002]),(5021001,.row i8 false true (1,6)),(5021002,.row i8 false true (19,0)),(5021003,.box [c_ i8 1 0,.p (.sl (.sl i8)) true (1,1)])],[(1,Cj.sg.A),(10,(.sl i8)),(11,i8),(12,i8),(19,(.sl i8))]⟩
def Cj.j3.M:Tm:=⟨[(1,.c (.bx 1 0)),(95,.c (q_ .bool 17))],[(1,.box [c_ i8 1 2,c_ i8 1 3,q_ i8 16,c_ .bool 18 0,.vf 5027001,.vf 5027002]),(5027001,.row i8 false true (1,6)),(5027002,.row i8 false true (19,0))],[(1,Cj.sg.A),(18,.bool),(19,(.sl i8))]⟩
def Cj.lt (K:Nat):LT Cj.sg.R.D:=.two .t (.two .t (.two (.two .t (.one (.loop Cj.l1.M (fun n c p=>Cj.l1 K c.1 c.2 n p.1 p.2.1 p.2.2.1 p.2.2.2.1 p.2.2.2.2) (fun nl1=>.two .t (.two .t (.two (.one (.two .t (.two .t (.join Cj.j2.M (fun c p=>Cj.j2 K (Cj.l1 K c.1.1 c.1.2 nl1) c.2.2.2.2 c.2.1 c.2.2.1 c.2.2.2.1 c.1.1 c.1.2 p.1 p.2.1 p.2.2) .t .t)))) .t)))))) (.two .t (.join Cj.j3.M (fun c p=>Cj.j3 K c.2.1 c.2.2 c.1.2 p.1 p.2) .t .t))))
theorem Cj.ct (K:Nat):CtX PP 309 Cj.sg (fun x=>Cj K x.1 x.2):=cy (cC K 102 [] [] [] [1]) Tryz.f309 (Cj.lt K) (o2 ot (o2 ot (o2 (o2 ot (ob (ol (fun _=>o2 ot (o2 ot (o2 (ob (o2 ot (o2 ot (oj ot ot)))) ot)))))) (o2 ot (oj ot ot)))))
def Bq.l1.M:Tm:=⟨[(1,.c (.bx 1 0)),(2,.c (.bx 5034003 0)),(4,cI 1 4)],[(1,.box [c_ i8 1 2,c_ i8 1 3,q_ i8 10,c_ .bool 1 5,.vf 5034001,.vf 5034002]),(5034001,.row i8 false true (1,6)),(5034002,.row i8 false false (20,0)),(5034003,.box [c_ i8 1 0,.p (.sl (.sl i8)) true (1,1)])],[(1,Bq.sg.A)]⟩
def Bq.l2.M:Tm:=⟨[(1,.c (.bx 1 0)),(4,qI 12),(118,.c (q_ (.sl i8) 13)),(119,qI 14),(120,qI 15)],[(1,.box [c_ i8 1 2,c_ i8 1 3,q_ i8 11,c_ .bool 1 5,.vf 5052001,.vf 5052002]),(5052001,.row i8 false false (21,0)),(5052002,.row i8 false false (22,0))],[(1,Bq.sg.A)]⟩
def Bq.l3.M:Tm:=⟨[(1,.c (.bx 1 0)),(4,cI 1 4),(163,.c (q_ (.sl i8) 17)),(164,qI 18),(165,qI 19)],[(1,.box [c_ i8 1 2,c_ i8 1 3,q_ i8 16,c_ .bool 1 5,.vf 5075001,.vf 5075002]),(5075001,.row i8 false true (1,6)),(5075002,.row i8 false false (23,0))],[(1,Bq.sg.A)]⟩
def Bq.lt (K:Nat):LT Bq.sg.R.D:=.two .t (.two .t (.two .t (.two .t (.two .t (.one (.two .t (.two .t (.two .t (.two .t (.two .t (.two (.two (.one (.loop Bq.l1.M (fun n c p=>Bq.l1 K c.1 c.2 n p.1 p.2) (fun nl1=>.t))) .t) (.two .t (.two (.two .t (.two .t (.one (.loop Bq.l2.M (fun n c p=>Bq.l2 K c.2 n p.1 p.2.1 p.2.2.1 p.2.2.2.1 p.2.2.2.2.1 p.2.2.2.2.2.1 p.2.2.2.2.2.2) (fun nl2=>.t))))) (.two .t (.two (.two .t (.one (.loop Bq.l3.M (fun n c p=>Bq.l3 K c.2 n p.1 p.2.1 p.2.2.1 p.2.2.2.1 p.2.2.2.2) (fun nl3=>.t)))) .t)))))))))))))))
theorem Bq.ct (K:Nat):CtX PP 281 Bq.sg (fun x=>Bq K x.1 x.2):=cy (cC K 181 [fe (Cj.ct K),fe (Cm.ct K),fe (Cv.ct K)] [] [] [1]) Tryz.f281 (Bq.lt K) (o2 ot (o2 ot (o2 ot (o2 ot (o2 ot (ob (o2 ot (oc ot (o2 ot (oc ot (o2 ot (oc (o2 (ob (ol (fun _=>ot))) ot) (o2 ot (oc (o2 ot (o2 ot (ob (ol (fun _=>ot))))) (o2 ot (oc (o2 ot (ob (ol (fun _=>ot)))) ot))))))))))))))))
def Dc.l1.M:Tm:=⟨[(2,.c (.bx 5017000 0)),(3,.c (.bx 5017001 0)),(5,.c (.bx 5017002 0))],[(5017000,.box [c_ i8 1 0,.p (.sl (.sl i8)) true (1,1)]),(5017001,.box [c_ i8 1 2,c_ i8 1 3,c_ i8 1 4,c_ .bool 1 5,c_ (.sl i8) 1 6,c_ (.sl i8) 1 7]),(5017002,.box [q_ i8 10,q_ i8 11,q_ i8 12,q_ .bool 13,.vf 5017003,.vf 5017004]),(5017003,.row i8 false false (14,0)),(5017004,.row i8 false false (15,0))],[(1,Dc.sg.A)]⟩
def Dc.lt (K:Nat):LT Dc.sg.R.D:=.two .t (.one (.two .t (.two .t (.two .t (.two (.one (.loop Dc.l1.M (fun n c p=>Dc.l1 K c.1 c.2 n p.1 p.2.1 p.2.2.1 p.2.2.2.1 p.2.2.2.2.1 p.2.2.2.2.2) (fun nl1=>.t))) .t)))))
theorem Dc.ct (K:Nat):CtX PP 235 Dc.sg (fun x=>Dc K x.1 x.2):=cy (cC K 28 [fe (Ff.ct K),fe (Gi.ct K),fe (F8.ct K),fe (Bq.ct K)]) Tryz.f235 (Dc.lt K) (o2 ot (ok_scope (o2 ot (o2 ot (o2 ot (o2 (ob (ol (fun _=>ot))) ot))))))
def Bl.j1.M:Tm:=⟨[(2,.c (.bx 5010000 0)),(3,.c (.bx 5010001 0)),(33,.c (q_ .bool 10))],[(5010000,.box [c_ i8 1 0,c_ i8 1 1,c_ (.sl Br) 1 2,c_ (.sl Bu) 1 3]),(5010001,.box [c_ .bool 1 4,c_ i8 1 5,c_ .bool 1 6,c_ i8 1 7,c_ i8 1 8,.p (.sl (.sl i8)) true (1,9),c_ i8 1 10,c_ i8 1 11,c_ i8 1 12,c_ .bool 1 13,c_ (.sl i8) 1 14,c_ (.sl i8) 1 15])],[(1,Bl.sg.A)]⟩
def Bl.j2.M:Tm:=⟨[(2,.c (.bx 5016000 0)),(3,.c (.bx 5016001 0)),(44,.c (q_ .bool 11))],[(5016000,.box [c_ i8 1 0,c_ i8 1 1,c_ (.sl Br) 1 2,c_ (.sl Bu) 1 3]),(5016001,.box [c_ .bool 1 4,c_ i8 1 5,c_ .bool 1 6,c_ i8 1 7,c_ i8 1 8,.p (.sl (.sl i8)) true (1,9),c_ i8 1 10,c_ i8 1 11,c_ i8 1 12,c_ .bool 1 13,c_ (.sl i8) 1 14,c_ (.sl i8) 1 15])],[(1,Bl.sg.A)]⟩
def Bl.j3.M:Tm:=⟨[(2,.c (.bx 5022000 0)),(3,.c (.bx 5022001 0)),(65,.c (q_ .bool 12))],[(5022000,.box [c_ i8 1 0,c_ i8 1 1,c_ (.sl Br) 1 2,c_ (.sl Bu) 1 3]),(5022001,.box [c_ .bool 1 4,c_ i8 1 5,c_ .bool 1 6,c_ i8 1 7,c_ i8 1 8,.p (.sl (.sl i8)) true (1,9),c_ i8 1 10,c_ i8 1 11,c_ i8 1 12,c_ .bool 1 13,c_ (.sl i8) 1 14,c_ (.sl i8) 1 15])],[(1,Bl.sg.A)]⟩
def Bl.lt (K:Nat):LT Bl.sg.R.D:=.two .t (.two (.one (.two .t (.two .t (.join Bl.j1.M (fun c p=>Bl.j1 K c.1 c.2 p) .t (.two .t (.join Bl.j2.M (fun c p=>Bl.j2 K c.1 c.2 p) .t (.two .t (.join Bl.j3.M (fun c p=>Bl.j3 K c.1 c.2 p) .t .t)))))))) .t)
theorem Bl.ct (K:Nat):CtX PP 184 Bl.sg (fun x=>Bl K x.1 x.2):=cy (cC K 103 [fe (Gp.ct K),fe (Gq.ct K),fe (Gv.ct K),fe (Gw.ct K),fe (C9.ct K),fe (Hd.ct K),fe (Dc.ct K),fe (F8.ct K)]) Tryz.f184 (Bl.lt K) (o2 ot (o2 (ob (o2 ot (oc ot (oj ot (oc ot (oj ot (oc ot (oj ot ot)))))))) ot))
theorem Gy.ct (K:Nat):CtX PP 183 Gy.sg (fun x=>Gy K x.1 x.2):=cy (cC K 8 [fe (Bl.ct K)] [] [] [1]) Tryz.f183
def Ad.l1.M:Tm:=⟨[(0,.c (c_ (.sl Bu) 1 0)),(1,.fn 183 [.bx 2 0]),(7,qI 10),(8,qI 11)],[(2,.box [q_ i8 12,q_ i8 13,q_ (.sl Br) 14,q_ (.sl Bu) 15])],[(1,Ad.sg.A)]⟩
def Ad.lt (K:Nat):LT Ad.sg.R.D:=.two .t (.two (.two .t (.one (.loop Ad.l1.M (fun n c p=>Ad.l1 K c.1 n p.1 p.2.1 p.2.2.1 p.2.2.2.1 p.2.2.2.2.1 p.2.2.2.2.2) (fun nl1=>.t)))) .t)
theorem Ad.ct (K:Nat):CtX PP 228 Ad.sg (fun x=>Ad K x.1 x.2.2):=cy (cC K 19 [fe (Gy.ct K)] [] [] [2]) Tryz.f228 (Ad.lt K) (o2 ot (o2 (o2 ot (ob (ol (fun _=>ot)))) ot))
theorem Bw.ct (K:Nat):CtX PP 182 Bw.sg (fun x=>Bw K x.1 x.2.2):=cy (cC K 9 [fe (Ad.ct K)] [] [] [2]) Tryz.f182
def En.l1.M:Tm:=⟨[(1,.c (.bx 5016000 0)),(3,.c (.vf 5016001)),(19,.c (.vf 5016001)),(20,qI 10),(21,qI 11)],[(5016000,.box [c_ i8 1 0,c_ i8 1 1,c_ (.sl Br) 1 2,c_ (.sl Bu) 1 3]),(5016001,.row Ci false true (4000018,0))],[(1,En.sg.A),(4000018,D6.sg.R)]⟩
def En.lt (K:Nat):LT En.sg.R.D:=.two .t (.two .t (.two .t (.two (.two .t (.one (.loop En.l1.M (fun n c p=>En.l1 K c.2 c.1 n p.1 p.2) (fun nl1=>.t)))) .t)))
theorem En.ct (K:Nat):CtX PP 122 En.sg (fun x=>En K x):=cy (cC K 40 [fe (Dj.ct K),fe (D6.ct K),fe (Eb.ct K),fe (Bw.ct K)]) Tryz.f122 (En.lt K) (o2 ot (o2 ot (o2 ot (o2 (o2 ot (ob (ol (fun _=>ot)))) ot))))
theorem Fw.ct (K:Nat):CtX PP 186 Fw.sg (fun x=>Fw K x):=cy (cC K 10) Tryz.f186
def Dn.l1.M:Tm:=⟨[(2,.c (.vf 5006000)),(6,.c (c_ (.sl Br) 1 2)),(7,qI 10),(8,qI 11)],[(5006000,.row Dt false false (12,0))],[(1,Dn.sg.A)]⟩
def Dn.lt (K:Nat):LT Dn.sg.R.D:=.two .t (.two (.two .t (.one (.loop Dn.l1.M (fun n c p=>Dn.l1 K c n p.1 p.2.1 p.2.2) (fun nl1=>.t)))) .t)
theorem Dn.ct (K:Nat):CtX PP 124 Dn.sg (fun x=>Dn K x):=cy (cC K 23 [fe (Fw.ct K)]) Tryz.f124 (Dn.lt K) (o2 ot (o2 (o2 ot (ob (ol (fun _=>ot)))) ot))
theorem Fx.ct (K:Nat):CtX PP 237 Fx.sg (fun x=>Fx K x):=cy (cC K 9) Tryz.f237
def Cc.l1.M:Tm:=⟨[(1,cI 1 1),(6,.c (.vf 5016000)),(20,.c (c_ (.sl Dt) 1 0)),(21,qI 11),(22,qI 12)],[(5016000,.row .bool false false (10,0))],[(1,Cc.sg.A)]⟩
def Cc.l2.M:Tm:=⟨[(1,cI 1 1),(6,.c (.vf 5038000)),(8,.c (.bx 5038001 0)),(9,qI 15),(20,.c (c_ (.sl Dt) 1 0)),(21,cI 11 0),(22,cI 12 0)],[(5038000,.row .bool false false (16,0)),(5038001,.box [q_ i8 13,q_ i8 14])],[(1,Cc.sg.A),(11,i8),(12,i8)]⟩
def Cc.lt (K:Nat):LT Cc.sg.R.D:=.two .t (.two .t (.two .t (.two (.two .t (.one (.loop Cc.l1.M (fun n c p=>Cc.l1 K c.1 c.2 n p.1 p.2.1 p.2.2) (fun nl1=>.two .t (.two .t (.two (.one (.two .t (.two .t (.two .t (.one (.loop Cc.l2.M (fun n c p=>Cc.l2 K (Cc.l1 K c.1.1 c.1.2 nl1) c.2.1 c.2.2 c.1.1 c.1.2 n p.1 p.2.1 p.2.2.1 p.2.2.2) (fun nl2=>.t))))))) .t)))))) .t)))
theorem Cc.ct (K:Nat):CtX PP 185 Cc.sg (fun x=>Cc K x.1 x.2):=cy (cC K 69 [fe (Fx.ct K)]) Tryz.f185 (Cc.lt K) (o2 ot (o2 ot (o2 ot (o2 (o2 ot (ob (ol (fun _=>o2 ot (o2 ot (o2 (ob (o2 ot (o2 ot (o2 ot (ob (ol (fun _=>ot))))))) ot)))))) ot))))
theorem Gf.ct (K:Nat):CtX PP 123 Gf.sg (fun x=>Gf K x.1 x.2):=cy (cC K 14 [fe (Cc.ct K)]) Tryz.f123
theorem G9.ct (K:Nat):CtX PP 75 G9.sg (fun x=>G9 K x):=cy (cC K 12 [fe (En.ct K),fe (Dn.ct K),fe (Gf.ct K)]) Tryz.f75
def Cr.l1.M:Tm:=⟨[(5,.c (.vf 5008000)),(10,.c (c_ (.sl i8) 1 1)),(11,qI 11),(12,qI 12)],[(5008000,.row (.int .u8) false false (10,0))],[(1,Cr.sg.A)]⟩
def Cr.lt (K:Nat):LT Cr.sg.R.D:=.two .t (.two .t (.two (.two .t (.one (.loop Cr.l1.M (fun n c p=>Cr.l1 K c.2 n p.1 p.2.1 p.2.2) (fun nl1=>.t)))) .t))
theorem Cr.ct (K:Nat):CtX PP 110 Cr.sg (fun x=>Cr K x.1 x.2):=cy (cC K 33) Tryz.f110 (Cr.lt K) (o2 ot (o2 ot (o2 (o2 ot (ob (ol (fun _=>ot)))) ot)))
theorem Gg.ct (K:Nat):CtX PP 125 Gg.sg (fun x=>Gg K x):=cy (cC K 9) Tryz.f125
def Dk.l1.M:Tm:=⟨[(3,.c (q_ .str 12)),(16,.c (c_ (.sl Br) 1 2)),(17,qI 10),(18,qI 11)],[],[(1,Dk.sg.A)]⟩
def Dk.lt (K:Nat):LT Dk.sg.R.D:=.two .t (.two .t (.two (.two .t (.one (.loop Dk.l1.M (fun n c p=>Dk.l1 K c n p.1 p.2.1 p.2.2) (fun nl1=>.t)))) .t))
theorem Dk.ct (K:Nat):CtX PP 76 Dk.sg (fun x=>Dk K x):=cy (cC K 40 [fe (Cr.ct K),fe (Gg.ct K)]) Tryz.f76 (Dk.lt K) (o2 ot (o2 ot (o2 (o2 ot (ob (ol (fun _=>ot)))) ot)))
theorem Fe.ct (K:Nat):CtX PP 26 Fe.sg (fun x=>Fe K x):=cy (cC K 9 [fe (G9.ct K),fe (Dk.ct K)]) Tryz.f26
theorem Dg.ct (K:Nat):CtX PP 18 Dg.sg (fun x=>Dg K x):=cy (cC K 4) Tryz.f18
theorem Di.ct (K:Nat):CtX PP 187 Di.sg (fun x=>Di K x.1 x.2):=cy (cC K 18) Tryz.f187
theorem Ew.ct (K:Nat):CtX PP 126 Ew.sg (fun x=>Ew K x.1 x.2):=cy (cC K 8 [fe (Di.ct K)]) Tryz.f126
def Ag.l1.M:Tm:=⟨[(0,.c (.bx 0 0)),(3,qI 10),(26,.c (.vf 5018001)),(27,qI 12),(28,qI 13)],[(0,.box [c_ .str 1 0,c_ .bool 1 1]),(5018001,.row (.int .u8) false false (11,0))],[(1,Ag.sg.A)]⟩
def Ag.lt (K:Nat):LT Ag.sg.R.D:=.two .t (.two .t (.two .t (.two (.two .t (.one (.loop Ag.l1.M (fun n c p=>Ag.l1 K c n p.1 p.2.1 p.2.2.1 p.2.2.2) (fun nl1=>.t)))) .t)))
theorem Ag.ct (K:Nat):CtX PP 67 Ag.sg (fun x=>Ag K x):=cy (cC K 47 [] [] [] [0]) Tryz.f67 (Ag.lt K) (o2 ot (o2 ot (o2 ot (o2 (o2 ot (ob (ol (fun _=>ot)))) ot))))
theorem Et.ct (K:Nat):CtX PP 107 Et.sg (fun x=>Et K x.1 x.2):=ct_repeat Tryz.laysNm105 Tryz.extra105
theorem Fu.ct (K:Nat):CtX PP 68 Fu.sg (fun x=>Fu K x):=cy (cC K 10 [fe (Et.ct K)]) Tryz.f68
theorem De.ct (K:Nat):CtX PP 127 De.sg (fun x=>De K x):=cy (cC K 53 [fe (Ag.ct K),fe (Fu.ct K)] [] [] [0]) Tryz.f127
def Da.l1.M:Tm:=⟨[(2,.c (.bx 5028000 0)),(4,.c (.bx 5028001 0)),(5,.c (.bx 5028002 0)),(32,cI 4000022 0),(33,qI 13)],[(5028000,.box [q_ i8 10,q_ i8 11,.nl Br,.nl Bu]),(5028001,.box [q_ .str 14,q_ .bool 15]),(5028002,.box [c_ i8 4000016 0,c_ i8 4000018 0,.vf 5028003,.vf 5028004]),(5028003,.row Br false false (16,0)),(5028004,.row Bu true false (12,0))],[(4000016,Ag.sg.R),(4000018,Ag.sg.R),(4000022,Ag.sg.R)]⟩
def Da.lt (K:Nat):LT Da.sg.R.D:=.two .t (.two .t (.two .t (.two .t (.two .t (.two .t (.two (.two .t (.one (.loop Da.l1.M (fun n c p=>Da.l1 K c.1 c.2.1 c.2.2 n p.1 p.2.1 p.2.2.1 p.2.2.2.1 p.2.2.2.2.1 p.2.2.2.2.2.1 p.2.2.2.2.2.2) (fun nl1=>.t)))) .t))))))
theorem Da.ct (K:Nat):CtX PP 77 Da.sg (fun x=>Da K x):=cy (cC K 69 [fe (Ew.ct K),fe (Ag.ct K),fe (De.ct K),fe (Dj.ct K),fe (Dn.ct K),fe (Gf.ct K)] [(4,[4])]) Tryz.f77 (Da.lt K) (o2 ot (o2 ot (o2 ot (o2 ot (o2 ot (o2 ot (o2 (o2 ot (ob (ol (fun _=>ot)))) ot)))))))
theorem Fj.ct (K:Nat):CtX PP 27 Fj.sg (fun x=>Fj K x):=cy (cC K 15 [fe (Da.ct K)]) Tryz.f27
def Bf.l1.M:Tm:=⟨[(0,.c (c_ (.sl Br) 1 0)),(3,.c (.vf 5008000)),(4,qI 10)],[(5008000,.row Br false false (11,0))],[(1,Bf.sg.A)]⟩
def Bf.lt (K:Nat):LT Bf.sg.R.D:=.two .t (.two .t (.two (.two .t (.one (.loop Bf.l1.M (fun n c p=>Bf.l1 K c n p.1 p.2) (fun nl1=>.t)))) .t))
theorem Bf.ct (K:Nat):CtX PP 78 Bf.sg (fun x=>Bf K x):=cy (cC K 19) Tryz.f78 (Bf.lt K) (o2 ot (o2 ot (o2 (o2 ot (ob (ol (fun _=>ot)))) ot)))
def Aw.l1.M:Tm:=⟨[(0,.c (c_ (.sl i8) 1 0)),(3,.c (.vf 5008000)),(4,qI 10)],[(5008000,.row i8 false false (11,0))],[(1,Aw.sg.A)]⟩
def Aw.lt (K:Nat):LT Aw.sg.R.D:=.two .t (.two .t (.two (.two .t (.one (.loop Aw.l1.M (fun n c p=>Aw.l1 K c n p.1 p.2) (fun nl1=>.t)))) .t))
theorem Aw.ct (K:Nat):CtX PP 240 Aw.sg (fun x=>Aw K x):=cy (cC K 19) Tryz.f240 (Aw.lt K) (o2 ot (o2 ot (o2 (o2 ot (ob (ol (fun _=>ot)))) ot)))
def Az.l1.M:Tm:=⟨[(0,.c (.p (.sl (.sl i8)) true (1,0))),(3,.c (.vf 5008000)),(4,qI 10)],[(5008000,.row (.sl i8) false false (11,0))],[(1,Az.sg.A)]⟩
def Az.lt (K:Nat):LT Az.sg.R.D:=.two .t (.two .t (.two (.two .t (.one (.loop Az.l1.M (fun n c p=>Az.l1 K c n p.1 p.2) (fun nl1=>.t)))) .t))
theorem Az.ct (K:Nat):CtX PP 239 Az.sg (fun x=>Az K x):=cy (cC K 20 [fe (Aw.ct K)]) Tryz.f239 (Az.lt K) (o2 ot (o2 ot (o2 (o2 ot (ob (ol (fun _=>ot)))) ot)))
theorem Ef.ct (K:Nat):CtX PP 189 Ef.sg (fun x=>Ef K x):=cy (cC K 10 [fe (Az.ct K)]) Tryz.f189
theorem Co.ct (K:Nat):CtX PP 190 Co.sg (fun x=>Co K x):=cy (cC K 14 [fe (Aw.ct K)]) Tryz.f190
theorem El.ct (K:Nat):CtX PP 129 El.sg (fun x=>El K x):=cy (cC K 14 [fe (Ef.ct K),fe (Co.ct K)]) Tryz.f129
def Bg.l1.M:Tm:=⟨[(0,.c (c_ (.sl Bu) 1 0)),(3,.c (.vf 5008000)),(4,qI 10)],[(5008000,.row Bu false false (11,0))],[(1,Bg.sg.A)]⟩
def Bg.lt (K:Nat):LT Bg.sg.R.D:=.two .t (.two .t (.two (.two .t (.one (.loop Bg.l1.M (fun n c p=>Bg.l1 K c n p.1 p.2) (fun nl1=>.t)))) .t))
theorem Bg.ct (K:Nat):CtX PP 79 Bg.sg (fun x=>Bg K x):=cy (cC K 20 [fe (El.ct K)]) Tryz.f79 (Bg.lt K) (o2 ot (o2 ot (o2 (o2 ot (ob (ol (fun _=>ot)))) ot)))
theorem Dp.ct (K:Nat):CtX PP 28 Dp.sg (fun x=>Dp K x):=cy (cC K 14 [fe (Bf.ct K),fe (Bg.ct K)]) Tryz.f28
theorem Em.ct (K:Nat):CtX PP 29 Em.sg (fun x=>Em K x):=cy (cC K 6) Tryz.f29
def Bp.l1.M:Tm:=⟨[(0,.c (c_ (.sl Br) 1 0)),(1,.c (c_ (.sl Br) 1 1)),(5,qI 10)],[],[(1,Bp.sg.A)]⟩
def Bp.lt (K:Nat):LT Bp.sg.R.D:=.two .t (.two .t (.two (.two .t (.one (.loop Bp.l1.M (fun n c p=>Bp.l1 K c.1 c.2 n p) (fun nl1=>.t)))) .t))
theorem Bp.ct (K:Nat):CtX PP 80 Bp.sg (fun x=>Bp K x.1 x.2):=cy (cC K 26) Tryz.f80 (Bp.lt K) (o2 ot (o2 ot (o2 (o2 ot (ob (ol (fun _=>ot)))) ot)))
def A8.l1.M:Tm:=⟨[(0,.c (c_ (.sl i8) 1 0)),(1,.c (c_ (.sl i8) 1 1)),(5,qI 10)],[],[(1,A8.sg.A)]⟩
def A8.lt (K:Nat):LT A8.sg.R.D:=.two .t (.two .t (.two (.two .t (.one (.loop A8.l1.M (fun n c p=>A8.l1 K c.1 c.2 n p) (fun nl1=>.t)))) .t))
theorem A8.ct (K:Nat):CtX PP 199 A8.sg (fun x=>A8 K x.1 x.2):=cy (cC K 26) Tryz.f199 (A8.lt K) (o2 ot (o2 ot (o2 (o2 ot (ob (ol (fun _=>ot)))) ot)))
def Ba.l1.M:Tm:=⟨[(0,.c (.p (.sl (.sl i8)) true (1,0))),(1,.c (.p (.sl (.sl i8)) true (1,1))),(5,qI 10)],[],[(1,Ba.sg.A)]⟩
def Ba.lt (K:Nat):LT Ba.sg.R.D:=.two .t (.two .t (.two (.two .t (.one (.loop Ba.l1.M (fun n c p=>Ba.l1 K c.1 c.2 n p) (fun nl1=>.t)))) .t))
theorem Ba.ct (K:Nat):CtX PP 196 Ba.sg (fun x=>Ba K x.1 x.2):=cy (cC K 27 [fe (A8.ct K)]) Tryz.f196 (Ba.lt K) (o2 ot (o2 ot (o2 (o2 ot (ob (ol (fun _=>ot)))) ot)))
theorem Ed.ct (K:Nat):CtX PP 137 Ed.sg (fun x=>Ed K x.1 x.2):=cy (cC K 17 [fe (Ba.ct K)]) Tryz.f137
theorem Dz.ct (K:Nat):CtX PP 140 Dz.sg (fun x=>Dz K x.1 x.2):=cy (cC K 45 [fe (A8.ct K)]) Tryz.f140
theorem Eg.ct (K:Nat):CtX PP 130 Eg.sg (fun x=>Eg K x.1 x.2):=cy (cC K 45 [fe (Ed.ct K),fe (Dz.ct K)]) Tryz.f130
def Be.l1.M:Tm:=⟨[(0,.c (c_ (.sl Bu) 1 0)),(1,.c (c_ (.sl Bu) 1 1)),(5,qI 10)],[],[(1,Be.sg.A)]⟩
def Be.lt (K:Nat):LT Be.sg.R.D:=.two .t (.two .t (.two (.two .t (.one (.loop Be.l1.M (fun n c p=>Be.l1 K c.1 c.2 n p) (fun nl1=>.t)))) .t))
theorem Be.ct (K:Nat):CtX PP 81 Be.sg (fun x=>Be K x.1 x.2):=cy (cC K 27 [fe (Eg.ct K)]) Tryz.f81 (Be.lt K) (o2 ot (o2 ot (o2 (o2 ot (ob (ol (fun _=>ot)))) ot)))
theorem Dl.ct (K:Nat):CtX PP 30 Dl.sg (fun x=>Dl K x.1 x.2):=cy (cC K 31 [fe (Bp.ct K),fe (Be.ct K)]) Tryz.f30
def Ey.l1.M:Tm:=⟨[(0,.c (c_ .str 1 0)),(3,.c (q_ (.int .u32) 10)),(4,.c (q_ (.int .u32) 11)),(7,qI 12),(8,qI 13)],[],[(1,Ey.sg.A)]⟩
def Ey.lt (K:Nat):LT Ey.sg.R.D:=.two .t (.two .t (.two (.two .t (.one (.loop Ey.l1.M (fun n c p=>Ey.l1 K c n p.1 p.2.1 p.2.2.1 p.2.2.2) (fun nl1=>.t)))) .t))
theorem Ey.ct (K:Nat):CtX PP 174 Ey.sg (fun x=>Ey K x):=cy (cC K 27) Tryz.f174 (Ey.lt K) (o2 ot (o2 ot (o2 (o2 ot (ob (ol (fun _=>ot)))) ot)))
theorem F7.ct (K:Nat):CtX PP 108 F7.sg (fun x=>F7 K x):=cy (cC K 19 [fe (Ey.ct K)]) Tryz.f108
theorem Gr.ct (K:Nat):CtX PP 59 Gr.sg (fun x=>Gr K x):=cy (cC K 18 [fe (Et.ct K),fe (F7.ct K)]) Tryz.f59
def D5.l1.M:Tm:=⟨[(0,.c (q_ .str 10)),(2,.c (.vf 5004000))],[(5004000,.row .str false false (11,0))],[]⟩
def D5.lt (K:Nat):LT D5.sg.R.D:=.two .t (.two (.one (.loop D5.l1.M (fun n c p=>D5.l1 K n p.1 p.2) (fun nl1=>.t))) .t)
theorem D5.ct (K:Nat):CtX PP 12 D5.sg (fun x=>D5 K x):=cy (cC K 20 [fe (Gr.ct K)]) Tryz.f12 (D5.lt K) (o2 ot (o2 (ob (ol (fun _=>ot))) ot))
theorem Gj.ct (K:Nat):CtX PP 61 Gj.sg (fun x=>Gj K x):=cy (cC K 17 [fe (F7.ct K)]) Tryz.f61
def Du.l1.M:Tm:=⟨[(4,.c (q_ .str 10)),(9,.c (c_ (.sl .str) 1 0)),(10,qI 11),(11,qI 12)],[],[(1,Du.sg.A)]⟩
def Du.lt (K:Nat):LT Du.sg.R.D:=.two .t (.two .t (.two (.two .t (.one (.loop Du.l1.M (fun n c p=>Du.l1 K c n p.1 p.2.1 p.2.2) (fun nl1=>.t)))) .t))
theorem Du.ct (K:Nat):CtX PP 16 Du.sg (fun x=>Du K x):=cy (cC K 27 [fe (Gj.ct K)]) Tryz.f16 (Du.lt K) (o2 ot (o2 ot (o2 (o2 ot (ob (ol (fun _=>ot)))) ot)))
theorem Gs.ct (K:Nat):CtX PP 64 Gs.sg (fun x=>Gs K x):=cy (cC K 10 [fe (Cr.ct K)]) Tryz.f64
theorem Gb.ct (K:Nat):CtX PP 19 Gb.sg (fun x=>Gb K x):=cy (cC K 9 [fe (Fg.ct K),fe (Gs.ct K)]) Tryz.f19
theorem Fp.ct (K:Nat):CtX PP 69 Fp.sg (fun x=>Fp K x.1 x.2):=ct_trim Tryz.laysNm160
theorem Ez.ct (K:Nat):CtX PP 22 Ez.sg (fun x=>Ez K x.1 x.2):=cy (cC K 64 [fe (Ag.ct K),fe (Fu.ct K),fe (Fg.ct K),fe (Fp.ct K)]) Tryz.f22
theorem Fh.ct (K:Nat):CtX PP 72 Fh.sg (fun x=>Fh K x.1 x.2):=cy (cC K 9 [] [(1,[2])]) Tryz.f72
theorem Ea.ct (K:Nat):CtX PP 24 Ea.sg (fun x=>Ea K):=cy (cC K 38 [fe (Fh.ct K),fe (Fe.ct K),fe (Fj.ct K),fe (Dg.ct K)]) Tryz.f24
def Ah.l1.M:Tm:=⟨[(1,.c (.bx 5014000 0)),(3,qI 10)],[(5014000,.box [c_ (.sl Ck) 1 0,c_ (.sl (.sl Ci)) 1 1,c_ (.sl Bh) 1 2,c_ (.sl E5) 1 3,c_ (.sl i8) 1 4])],[(1,Ah.sg.A)]⟩
def Ah.l2.M:Tm:=⟨[(1,.c (.bx 5039000 0)),(3,cI 10 0),(4,.c (c_ .str 4000037 0)),(6,.c (.bx 5039001 0)),(7,cI 4000045 4),(8,.c (.bx 5039004 0)),(9,qI 11)],[(5039000,.box [c_ (.sl Ck) 1 0,c_ (.sl (.sl Ci)) 1 1,c_ (.sl Bh) 1 2,c_ (.sl E5) 1 3,c_ (.sl i8) 1 4]),(5039001,.box [c_ i8 4000045 0,c_ i8 4000045 1,.vf 5039002,.vf 5039003]),(5039002,.row Br false true (4000045,2)),(5039003,.row Bu true true (4000045,3)),(5039004,.box [c_ i8 4000053 0,c_ i8 4000053 1,.vf 5039005,.vf 5039006]),(5039005,.row Br false false (14,0)),(5039006,.row Bu false true (4000053,3))],[(1,Ah.sg.A),(10,i8),(4000037,Fe.sg.R),(4000045,Fj.sg.R),(4000053,Dp.sg.R)]⟩
def Ah.l3.M:Tm:=⟨[(1,.c (.bx 5073000 0)),(3,cI 10 0),(8,.c (.bx 5073001 0)),(12,qI 13)],[(5073000,.box [c_ (.sl Ck) 1 0,c_ (.sl (.sl Ci)) 1 1,c_ (.sl Bh) 1 2,c_ (.sl E5) 1 3,c_ (.sl i8) 1 4]),(5073001,.box [c_ i8 4000053 0,c_ i8 4000053 1,.vf 5073002,.vf 5073003]),(5073002,.row Br false false (15,0)),(5073003,.row Bu true false (12,0))],[(1,Ah.sg.A),(10,i8),(4000053,Dp.sg.R)]⟩
def Ah.lt (K:Nat):LT Ah.sg.R.D:=.two .t (.two .t (.two (.two .t (.one (.loop Ah.l1.M (fun n c p=>Ah.l1 K c n p) (fun nl1=>.two .t (.two (.one (.two .t (.two .t (.two .t (.two .t (.two (.two .t (.one (.loop Ah.l2.M (fun n c p=>Ah.l2 K (Ah.l1 K c.1 nl1) c.2.2.1 c.2.2.2.1 c.2.2.2.2 c.2.1 c.1 n p.1 p.2) (fun nl2=>.t)))) (.two .t (.two .t (.two .t (.two .t (.two .t (.one (.loop Ah.l3.M (fun n c p=>Ah.l3 K (Ah.l1 K c.1 nl1) c.2.1 c.1 n p.1 p.2.1 p.2.2) (fun nl3=>.t)))))))))))))) .t))))) .t))
theorem Ah.ct (K:Nat):CtX PP 4 Ah.sg (fun x=>Ah K x):=cy (cC K 156 [fe (Bz.ct K),fe (Fe.ct K),fe (Dg.ct K),fe (Fj.ct K),fe (Dp.ct K),fe (Em.ct K),fe (Dl.ct K),fe (D5.ct K),fe (Du.ct K),fe (Gb.ct K),fe (Ez.ct K),fe (Ea.ct K)] [(14,[0])]) Tryz.f4 (Ah.lt K) (o2 ot (o2 ot (o2 (o2 ot (ob (ol (fun _=>o2 ot (o2 (ob (o2 ot (o2 ot (o2 ot (o2 ot (o2 (o2 ot (ob (ol (fun _=>ot)))) (o2 ot (o2 ot (o2 ot (o2 ot (o2 ot (ob (ol (fun _=>ot)))))))))))))) ot))))) ot)))
theorem Ee.ct (K:Nat):CtX PP 52 Ee.sg (fun x=>Ee K x.1 x.2.1 x.2.2):=cy (cC K 15) Tryz.f52
theorem Db.ct (K:Nat):CtX PP 201 Db.sg (fun x=>Db K x):=cy (cC K 13) Tryz.f201
theorem Ex.ct (K:Nat):CtX PP 53 Ex.sg (fun x=>Ex K x.1 x.2):=cy (cC K 12) Tryz.f53
theorem Er.ct (K:Nat):CtX PP 200 Er.sg (fun x=>Er K x.1 x.2.1 x.2.2):=cy (cC K 20 [fe (Ee.ct K),fe (Db.ct K),fe (Ex.ct K)]) Tryz.f200
def Av.j1.M:Tm:=⟨[(1,cI 1 2),(2,cI 1 3),(3,.c (.bx 5004000 0)),(6,.c (.bx 5004001 0)),(7,.c (.bx 5004002 0))],[(5004000,.box [c_ i8 1 0,.p (.sl (.sl i8)) true (1,1)]),(5004001,.box [q_ i8 10,q_ i8 11,q_ i8 12,.kb false,.nl i8,.nl i8]),(5004002,.box [c_ i8 1 2,q_ i8 13,q_ i8 14,.kb false,.nl i8,.nl i8])],[(1,Av.sg.A)]⟩
def Av.l2.M:Tm:=⟨[(1,cI 1 2),(2,cI 1 3),(3,.c (.bx 5014000 0)),(6,.c (.bx 5014001 0)),(7,.c (.bx 5014002 0)),(8,qI 15)],[(5014000,.box [c_ i8 1 0,.p (.sl (.sl i8)) true (1,1)]),(5014001,.box [c_ i8 10 0,c_ i8 11 0,c_ i8 12 0,.kb false,.nl i8,.nl i8]),(5014002,.box [c_ i8 1 2,c_ i8 13 0,c_ i8 14 0,.kb false,.nl i8,.vf 5014003]),(5014003,.row i8 false false (16,0))],[(1,Av.sg.A),(10,i8),(11,i8),(12,i8),(13,i8),(14,i8)]⟩
def Av.lt (K:Nat):LT Av.sg.R.D:=.two .t (.two .t (.join Av.j1.M (fun c p=>Av.j1 K c.1 c.2.1 c.2.2 p.1 p.2.1 p.2.2.1 p.2.2.2.1 p.2.2.2.2) .t (.two (.two .t (.one (.loop Av.l2.M (fun n c p=>Av.l2 K c.2.2.2.2.1 c.2.2.2.2.2 c.1.1 c.1.2.1 c.1.2.2 n p.1 p.2) (fun nl2=>.t)))) .t)))
theorem Av.ct (K:Nat):CtX PP 202 Av.sg (fun x=>Av K x.1 x.2.1 x.2.2):=cy (cC K 47 [fe (Db.ct K)]) Tryz.f202 (Av.lt K) (o2 ot (o2 ot (oj ot (o2 (o2 ot (ob (ol (fun _=>ot)))) ot))))
theorem Ej.ct (K:Nat):CtX PP 142 Ej.sg (fun x=>Ej K x.1 x.2):=cy (cC K 25) Tryz.f142
def Ch.l1.M:Tm:=⟨[(0,.c (c_ (.sl i8) 1 0)),(1,cI 1 1),(5,qI 10)],[],[(1,Ch.sg.A)]⟩
def Ch.lt (K:Nat):LT Ch.sg.R.D:=.two .t (.two (.two .t (.one (.loop Ch.l1.M (fun n c p=>Ch.l1 K c.1 c.2 n p) (fun nl1=>.t)))) .t)
theorem Ch.ct (K:Nat):CtX PP 165 Ch.sg (fun x=>Ch K x.1 x.2):=cy (cC K 19) Tryz.f165 (Ch.lt K) (o2 ot (o2 (o2 ot (ob (ol (fun _=>ot)))) ot))
def Ab.l1.M:Tm:=⟨[(2,.c (.bx 5029000 0)),(3,.c (.bx 5029001 0)),(4,.c (.bx 5029004 0)),(5,cI 4000013 2)],[(5029000,.box [c_ i8 1 0,.p (.sl (.sl i8)) true (1,1)]),(5029001,.box [c_ i8 4000013 0,c_ i8 4000013 1,q_ i8 10,c_ .bool 4000013 3,.vf 5029002,.vf 5029003]),(5029002,.row i8 false true (4000013,4)),(5029003,.row i8 false false (32,0)),(5029004,.box [q_ i8 11,q_ i8 12,q_ i8 13,.kb false,.nl i8,.nl i8])],[(1,Ab.sg.A),(4000013,Co.sg.R)]⟩
def Ab.l2.M:Tm:=⟨[(2,.c (.bx 5045000 0)),(3,.c (.bx 5045001 0)),(4,.c (.bx 5045004 0)),(5,cI 4000013 2),(6,qI 18)],[(5045000,.box [c_ i8 1 0,.p (.sl (.sl i8)) true (1,1)]),(5045001,.box [c_ i8 4000013 0,c_ i8 4000013 1,q_ i8 14,c_ .bool 4000013 3,.vf 5045002,.vf 5045003]),(5045002,.row i8 false true (4000013,4)),(5045003,.row i8 false false (33,0)),(5045004,.box [q_ i8 15,q_ i8 16,q_ i8 17,.kb false,.nl i8,.nl i8])],[(1,Ab.sg.A),(4000013,Co.sg.R)]⟩
def Ab.l3.M:Tm:=⟨[(2,.c (.bx 5064000 0)),(3,.c (.bx 5064001 0)),(4,.c (.bx 5064004 0)),(5,qI 23),(7,qI 24)],[(5064000,.box [c_ i8 1 0,.p (.sl (.sl i8)) true (1,1)]),(5064001,.box [c_ i8 4000013 0,c_ i8 4000013 1,q_ i8 19,c_ .bool 4000013 3,.vf 5064002,.vf 5064003]),(5064002,.row i8 false false (34,0)),(5064003,.row i8 false false (35,0)),(5064004,.box [q_ i8 20,q_ i8 21,q_ i8 22,.kb false,.nl i8,.nl i8])],[(1,Ab.sg.A),(4000013,Co.sg.R)]⟩
def Ab.l4.M:Tm:=⟨[(2,.c (.bx 5087000 0)),(3,.c (.bx 5087001 0)),(4,.c (.bx 5087004 0)),(5,cI 4000013 2),(9,qI 29)],[(5087000,.box [c_ i8 1 0,.p (.sl (.sl i8)) true (1,1)]),(5087001,.box [c_ i8 4000013 0,c_ i8 4000013 1,q_ i8 25,q_ .bool 36,.vf 5087002,.vf 5087003]),(5087002,.row i8 false true (4000013,4)),(5087003,.row i8 false false (37,0)),(5087004,.box [q_ i8 26,q_ i8 27,q_ i8 28,.kb false,.nl i8,.nl i8])],[(1,Ab.sg.A),(4000013,Co.sg.R)]⟩
def Ab.j5.M:Tm:=⟨[(2,.c (.bx 5098000 0)),(3,.c (.bx 5098001 0)),(4,.c (.bx 5098004 0)),(5,cI 4000013 2),(9,cI 29 0),(10,qI 31)],[(5098000,.box [c_ i8 1 0,.p (.sl (.sl i8)) true (1,1)]),(5098001,.box [c_ i8 4000013 0,c_ i8 4000013 1,c_ i8 25 0,q_ .bool 30,.vf 5098002,.vf 5098003]),(5098002,.row i8 false true (4000013,4)),(5098003,.row i8 false true (37,0)),(5098004,.box [c_ i8 26 0,c_ i8 27 0,c_ i8 28 0,.kb false,.nl i8,.nl i8])],[(1,Ab.sg.A),(25,i8),(26,i8),(27,i8),(28,i8),(29,i8),(37,(.sl i8)),(4000013,Co.sg.R)]⟩
def Ab.lt (K:Nat):LT Ab.sg.R.D:=.two .t (.two .t (.two .t (.two .t (.two (.two .t (.one (.two .t (.two .t (.two .t (.two .t (.two .t (.two (.two (.one (.loop Ab.l1.M (fun n c p=>Ab.l1 K c.2 c.1.1 n p.1 p.2.1 p.2.2.1 p.2.2.2.1 p.2.2.2.2) (fun nl1=>.t))) .t) (.two .t (.two (.two .t (.one (.loop Ab.l2.M (fun n c p=>Ab.l2 K c.2 c.1.1 n p.1 p.2.1 p.2.2.1 p.2.2.2.1 p.2.2.2.2.1 p.2.2.2.2.2) (fun nl2=>.t)))) (.two .t (.two (.two .t (.two .t (.one (.loop Ab.l3.M (fun n c p=>Ab.l3 K c.2 c.1.1 n p.1 p.2.1 p.2.2.1 p.2.2.2.1 p.2.2.2.2.1 p.2.2.2.2.2.1 p.2.2.2.2.2.2.1 p.2.2.2.2.2.2.2) (fun nl3=>.t))))) (.two (.two .t (.one (.loop Ab.l4.M (fun n c p=>Ab.l4 K c.2 c.1.1 n p.1 p.2.1 p.2.2.1 p.2.2.2.1 p.2.2.2.2.1 p.2.2.2.2.2.1 p.2.2.2.2.2.2) (fun nl4=>.two .t (.two (.one (.two .t (.join Ab.j5.M (fun c p=>Ab.j5 K (Ab.l4 K c.2.2.2.2.2.2.2 c.1.1 nl4) c.2.2.2.2.2.2.2 c.2.1 c.2.2.1 c.2.2.2.1 c.2.2.2.2.1 c.2.2.2.2.2.1 c.2.2.2.2.2.2.1 c.1.1 p.1 p.2) .t .t))) .t))))) .t))))))))))))) .t))))
theorem Ab.ct (K:Nat):CtX PP 203 Ab.sg (fun x=>Ab K x.1 x.2):=cy (cC K 218 [fe (Co.ct K),fe (Aw.ct K),fe (Ch.ct K)]) Tryz.f203 (Ab.lt K) (o2 ot (o2 ot (o2 ot (o2 ot (o2 (o2 ot (ob (o2 ot (oc ot (o2 ot (oc ot (o2 ot (oc (o2 (ob (ol (fun _=>ot))) ot) (o2 ot (oc (o2 ot (ob (ol (fun _=>ot)))) (o2 ot (oc (o2 ot (o2 ot (ob (ol (fun _=>ot))))) (o2 (o2 ot (ob (ol (fun _=>o2 ot (o2 (ob (o2 ot (oj ot ot))) ot))))) ot))))))))))))) ot)))))
def Bb.l1.M:Tm:=⟨[(2,.c (.bx 5014000 0)),(3,.c (.bx 5014001 0)),(5,.c (.bx 5014002 0))],[(5014000,.box [c_ i8 1 0,.p (.sl (.sl i8)) true (1,1)]),(5014001,.box [c_ i8 1 2,c_ i8 1 3,c_ i8 1 4,c_ .bool 1 5,c_ (.sl i8) 1 6,c_ (.sl i8) 1 7]),(5014002,.box [q_ i8 10,q_ i8 11,q_ i8 12,q_ .bool 13,.vf 5014003,.vf 5014004]),(5014003,.row i8 false false (14,0)),(5014004,.row i8 false false (15,0))],[(1,Bb.sg.A)]⟩
def Bb.lt (K:Nat):LT Bb.sg.R.D:=.two .t (.two .t (.two .t (.two (.one (.loop Bb.l1.M (fun n c p=>Bb.l1 K c.1 c.2 n p.1 p.2.1 p.2.2.1 p.2.2.2.1 p.2.2.2.2.1 p.2.2.2.2.2) (fun nl1=>.t))) .t)))
theorem Bb.ct (K:Nat):CtX PP 141 Bb.sg (fun x=>Bb K x.1 x.2):=cy (cC K 40 [fe (Er.ct K),fe (Db.ct K),fe (Av.ct K),fe (Dz.ct K),fe (Ej.ct K),fe (Ab.ct K)]) Tryz.f141 (Bb.lt K) (o2 ot (o2 ot (o2 ot (o2 (ob (ol (fun _=>ot))) ot))))
def Ca.l1.M:Tm:=⟨[(1,.c (.bx 5008000 0)),(3,.c (.vf 5008001)),(4,qI 10)],[(5008000,.box [c_ i8 1 0,.p (.sl (.sl i8)) true (1,1)]),(5008001,.row Ha false false (13,0))],[(1,Ca.sg.A)]⟩
def Ca.l2.M:Tm:=⟨[(1,.c (.bx 5020000 0)),(3,.c (.vf 5020001)),(4,cI 10 0),(5,qI 11)],[(5020000,.box [c_ i8 1 0,.p (.sl (.sl i8)) true (1,1)]),(5020001,.row Ha false false (12,0))],[(1,Ca.sg.A),(10,i8)]⟩
def Ca.lt (K:Nat):LT Ca.sg.R.D:=.two .t (.two .t (.two (.two .t (.one (.loop Ca.l1.M (fun n c p=>Ca.l1 K c n p.1 p.2) (fun nl1=>.two .t (.two (.one (.two .t (.one (.loop Ca.l2.M (fun n c p=>Ca.l2 K (Ca.l1 K c.1 nl1) c.2 c.1 n p.1 p.2) (fun nl2=>.t))))) .t))))) .t))
theorem Ca.ct (K:Nat):CtX PP 293 Ca.sg (fun x=>Ca K x):=cy (cC K 36) Tryz.f293 (Ca.lt K) (o2 ot (o2 ot (o2 (o2 ot (ob (ol (fun _=>o2 ot (o2 (ob (o2 ot (ob (ol (fun _=>ot))))) ot))))) ot)))
end
end Go.XM
end
