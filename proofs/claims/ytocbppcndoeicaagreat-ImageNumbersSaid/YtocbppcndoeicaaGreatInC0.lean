import Derived.Test.YtocbppcndoeicaaGreatInY0
import Derived.Test.YtocbppcndoeicaaGreatProg
set_option linter.all false
section
namespace Go.XM
open Go.Proofs
noncomputable section
set_option maxRecDepth 100000
noncomputable abbrev PP:=Tryz.prog
theorem fol:PP.follows .mixedOrders=true:=by kernel_rfl
def tys:List (Nat × Option Ty):=[(3,some (.int .i64)),(4,some .bool),(5,some (.int .u8)),(9,some .str),(28,some (.sl (.int .i64))),(38,some Cy),(67,some Fy),(69,some Bw),(72,some Di),(78,some Fv),(80,some Ce),(98,some Da),(102,some Du),(120,some G7)]
abbrev fe {n:Nat} {s:Sig} {f:s.A.D→Option s.R.D} (h:CtX PP n s f):Nat × Option (FX PP):=(n,some ⟨n,s,f,h⟩)
def cC (K nt:Nat) (F:List (Nat × Option (FX PP)):=[]) (own:List (Nat × List Nat):=[]) (pre:List (Nat × List Pre):=[]) (hs:List Nat:=[]) (I:List (Nat × Option (SX PP)):=[]) (B:List (Nat × Option (BX PP)):=[]):CE:=⟨⟨PP,tys⟩,F,I,K,own,pre,hs,nt,B⟩
theorem cy {num:Nat} {s:Sig} {f:s.A.D→Option s.R.D} (C:CE) (fn:Func) (lt:LT s.R.D:=.t) (hok:Okc C fn.body.get! lt (kEnd C.E.P s fn C.hs):=by exact ok_t) (hm:C.E.P.follows .mixedOrders=true:=by exact fol) (hf:C.E.P.funcs[num]?=some fn:=by kernel_rfl) (hb:fn.body=some fn.body.get!:=by kernel_rfl) (hnt:C.nt=fn.ntmps:=by rfl)
  (hsig:∀ x,sigOk s fn C.hs x=true:=by intro x;kernel_rfl) (hev:∀ x,f x=ev C fn.body.get! lt (s.st0 x) [(1,some ⟨s.A,x⟩)] (kEnd C.E.P s fn C.hs):=by intro x;kernel_rfl):CtX C.E.P num s f:=ct_x hm hf hb hnt hsig hok hev
section
variable {R:Type} {C:CE}
theorem oj {a b:Code} {M:Tm} {fn:M.caps.D→M.pars.D→Option R} {la lb:LT R} {k:KE R} (h1:Okc C a la (kSeq (fun τ ρ=>jump M C.hs τ ρ fn) k)) (h3:Okc C b lb k) (h2:∀ c p,fn c p=ev C b lb (M.st (M.env c p)) (M.env c p) k:=by intro c p;kernel_rfl):Okc C (.seq a b) (.join M fn la lb) k:=⟨h1,h2,h3⟩
theorem ol {c:Code} {M:Tm} {fn:Nat→M.caps.D→M.pars.D→Option R} {body:Nat→LT R} {k:KE R} (h:∀ n,Okc C c (body n) (kSeq (fun τ ρ=>jump M C.hs τ ρ (fn n)) k)) (h1:∀ c p,fn 0 c p=none:=by intro c p;kernel_rfl)
  (h2:∀ n p q,fn (n+1) p q=ev C c (body n) (M.st (M.env p q)) (M.env p q) (kSeq (fun τ ρ=>jump M C.hs τ ρ (fn n)) k):=by intro n p q;kernel_rfl):Okc C (.loop c) (.loop M fn body) k:=⟨h1,fun n=>⟨h2 n,h n⟩⟩
end
abbrev ot {R:Type} {C:CE} {c:Code} {k:KE R}:Okc C c .t k:=ok_t
abbrev o2 {R:Type} {C:CE} {a b:Code} {la lb:LT R} {k:KE R}:=@ok_two R C a b la lb k
abbrev oc {R:Type} {C:CE} {x:Operand} {a b:Code} {la lb:LT R} {k:KE R}:=@ok_cond R C x a b la lb k
abbrev ob {R:Type} {C:CE} {i:Nat} {c:Code} {l:LT R} {k:KE R}:=@ok_block R C i c l k
abbrev i8:Ty:=.int .i64
abbrev qI (i:Nat):VS:=.c (.p (.int .i64) false (i,0))
abbrev cI (i j:Nat):VS:=.c (.p (.int .i64) true (i,j))
abbrev q_ (t:Ty) (i:Nat):LS:=.p t false (i,0)
abbrev c_ (t:Ty) (i j:Nat):LS:=.p t true (i,j)
def Co.l1.M:Tm:=⟨[(0,.c (.p (.sl (.sl i8)) true (1,0))),(3,qI 10),(4,qI 11)],[],[(1,Co.sg.A)]⟩
def Co.lt (K:Nat):LT Co.sg.R.D:=.two .t (.two .t (.two (.two .t (.one (.loop Co.l1.M (fun n c p=>Co.l1 K c n p.1 p.2) (fun nl1=>.t)))) .t))
theorem Co.ct (K:Nat):CtX PP 40 Co.sg (fun x=>Co K x):=cy (cC K 25) Tryz.f40 (Co.lt K) (o2 ot (o2 ot (o2 (o2 ot (ob (ol (fun _=>ot)))) ot)))
theorem Fe.ct (K:Nat):CtX PP 41 Fe.sg (fun x=>Fe K x):=cy (cC K 10) Tryz.f41
def Aw.l1.M:Tm:=⟨[(1,.c (.bx 5008000 0)),(3,qI 10),(4,qI 11)],[(5008000,.box [c_ i8 1 0,c_ i8 1 1,c_ (.sl Bw) 1 2,c_ (.sl Ce) 1 3])],[(1,Aw.sg.A)]⟩
def Aw.l2.M:Tm:=⟨[(1,.c (.bx 5023000 0)),(3,qI 13),(5,qI 12)],[(5023000,.box [c_ i8 1 0,c_ i8 1 1,c_ (.sl Bw) 1 2,c_ (.sl Ce) 1 3])],[(1,Aw.sg.A)]⟩
def Aw.lt (K:Nat):LT Aw.sg.R.D:=.two .t (.two .t (.two (.two .t (.one (.loop Aw.l1.M (fun n c p=>Aw.l1 K c n p.1 p.2) (fun nl1=>.t)))) (.two (.two .t (.one (.loop Aw.l2.M (fun n c p=>Aw.l2 K c n p.1 p.2) (fun nl2=>.t)))) .t)))
theorem Aw.ct (K:Nat):CtX PP 17 Aw.sg (fun x=>Aw K x):=cy (cC K 65 [fe (Co.ct K),fe (Fe.ct K)]) Tryz.f17 (Aw.lt K) (o2 ot (o2 ot (o2 (o2 ot (ob (ol (fun _=>ot)))) (o2 (o2 ot (ob (ol (fun _=>ot)))) ot))))
def Bn.l1.M:Tm:=⟨[(0,.c (c_ (.sl Da) 1 0)),(3,qI 10),(4,qI 11)],[],[(1,Bn.sg.A)]⟩
def Bn.lt (K:Nat):LT Bn.sg.R.D:=.two .t (.two .t (.two (.two .t (.one (.loop Bn.l1.M (fun n c p=>Bn.l1 K c n p.1 p.2) (fun nl1=>.t)))) .t))
theorem Bn.ct (K:Nat):CtX PP 42 Bn.sg (fun x=>Bn K x):=cy (cC K 28) Tryz.f42 (Bn.lt K) (o2 ot (o2 ot (o2 (o2 ot (ob (ol (fun _=>ot)))) ot)))
def Bq.l1.M:Tm:=⟨[(0,.c (c_ (.sl Di) 1 0)),(3,qI 10),(4,qI 11)],[],[(1,Bq.sg.A)]⟩
def Bq.lt (K:Nat):LT Bq.sg.R.D:=.two .t (.two .t (.two (.two .t (.one (.loop Bq.l1.M (fun n c p=>Bq.l1 K c n p.1 p.2) (fun nl1=>.t)))) .t))
theorem Bq.ct (K:Nat):CtX PP 71 Bq.sg (fun x=>Bq K x):=cy (cC K 26 [fe (Co.ct K)]) Tryz.f71 (Bq.lt K) (o2 ot (o2 ot (o2 (o2 ot (ob (ol (fun _=>ot)))) ot)))
theorem Es.ct (K:Nat):CtX PP 43 Es.sg (fun x=>Es K x):=cy (cC K 11 [fe (Bq.ct K)]) Tryz.f43
def Bz.l1.M:Tm:=⟨[(1,.c (.bx 5008000 0)),(3,qI 10),(4,qI 11)],[(5008000,.box [c_ (.sl (.sl Da)) 1 0,c_ (.sl Di) 1 1,c_ (.sl Fw) 1 2,c_ (.sl i8) 1 3])],[(1,Bz.sg.A)]⟩
def Bz.lt (K:Nat):LT Bz.sg.R.D:=.two .t (.two .t (.two (.two .t (.one (.loop Bz.l1.M (fun n c p=>Bz.l1 K c n p.1 p.2) (fun nl1=>.t)))) .t))
theorem Bz.ct (K:Nat):CtX PP 18 Bz.sg (fun x=>Bz K x):=cy (cC K 38 [fe (Bn.ct K),fe (Es.ct K)]) Tryz.f18 (Bz.lt K) (o2 ot (o2 ot (o2 (o2 ot (ob (ol (fun _=>ot)))) ot)))
def Cv.l1.M:Tm:=⟨[(1,.c (.bx 5008000 0)),(3,qI 10),(4,qI 11)],[(5008000,.box [c_ (.sl Cy) 1 0,c_ (.sl (.sl Da)) 1 1,c_ (.sl Di) 1 2,c_ (.sl Fw) 1 3,c_ (.sl i8) 1 4])],[(1,Cv.sg.A)]⟩
def Cv.lt (K:Nat):LT Cv.sg.R.D:=.two .t (.two .t (.two (.two .t (.one (.loop Cv.l1.M (fun n c p=>Cv.l1 K c n p.1 p.2) (fun nl1=>.t)))) .t))
theorem Cv.ct (K:Nat):CtX PP 5 Cv.sg (fun x=>Cv K x):=cy (cC K 34 [fe (Aw.ct K),fe (Bz.ct K)]) Tryz.f5 (Cv.lt K) (o2 ot (o2 ot (o2 (o2 ot (ob (ol (fun _=>ot)))) ot)))
theorem Bo.ct (K:Nat):CtX PP 23 Bo.sg (fun x=>Bo K x.1 x.2.1 x.2.2):=cy (cC K 15) Tryz.f23
def Br.l1.M:Tm:=⟨[(1,.c (.bx 5008000 0)),(3,.c (.vf 5008001)),(4,qI 10)],[(5008000,.box [c_ i8 1 0,c_ i8 1 1,c_ (.sl Bw) 1 2,c_ (.sl Ce) 1 3]),(5008001,.row Da false false (11,0))],[(1,Br.sg.A)]⟩
def Br.lt (K:Nat):LT Br.sg.R.D:=.two .t (.two .t (.two (.two .t (.one (.loop Br.l1.M (fun n c p=>Br.l1 K c n p.1 p.2) (fun nl1=>.t)))) .t))
theorem Br.ct (K:Nat):CtX PP 24 Br.sg (fun x=>Br K x):=cy (cC K 29) Tryz.f24 (Br.lt K) (o2 ot (o2 ot (o2 (o2 ot (ob (ol (fun _=>ot)))) ot)))
def Cs.l1.M:Tm:=⟨[(0,.c (c_ (.sl Da) 1 0)),(1,cI 1 1),(5,qI 10)],[],[(1,Cs.sg.A)]⟩
def Cs.lt (K:Nat):LT Cs.sg.R.D:=.two .t (.two (.two .t (.one (.loop Cs.l1.M (fun n c p=>Cs.l1 K c.1 c.2 n p) (fun nl1=>.t)))) .t)
theorem Cs.ct (K:Nat):CtX PP 50 Cs.sg (fun x=>Cs K x.1 x.2):=cy (cC K 20) Tryz.f50 (Cs.lt K) (o2 ot (o2 (o2 ot (ob (ol (fun _=>ot)))) ot))
theorem Cx.ct (K:Nat):CtX PP 29 Cx.sg (fun x=>Cx K x.1 x.2):=cy (cC K 12) Tryz.f29
theorem Et.ct (K:Nat):CtX PP 81 Et.sg (fun x=>Et K x.1 x.2):=cy (cC K 16) Tryz.f81
def Cj.l1.M:Tm:=⟨[(1,.c (.bx 5014000 0)),(3,qI 10)],[(5014000,.box [c_ .str 1 0,c_ i8 1 1])],[(1,Cj.sg.A)]⟩
def Cj.lt (K:Nat):LT Cj.sg.R.D:=.two .t (.two .t (.two (.two .t (.one (.loop Cj.l1.M (fun n c p=>Cj.l1 K c n p) (fun nl1=>.t)))) .t))
theorem Cj.ct (K:Nat):CtX PP 51 Cj.sg (fun x=>Cj K x):=cy (cC K 32 [fe (Cx.ct K),fe (Et.ct K)]) Tryz.f51 (Cj.lt K) (o2 ot (o2 ot (o2 (o2 ot (ob (ol (fun _=>ot)))) ot)))
def Bv.l1.M:Tm:=⟨[(0,.c (c_ (.sl Da) 1 0)),(3,qI 10)],[],[(1,Bv.sg.A)]⟩
def Bv.lt (K:Nat):LT Bv.sg.R.D:=.two .t (.two .t (.two (.two .t (.one (.loop Bv.l1.M (fun n c p=>Bv.l1 K c n p) (fun nl1=>.t)))) .t))
theorem Bv.ct (K:Nat):CtX PP 25 Bv.sg (fun x=>Bv K x):=cy (cC K 62 [fe (Bo.ct K),fe (Cs.ct K),fe (Cj.ct K)]) Tryz.f25 (Bv.lt K) (o2 ot (o2 ot (o2 (o2 ot (ob (ol (fun _=>ot)))) ot)))
theorem Ew.ct (K:Nat):CtX PP 52 Ew.sg (fun x=>Ew K x):=cy (cC K 10) Tryz.f52
def Cq.l1.M:Tm:=⟨[(1,.c (.bx 5008000 0)),(3,.c (.vf 5008001)),(4,qI 10)],[(5008000,.box [c_ i8 1 0,c_ i8 1 1,c_ (.sl Bw) 1 2,c_ (.sl Ce) 1 3]),(5008001,.row Du false false (11,0))],[(1,Cq.sg.A)]⟩
def Cq.lt (K:Nat):LT Cq.sg.R.D:=.two .t (.two .t (.two (.two .t (.one (.loop Cq.l1.M (fun n c p=>Cq.l1 K c n p.1 p.2) (fun nl1=>.t)))) .t))
theorem Cq.ct (K:Nat):CtX PP 27 Cq.sg (fun x=>Cq K x):=cy (cC K 30 [fe (Ew.ct K)]) Tryz.f27 (Cq.lt K) (o2 ot (o2 ot (o2 (o2 ot (ob (ol (fun _=>ot)))) ot)))
def A8.l1.M:Tm:=⟨[(0,.c (c_ (.sl Du) 1 0)),(1,cI 1 1),(5,qI 10)],[],[(1,A8.sg.A)]⟩
def A8.l2.M:Tm:=⟨[(0,.c (c_ (.sl Du) 1 0)),(1,cI 1 1),(5,cI 10 0),(6,qI 11)],[],[(1,A8.sg.A),(10,i8)]⟩
def A8.lt (K:Nat):LT A8.sg.R.D:=.two .t (.two .t (.two (.two .t (.one (.loop A8.l1.M (fun n c p=>A8.l1 K c.1 c.2 n p) (fun nl1=>.two .t (.two (.one (.two .t (.two .t (.one (.loop A8.l2.M (fun n c p=>A8.l2 K (A8.l1 K c.1.1 c.1.2 nl1) c.2 c.1.1 c.1.2 n p) (fun nl2=>.t)))))) .t))))) .t))
theorem A8.ct (K:Nat):CtX PP 26 A8.sg (fun x=>A8 K x.1 x.2):=cy (cC K 100 [fe (Bo.ct K)]) Tryz.f26 (A8.lt K) (o2 ot (o2 ot (o2 (o2 ot (ob (ol (fun _=>o2 ot (o2 (ob (o2 ot (o2 ot (ob (ol (fun _=>ot)))))) ot))))) ot)))
def C8.l1.M:Tm:=⟨[(0,.c (c_ (.sl Da) 1 0)),(1,qI 11),(6,qI 10)],[],[(1,C8.sg.A)]⟩
def C8.lt (K:Nat):LT C8.sg.R.D:=.two .t (.two .t (.two .t (.two (.one (.loop C8.l1.M (fun n c p=>C8.l1 K c.1 n p.1 p.2) (fun nl1=>.t))) .t)))
theorem C8.ct (K:Nat):CtX PP 53 C8.sg (fun x=>C8 K x.1 x.2):=cy (cC K 25 [fe (Cs.ct K)]) Tryz.f53 (C8.lt K) (o2 ot (o2 ot (o2 ot (o2 (ob (ol (fun _=>ot))) ot))))
def Dk.l1.M:Tm:=⟨[(1,.c (.bx 5008000 0)),(3,.c (.vf 5008001)),(4,qI 10)],[(5008000,.box [c_ .str 1 0,c_ i8 1 1]),(5008001,.row (.int .u8) false false (11,0))],[(1,Dk.sg.A)]⟩
def Dk.lt (K:Nat):LT Dk.sg.R.D:=.two .t (.two .t (.two (.two .t (.one (.loop Dk.l1.M (fun n c p=>Dk.l1 K c n p.1 p.2) (fun nl1=>.t)))) .t))
theorem Dk.ct (K:Nat):CtX PP 54 Dk.sg (fun x=>Dk K x):=cy (cC K 19 [fe (Et.ct K)]) Tryz.f54 (Dk.lt K) (o2 ot (o2 ot (o2 (o2 ot (ob (ol (fun _=>ot)))) ot)))
def Bi.l1.M:Tm:=⟨[(0,.c (c_ (.sl (.int .u8)) 1 0)),(1,cI 1 1),(5,qI 10)],[],[(1,Bi.sg.A)]⟩
def Bi.lt (K:Nat):LT Bi.sg.R.D:=.two .t (.two (.two .t (.one (.loop Bi.l1.M (fun n c p=>Bi.l1 K c.1 c.2 n p) (fun nl1=>.t)))) .t)
theorem Bi.ct (K:Nat):CtX PP 115 Bi.sg (fun x=>Bi K x.1 x.2):=cy (cC K 21) Tryz.f115 (Bi.lt K) (o2 ot (o2 (o2 ot (ob (ol (fun _=>ot)))) ot))
def Bp.l1.M:Tm:=⟨[(0,.c (c_ (.sl (.int .u8)) 1 0)),(1,cI 1 1),(2,cI 1 2),(7,qI 10),(8,qI 11)],[],[(1,Bp.sg.A)]⟩
def Bp.lt (K:Nat):LT Bp.sg.R.D:=.two .t (.two .t (.two (.two .t (.one (.loop Bp.l1.M (fun n c p=>Bp.l1 K c.1 c.2.1 c.2.2 n p.1 p.2) (fun nl1=>.t)))) .t))
theorem Bp.ct (K:Nat):CtX PP 116 Bp.sg (fun x=>Bp K x.1 x.2.1 x.2.2):=cy (cC K 26) Tryz.f116 (Bp.lt K) (o2 ot (o2 ot (o2 (o2 ot (ob (ol (fun _=>ot)))) ot)))
def Cf.l1.M:Tm:=⟨[(0,qI 11),(3,qI 10)],[],[]⟩
def Cf.lt (K:Nat):LT Cf.sg.R.D:=.two .t (.two .t (.two (.one (.loop Cf.l1.M (fun n c p=>Cf.l1 K n p.1 p.2) (fun nl1=>.t))) .t))
theorem Cf.ct (K:Nat):CtX PP 117 Cf.sg (fun x=>Cf K x):=cy (cC K 11) Tryz.f117 (Cf.lt K) (o2 ot (o2 ot (o2 (ob (ol (fun _=>ot))) ot)))
theorem E8.ct (K:Nat):CtX PP 118 E8.sg (fun x=>E8 K x.1 x.2):=cy (cC K 15 [fe (Bo.ct K)]) Tryz.f118
def Aa.j1.M:Tm:=⟨[(2,cI 1 2),(9,qI 14),(10,qI 15)],[],[(1,Aa.sg.A)]⟩
def Aa.j2.M:Tm:=⟨[(0,.c (c_ (.sl (.int .u8)) 1 0)),(2,cI 1 2),(8,cI 4000019 0),(10,qI 10),(13,qI 11)],[],[(1,Aa.sg.A),(4000019,Bi.sg.R)]⟩
def Aa.j3.M:Tm:=⟨[(2,cI 1 2),(8,cI 4000019 0),(10,qI 12),(13,cI 11 0),(16,qI 13)],[],[(1,Aa.sg.A),(11,i8),(4000019,Bi.sg.R)]⟩
def Aa.lt (K:Nat):LT Aa.sg.R.D:=.two .t (.two .t (.two .t (.two .t (.join Aa.j1.M (fun c p=>Aa.j1 K (Aa K) c.2.2 p.1 p.2) (.two .t (.one (.two .t (.two .t (.two .t (.two .t (.two .t (.two .t (.two .t (.join Aa.j2.M (fun c p=>Aa.j2 K (Aa K) c.2 c.1.1 c.1.2.2 p.1 p.2) .t (.two .t (.two .t (.two .t (.two .t (.two .t (.two .t (.join Aa.j3.M (fun c p=>Aa.j3 K (Aa K) c.2.2 c.2.1 c.1.2.2 p.1 p.2) .t .t))))))))))))))))) .t))))
def Aa.C (K:Nat) (ih:CtX PP 82 Aa.sg (fun x=>Aa K x.1 x.2.1 x.2.2)):CE:=cC K 165 [fe (Bi.ct K),fe (Bp.ct K),(82,some ⟨82,Aa.sg,_,ih⟩),fe (Cf.ct K),fe (E8.ct K)]
theorem Aa.ct:∀ K:Nat,CtX PP 82 Aa.sg (fun x=>Aa K x.1 x.2.1 x.2.2)
 | 0=>fun v x r h=>by cases h
 | K+1=>ct_x (C:=Aa.C K (Aa.ct K)) (fn:=Tryz.f82) (c:=Tryz.f82.body.get!) (lt:=(Aa.lt K)) fol (by kernel_rfl) (by kernel_rfl) rfl (fun x=>(by kernel_rfl)) (ok_two ok_t (ok_two ok_t (ok_two ok_t (ok_two ok_t (ok_join (ok_two ok_t (ok_block (ok_two ok_t (ok_cond ok_t (ok_two ok_t (ok_cond ok_t (ok_two ok_t (ok_cond ok_t (ok_two ok_t (ok_join ok_t (fun c p=>(by kernel_rfl)) (ok_two ok_t (ok_two ok_t (ok_two ok_t (ok_two ok_t (ok_two ok_t (ok_two ok_t (ok_join ok_t (fun c p=>(by kernel_rfl)) ok_t))))))))))))))))) (fun c p=>(by kernel_rfl)) ok_t))))) (fun x=>(by kernel_rfl))
theorem Ec.ct (K:Nat):CtX PP 83 Ec.sg (fun x=>Ec K x):=cy (cC K 7 [] [(1,[2])]) Tryz.f83
theorem Ed.ct (K:Nat):CtX PP 119 Ed.sg (fun x=>Ed K x):=cy (cC K 12) Tryz.f119
theorem Eg.ct (K:Nat):CtX PP 125 Eg.sg (fun x=>Eg K x):=cy (cC K 5 [fe (Cx.ct K)]) Tryz.f125
def Ci.l1.M:Tm:=⟨[(0,.c (c_ (.sl i8) 1 0)),(3,qI 10)],[],[(1,Ci.sg.A)]⟩
def Ci.lt (K:Nat):LT Ci.sg.R.D:=.two .t (.two (.two .t (.one (.loop Ci.l1.M (fun n c p=>Ci.l1 K c n p) (fun nl1=>.t)))) .t)
theorem Ci.ct (K:Nat):CtX PP 88 Ci.sg (fun x=>Ci K x):=cy (cC K 39 [fe (Eg.ct K)]) Tryz.f88 (Ci.lt K) (o2 ot (o2 (o2 ot (ob (ol (fun _=>ot)))) ot))
def Ca.l1.M:Tm:=⟨[(0,.c (c_ (.sl (.int .u8)) 1 0)),(1,qI 12),(2,cI 1 2),(9,cI 4000018 0),(10,.c (.vf 5020000)),(11,qI 10),(12,qI 11)],[(5020000,.row i8 false false (13,0))],[(1,Ca.sg.A),(4000018,Aa.sg.R)]⟩
def Ca.lt (K:Nat):LT Ca.sg.R.D:=.two .t (.two .t (.two .t (.two .t (.two .t (.two (.two .t (.one (.loop Ca.l1.M (fun n c p=>Ca.l1 K c.2 c.1.1 c.1.2.2 n p.1 p.2.1 p.2.2.1 p.2.2.2) (fun nl1=>.t)))) .t)))))
theorem Ca.ct (K:Nat):CtX PP 120 Ca.sg (fun x=>Ca K x.1 x.2.1 x.2.2):=cy (cC K 62 [fe (Aa.ct K),fe (Ed.ct K),fe (Ci.ct K)]) Tryz.f120 (Ca.lt K) (o2 ot (o2 ot (o2 ot (o2 ot (o2 ot (o2 (o2 ot (ob (ol (fun _=>ot)))) ot))))))
def Ak.l1.M:Tm:=⟨[(0,.c (c_ (.sl Du) 1 0)),(1,.c (c_ (.sl i8) 1 1)),(6,.c (.av 5016000)),(7,qI 11)],[(5016000,.row .bool false false (10,0))],[(1,Ak.sg.A)]⟩
def Ak.l2.M:Tm:=⟨[(0,.c (c_ (.sl Du) 1 0)),(1,.c (c_ (.sl i8) 1 1)),(6,.c (.av 5038000)),(7,cI 11 0),(8,.c (.bx 5038001 0)),(9,qI 14)],[(5038000,.row .bool false false (17,0)),(5038001,.box [q_ i8 12,q_ i8 13])],[(1,Ak.sg.A),(11,i8)]⟩
def Ak.l3.M:Tm:=⟨[(1,.c (c_ (.sl i8) 1 1)),(6,.c (.av 5054000)),(10,qI 15)],[(5054000,.row .bool false false (18,0))],[(1,Ak.sg.A)]⟩
def Ak.l4.M:Tm:=⟨[(6,.c (.av 5079000)),(11,.c (.vf 5079001)),(12,qI 16)],[(5079000,.row .bool false false (20,0)),(5079001,.row i8 false false (19,0))],[]⟩
def Ak.lt (K:Nat):LT Ak.sg.R.D:=.two .t (.two .t (.two .t (.two (.two .t (.one (.loop Ak.l1.M (fun n c p=>Ak.l1 K c.1 c.2 n p.1 p.2) (fun nl1=>.two .t (.two (.one (.two .t (.two .t (.two .t (.one (.loop Ak.l2.M (fun n c p=>Ak.l2 K (Ak.l1 K c.1.1 c.1.2 nl1) c.2 c.1.1 c.1.2 n p.1 p.2.1 p.2.2.1 p.2.2.2) (fun nl2=>.t))))))) .t))))) (.two (.two .t (.one (.loop Ak.l3.M (fun n c p=>Ak.l3 K c.2 n p.1 p.2) (fun nl3=>.t)))) (.two .t (.two (.two .t (.one (.loop Ak.l4.M (fun n c p=>Ak.l4 K n p.1 p.2.1 p.2.2) (fun nl4=>.t)))) .t))))))
theorem Ak.ct (K:Nat):CtX PP 121 Ak.sg (fun x=>Ak K x.1 x.2):=cy (cC K 105 [fe (Ci.ct K),fe (Eg.ct K)]) Tryz.f121 (Ak.lt K) (o2 ot (o2 ot (o2 ot (o2 (o2 ot (ob (ol (fun _=>o2 ot (o2 (ob (o2 ot (o2 ot (o2 ot (ob (ol (fun _=>ot))))))) ot))))) (o2 (o2 ot (ob (ol (fun _=>ot)))) (o2 ot (o2 (o2 ot (ob (ol (fun _=>ot)))) ot)))))))
def Ba.l1.M:Tm:=⟨[(0,.c (c_ (.sl i8) 1 0)),(4,.c (.vf 5010000)),(5,.c (.vf 5010001)),(6,qI 10)],[(5010000,.row Du false false (12,0)),(5010001,.row i8 false false (13,0))],[(1,Ba.sg.A)]⟩
def Ba.l2.M:Tm:=⟨[(0,.c (c_ (.sl i8) 1 0)),(4,.c (.vf 5022000)),(5,.c (.vf 5022001)),(6,cI 10 0),(7,qI 11)],[(5022000,.row Du false false (14,0)),(5022001,.row i8 false false (15,0))],[(1,Ba.sg.A),(10,i8)]⟩
def Ba.lt (K:Nat):LT Ba.sg.R.D:=.two .t (.two .t (.two .t (.two (.two .t (.one (.loop Ba.l1.M (fun n c p=>Ba.l1 K c n p.1 p.2.1 p.2.2) (fun nl1=>.two .t (.one (.two .t (.two (.one (.loop Ba.l2.M (fun n c p=>Ba.l2 K (Ba.l1 K c.1 nl1) c.2 c.1 n p.1 p.2.1 p.2.2) (fun nl2=>.t))) .t))))))) .t)))
theorem Ba.ct (K:Nat):CtX PP 146 Ba.sg (fun x=>Ba K x):=cy (cC K 57) Tryz.f146 (Ba.lt K) (o2 ot (o2 ot (o2 ot (o2 (o2 ot (ob (ol (fun _=>o2 ot (ob (o2 ot (o2 (ob (ol (fun _=>ot))) ot))))))) ot))))
def Bc.l1.M:Tm:=⟨[(0,.c (.vf 5006000)),(1,cI 1 1),(7,qI 10)],[(5006000,.row (.int .u8) false false (11,0))],[(1,Bc.sg.A)]⟩
def Bc.lt (K:Nat):LT Bc.sg.R.D:=.two .t (.two (.two .t (.one (.loop Bc.l1.M (fun n c p=>Bc.l1 K c.2.1 n p.1 p.2) (fun nl1=>.t)))) .t)
theorem Bc.ct (K:Nat):CtX PP 173 Bc.sg (fun x=>Bc K x.1 x.2.1 x.2.2):=cy (cC K 23) Tryz.f173 (Bc.lt K) (o2 ot (o2 (o2 ot (ob (ol (fun _=>ot)))) ot))
def Ae.l1.M:Tm:=⟨[(0,.c (.vf 5013000)),(2,cI 1 2),(7,qI 10)],[(5013000,.row (.int .u8) false false (12,0))],[(1,Ae.sg.A)]⟩
def Ae.j2.M:Tm:=⟨[(0,.c (.vf 5042000)),(2,cI 1 2),(8,qI 11)],[(5042000,.row (.int .u8) false true (1,0))],[(1,Ae.sg.A)]⟩
def Ae.lt (K:Nat):LT Ae.sg.R.D:=.two .t (.two (.two .t (.one (.two .t (.two (.two (.two .t (.one (.loop Ae.l1.M (fun n c p=>Ae.l1 K (Ae K) c.2.2 n p.1 p.2) (fun nl1=>.t)))) .t) .t)))) (.two .t (.join Ae.j2.M (fun c p=>Ae.j2 K (Ae K) c.1 c.2.2 p) .t .t)))
def Ae.C (K:Nat) (ih:CtX PP 147 Ae.sg (fun x=>Ae K x.1 x.2.1 x.2.2)):CE:=cC K 103 [fe (Cf.ct K),fe (Bc.ct K),(147,some ⟨147,Ae.sg,_,ih⟩)]
theorem Ae.ct:∀ K:Nat,CtX PP 147 Ae.sg (fun x=>Ae K x.1 x.2.1 x.2.2)
 | 0=>fun v x r h=>by cases h
 | K+1=>ct_x (C:=Ae.C K (Ae.ct K)) (fn:=Tryz.f147) (c:=Tryz.f147.body.get!) (lt:=(Ae.lt K)) fol (by kernel_rfl) (by kernel_rfl) rfl (fun x=>(by kernel_rfl)) (ok_two ok_t (ok_two (ok_two ok_t (ok_block (ok_two ok_t (ok_cond (ok_two (ok_two ok_t (ok_block (ok_loop (fun c p=>(by kernel_rfl)) (fun nl1=>⟨fun c p=>(by kernel_rfl),ok_t⟩)))) ok_t) ok_t)))) (ok_two ok_t (ok_join ok_t (fun c p=>(by kernel_rfl)) ok_t)))) (fun x=>(by kernel_rfl))
theorem Ee.ct (K:Nat):CtX PP 148 Ee.sg (fun x=>Ee K x):=cy (cC K 10) Tryz.f148
def Cn.l1.M:Tm:=⟨[(0,.c (.vf 5008000)),(1,cI 1 1),(2,.c (c_ (.sl i8) 1 2)),(7,qI 10)],[(5008000,.row (.int .u8) false false (11,0))],[(1,Cn.sg.A)]⟩
def Cn.lt (K:Nat):LT Cn.sg.R.D:=.two .t (.two .t (.two (.two .t (.one (.loop Cn.l1.M (fun n c p=>Cn.l1 K c.2.1 c.2.2 n p.1 p.2) (fun nl1=>.t)))) .t))
theorem Cn.ct (K:Nat):CtX PP 149 Cn.sg (fun x=>Cn K x.1 x.2.1 x.2.2):=cy (cC K 43 [fe (Ae.ct K),fe (Ee.ct K)]) Tryz.f149 (Cn.lt K) (o2 ot (o2 ot (o2 (o2 ot (ob (ol (fun _=>ot)))) ot)))
def Bf.l1.M:Tm:=⟨[(0,.c (.vf 5010000)),(1,cI 1 1),(7,.c (.vf 5010001)),(8,.c (.vf 5010002)),(9,qI 10)],[(5010000,.row (.int .u8) false false (12,0)),(5010001,.row Du false true (4000012,0)),(5010002,.row i8 false true (4000012,1))],[(1,Bf.sg.A),(4000012,Ba.sg.R)]⟩
def Bf.j2.M:Tm:=⟨[(0,.c (.vf 5019000)),(1,cI 1 1),(7,.c (.vf 5019001)),(8,.c (.vf 5019002)),(9,cI 10 0)],[(5019000,.row (.int .u8) false false (11,0)),(5019001,.row Du false true (4000012,0)),(5019002,.row i8 false true (4000012,1))],[(1,Bf.sg.A),(10,i8),(4000012,Ba.sg.R)]⟩
def Bf.lt (K:Nat):LT Bf.sg.R.D:=.two .t (.two .t (.two .t (.two (.two .t (.one (.loop Bf.l1.M (fun n c p=>Bf.l1 K c.2 c.1.2.1 n p.1 p.2) (fun nl1=>.two .t (.two (.one (.join Bf.j2.M (fun c p=>Bf.j2 K (Bf.l1 K c.2.2 c.1.2.1 nl1) c.2.2 c.2.1 c.1.2.1 p) .t .t)) .t))))) .t)))
theorem Bf.ct (K:Nat):CtX PP 122 Bf.sg (fun x=>Bf K x.1 x.2.1 x.2.2):=cy (cC K 72 [fe (Ba.ct K),fe (Ae.ct K),fe (Ee.ct K),fe (Cn.ct K)]) Tryz.f122 (Bf.lt K) (o2 ot (o2 ot (o2 ot (o2 (o2 ot (ob (ol (fun _=>o2 ot (o2 (ob (oj ot ot)) ot))))) ot))))
def Df.l1.M:Tm:=⟨[(0,.c (c_ (.sl (.int .u8)) 1 0)),(1,cI 1 1),(2,.c (c_ (.sl (.int .u8)) 1 2)),(7,qI 10)],[],[(1,Df.sg.A)]⟩
def Df.lt (K:Nat):LT Df.sg.R.D:=.two .t (.two (.two .t (.one (.loop Df.l1.M (fun n c p=>Df.l1 K c.1 c.2.1 c.2.2 n p) (fun nl1=>.t)))) .t)
theorem Df.ct (K:Nat):CtX PP 123 Df.sg (fun x=>Df K x.1 x.2.1 x.2.2):=cy (cC K 33) Tryz.f123 (Df.lt K) (o2 ot (o2 (o2 ot (ob (ol (fun _=>ot)))) ot))
def A7.l1.M:Tm:=⟨[(0,.c (.vf 5010000)),(1,cI 1 1),(7,.c (.vf 5010001)),(8,.c (.vf 5010002)),(9,qI 10)],[(5010000,.row (.int .u8) false false (12,0)),(5010001,.row Du false true (4000012,0)),(5010002,.row i8 false true (4000012,1))],[(1,A7.sg.A),(4000012,Ba.sg.R)]⟩
def A7.j2.M:Tm:=⟨[(0,.c (.vf 5019000)),(1,cI 1 1),(7,.c (.vf 5019001)),(8,.c (.vf 5019002)),(9,cI 10 0)],[(5019000,.row (.int .u8) false false (11,0)),(5019001,.row Du false true (4000012,0)),(5019002,.row i8 false true (4000012,1))],[(1,A7.sg.A),(10,i8),(4000012,Ba.sg.R)]⟩
def A7.lt (K:Nat):LT A7.sg.R.D:=.two .t (.two .t (.two .t (.two (.two .t (.one (.loop A7.l1.M (fun n c p=>A7.l1 K c.2 c.1.2.1 n p.1 p.2) (fun nl1=>.two .t (.two (.one (.join A7.j2.M (fun c p=>A7.j2 K (A7.l1 K c.2.2 c.1.2.1 nl1) c.2.2 c.2.1 c.1.2.1 p) .t .t)) .t))))) .t)))
theorem A7.ct (K:Nat):CtX PP 122 A7.sg (fun x=>A7 K x.1 x.2.1 x.2.2):=cy (cC K 72 [fe (Ba.ct K),fe (Ae.ct K),fe (Ee.ct K),fe (Cn.ct K)] [] [(2,[.nilS 0 6500000 false])]) Tryz.f122 (A7.lt K) (o2 ot (o2 ot (o2 ot (o2 (o2 ot (ob (ol (fun _=>o2 ot (o2 (ob (oj ot ot)) ot))))) ot))))
def Au.l1.M:Tm:=⟨[(0,.c (c_ (.sl (.int .u8)) 1 0)),(1,qI 14),(2,cI 1 2),(9,cI 1 1),(10,cI 4000028 0),(11,.c (.vf 5022000)),(12,qI 10),(13,qI 11)],[(5022000,.row Du false false (15,0))],[(1,Au.sg.A),(4000028,Aa.sg.R)]⟩
def Au.j2.M:Tm:=⟨[(0,.c (c_ (.sl (.int .u8)) 1 0)),(1,cI 4000055 1),(2,cI 1 2),(9,cI 1 1),(10,cI 4000028 0),(11,.c (.vf 5055000)),(13,cI 11 0),(18,.c (.bx 5055001 0))],[(5055000,.row Du false true (15,0)),(5055001,.box [q_ i8 12,q_ i8 13])],[(1,Au.sg.A),(11,i8),(15,(.sl Du)),(4000028,Aa.sg.R),(4000055,Aa.sg.R)]⟩
def Au.lt (K:Nat):LT Au.sg.R.D:=.two .t (.two .t (.two .t (.two .t (.two .t (.two .t (.two (.two .t (.one (.loop Au.l1.M (fun n c p=>Au.l1 K c.2 c.1.1 c.1.2.1 c.1.2.2 n p.1 p.2.1 p.2.2.1 p.2.2.2) (fun nl1=>.two .t (.two (.one (.two .t (.two .t (.two .t (.two .t (.two .t (.two .t (.join Au.j2.M (fun c p=>Au.j2 K (Au.l1 K c.2.2.2.1 c.1.1 c.1.2.1 c.1.2.2 nl1) c.2.2.2.1 c.2.2.2.2 c.2.1 c.2.2.1 c.1.1 c.1.2.1 c.1.2.2 p.1 p.2) .t .t)))))))) .t))))) .t))))))
theorem Au.ct (K:Nat):CtX PP 84 Au.sg (fun x=>Au K x.1 x.2.1 x.2.2):=cy (cC K 130 [fe (Aa.ct K),fe (Ed.ct K),fe (Ca.ct K),fe (Ak.ct K),fe (A7.ct K),fe (Df.ct K)]) Tryz.f84 (Au.lt K) (o2 ot (o2 ot (o2 ot (o2 ot (o2 ot (o2 ot (o2 (o2 ot (ob (ol (fun _=>o2 ot (o2 (ob (o2 ot (o2 ot (o2 ot (o2 ot (o2 ot (o2 ot (oj ot ot)))))))) ot))))) ot)))))))
def Dc.l1.M:Tm:=⟨[(1,.c (.bx 5008000 0)),(3,qI 10),(4,qI 11)],[(5008000,.box [c_ i8 1 0,.p (.sl (.sl i8)) true (1,1)])],[(1,Dc.sg.A)]⟩
def Dc.lt (K:Nat):LT Dc.sg.R.D:=.two .t (.two .t (.two (.two .t (.one (.loop Dc.l1.M (fun n c p=>Dc.l1 K c n p.1 p.2) (fun nl1=>.t)))) .t))
theorem Dc.ct (K:Nat):CtX PP 89 Dc.sg (fun x=>Dc K x):=cy (cC K 21) Tryz.f89 (Dc.lt K) (o2 ot (o2 ot (o2 (o2 ot (ob (ol (fun _=>ot)))) ot)))
def Bu.l1.M:Tm:=⟨[(1,.c (.bx 5014000 0)),(3,qI 10)],[(5014000,.box [c_ i8 1 0,.p (.sl (.sl i8)) true (1,1)])],[(1,Bu.sg.A)]⟩
def Bu.lt (K:Nat):LT Bu.sg.R.D:=.two .t (.two .t (.two (.two .t (.one (.loop Bu.l1.M (fun n c p=>Bu.l1 K c n p) (fun nl1=>.t)))) .t))
theorem Bu.ct (K:Nat):CtX PP 61 Bu.sg (fun x=>Bu K x):=cy (cC K 60 [fe (Cx.ct K),fe (Ci.ct K),fe (Dc.ct K)]) Tryz.f61 (Bu.lt K) (o2 ot (o2 ot (o2 (o2 ot (ob (ol (fun _=>ot)))) ot)))
def Ck.l1.M:Tm:=⟨[(0,.c (c_ (.sl (.int .u8)) 1 0)),(2,.c (.bx 5018000 0)),(5,qI 12),(6,.c (.bx 5018001 0)),(7,qI 11)],[(5018000,.box [q_ i8 10,.nl (.sl i8)]),(5018001,.box [c_ i8 4000026 0,.vf 5018002]),(5018002,.row (.sl i8) true false (13,0))],[(1,Ck.sg.A),(4000026,Ec.sg.R)]⟩
def Ck.lt (K:Nat):LT Ck.sg.R.D:=.two .t (.two .t (.two .t (.two .t (.two (.two .t (.one (.loop Ck.l1.M (fun n c p=>Ck.l1 K c.2 c.1 n p.1 p.2.1 p.2.2.1 p.2.2.2) (fun nl1=>.t)))) .t))))
theorem Ck.ct (K:Nat):CtX PP 55 Ck.sg (fun x=>Ck K x):=cy (cC K 61 [fe (Aa.ct K),fe (Ec.ct K),fe (Au.ct K),fe (Bu.ct K)]) Tryz.f55 (Ck.lt K) (o2 ot (o2 ot (o2 ot (o2 ot (o2 (o2 ot (ob (ol (fun _=>ot)))) ot)))))
theorem E9.ct (K:Nat):CtX PP 86 E9.sg (fun x=>E9 K x.1 x.2):=cy (cC K 14) Tryz.f86
def Db.l1.M:Tm:=⟨[(0,.c (c_ (.sl i8) 1 0)),(1,cI 1 1),(5,qI 10)],[],[(1,Db.sg.A)]⟩
def Db.lt (K:Nat):LT Db.sg.R.D:=.two .t (.two (.two .t (.one (.loop Db.l1.M (fun n c p=>Db.l1 K c.1 c.2 n p) (fun nl1=>.t)))) .t)
theorem Db.ct (K:Nat):CtX PP 126 Db.sg (fun x=>Db K x.1 x.2):=cy (cC K 19) Tryz.f126 (Db.lt K) (o2 ot (o2 (o2 ot (ob (ol (fun _=>ot)))) ot))
def Bg.l1.M:Tm:=⟨[(0,.c (c_ (.sl i8) 1 0)),(1,.c (c_ (.sl i8) 1 1)),(6,.c (.vf 5010000)),(7,.c (.nl i8)),(8,.c (q_ .bool 14)),(9,qI 10),(10,qI 11)],[(5010000,.row i8 false false (13,0))],[(1,Bg.sg.A)]⟩
def Bg.l2.M:Tm:=⟨[(0,.c (c_ (.sl i8) 1 0)),(1,.c (c_ (.sl i8) 1 1)),(6,.c (.vf 5035000)),(7,.c (.vf 5035001)),(12,qI 12)],[(5035000,.row i8 false false (16,0)),(5035001,.row i8 false false (15,0))],[(1,Bg.sg.A)]⟩
def Bg.lt (K:Nat):LT Bg.sg.R.D:=.two .t (.two .t (.two .t (.two (.two .t (.one (.loop Bg.l1.M (fun n c p=>Bg.l1 K c.1 c.2 n p.1 p.2.1 p.2.2.1 p.2.2.2) (fun nl1=>.t)))) (.two (.two .t (.one (.loop Bg.l2.M (fun n c p=>Bg.l2 K c.1 c.2 n p.1 p.2.1 p.2.2) (fun nl2=>.t)))) .t))))
theorem Bg.ct (K:Nat):CtX PP 150 Bg.sg (fun x=>Bg K x.1 x.2):=cy (cC K 58 [fe (Db.ct K)]) Tryz.f150 (Bg.lt K) (o2 ot (o2 ot (o2 ot (o2 (o2 ot (ob (ol (fun _=>ot)))) (o2 (o2 ot (ob (ol (fun _=>ot)))) ot)))))
def Bh.l1.M:Tm:=⟨[(0,.c (c_ (.sl i8) 1 0)),(1,.c (c_ (.sl i8) 1 1)),(5,qI 10)],[],[(1,Bh.sg.A)]⟩
def Bh.lt (K:Nat):LT Bh.sg.R.D:=.two .t (.two .t (.two (.two .t (.one (.loop Bh.l1.M (fun n c p=>Bh.l1 K c.1 c.2 n p) (fun nl1=>.t)))) .t))
theorem Bh.ct (K:Nat):CtX PP 90 Bh.sg (fun x=>Bh K x.1 x.2):=cy (cC K 26) Tryz.f90 (Bh.lt K) (o2 ot (o2 ot (o2 (o2 ot (ob (ol (fun _=>ot)))) ot)))
def Ab.l1.M:Tm:=⟨[(0,.c (c_ (.sl i8) 1 0)),(1,.c (c_ (.sl i8) 1 1)),(2,.c (c_ (.sl i8) 1 2)),(8,.c (.av 5018000)),(9,qI 11),(10,qI 12)],[(5018000,.row .bool false false (10,0))],[(1,Ab.sg.A)]⟩
def Ab.j2.M:Tm:=⟨[(0,.c (c_ (.sl i8) 1 0)),(1,.c (c_ (.sl i8) 1 1)),(2,.c (c_ (.sl i8) 1 2)),(8,.c (.av 5029000)),(9,cI 11 0),(10,cI 12 0),(11,qI 13)],[(5029000,.row .bool false true (10,0))],[(1,Ab.sg.A),(10,(.sl .bool)),(11,i8),(12,i8)]⟩
def Ab.l3.M:Tm:=⟨[(0,.c (c_ (.sl i8) 1 0)),(1,.c (c_ (.sl i8) 1 1)),(2,.c (c_ (.sl i8) 1 2)),(8,.c (.av 5047000)),(9,cI 11 0),(10,cI 12 0),(11,cI 13 0),(12,qI 14)],[(5047000,.row .bool false false (17,0))],[(1,Ab.sg.A),(11,i8),(12,i8),(13,i8)]⟩
def Ab.l4.M:Tm:=⟨[(0,.c (c_ (.sl i8) 1 0)),(1,.c (c_ (.sl i8) 1 1)),(2,.c (c_ (.sl i8) 1 2)),(8,.c (.av 5064000)),(13,qI 15)],[(5064000,.row .bool false false (18,0))],[(1,Ab.sg.A)]⟩
def Ab.l5.M:Tm:=⟨[(0,.c (c_ (.sl i8) 1 0)),(1,.c (c_ (.sl i8) 1 1)),(2,.c (c_ (.sl i8) 1 2)),(8,.c (.av 5081000)),(14,.c (.vf 5081001)),(15,qI 16)],[(5081000,.row .bool false false (20,0)),(5081001,.row i8 false false (19,0))],[(1,Ab.sg.A)]⟩
def Ab.lt (K:Nat):LT Ab.sg.R.D:=.two .t (.two .t (.two .t (.two .t (.two (.two .t (.one (.loop Ab.l1.M (fun n c p=>Ab.l1 K c.1 c.2.1 c.2.2 n p.1 p.2.1 p.2.2) (fun nl1=>.two .t (.two (.one (.two .t (.join Ab.j2.M (fun c p=>Ab.j2 K (Ab.l1 K c.1.1 c.1.2.1 c.1.2.2 nl1) c.2.1 c.2.2.1 c.2.2.2 c.1.1 c.1.2.1 c.1.2.2 p) .t (.two .t (.two (.two .t (.one (.loop Ab.l3.M (fun n c p=>Ab.l3 K (Ab.l1 K c.1.1 c.1.2.1 c.1.2.2 nl1) c.2.1 c.2.2.1 c.2.2.2 c.1.1 c.1.2.1 c.1.2.2 n p.1 p.2) (fun nl3=>.t)))) .t))))) .t))))) (.two (.two .t (.one (.loop Ab.l4.M (fun n c p=>Ab.l4 K c.1 c.2.1 c.2.2 n p.1 p.2) (fun nl4=>.t)))) (.two .t (.two (.two .t (.one (.loop Ab.l5.M (fun n c p=>Ab.l5 K c.1 c.2.1 c.2.2 n p.1 p.2.1 p.2.2) (fun nl5=>.t)))) .t)))))))
theorem Ab.ct (K:Nat):CtX PP 124 Ab.sg (fun x=>Ab K x.1 x.2.1 x.2.2):=cy (cC K 116 [fe (Ci.ct K),fe (Bg.ct K),fe (Bh.ct K)]) Tryz.f124 (Ab.lt K) (o2 ot (o2 ot (o2 ot (o2 ot (o2 (o2 ot (ob (ol (fun _=>o2 ot (o2 (ob (o2 ot (oj ot (o2 ot (o2 (o2 ot (ob (ol (fun _=>ot)))) ot))))) ot))))) (o2 (o2 ot (ob (ol (fun _=>ot)))) (o2 ot (o2 (o2 ot (ob (ol (fun _=>ot)))) ot))))))))
def Cc.l1.M:Tm:=⟨[(0,.c (c_ (.sl (.int .u8)) 1 0)),(1,qI 11),(2,cI 1 2),(3,.c (c_ (.sl i8) 1 3)),(11,cI 4000023 0),(12,.c (.vf 5018000)),(13,qI 10)],[(5018000,.row i8 false false (12,0))],[(1,Cc.sg.A),(4000023,Aa.sg.R)]⟩
def Cc.lt (K:Nat):LT Cc.sg.R.D:=.two .t (.two .t (.two .t (.two .t (.two (.two .t (.one (.loop Cc.l1.M (fun n c p=>Cc.l1 K c.2 c.1.1 c.1.2.2.1 c.1.2.2.2 n p.1 p.2.1 p.2.2) (fun nl1=>.t)))) .t))))
theorem Cc.ct (K:Nat):CtX PP 85 Cc.sg (fun x=>Cc K x.1 x.2.1 x.2.2.1 x.2.2.2):=cy (cC K 81 [fe (Aa.ct K),fe (Au.ct K),fe (Ab.ct K)]) Tryz.f85 (Cc.lt K) (o2 ot (o2 ot (o2 ot (o2 ot (o2 (o2 ot (ob (ol (fun _=>ot)))) ot)))))
def Cm.l1.M:Tm:=⟨[(1,.c (c_ (.sl (.int .u8)) 1 2)),(2,.c (.bx 5018000 0)),(4,.c (.bx 5018001 0)),(7,qI 12),(8,.c (.bx 5018002 0)),(9,qI 11)],[(5018000,.box [c_ i8 1 0,.p (.sl (.sl i8)) true (1,1)]),(5018001,.box [q_ i8 10,.nl (.sl i8)]),(5018002,.box [c_ i8 4000028 0,.vf 5018003]),(5018003,.row (.sl i8) true false (13,0))],[(1,Cm.sg.A),(4000028,Ec.sg.R)]⟩
def Cm.lt (K:Nat):LT Cm.sg.R.D:=.two .t (.two .t (.two .t (.two .t (.two (.two .t (.one (.loop Cm.l1.M (fun n c p=>Cm.l1 K c.2 c.1.1 c.1.2 n p.1 p.2.1 p.2.2.1 p.2.2.2) (fun nl1=>.t)))) .t))))
theorem Cm.ct (K:Nat):CtX PP 56 Cm.sg (fun x=>Cm K x.1 x.2):=cy (cC K 66 [fe (Aa.ct K),fe (Ec.ct K),fe (E9.ct K),fe (Cc.ct K),fe (Bu.ct K)]) Tryz.f56 (Cm.lt K) (o2 ot (o2 ot (o2 ot (o2 ot (o2 (o2 ot (ob (ol (fun _=>ot)))) ot)))))
def Ar.j1.M:Tm:=⟨[(4,.c (.bx 5020000 0)),(10,.c (.bx 5020001 0)),(11,.c (q_ .bool 13))],[(5020000,.box [q_ i8 10,.nl (.sl i8)]),(5020001,.box [q_ i8 11,.vf 5020002]),(5020002,.row (.sl i8) true false (12,0))],[]⟩
def Ar.lt (K:Nat):LT Ar.sg.R.D:=.two .t (.two .t (.two .t (.two .t (.two .t (.two .t (.two .t (.join Ar.j1.M (fun c p=>Ar.j1 K (Ar K) p.1 p.2.1 p.2.2.1 p.2.2.2) .t .t)))))))
def Ar.C (K:Nat) (ih:CtX PP 28 Ar.sg (fun x=>Ar K x.1 x.2)):CE:=cC K 62 [fe (C8.ct K),fe (Cs.ct K),fe (Dk.ct K),fe (Ck.ct K),(28,some ⟨28,Ar.sg,_,ih⟩),fe (Cm.ct K)]
theorem Ar.ct:∀ K:Nat,CtX PP 28 Ar.sg (fun x=>Ar K x.1 x.2)
 | 0=>fun v x r h=>by cases h
 | K+1=>ct_x (C:=Ar.C K (Ar.ct K)) (fn:=Tryz.f28) (c:=Tryz.f28.body.get!) (lt:=(Ar.lt K)) fol (by kernel_rfl) (by kernel_rfl) rfl (fun x=>(by kernel_rfl)) (ok_two ok_t (ok_two ok_t (ok_two ok_t (ok_two ok_t (ok_two ok_t (ok_two ok_t (ok_two ok_t (ok_join ok_t (fun c p=>(by kernel_rfl)) ok_t)))))))) (fun x=>(by kernel_rfl))
def Bj.l1.M:Tm:=⟨[(0,.c (.p (.sl (.sl i8)) true (1,0))),(1,.c (.p (.sl (.sl i8)) true (1,1))),(5,qI 10)],[],[(1,Bj.sg.A)]⟩
def Bj.lt (K:Nat):LT Bj.sg.R.D:=.two .t (.two .t (.two (.two .t (.one (.loop Bj.l1.M (fun n c p=>Bj.l1 K c.1 c.2 n p) (fun nl1=>.t)))) .t))
theorem Bj.ct (K:Nat):CtX PP 87 Bj.sg (fun x=>Bj K x.1 x.2):=cy (cC K 27 [fe (Bh.ct K)]) Tryz.f87 (Bj.lt K) (o2 ot (o2 ot (o2 (o2 ot (ob (ol (fun _=>ot)))) ot)))
theorem Dl.ct (K:Nat):CtX PP 59 Dl.sg (fun x=>Dl K x.1 x.2):=cy (cC K 17 [fe (Bj.ct K)]) Tryz.f59
theorem Cw.ct (K:Nat):CtX PP 62 Cw.sg (fun x=>Cw K x.1 x.2):=cy (cC K 45 [fe (Bh.ct K)]) Tryz.f62
theorem Dx.ct (K:Nat):CtX PP 57 Dx.sg (fun x=>Dx K x.1 x.2):=cy (cC K 45 [fe (Dl.ct K),fe (Cw.ct K)]) Tryz.f57
def Dj.l1.M:Tm:=⟨[(1,cI 1 4),(2,.c (.bx 5006000 0)),(5,qI 10)],[(5006000,.box [c_ i8 1 0,c_ i8 1 1,c_ (.sl Bw) 1 2,c_ (.sl Ce) 1 3])],[(1,Dj.sg.A)]⟩
def Dj.lt (K:Nat):LT Dj.sg.R.D:=.two .t (.two (.two .t (.one (.loop Dj.l1.M (fun n c p=>Dj.l1 K c.1 c.2 n p) (fun nl1=>.t)))) .t)
theorem Dj.ct (K:Nat):CtX PP 58 Dj.sg (fun x=>Dj K x.1 x.2):=cy (cC K 22) Tryz.f58 (Dj.lt K) (o2 ot (o2 (o2 ot (ob (ol (fun _=>ot)))) ot))
theorem Dz.ct (K:Nat):CtX PP 60 Dz.sg (fun x=>Dz K x):=cy (cC K 16) Tryz.f60
theorem Dv.ct (K:Nat):CtX PP 92 Dv.sg (fun x=>Dv K x):=cy (cC K 13) Tryz.f92
theorem Fa.ct (K:Nat):CtX PP 91 Fa.sg (fun x=>Fa K x.1 x.2.1 x.2.2):=cy (cC K 20 [fe (Bo.ct K),fe (Dv.ct K),fe (Cx.ct K)]) Tryz.f91
def Bd.j1.M:Tm:=⟨[(1,cI 1 2),(2,cI 1 3),(3,.c (.bx 5004000 0)),(6,.c (.bx 5004001 0)),(7,.c (.bx 5004002 0))],[(5004000,.box [c_ i8 1 0,.p (.sl (.sl i8)) true (1,1)]),(5004001,.box [q_ i8 10,q_ i8 11,q_ i8 12,.kb false,.nl i8,.nl i8]),(5004002,.box [c_ i8 1 2,q_ i8 13,q_ i8 14,.kb false,.nl i8,.nl i8])],[(1,Bd.sg.A)]⟩
def Bd.l2.M:Tm:=⟨[(1,cI 1 2),(2,cI 1 3),(3,.c (.bx 5014000 0)),(6,.c (.bx 5014001 0)),(7,.c (.bx 5014002 0)),(8,qI 15)],[(5014000,.box [c_ i8 1 0,.p (.sl (.sl i8)) true (1,1)]),(5014001,.box [c_ i8 10 0,c_ i8 11 0,c_ i8 12 0,.kb false,.nl i8,.nl i8]),(5014002,.box [c_ i8 1 2,c_ i8 13 0,c_ i8 14 0,.kb false,.nl i8,.vf 5014003]),(5014003,.row i8 false false (16,0))],[(1,Bd.sg.A),(10,i8),(11,i8),(12,i8),(13,i8),(14,i8)]⟩
def Bd.lt (K:Nat):LT Bd.sg.R.D:=.two .t (.two .t (.join Bd.j1.M (fun c p=>Bd.j1 K c.1 c.2.1 c.2.2 p.1 p.2.1 p.2.2.1 p.2.2.2.1 p.2.2.2.2) .t (.two (.two .t (.one (.loop Bd.l2.M (fun n c p=>Bd.l2 K c.2.2.2.2.1 c.2.2.2.2.2 c.1.1 c.1.2.1 c.1.2.2 n p.1 p.2) (fun nl2=>.t)))) .t)))
theorem Bd.ct (K:Nat):CtX PP 93 Bd.sg (fun x=>Bd K x.1 x.2.1 x.2.2):=cy (cC K 47 [fe (Dv.ct K)]) Tryz.f93 (Bd.lt K) (o2 ot (o2 ot (oj ot (o2 (o2 ot (ob (ol (fun _=>ot)))) ot))))
theorem Cz.ct (K:Nat):CtX PP 64 Cz.sg (fun x=>Cz K x.1 x.2):=cy (cC K 25) Tryz.f64
def Bl.l1.M:Tm:=⟨[(0,.c (c_ (.sl i8) 1 0)),(3,.c (.vf 5008000)),(4,qI 10)],[(5008000,.row i8 false false (11,0))],[(1,Bl.sg.A)]⟩
def Bl.lt (K:Nat):LT Bl.sg.R.D:=.two .t (.two .t (.two (.two .t (.one (.loop Bl.l1.M (fun n c p=>Bl.l1 K c n p.1 p.2) (fun nl1=>.t)))) .t))
theorem Bl.ct (K:Nat):CtX PP 99 Bl.sg (fun x=>Bl K x):=cy (cC K 19) Tryz.f99 (Bl.lt K) (o2 ot (o2 ot (o2 (o2 ot (ob (ol (fun _=>ot)))) ot)))
theorem Dn.ct (K:Nat):CtX PP 73 Dn.sg (fun x=>Dn K x):=cy (cC K 14 [fe (Bl.ct K)]) Tryz.f73
def Ad.l1.M:Tm:=⟨[(2,.c (.bx 5029000 0)),(3,.c (.bx 5029001 0)),(4,.c (.bx 5029004 0)),(5,cI 4000013 2)],[(5029000,.box [c_ i8 1 0,.p (.sl (.sl i8)) true (1,1)]),(5029001,.box [c_ i8 4000013 0,c_ i8 4000013 1,q_ i8 10,c_ .bool 4000013 3,.vf 5029002,.vf 5029003]),(5029002,.row i8 false true (4000013,4)),(5029003,.row i8 false false (32,0)),(5029004,.box [q_ i8 11,q_ i8 12,q_ i8 13,.kb false,.nl i8,.nl i8])],[(1,Ad.sg.A),(4000013,Dn.sg.R)]⟩
def Ad.l2.M:Tm:=⟨[(2,.c (.bx 5045000 0)),(3,.c (.bx 5045001 0)),(4,.c (.bx 5045004 0)),(5,cI 4000013 2),(6,qI 18)],[(5045000,.box [c_ i8 1 0,.p (.sl (.sl i8)) true (1,1)]),(5045001,.box [c_ i8 4000013 0,c_ i8 4000013 1,q_ i8 14,c_ .bool 4000013 3,.vf 5045002,.vf 5045003]),(5045002,.row i8 false true (4000013,4)),(5045003,.row i8 false false (33,0)),(5045004,.box [q_ i8 15,q_ i8 16,q_ i8 17,.kb false,.nl i8,.nl i8])],[(1,Ad.sg.A),(4000013,Dn.sg.R)]⟩
def Ad.l3.M:Tm:=⟨[(2,.c (.bx 5064000 0)),(3,.c (.bx 5064001 0)),(4,.c (.bx 5064004 0)),(5,qI 23),(7,qI 24)],[(5064000,.box [c_ i8 1 0,.p (.sl (.sl i8)) true (1,1)]),(5064001,.box [c_ i8 4000013 0,c_ i8 4000013 1,q_ i8 19,c_ .bool 4000013 3,.vf 5064002,.vf 5064003]),(5064002,.row i8 false false (34,0)),(5064003,.row i8 false false (35,0)),(5064004,.box [q_ i8 20,q_ i8 21,q_ i8 22,.kb false,.nl i8,.nl i8])],[(1,Ad.sg.A),(4000013,Dn.sg.R)]⟩
def Ad.l4.M:Tm:=⟨[(2,.c (.bx 5087000 0)),(3,.c (.bx 5087001 0)),(4,.c (.bx 5087004 0)),(5,cI 4000013 2),(9,qI 29)],[(5087000,.box [c_ i8 1 0,.p (.sl (.sl i8)) true (1,1)]),(5087001,.box [c_ i8 4000013 0,c_ i8 4000013 1,q_ i8 25,q_ .bool 36,.vf 5087002,.vf 5087003]),(5087002,.row i8 false true (4000013,4)),(5087003,.row i8 false false (37,0)),(5087004,.box [q_ i8 26,q_ i8 27,q_ i8 28,.kb false,.nl i8,.nl i8])],[(1,Ad.sg.A),(4000013,Dn.sg.R)]⟩
def Ad.j5.M:Tm:=⟨[(2,.c (.bx 5098000 0)),(3,.c (.bx 5098001 0)),(4,.c (.bx 5098004 0)),(5,cI 4000013 2),(9,cI 29 0),(10,qI 31)],[(5098000,.box [c_ i8 1 0,.p (.sl (.sl i8)) true (1,1)]),(5098001,.box [c_ i8 4000013 0,c_ i8 4000013 1,c_ i8 25 0,q_ .bool 30,.vf 5098002,.vf 5098003]),(5098002,.row i8 false true (4000013,4)),(5098003,.row i8 false true (37,0)),(5098004,.box [c_ i8 26 0,c_ i8 27 0,c_ i8 28 0,.kb false,.nl i8,.nl i8])],[(1,Ad.sg.A),(25,i8),(26,i8),(27,i8),(28,i8),(29,i8),(37,(.sl i8)),(4000013,Dn.sg.R)]⟩
def Ad.lt (K:Nat):LT Ad.sg.R.D:=.two .t (.two .t (.two .t (.two .t (.two (.two .t (.one (.two .t (.two .t (.two .t (.two .t (.two .t (.two (.two (.one (.loop Ad.l1.M (fun n c p=>Ad.l1 K c.2 c.1.1 n p.1 p.2.1 p.2.2.1 p.2.2.2.1 p.2.2.2.2) (fun nl1=>.t))) .t) (.two .t (.two (.two .t (.one (.loop Ad.l2.M (fun n c p=>Ad.l2 K c.2 c.1.1 n p.1 p.2.1 p.2.2.1 p.2.2.2.1 p.2.2.2.2.1 p.2.2.2.2.2) (fun nl2=>.t)))) (.two .t (.two (.two .t (.two .t (.one (.loop Ad.l3.M (fun n c p=>Ad.l3 K c.2 c.1.1 n p.1 p.2.1 p.2.2.1 p.2.2.2.1 p.2.2.2.2.1 p.2.2.2.2.2.1 p.2.2.2.2.2.2.1 p.2.2.2.2.2.2.2) (fun nl3=>.t))))) (.two (.two .t (.one (.loop Ad.l4.M (fun n c p=>Ad.l4 K c.2 c.1.1 n p.1 p.2.1 p.2.2.1 p.2.2.2.1 p.2.2.2.2.1 p.2.2.2.2.2.1 p.2.2.2.2.2.2) (fun nl4=>.two .t (.two (.one (.two .t (.join Ad.j5.M (fun c p=>Ad.j5 K (Ad.l4 K c.2.2.2.2.2.2.2 c.1.1 nl4) c.2.2.2.2.2.2.2 c.2.1 c.2.2.1 c.2.2.2.1 c.2.2.2.2.1 c.2.2.2.2.2.1 c.2.2.2.2.2.2.1 c.1.1 p.1 p.2) .t .t))) .t))))) .t))))))))))))) .t))))
theorem Ad.ct (K:Nat):CtX PP 94 Ad.sg (fun x=>Ad K x.1 x.2):=cy (cC K 218 [fe (Dn.ct K),fe (Bl.ct K),fe (Db.ct K)]) Tryz.f94 (Ad.lt K) (o2 ot (o2 ot (o2 ot (o2 ot (o2 (o2 ot (ob (o2 ot (oc ot (o2 ot (oc ot (o2 ot (oc (o2 (ob (ol (fun _=>ot))) ot) (o2 ot (oc (o2 ot (ob (ol (fun _=>ot)))) (o2 ot (oc (o2 ot (o2 ot (ob (ol (fun _=>ot))))) (o2 (o2 ot (ob (ol (fun _=>o2 ot (o2 (ob (o2 ot (oj ot ot))) ot))))) ot))))))))))))) ot)))))
def Az.l1.M:Tm:=⟨[(2,.c (.bx 5014000 0)),(3,.c (.bx 5014001 0)),(5,.c (.bx 5014002 0))],[(5014000,.box [c_ i8 1 0,.p (.sl (.sl i8)) true (1,1)]),(5014001,.box [c_ i8 1 2,c_ i8 1 3,c_ i8 1 4,c_ .bool 1 5,c_ (.sl i8) 1 6,c_ (.sl i8) 1 7]),(5014002,.box [q_ i8 10,q_ i8 11,q_ i8 12,q_ .bool 13,.vf 5014003,.vf 5014004]),(5014003,.row i8 false false (14,0)),(5014004,.row i8 false false (15,0))],[(1,Az.sg.A)]⟩
def Az.lt (K:Nat):LT Az.sg.R.D:=.two .t (.two .t (.two .t (.two (.one (.loop Az.l1.M (fun n c p=>Az.l1 K c.1 c.2 n p.1 p.2.1 p.2.2.1 p.2.2.2.1 p.2.2.2.2.1 p.2.2.2.2.2) (fun nl1=>.t))) .t)))
theorem Az.ct (K:Nat):CtX PP 63 Az.sg (fun x=>Az K x.1 x.2):=cy (cC K 40 [fe (Fa.ct K),fe (Dv.ct K),fe (Bd.ct K),fe (Cw.ct K),fe (Cz.ct K),fe (Ad.ct K)]) Tryz.f63 (Az.lt K) (o2 ot (o2 ot (o2 ot (o2 (ob (ol (fun _=>ot))) ot))))
theorem Eo.ct (K:Nat):CtX PP 30 Eo.sg (fun x=>Eo K x.1 x.2.1 x.2.2):=cy (cC K 83 [fe (Dx.ct K),fe (Dj.ct K),fe (Dl.ct K),fe (Dz.ct K),fe (Cx.ct K),fe (Bu.ct K),fe (Cw.ct K),fe (Ar.ct K),fe (Az.ct K),fe (Cz.ct K)]) Tryz.f30
def Be.l1.M:Tm:=⟨[(1,.c (.bx 5024000 0)),(3,.c (.vf 5024001)),(4,qI 10)],[(5024000,.box [c_ i8 1 0,c_ i8 1 1,c_ (.sl Bw) 1 2,c_ (.sl Ce) 1 3]),(5024001,.row Da false true (4000032,0))],[(1,Be.sg.A),(4000032,Br.sg.R)]⟩
def Be.l2.M:Tm:=⟨[(1,.c (.bx 5049000 0)),(3,.c (.vf 5049001)),(8,qI 11)],[(5049000,.box [c_ i8 1 0,c_ i8 1 1,c_ (.sl Bw) 1 2,c_ (.sl Ce) 1 3]),(5049001,.row Da false true (4000032,0))],[(1,Be.sg.A),(4000032,Br.sg.R)]⟩
def Be.lt (K:Nat):LT Be.sg.R.D:=.two .t (.two .t (.two .t (.two .t (.two (.two .t (.one (.loop Be.l1.M (fun n c p=>Be.l1 K c.2 c.1 n p) (fun nl1=>.t)))) (.two (.two .t (.one (.loop Be.l2.M (fun n c p=>Be.l2 K c.2 c.1 n p) (fun nl2=>.t)))) .t)))))
theorem Be.ct (K:Nat):CtX PP 8 Be.sg (fun x=>Be K x):=cy (cC K 110 [fe (Bo.ct K),fe (Br.ct K),fe (Bv.ct K),fe (Cq.ct K),fe (A8.ct K),fe (Ar.ct K),fe (Cx.ct K),fe (Eo.ct K)]) Tryz.f8 (Be.lt K) (o2 ot (o2 ot (o2 ot (o2 ot (o2 (o2 ot (ob (ol (fun _=>ot)))) (o2 (o2 ot (ob (ol (fun _=>ot)))) ot))))))
theorem Dg.ct (K:Nat):CtX PP 31 Dg.sg (fun x=>Dg K x):=cy (cC K 16) Tryz.f31
def Av.l1.M:Tm:=⟨[(1,.c (.bx 5008000 0)),(3,.c (q_ .str 10)),(4,qI 11)],[(5008000,.box [c_ i8 1 0,c_ i8 1 1,c_ (.sl Bw) 1 2,c_ (.sl Ce) 1 3])],[(1,Av.sg.A)]⟩
def Av.j2.M:Tm:=⟨[(1,.c (.bx 5021000 0)),(3,.c (c_ .str 10 0)),(4,cI 11 0),(5,.c (.bx 5021001 0)),(6,qI 20)],[(5021000,.box [c_ i8 1 0,c_ i8 1 1,c_ (.sl Bw) 1 2,c_ (.sl Ce) 1 3]),(5021001,.box [q_ i8 12,q_ i8 13,q_ i8 14,q_ .str 15,q_ i8 16,q_ i8 17,q_ .bool 18,q_ .bool 19])],[(1,Av.sg.A),(10,.str),(11,i8)]⟩
def Av.j3.M:Tm:=⟨[(1,.c (.bx 5027000 0)),(3,.c (c_ .str 10 0)),(4,cI 11 0),(5,.c (.bx 5027001 0)),(6,qI 21)],[(5027000,.box [c_ i8 1 0,c_ i8 1 1,c_ (.sl Bw) 1 2,c_ (.sl Ce) 1 3]),(5027001,.box [c_ i8 12 0,c_ i8 13 0,c_ i8 14 0,c_ .str 15 0,c_ i8 16 0,c_ i8 17 0,c_ .bool 18 0,c_ .bool 19 0])],[(1,Av.sg.A),(10,.str),(11,i8),(12,i8),(13,i8),(14,i8),(15,.str),(16,i8),(17,i8),(18,.bool),(19,.bool)]⟩
def Av.lt (K:Nat):LT Av.sg.R.D:=.two .t (.two .t (.two (.two .t (.one (.loop Av.l1.M (fun n c p=>Av.l1 K c n p.1 p.2) (fun nl1=>.two .t (.two (.one (.two .t (.two .t (.join Av.j2.M (fun c p=>Av.j2 K (Av.l1 K c.1 nl1) c.2.1 c.2.2 c.1 p.1 p.2.1 p.2.2.1 p.2.2.2.1 p.2.2.2.2.1 p.2.2.2.2.2.1 p.2.2.2.2.2.2.1 p.2.2.2.2.2.2.2.1 p.2.2.2.2.2.2.2.2) .t (.join Av.j3.M (fun c p=>Av.j3 K (Av.l1 K c.1 nl1) c.2.1 c.2.2.1 c.2.2.2.1 c.2.2.2.2.1 c.2.2.2.2.2.1 c.2.2.2.2.2.2.2.1 c.2.2.2.2.2.2.2.2.1 c.1 p) .t .t))))) .t))))) .t))
theorem Av.ct (K:Nat):CtX PP 9 Av.sg (fun x=>Av K x):=cy (cC K 64 [fe (Dg.ct K)]) Tryz.f9 (Av.lt K) (o2 ot (o2 ot (o2 (o2 ot (ob (ol (fun _=>o2 ot (o2 (ob (o2 ot (o2 ot (oj ot (oj ot ot))))) ot))))) ot)))
theorem D5.ct (K:Nat):CtX PP 95 D5.sg (fun x=>D5 K x.1 x.2):=cy (cC K 18) Tryz.f95
theorem Fh.ct (K:Nat):CtX PP 65 Fh.sg (fun x=>Fh K x.1 x.2):=cy (cC K 8 [fe (D5.ct K)]) Tryz.f65
def Al.l1.M:Tm:=⟨[(0,.c (.bx 0 0)),(3,qI 10),(26,.c (.vf 5018001)),(27,qI 12),(28,qI 13)],[(0,.box [c_ .str 1 0,c_ .bool 1 1]),(5018001,.row (.int .u8) false false (11,0))],[(1,Al.sg.A)]⟩
def Al.lt (K:Nat):LT Al.sg.R.D:=.two .t (.two .t (.two .t (.two (.two .t (.one (.loop Al.l1.M (fun n c p=>Al.l1 K c n p.1 p.2.1 p.2.2.1 p.2.2.2) (fun nl1=>.t)))) .t)))
theorem Al.ct (K:Nat):CtX PP 66 Al.sg (fun x=>Al K x):=cy (cC K 47 [] [] [] [0]) Tryz.f66 (Al.lt K) (o2 ot (o2 ot (o2 ot (o2 (o2 ot (ob (ol (fun _=>ot)))) ot))))
theorem F4.ct (K:Nat):CtX PP 127 F4.sg (fun x=>F4 K x.1 x.2):=ct_repeat Tryz.laysNm105 Tryz.extra105
theorem Gi.ct (K:Nat):CtX PP 96 Gi.sg (fun x=>Gi K x):=cy (cC K 10 [fe (F4.ct K)]) Tryz.f96
theorem Dy.ct (K:Nat):CtX PP 67 Dy.sg (fun x=>Dy K x):=cy (cC K 53 [fe (Al.ct K),fe (Gi.ct K)] [] [] [0]) Tryz.f67
def El.l1.M:Tm:=⟨[(2,.c (.vf 5006000)),(6,.c (c_ (.sl Bw) 1 2)),(7,qI 10),(8,qI 11)],[(5006000,.row Da false false (12,0))],[(1,El.sg.A)]⟩
def El.lt (K:Nat):LT El.sg.R.D:=.two .t (.two (.two .t (.one (.loop El.l1.M (fun n c p=>El.l1 K c n p.1 p.2.1 p.2.2) (fun nl1=>.t)))) .t)
theorem El.ct (K:Nat):CtX PP 74 El.sg (fun x=>El K x):=cy (cC K 24) Tryz.f74 (El.lt K) (o2 ot (o2 (o2 ot (ob (ol (fun _=>ot)))) ot))
theorem Gl.ct (K:Nat):CtX PP 128 Gl.sg (fun x=>Gl K x):=cy (cC K 41) Tryz.f128
theorem Gm.ct (K:Nat):CtX PP 157 Gm.sg (fun x=>Gm K x.1 x.2):=cy (cC K 8 [] [] [] [1]) Tryz.f157
def Aj.l1.M:Tm:=⟨[(0,.c (c_ (.sl Da) 1 0)),(1,.fn 157 [.bx 2 0]),(7,qI 10),(8,qI 11)],[(2,.box [q_ i8 12])],[(1,Aj.sg.A)]⟩
def Aj.lt (K:Nat):LT Aj.sg.R.D:=.two .t (.two (.two .t (.one (.loop Aj.l1.M (fun n c p=>Aj.l1 K c.1 n p.1 p.2.1 p.2.2) (fun nl1=>.t)))) .t)
theorem Aj.ct (K:Nat):CtX PP 156 Aj.sg (fun x=>Aj K x.1 x.2.2):=cy (cC K 19 [fe (Gm.ct K)] [] [] [2]) Tryz.f156 (Aj.lt K) (o2 ot (o2 (o2 ot (ob (ol (fun _=>ot)))) ot))
theorem Gf.ct (K:Nat):CtX PP 129 Gf.sg (fun x=>Gf K x.1 x.2):=cy (cC K 8 [fe (Aj.ct K)]) Tryz.f129
def Eh.l1.M:Tm:=⟨[(0,.c (c_ (.sl Da) 1 0)),(8,.c (c_ (.sl Da) 1 0)),(9,qI 10),(10,qI 11)],[],[(1,Eh.sg.A)]⟩
def Eh.lt (K:Nat):LT Eh.sg.R.D:=.two .t (.two .t (.two (.two .t (.one (.loop Eh.l1.M (fun n c p=>Eh.l1 K c n p.1 p.2) (fun nl1=>.t)))) .t))
theorem Eh.ct (K:Nat):CtX PP 97 Eh.sg (fun x=>Eh K x):=cy (cC K 62 [fe (Gl.ct K),fe (Gf.ct K)]) Tryz.f97 (Eh.lt K) (o2 ot (o2 ot (o2 (o2 ot (ob (ol (fun _=>ot)))) ot)))
def D6.l1.M:Tm:=⟨[(1,.c (.bx 5014000 0)),(24,.c (c_ (.sl Bw) 1 2)),(25,qI 10),(26,qI 11)],[(5014000,.box [c_ i8 1 0,c_ i8 1 1,c_ (.sl Bw) 1 2,c_ (.sl Ce) 1 3])],[(1,D6.sg.A)]⟩
def D6.lt (K:Nat):LT D6.sg.R.D:=.two .t (.two .t (.two (.two .t (.one (.loop D6.l1.M (fun n c p=>D6.l1 K c n p.1 p.2) (fun nl1=>.t)))) .t))
theorem D6.ct (K:Nat):CtX PP 68 D6.sg (fun x=>D6 K x):=cy (cC K 65 [fe (El.ct K),fe (Eh.ct K)]) Tryz.f68 (D6.lt K) (o2 ot (o2 ot (o2 (o2 ot (ob (ol (fun _=>ot)))) ot)))
theorem F9.ct (K:Nat):CtX PP 80 F9.sg (fun x=>F9 K x):=cy (cC K 10) Tryz.f80
def Ea.l1.M:Tm:=⟨[(2,.c (.vf 5006000)),(6,.c (c_ (.sl Bw) 1 2)),(7,qI 10),(8,qI 11)],[(5006000,.row Du false false (12,0))],[(1,Ea.sg.A)]⟩
def Ea.lt (K:Nat):LT Ea.sg.R.D:=.two .t (.two (.two .t (.one (.loop Ea.l1.M (fun n c p=>Ea.l1 K c n p.1 p.2.1 p.2.2) (fun nl1=>.t)))) .t)
theorem Ea.ct (K:Nat):CtX PP 47 Ea.sg (fun x=>Ea K x):=cy (cC K 23 [fe (F9.ct K)]) Tryz.f47 (Ea.lt K) (o2 ot (o2 (o2 ot (ob (ol (fun _=>ot)))) ot))
theorem Ga.ct (K:Nat):CtX PP 114 Ga.sg (fun x=>Ga K x):=cy (cC K 9) Tryz.f114
def C9.l1.M:Tm:=⟨[(1,cI 1 1),(6,.c (.vf 5016000)),(20,.c (c_ (.sl Du) 1 0)),(21,qI 11),(22,qI 12)],[(5016000,.row .bool false false (10,0))],[(1,C9.sg.A)]⟩
def C9.l2.M:Tm:=⟨[(1,cI 1 1),(6,.c (.vf 5038000)),(8,.c (.bx 5038001 0)),(9,qI 15),(20,.c (c_ (.sl Du) 1 0)),(21,cI 11 0),(22,cI 12 0)],[(5038000,.row .bool false false (16,0)),(5038001,.box [q_ i8 13,q_ i8 14])],[(1,C9.sg.A),(11,i8),(12,i8)]⟩
def C9.lt (K:Nat):LT C9.sg.R.D:=.two .t (.two .t (.two .t (.two (.two .t (.one (.loop C9.l1.M (fun n c p=>C9.l1 K c.1 c.2 n p.1 p.2.1 p.2.2) (fun nl1=>.two .t (.two .t (.two (.one (.two .t (.two .t (.two .t (.one (.loop C9.l2.M (fun n c p=>C9.l2 K (C9.l1 K c.1.1 c.1.2 nl1) c.2.1 c.2.2 c.1.1 c.1.2 n p.1 p.2.1 p.2.2.1 p.2.2.2) (fun nl2=>.t))))))) .t)))))) .t)))
theorem C9.ct (K:Nat):CtX PP 79 C9.sg (fun x=>C9 K x.1 x.2):=cy (cC K 69 [fe (Ga.ct K)]) Tryz.f79 (C9.lt K) (o2 ot (o2 ot (o2 ot (o2 (o2 ot (ob (ol (fun _=>o2 ot (o2 ot (o2 (ob (o2 ot (o2 ot (o2 ot (ob (ol (fun _=>ot))))))) ot)))))) ot))))
theorem Gj.ct (K:Nat):CtX PP 46 Gj.sg (fun x=>Gj K x.1 x.2):=cy (cC K 14 [fe (C9.ct K)]) Tryz.f46
def Dw.l1.M:Tm:=⟨[(2,.c (.bx 5028000 0)),(4,.c (.bx 5028001 0)),(5,.c (.bx 5028002 0)),(32,cI 4000022 0),(33,qI 13)],[(5028000,.box [q_ i8 10,q_ i8 11,.nl Bw,.nl Ce]),(5028001,.box [q_ .str 14,q_ .bool 15]),(5028002,.box [c_ i8 4000016 0,c_ i8 4000018 0,.vf 5028003,.vf 5028004]),(5028003,.row Bw false false (16,0)),(5028004,.row Ce true false (12,0))],[(4000016,Al.sg.R),(4000018,Al.sg.R),(4000022,Al.sg.R)]⟩
def Dw.lt (K:Nat):LT Dw.sg.R.D:=.two .t (.two .t (.two .t (.two .t (.two .t (.two .t (.two (.two .t (.one (.loop Dw.l1.M (fun n c p=>Dw.l1 K c.1 c.2.1 c.2.2 n p.1 p.2.1 p.2.2.1 p.2.2.2.1 p.2.2.2.2.1 p.2.2.2.2.2.1 p.2.2.2.2.2.2) (fun nl1=>.t)))) .t))))))
theorem Dw.ct (K:Nat):CtX PP 34 Dw.sg (fun x=>Dw K x):=cy (cC K 69 [fe (Fh.ct K),fe (Al.ct K),fe (Dy.ct K),fe (D6.ct K),fe (Ea.ct K),fe (Gj.ct K)] [(4,[4])]) Tryz.f34 (Dw.lt K) (o2 ot (o2 ot (o2 ot (o2 ot (o2 ot (o2 ot (o2 (o2 ot (ob (ol (fun _=>ot)))) ot)))))))
theorem F6.ct (K:Nat):CtX PP 13 F6.sg (fun x=>F6 K x):=cy (cC K 15 [fe (Dw.ct K)]) Tryz.f13
theorem Cr.ct (K:Nat):CtX PP 36 Cr.sg (fun x=>Cr K x):=cy (cC K 21) Tryz.f36
theorem D7.ct (K:Nat):CtX PP 35 D7.sg (fun x=>D7 K x.1 x.2):=cy (cC K 9 [] [(1,[2])]) Tryz.f35
theorem Ex.ct (K:Nat):CtX PP 69 Ex.sg (fun x=>Ex K x):=cy (cC K 6) Tryz.f69
theorem Ey.ct (K:Nat):CtX PP 37 Ey.sg (fun x=>Ey K x):=cy (cC K 9 [fe (Ex.ct K)]) Tryz.f37
def Bb.l1.M:Tm:=⟨[(0,.c (c_ .str 1 0)),(2,.c (.bx 5026000 0)),(4,.c (.bx 5026001 0)),(5,cI 4000028 0),(6,qI 12)],[(5026000,.box [q_ i8 10,q_ i8 11,.nl Bw,.nl Ce]),(5026001,.box [c_ i8 4000025 0,c_ i8 4000025 1,.vf 5026002,.vf 5026003]),(5026002,.row Bw false false (14,0)),(5026003,.row Ce true true (4000025,3))],[(1,Bb.sg.A),(4000025,D7.sg.R),(4000028,Cr.sg.R)]⟩
def Bb.l2.M:Tm:=⟨[(2,.c (.bx 5061000 0)),(4,.c (.bx 5061001 0)),(5,cI 4000028 0),(9,qI 13)],[(5061000,.box [c_ i8 10 0,c_ i8 11 0,.nl Bw,.nl Ce]),(5061001,.box [c_ i8 4000025 0,c_ i8 4000025 1,.vf 5061002,.vf 5061003]),(5061002,.row Bw false false (15,0)),(5061003,.row Ce true true (4000025,3))],[(10,i8),(11,i8),(4000025,D7.sg.R),(4000028,Cr.sg.R)]⟩
def Bb.lt (K:Nat):LT Bb.sg.R.D:=.two .t (.two .t (.two .t (.two .t (.two .t (.two (.two .t (.one (.loop Bb.l1.M (fun n c p=>Bb.l1 K c.2.1 c.2.2 c.1 n p.1 p.2.1 p.2.2.1 p.2.2.2) (fun nl1=>.t)))) (.two .t (.two (.two .t (.one (.loop Bb.l2.M (fun n c p=>Bb.l2 K c.2.2.1 c.2.2.2 n p.1 p.2) (fun nl2=>.t)))) .t)))))))
theorem Bb.ct (K:Nat):CtX PP 14 Bb.sg (fun x=>Bb K x):=cy (cC K 148 [fe (Cr.ct K),fe (D7.ct K),fe (Bo.ct K),fe (Ey.ct K),fe (Br.ct K),fe (Bv.ct K),fe (Cq.ct K),fe (A8.ct K),fe (Cx.ct K)]) Tryz.f14 (Bb.lt K) (o2 ot (o2 ot (o2 ot (o2 ot (o2 ot (o2 (o2 ot (ob (ol (fun _=>ot)))) (o2 ot (o2 (o2 ot (ob (ol (fun _=>ot)))) ot))))))))
theorem Ep.ct (K:Nat):CtX PP 11 Ep.sg (fun x=>Ep K x):=cy (cC K 4) Tryz.f11
def Ch.l1.M:Tm:=⟨[(0,.c (c_ (.sl Bw) 1 0)),(1,.c (c_ (.sl Bw) 1 1)),(5,qI 10)],[],[(1,Ch.sg.A)]⟩
def Ch.lt (K:Nat):LT Ch.sg.R.D:=.two .t (.two .t (.two (.two .t (.one (.loop Ch.l1.M (fun n c p=>Ch.l1 K c.1 c.2 n p) (fun nl1=>.t)))) .t))
theorem Ch.ct (K:Nat):CtX PP 32 Ch.sg (fun x=>Ch K x.1 x.2):=cy (cC K 26) Tryz.f32 (Ch.lt K) (o2 ot (o2 ot (o2 (o2 ot (ob (ol (fun _=>ot)))) ot)))
def Cb.l1.M:Tm:=⟨[(0,.c (c_ (.sl Ce) 1 0)),(1,.c (c_ (.sl Ce) 1 1)),(5,qI 10)],[],[(1,Cb.sg.A)]⟩
def Cb.lt (K:Nat):LT Cb.sg.R.D:=.two .t (.two .t (.two (.two .t (.one (.loop Cb.l1.M (fun n c p=>Cb.l1 K c.1 c.2 n p) (fun nl1=>.t)))) .t))
theorem Cb.ct (K:Nat):CtX PP 33 Cb.sg (fun x=>Cb K x.1 x.2):=cy (cC K 27 [fe (Dx.ct K)]) Tryz.f33 (Cb.lt K) (o2 ot (o2 ot (o2 (o2 ot (ob (ol (fun _=>ot)))) ot)))
theorem D9.ct (K:Nat):CtX PP 12 D9.sg (fun x=>D9 K x.1 x.2):=cy (cC K 31 [fe (Ch.ct K),fe (Cb.ct K)]) Tryz.f12
theorem Gx.ct (K:Nat):CtX PP 106 Gx.sg (fun x=>Gx K x):=cy (cC K 12) Tryz.f106
theorem Gy.ct (K:Nat):CtX PP 107 Gy.sg (fun x=>Gy K x):=cy (cC K 31) Tryz.f107
theorem Gq.ct (K:Nat):CtX PP 139 Gq.sg (fun x=>Gq K x.1 x.2):=cy (cC K 8 [] [] [] [1]) Tryz.f139
def Ap.l1.M:Tm:=⟨[(0,.c (c_ (.sl Bw) 1 0)),(1,.fn 139 [.bx 2 0]),(7,qI 10),(8,qI 11)],[(2,.box [q_ i8 12])],[(1,Ap.sg.A)]⟩
def Ap.lt (K:Nat):LT Ap.sg.R.D:=.two .t (.two (.two .t (.one (.loop Ap.l1.M (fun n c p=>Ap.l1 K c.1 n p.1 p.2.1 p.2.2) (fun nl1=>.t)))) .t)
theorem Ap.ct (K:Nat):CtX PP 138 Ap.sg (fun x=>Ap K x.1 x.2.2):=cy (cC K 19 [fe (Gq.ct K)] [] [] [2]) Tryz.f138 (Ap.lt K) (o2 ot (o2 (o2 ot (ob (ol (fun _=>ot)))) ot))
theorem G5.ct (K:Nat):CtX PP 108 G5.sg (fun x=>G5 K x.1 x.2):=cy (cC K 9 [fe (Ap.ct K)]) Tryz.f108
theorem Ha.ct (K:Nat):CtX PP 109 Ha.sg (fun x=>Ha K x):=cy (cC K 16) Tryz.f109
theorem Gh.ct (K:Nat):CtX PP 167 Gh.sg (fun x=>Gh K x):=cy (cC K 9) Tryz.f167
def Er.l1.M:Tm:=⟨[(0,.c (c_ (.sl i8) 1 0)),(5,.c (c_ (.sl i8) 1 0)),(6,qI 10),(7,qI 11)],[],[(1,Er.sg.A)]⟩
def Er.lt (K:Nat):LT Er.sg.R.D:=.two .t (.two (.two .t (.one (.loop Er.l1.M (fun n c p=>Er.l1 K c n p.1 p.2) (fun nl1=>.t)))) .t)
theorem Er.ct (K:Nat):CtX PP 140 Er.sg (fun x=>Er K x):=cy (cC K 29 [fe (Gh.ct K)]) Tryz.f140 (Er.lt K) (o2 ot (o2 (o2 ot (ob (ol (fun _=>ot)))) ot))
def Ej.l1.M:Tm:=⟨[(3,qI 10),(7,.c (.p (.sl (.sl i8)) true (1,1))),(8,qI 11),(9,qI 12)],[],[(1,Ej.sg.A)]⟩
def Ej.lt (K:Nat):LT Ej.sg.R.D:=.two .t (.two .t (.two (.two .t (.one (.loop Ej.l1.M (fun n c p=>Ej.l1 K c n p.1 p.2.1 p.2.2) (fun nl1=>.t)))) .t))
theorem Ej.ct (K:Nat):CtX PP 141 Ej.sg (fun x=>Ej K x):=cy (cC K 19) Tryz.f141 (Ej.lt K) (o2 ot (o2 ot (o2 (o2 ot (ob (ol (fun _=>ot)))) ot)))
def Ei.l1.M:Tm:=⟨[(1,.c (.bx 5014000 0)),(22,.c (.p (.sl (.sl i8)) true (1,1))),(23,qI 10),(24,qI 11)],[(5014000,.box [c_ i8 1 0,.p (.sl (.sl i8)) true (1,1)])],[(1,Ei.sg.A)]⟩
def Ei.lt (K:Nat):LT Ei.sg.R.D:=.two .t (.two .t (.two (.two .t (.one (.loop Ei.l1.M (fun n c p=>Ei.l1 K c n p.1 p.2) (fun nl1=>.t)))) .t))
theorem Ei.ct (K:Nat):CtX PP 110 Ei.sg (fun x=>Ei K x):=cy (cC K 51 [fe (Er.ct K),fe (Ej.ct K)]) Tryz.f110 (Ei.lt K) (o2 ot (o2 ot (o2 (o2 ot (ob (ol (fun _=>ot)))) ot)))
theorem Gr.ct (K:Nat):CtX PP 142 Gr.sg (fun x=>Gr K x):=cy (cC K 7 [] [(1,[2])]) Tryz.f142
theorem Hf.ct (K:Nat):CtX PP 111 Hf.sg (fun x=>Hf K x.1 x.2):=cy (cC K 18 [fe (Gr.ct K),fe (El.ct K)]) Tryz.f111
def Dh.j1.M:Tm:=⟨[(2,.c (.bx 5010000 0)),(3,.c (.bx 5010001 0)),(33,.c (q_ .bool 10))],[(5010000,.box [c_ i8 1 0,c_ i8 1 1,c_ (.sl Bw) 1 2,c_ (.sl Ce) 1 3]),(5010001,.box [c_ .bool 1 4,c_ i8 1 5,c_ .bool 1 6,c_ i8 1 7,c_ i8 1 8,.p (.sl (.sl i8)) true (1,9),c_ i8 1 10,c_ i8 1 11,c_ i8 1 12,c_ .bool 1 13,c_ (.sl i8) 1 14,c_ (.sl i8) 1 15])],[(1,Dh.sg.A)]⟩
def Dh.j2.M:Tm:=⟨[(2,.c (.bx 5016000 0)),(3,.c (.bx 5016001 0)),(44,.c (q_ .bool 11))],[(5016000,.box [c_ i8 1 0,c_ i8 1 1,c_ (.sl Bw) 1 2,c_ (.sl Ce) 1 3]),(5016001,.box [c_ .bool 1 4,c_ i8 1 5,c_ .bool 1 6,c_ i8 1 7,c_ i8 1 8,.p (.sl (.sl i8)) true (1,9),c_ i8 1 10,c_ i8 1 11,c_ i8 1 12,c_ .bool 1 13,c_ (.sl i8) 1 14,c_ (.sl i8) 1 15])],[(1,Dh.sg.A)]⟩
def Dh.j3.M:Tm:=⟨[(2,.c (.bx 5022000 0)),(3,.c (.bx 5022001 0)),(65,.c (q_ .bool 12))],[(5022000,.box [c_ i8 1 0,c_ i8 1 1,c_ (.sl Bw) 1 2,c_ (.sl Ce) 1 3]),(5022001,.box [c_ .bool 1 4,c_ i8 1 5,c_ .bool 1 6,c_ i8 1 7,c_ i8 1 8,.p (.sl (.sl i8)) true (1,9),c_ i8 1 10,c_ i8 1 11,c_ i8 1 12,c_ .bool 1 13,c_ (.sl i8) 1 14,c_ (.sl i8) 1 15])],[(1,Dh.sg.A)]⟩
def Dh.lt (K:Nat):LT Dh.sg.R.D:=.two .t (.two (.one (.two .t (.two .t (.join Dh.j1.M (fun c p=>Dh.j1 K c.1 c.2 p) .t (.two .t (.join Dh.j2.M (fun c p=>Dh.j2 K c.1 c.2 p) .t (.two .t (.join Dh.j3.M (fun c p=>Dh.j3 K c.1 c.2 p) .t .t)))))))) .t)
theorem Dh.ct (K:Nat):CtX PP 78 Dh.sg (fun x=>Dh K x.1 x.2):=cy (cC K 103 [fe (Gx.ct K),fe (Gy.ct K),fe (G5.ct K),fe (Ha.ct K),fe (Ei.ct K),fe (Hf.ct K)]) Tryz.f78 (Dh.lt K) (o2 ot (o2 (ob (o2 ot (oc ot (oj ot (oc ot (oj ot (oc ot (oj ot ot)))))))) ot))
theorem Gu.ct (K:Nat):CtX PP 77 Gu.sg (fun x=>Gu K x.1 x.2):=cy (cC K 8 [fe (Dh.ct K)] [] [] [1]) Tryz.f77
def Aq.l1.M:Tm:=⟨[(0,.c (c_ (.sl Ce) 1 0)),(1,.fn 77 [.bx 2 0]),(7,qI 10),(8,qI 11)],[(2,.box [q_ i8 12,q_ i8 13,q_ (.sl Bw) 14,q_ (.sl Ce) 15])],[(1,Aq.sg.A)]⟩
def Aq.lt (K:Nat):LT Aq.sg.R.D:=.two .t (.two (.two .t (.one (.loop Aq.l1.M (fun n c p=>Aq.l1 K c.1 n p.1 p.2.1 p.2.2.1 p.2.2.2.1 p.2.2.2.2.1 p.2.2.2.2.2) (fun nl1=>.t)))) .t)
theorem Aq.ct (K:Nat):CtX PP 105 Aq.sg (fun x=>Aq K x.1 x.2.2):=cy (cC K 19 [fe (Gu.ct K)] [] [] [2]) Tryz.f105 (Aq.lt K) (o2 ot (o2 (o2 ot (ob (ol (fun _=>ot)))) ot))
theorem De.ct (K:Nat):CtX PP 76 De.sg (fun x=>De K x.1 x.2.2):=cy (cC K 9 [fe (Aq.ct K)] [] [] [2]) Tryz.f76
def F3.l1.M:Tm:=⟨[(1,.c (.bx 5016000 0)),(3,.c (.vf 5016001)),(19,.c (.vf 5016001)),(20,qI 10),(21,qI 11)],[(5016000,.box [c_ i8 1 0,c_ i8 1 1,c_ (.sl Bw) 1 2,c_ (.sl Ce) 1 3]),(5016001,.row Da false true (4000018,0))],[(1,F3.sg.A),(4000018,El.sg.R)]⟩
def F3.lt (K:Nat):LT F3.sg.R.D:=.two .t (.two .t (.two .t (.two (.two .t (.one (.loop F3.l1.M (fun n c p=>F3.l1 K c.2 c.1 n p.1 p.2) (fun nl1=>.t)))) .t)))
theorem F3.ct (K:Nat):CtX PP 45 F3.sg (fun x=>F3 K x):=cy (cC K 40 [fe (D6.ct K),fe (El.ct K),fe (De.ct K)]) Tryz.f45 (F3.lt K) (o2 ot (o2 ot (o2 ot (o2 (o2 ot (ob (ol (fun _=>ot)))) ot))))
theorem He.ct (K:Nat):CtX PP 21 He.sg (fun x=>He K x):=cy (cC K 12 [fe (F3.ct K),fe (Ea.ct K),fe (Gj.ct K)]) Tryz.f21
def D8.l1.M:Tm:=⟨[(5,.c (.vf 5008000)),(10,.c (c_ (.sl i8) 1 1)),(11,qI 11),(12,qI 12)],[(5008000,.row (.int .u8) false false (10,0))],[(1,D8.sg.A)]⟩
def D8.lt (K:Nat):LT D8.sg.R.D:=.two .t (.two .t (.two (.two .t (.one (.loop D8.l1.M (fun n c p=>D8.l1 K c.2 n p.1 p.2.1 p.2.2) (fun nl1=>.t)))) .t))
theorem D8.ct (K:Nat):CtX PP 48 D8.sg (fun x=>D8 K x.1 x.2):=cy (cC K 33) Tryz.f48 (D8.lt K) (o2 ot (o2 ot (o2 (o2 ot (ob (ol (fun _=>ot)))) ot)))
theorem Gv.ct (K:Nat):CtX PP 49 Gv.sg (fun x=>Gv K x):=cy (cC K 9) Tryz.f49
def Eu.l1.M:Tm:=⟨[(3,.c (q_ .str 12)),(16,.c (c_ (.sl Bw) 1 2)),(17,qI 10),(18,qI 11)],[],[(1,Eu.sg.A)]⟩
def Eu.lt (K:Nat):LT Eu.sg.R.D:=.two .t (.two .t (.two (.two .t (.one (.loop Eu.l1.M (fun n c p=>Eu.l1 K c n p.1 p.2.1 p.2.2) (fun nl1=>.t)))) .t))
theorem Eu.ct (K:Nat):CtX PP 22 Eu.sg (fun x=>Eu K x):=cy (cC K 40 [fe (D8.ct K),fe (Gv.ct K)]) Tryz.f22 (Eu.lt K) (o2 ot (o2 ot (o2 (o2 ot (ob (ol (fun _=>ot)))) ot)))
theorem Gs.ct (K:Nat):CtX PP 7 Gs.sg (fun x=>Gs K x):=cy (cC K 9 [fe (He.ct K),fe (Eu.ct K)]) Tryz.f7
theorem En.ct (K:Nat):CtX PP 16 En.sg (fun x=>En K):=cy (cC K 38 [fe (D7.ct K),fe (Gs.ct K),fe (F6.ct K),fe (Ep.ct K)]) Tryz.f16
def Af.l1.M:Tm:=⟨[(1,.c (.bx 5014000 0)),(3,qI 10)],[(5014000,.box [c_ (.sl Cy) 1 0,c_ (.sl (.sl Da)) 1 1,c_ (.sl Di) 1 2,c_ (.sl Fw) 1 3,c_ (.sl i8) 1 4])],[(1,Af.sg.A)]⟩
def Af.l2.M:Tm:=⟨[(1,.c (.bx 5034000 0)),(3,cI 10 0),(4,.c (c_ .str 4000038 0)),(5,qI 11)],[(5034000,.box [c_ (.sl Cy) 1 0,c_ (.sl (.sl Da)) 1 1,c_ (.sl Di) 1 2,c_ (.sl Fw) 1 3,c_ (.sl i8) 1 4])],[(1,Af.sg.A),(10,i8),(4000038,Av.sg.R)]⟩
def Af.l3.M:Tm:=⟨[(1,.c (.bx 5046000 0)),(3,cI 10 0),(4,.c (c_ .str 4000038 0)),(5,cI 11 0),(6,qI 12)],[(5046000,.box [c_ (.sl Cy) 1 0,c_ (.sl (.sl Da)) 1 1,c_ (.sl Di) 1 2,c_ (.sl Fw) 1 3,c_ (.sl i8) 1 4])],[(1,Af.sg.A),(10,i8),(11,i8),(4000038,Av.sg.R)]⟩
def Af.lt (K:Nat):LT Af.sg.R.D:=.two .t (.two .t (.two (.two .t (.one (.loop Af.l1.M (fun n c p=>Af.l1 K c n p) (fun nl1=>.two .t (.two (.one (.two .t (.two .t (.two .t (.one (.loop Af.l2.M (fun n c p=>Af.l2 K (Af.l1 K c.1 nl1) c.2.2 c.2.1 c.1 n p) (fun nl2=>.two .t (.two (.one (.two .t (.one (.loop Af.l3.M (fun n c p=>Af.l3 K (Af.l1 K c.1 nl1) (Af.l2 K (Af.l1 K c.1 nl1) c.2.2.2 c.2.1 c.1 nl2) c.2.2.2 c.2.1 c.2.2.1 c.1 n p) (fun nl3=>.t))))) .t)))))))) .t))))) .t))
theorem Af.ct (K:Nat):CtX PP 4 Af.sg (fun x=>Af K x):=cy (cC K 95 [fe (Cv.ct K),fe (Be.ct K),fe (Av.ct K),fe (F6.ct K),fe (Bb.ct K),fe (Ep.ct K),fe (D9.ct K),fe (En.ct K)]) Tryz.f4 (Af.lt K) (o2 ot (o2 ot (o2 (o2 ot (ob (ol (fun _=>o2 ot (o2 (ob (o2 ot (o2 ot (o2 ot (ob (ol (fun _=>o2 ot (o2 (ob (o2 ot (ob (ol (fun _=>ot))))) ot)))))))) ot))))) ot)))
end
end Go.XM
end
