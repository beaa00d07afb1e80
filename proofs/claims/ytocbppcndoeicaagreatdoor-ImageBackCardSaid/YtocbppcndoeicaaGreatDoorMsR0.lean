import Derived.Test.YtocbppcndoeicaaGreatDoorMsT1
import Derived.RangeFuncBound
import Derived.RangeFuncCalls
import Derived.RangeFuncLeaves
import Derived.RangeFuncNested
import Derived.TacticsIn
set_option linter.all false
section
namespace Go.XM
open Go.RowKit
section
variable {F:Fence} {n:Nat} {P:Program} {ops:Array Oper} {Q:Exit→Act→World→Prop} {a:Act} {w:World} {rest:List Oper} {o:Oper}
theorem op_val {d:Nat} {v:Value} (hF:∀ f,F.fn f) (hg:o.guard=none) (hd:o.dst=some d) (he:(execOp a.eval o).run P w=.ok (.value v) w) (h:wpListIn F n P ops Q rest (a.put (some d) v) w):wpListIn F n P ops Q (o::rest) a w :=
 wpListIn_plain hg fun K hK=>⟨fun f _=>hF f,by rw [semAt_val he (by simp),Oper.uponIn_value,hd];exact hK _ _ h⟩
theorem eval_put_same {d:Nat} {v:Value} (h:d<a.tmps.size):(a.put (some d) v).eval (.tmp d)=v:=by
 simp [Act.put,Act.eval,h]
theorem eval_put_ne {d i:Nat} {v:Value} (h:i≠d):(a.put (some d) v).eval (.tmp i)=a.eval (.tmp i):=by
 simp only [Act.put,Act.eval]
 simp only [Array.getD_eq_getD_getElem?]
 rw [Array.getElem?_setIfInBounds_ne (Ne.symm h)]
end
structure BkA (yv p:Value) (i:Int) (a:Act):Prop where
 sz:a.tmps.size=19
 df:a.defers=[]
 t0:a.eval (.tmp 0)=yv
 t1:a.eval (.tmp 1)=p
 t3:a.eval (.tmp 3)=.int .i64 i
theorem BkA.put {yv p:Value} {i:Int} {a:Act} (h:BkA yv p i a) {d:Nat} (hd:3<d) (v:Value):BkA yv p i (a.put (some d) v) :=
 ⟨by simp [Act.put,h.sz],h.df,by rw [eval_put_ne (by omega)];exact h.t0,by rw [eval_put_ne (by omega)];exact h.t1,by rw [eval_put_ne (by omega)];exact h.t3⟩
theorem wr_small {i:Int} (h0:-2≤i) (h1:i<4611686018427387904):wr .i64 i=i:=by
 show wrap64 i=i
 unfold wrap64;omega
theorem exec_bin {P:Program} {ρ:Operand→Value} {o:Oper} {op:BinOp} {t t':TypeId} {x y:Operand} {vx vy r:Value} (ho:o.op=.binOp op t x y t') (hx:ρ x=vx) (hy:ρ y=vy) (hb:bop (P.underlying t) op vx vy=some (r,none)) (w:World) :
  (execOp ρ o).run P w=.ok (.value r) w:=by
 have:=bop_run (x:=x) (y:=y) (c:=none) hb trivial w
 simp only [execOp,ho,hx,hy]
 rw [Sem.run_bind,this]
 rfl
theorem exec_mv {P:Program} {ρ:Operand→Value} {o:Oper} {x:Operand} {v:Value} (h:o.op=.move x∨o.op=.assign x) (hx:ρ x=v) (w:World):(execOp ρ o).run P w=.ok (.value v) w:=by
 rcases h with h | h <;> simp [execOp,h,hx]
theorem exec_len {P:Program} {ρ:Operand→Value} {o:Oper} {x:Operand} {S e:TypeId} {ad:Option Addr} {n cap:Nat} (h:o.op=.call ⟨.builtin .len,#[x],#[S]⟩) (hu:P.underlying S=some (.slice e)) (hx:ρ x=.slice ad n cap) (w:World) :
  (execOp ρ o).run P w=.ok (.value (.int .i64 n)) w:=exec_builtin h (by simp [builtin,Builtin.len_,run_underlying hu,hx,goInt])
theorem exec_not {P:Program} {ρ:Operand→Value} {o:Oper} {x:Operand} {b:Bool} {t:TypeId} (h:o.op=.unOp .not t x) (hx:ρ x=.bool b) (w:World):(execOp ρ o).run P w=.ok (.value (.bool (!b))) w:=by
 simp [execOp,h,hx,Op.unary]
set_option maxHeartbeats 1000000 in
theorem back_calls {P:Program} {cl:Nat} {fn:Func} {S E Y:TypeId} {F:Fence} {n:Nat} (hF:∀ f,F.fn f) (hdep:F.depth=none) (hro:F.round=none) (hf:P.funcs[cl]?=some fn) (hb:fn.body=some (backBody S E Y)) (hnt:fn.ntmps=19) (hres:fn.results=#[])
  (hE:elT P S=some E) (hS:hasT P S=true) (hag:isAg P S=false) {N:Nat} (hN:N<4611686018427387904) {l Bs:Nat} (J:Nat→World→Prop) (Jx:World→Prop)
  (hcell:∀ W,J 0 W→∃ ad cap,W.cell? ⟨Bs,0,none⟩=some (.slice ad N cap))
  (hY:∀ m k W,k<N→J k W→∃ b off cap u,W.cell? ⟨Bs,0,none⟩=some (.slice (some ⟨b,off,none⟩) N cap)∧(loadVar E ⟨b,off+(N-1-k)*szT P E,none⟩).run P W=.ok u W ∧
   YieldAt F m P l #[.int .i64 ((N-1-k:Nat):Int),u] W fun e W'=>(e=.returned (.bool true)∧J (k+1) W')∨(e=.returned (.bool false)∧Jx W'))
  (W:World) (h0:J 0 W):CallsIn F n P cl #[.func (.yield l) #[] #[],.pointer (some ⟨Bs,0,none⟩)] W fun e W'=>(∃ v,e=.returned v)∧(J N W'∨Jx W'):=by
 refine callsIn_of_wp hf hb (hF _) ?_ hro
 obtain ⟨hu,hhE⟩:=elT_spec hE
 obtain ⟨yv,hyv⟩:∃ yv,yv=Value.func (.yield l) #[] #[]:=⟨_,rfl⟩
 obtain ⟨pv,hpv⟩:∃ pv,pv=Value.pointer (some ⟨Bs,0,none⟩):=⟨_,rfl⟩
 have ldS:∀ (a:Act) (o:Oper) (w:World) (ad:Option Addr) (cap:Nat),o.op=.load S (.tmp 1)→a.eval (.tmp 1)=pv→w.cell? ⟨Bs,0,none⟩=some (.slice ad N cap)→(execOp a.eval o).run P w=.ok (.value (.slice ad N cap)) w:=by
  intro a o w ad cap ho ha hc
  refine exec_load ho (ha.trans hpv) ?_
  unfold loadVar
  simp only [Sem.run_bind,run_isAgg hS,Result.andThen_ok,hag,Bool.false_eq_true,if_false,run_load,hc]
 generalize ha0:({ tmps:=#[.func (.yield l) #[] #[],.pointer (some ⟨Bs,0,none⟩)]++Array.replicate (fn.ntmps-(#[.func (.yield l) #[] #[],.pointer (some ⟨Bs,0,none⟩)]:Array Value).size) undef,defers:=[] }:Act)=a0
 have hs0:a0.tmps.size=19:=by subst ha0;simp [hnt]
 have hd0:a0.defers=[]:=by subst ha0;rfl
 have e0:a0.eval (.tmp 0)=yv:=by subst ha0;rw [hyv];simp [Act.eval,Array.getElem?_append]
 have e1:a0.eval (.tmp 1)=pv:=by subst ha0;rw [hpv];simp [Act.eval,Array.getElem?_append]
 clear ha0
 have fin:∀ (a:Act) (w:World) (e:Exit),(e=.normal∨e=.ret)→a.defers=[]→(J N w∨Jx w)→bodyPost P fn (fun e W'=>(∃ v,e=.returned v)∧(J N W'∨Jx W')) e a w:=by
  intro a w e he hd hj
  have:∃ v,(results fn a.tmps).run P w=.ok v w:=⟨_,results_none hres _ _ _⟩
  obtain ⟨v,hv⟩:=this
  rcases he with rfl | rfl <;> exact ⟨hd,v,hv,⟨v,rfl⟩,hj⟩
 unfold backBody
 refine wpIn_seq (wpIn_region_list ?_)
 obtain ⟨ad,cap,hc0⟩:=hcell W h0
 refine op_val hF rfl rfl (ldS a0 _ W ad cap rfl e1 hc0) ?_
 generalize ha1:a0.put (some 4) (.slice ad N cap)=a1
 have s1:a1.tmps.size=19:=by subst ha1;simp [Act.put,hs0]
 have d1:a1.defers=[]:=by subst ha1;exact hd0
 have f0:a1.eval (.tmp 0)=yv:=by subst ha1;rw [eval_put_ne (by decide)];exact e0
 have f1:a1.eval (.tmp 1)=pv:=by subst ha1;rw [eval_put_ne (by decide)];exact e1
 have f4:a1.eval (.tmp 4)=.slice ad N cap:=by subst ha1;exact eval_put_same (by omega)
 clear ha1
 refine op_val hF rfl rfl (exec_len rfl hu f4 W) ?_
 generalize ha2:a1.put (some 5) (.int .i64 N)=a2
 have s2:a2.tmps.size=19:=by subst ha2;simp [Act.put,s1]
 have d2:a2.defers=[]:=by subst ha2;exact d1
 have g0:a2.eval (.tmp 0)=yv:=by subst ha2;rw [eval_put_ne (by decide)];exact f0
 have g1:a2.eval (.tmp 1)=pv:=by subst ha2;rw [eval_put_ne (by decide)];exact f1
 have g5:a2.eval (.tmp 5)=.int .i64 N:=by subst ha2;exact eval_put_same (by omega)
 clear ha2
 refine op_val hF rfl rfl (exec_bin (vx:=.int .i64 N) (vy:=.int .i64 1) (r:=.int .i64 ((N:Int)-1)) rfl g5 rfl (by simp [bop,wr_small (i:=(N:Int)-1) (by omega) (by omega)]) W) ?_
 generalize ha3:a2.put (some 6) (.int .i64 ((N:Int)-1))=a3
 have s3:a3.tmps.size=19:=by subst ha3;simp [Act.put,s2]
 have d3:a3.defers=[]:=by subst ha3;exact d2
 have h0':a3.eval (.tmp 0)=yv:=by subst ha3;rw [eval_put_ne (by decide)];exact g0
 have h1':a3.eval (.tmp 1)=pv:=by subst ha3;rw [eval_put_ne (by decide)];exact g1
 have h6:a3.eval (.tmp 6)=.int .i64 ((N:Int)-1):=by subst ha3;exact eval_put_same (by omega)
 clear ha3
 refine op_val hF rfl rfl (exec_mv (.inr rfl) h6 W) (wpListIn_nil ?_)
 have hB:BkA yv pv ((N:Int)-1) (a3.put (some 3) (.int .i64 ((N:Int)-1))) :=
  ⟨by simp [Act.put,s3],d3,by rw [eval_put_ne (by decide)];exact h0',by rw [eval_put_ne (by decide)];exact h1',eval_put_same (by omega)⟩
 generalize a3.put (some 3) (.int .i64 ((N:Int)-1))=a4 at hB
 refine wpIn_block (wpIn_loop (fun a w=>∃ k,k≤N∧BkA yv pv ((N:Int)-1-k) a∧J k w) (fun a _=>(intOf (a.eval (.tmp 3))+1).toNat) ⟨0,Nat.zero_le _,by simpa using hB,h0⟩ ?_)
 rintro a w ⟨k,hk,hA,hj⟩
 refine wpIn_seq (wpIn_seq (wpIn_region_list ?_))
 refine op_val hF rfl rfl (exec_mv (.inl rfl) hA.t3 w) ?_
 have hA1:=hA.put (d:=7) (by decide) (.int .i64 ((N:Int)-1-k))
 have q7:(a.put (some 7) (.int .i64 ((N:Int)-1-k))).eval (.tmp 7)=.int .i64 ((N:Int)-1-k):=eval_put_same (by rw [hA.sz];decide)
 generalize a.put (some 7) (.int .i64 ((N:Int)-1-k))=b1 at hA1 q7
 refine op_val hF rfl rfl (exec_bin (vx:=.int .i64 ((N:Int)-1-k)) (vy:=.int .i64 0) (r:=.bool (decide ((N:Int)-1-k≥0))) rfl q7 rfl (by simp [bop]) w) (wpListIn_nil ?_)
 have hA2:=hA1.put (d:=8) (by decide) (.bool (decide ((N:Int)-1-k≥0)))
 have q8:(b1.put (some 8) (.bool (decide ((N:Int)-1-k≥0)))).eval (.tmp 8)=.bool (decide ((N:Int)-1-k≥0)):=eval_put_same (by rw [hA1.sz];decide)
 generalize b1.put (some 8) (.bool (decide ((N:Int)-1-k≥0)))=b2 at hA2 q8
 by_cases hlt:k<N
 ·have hd:decide ((N:Int)-1-k≥0)=true:=by simp;omega
  rw [hd] at q8
  refine wpIn_cond_true q8 (wpIn_skip ?_)
  refine wpIn_seq (wpIn_block (wpIn_seq (wpIn_region_list ?_)))
  obtain ⟨b,off,cap,u,hc1,hu1,hyl⟩:=hY (n-1) k w hlt hj
  obtain ⟨ad,had⟩:∃ ad,ad=some (⟨b,off,none⟩:Addr):=⟨_,rfl⟩
  rw [← had] at hc1
  refine op_val hF rfl rfl (exec_mv (.inl rfl) hA2.t0 w) ?_
  have hA3:=hA2.put (d:=11) (by decide) yv
  have q11:(b2.put (some 11) yv).eval (.tmp 11)=yv:=eval_put_same (by rw [hA2.sz];decide)
  generalize b2.put (some 11) yv=b3 at hA3 q11
  refine op_val hF rfl rfl (exec_mv (.inl rfl) hA3.t3 w) ?_
  have hA4:=hA3.put (d:=12) (by decide) (.int .i64 ((N:Int)-1-k))
  have r12:(b3.put (some 12) (.int .i64 ((N:Int)-1-k))).eval (.tmp 12)=.int .i64 ((N:Int)-1-k):=eval_put_same (by rw [hA3.sz];decide)
  have r11:(b3.put (some 12) (.int .i64 ((N:Int)-1-k))).eval (.tmp 11)=yv:=by rw [eval_put_ne (by decide)];exact q11
  generalize b3.put (some 12) (.int .i64 ((N:Int)-1-k))=b4 at hA4 r12 r11
  refine op_val hF rfl rfl (ldS b4 _ w ad cap rfl hA4.t1 hc1) ?_
  have hA5:=hA4.put (d:=13) (by decide) (.slice ad N cap)
  have t13:(b4.put (some 13) (.slice ad N cap)).eval (.tmp 13)=.slice ad N cap:=eval_put_same (by rw [hA4.sz];decide)
  have t12:(b4.put (some 13) (.slice ad N cap)).eval (.tmp 12)=.int .i64 ((N:Int)-1-k):=by rw [eval_put_ne (by decide)];exact r12
  have t11:(b4.put (some 13) (.slice ad N cap)).eval (.tmp 11)=yv:=by rw [eval_put_ne (by decide)];exact r11
  generalize b4.put (some 13) (.slice ad N cap)=b5 at hA5 t13 t12 t11
  refine op_val hF rfl rfl (exec_mv (.inl rfl) hA5.t3 w) ?_
  have hA6:=hA5.put (d:=14) (by decide) (.int .i64 ((N:Int)-1-k))
  have v14:(b5.put (some 14) (.int .i64 ((N:Int)-1-k))).eval (.tmp 14)=.int .i64 ((N:Int)-1-k):=eval_put_same (by rw [hA5.sz];decide)
  have v13:(b5.put (some 14) (.int .i64 ((N:Int)-1-k))).eval (.tmp 13)=.slice ad N cap:=by rw [eval_put_ne (by decide)];exact t13
  have v12:(b5.put (some 14) (.int .i64 ((N:Int)-1-k))).eval (.tmp 12)=.int .i64 ((N:Int)-1-k):=by rw [eval_put_ne (by decide)];exact t12
  have v11:(b5.put (some 14) (.int .i64 ((N:Int)-1-k))).eval (.tmp 11)=yv:=by rw [eval_put_ne (by decide)];exact t11
  generalize b5.put (some 14) (.int .i64 ((N:Int)-1-k))=b6 at hA6 v14 v13 v12 v11
  subst had
  have hi:((N:Int)-1-k).toNat=N-1-k:=by omega
  have hx:=exec_indexAddr (P:=P) (ρ:=b6.eval) (o:={ dst:=some 15,op:=Op.indexAddr S (Operand.tmp 13) (Operand.tmp 14),type:=0,pos:="iter.go:29",after:=#[{ on:=2,ground:=Ground.data },{ on:=3,ground:=Ground.data }],guard:=none }) rfl hE v13 v14 (by omega) (by omega) w
  rw [hi] at hx
  refine op_val hF rfl rfl hx ?_
  have hA7:=hA6.put (d:=15) (by decide) (.pointer (some ⟨b,off+(N-1-k)*szT P E,none⟩))
  have w15:(b6.put (some 15) (.pointer (some ⟨b,off+(N-1-k)*szT P E,none⟩))).eval (.tmp 15)=.pointer (some ⟨b,off+(N-1-k)*szT P E,none⟩):=eval_put_same (by rw [hA6.sz];decide)
  have w12:(b6.put (some 15) (.pointer (some ⟨b,off+(N-1-k)*szT P E,none⟩))).eval (.tmp 12)=.int .i64 ((N:Int)-1-k):=by rw [eval_put_ne (by decide)];exact v12
  have w11:(b6.put (some 15) (.pointer (some ⟨b,off+(N-1-k)*szT P E,none⟩))).eval (.tmp 11)=yv:=by rw [eval_put_ne (by decide)];exact v11
  generalize b6.put (some 15) (.pointer (some ⟨b,off+(N-1-k)*szT P E,none⟩))=b7 at hA7 w15 w12 w11
  refine op_val hF rfl rfl (exec_load rfl w15 hu1) ?_
  have hA8:=hA7.put (d:=16) (by decide) u
  have x16:(b7.put (some 16) u).eval (.tmp 16)=u:=eval_put_same (by rw [hA7.sz];decide)
  have x12:(b7.put (some 16) u).eval (.tmp 12)=.int .i64 ((N:Int)-1-k):=by rw [eval_put_ne (by decide)];exact w12
  have x11:(b7.put (some 16) u).eval (.tmp 11)=yv:=by rw [eval_put_ne (by decide)];exact w11
  generalize b7.put (some 16) u=b8 at hA8 x16 x12 x11
  have hki:((N-1-k:Nat):Int)=(N:Int)-1-k:=by omega
  rw [hki] at hyl
  obtain ⟨rf,rt,ra,rb,hyy,hR⟩:=hyl
  refine wpListIn_plain rfl fun K hK=>⟨fun f _=>hF f,?_⟩
  have hex:(execOp b8.eval { dst:=some 17,op:=Op.call { callee:=Callee.value (Operand.tmp 11),args:=#[Operand.tmp 12,Operand.tmp 16],argTypes:=#[3,E] },type:=4,pos:="iter.go:29",after:=#[{ on:=0,ground:=Ground.data },{ on:=1,ground:=Ground.data },{ on:=5,ground:=Ground.data }],guard:=none }).run P w=.ok (.round l rf rt ra rb) w:=by
   rw [← hyy]
   simp [execOp,resolve,x11,hyv,Deferred.ofValue,invoke,x12,x16]
  rw [semAt_val hex (by simp),Oper.uponIn_round]
  refine ⟨fun h=>(by rw [hdep] at h;cases h),hR.mono ?_⟩
  rintro e W' (⟨rfl,hj'⟩ | ⟨rfl,hj'⟩)
  ·refine hK _ _ ?_
   have hA9:=hA8.put (d:=17) (by decide) (.bool true)
   have y17:(b8.put (some 17) (.bool true)).eval (.tmp 17)=.bool true:=eval_put_same (by rw [hA8.sz];decide)
   show wpListIn F n P _ _ _ (b8.put (some 17) (.bool true)) W'
   generalize b8.put (some 17) (.bool true)=b9 at hA9 y17
   refine op_val hF rfl rfl (exec_not rfl y17 W') (wpListIn_nil ?_)
   have hA10:=hA9.put (d:=18) (by decide) (.bool (!true))
   have y18:(b9.put (some 18) (.bool (!true))).eval (.tmp 18)=.bool false:=eval_put_same (by rw [hA9.sz];decide)
   generalize b9.put (some 18) (.bool (!true))=b10 at hA10 y18
   refine wpIn_cond_false y18 (wpIn_skip ?_)
   refine wpIn_region_list ?_
   refine op_val hF rfl rfl (exec_mv (.inl rfl) hA10.t3 W') ?_
   have hA11:=hA10.put (d:=9) (by decide) (.int .i64 ((N:Int)-1-k))
   have z9:(b10.put (some 9) (.int .i64 ((N:Int)-1-k))).eval (.tmp 9)=.int .i64 ((N:Int)-1-k):=eval_put_same (by rw [hA10.sz];decide)
   generalize b10.put (some 9) (.int .i64 ((N:Int)-1-k))=b11 at hA11 z9
   refine op_val hF rfl rfl (exec_bin (vx:=.int .i64 ((N:Int)-1-k)) (vy:=.int .i64 1) (r:=.int .i64 ((N:Int)-1-k-1)) rfl z9 rfl (by simp [bop,wr_small (i:=(N:Int)-1-k-1) (by omega) (by omega)]) W') ?_
   have hA12:=hA11.put (d:=10) (by decide) (.int .i64 ((N:Int)-1-k-1))
   have z10:(b11.put (some 10) (.int .i64 ((N:Int)-1-k-1))).eval (.tmp 10)=.int .i64 ((N:Int)-1-k-1):=eval_put_same (by rw [hA11.sz];decide)
   generalize b11.put (some 10) (.int .i64 ((N:Int)-1-k-1))=b12 at hA12 z10
   refine op_val hF rfl rfl (exec_mv (.inr rfl) z10 W') (wpListIn_nil ?_)
   have z3:(b12.put (some 3) (.int .i64 ((N:Int)-1-k-1))).eval (.tmp 3)=.int .i64 ((N:Int)-1-k-1):=eval_put_same (by rw [hA12.sz];decide)
   refine ⟨⟨k+1,hlt,⟨by simp [Act.put,hA12.sz],hA12.df,by rw [eval_put_ne (by decide)];exact hA12.t0,by rw [eval_put_ne (by decide)];exact hA12.t1,?_⟩,hj'⟩,?_⟩
   ·rw [z3];congr 1;omega
   ·rw [z3,hA.t3];simp only [intOf];omega
  ·refine hK _ _ ?_
   have hA9:=hA8.put (d:=17) (by decide) (.bool false)
   have y17:(b8.put (some 17) (.bool false)).eval (.tmp 17)=.bool false:=eval_put_same (by rw [hA8.sz];decide)
   show wpListIn F n P _ _ _ (b8.put (some 17) (.bool false)) W'
   generalize b8.put (some 17) (.bool false)=b9 at hA9 y17
   refine op_val hF rfl rfl (exec_not rfl y17 W') (wpListIn_nil ?_)
   have hA10:=hA9.put (d:=18) (by decide) (.bool (!false))
   have y18:(b9.put (some 18) (.bool (!false))).eval (.tmp 18)=.bool true:=eval_put_same (by rw [hA9.sz];decide)
   generalize b9.put (some 18) (.bool (!false))=b10 at hA10 y18
   refine wpIn_cond_true y18 (wpIn_ret ?_)
   exact fin _ _ .ret (.inr rfl) hA10.df (.inr hj')
 ·have hkN:k=N:=by omega
  subst hkN
  have hd:decide (((k:Nat):Int)-1-k≥0)=false:=by simp;omega
  rw [hd] at q8
  refine wpIn_cond_false q8 (wpIn_exit ?_)
  exact fin _ _ .normal (.inl rfl) hA2.df (.inl hj)
end Go.XM
end
section
namespace Go.XM
open Go.RowKit
def bkPost (I:World→Prop) (Ix:Code→World→Prop) (l D:Nat) (W:World):Exit→Act→World→Prop
 | .normal,_,W'=>(∀ k o,k=l∨k=D→W.heap[k]?=some o→W'.heap[k]?=some o)∧∀ o,I (W'.putObj l o)
 | .ret,_,W'=>(∀ k o,k=l∨k=D→W.heap[k]?=some o→W'.heap[k]?=some o)∧∀ o,Ix .ret (W'.putObj l o)
 | .exit id,_,W'=>(∀ k o,k=l∨k=D→W.heap[k]?=some o→W'.heap[k]?=some o)∧∀ o,Ix (.exit id) (W'.putObj l o)
 | _,_,_=>False
theorem wpIn_back {P:Program} {F:Fence} {n:Nat} (hF:∀ f,F.fn f) (hdep:F.depth=none) (hro:F.round=none)
  {cl:Nat} {fn0:Func} {S E Y:TypeId} (hf:P.funcs[cl]?=some fn0) (hb:fn0.body=some (backBody S E Y)) (hnt:fn0.ntmps=19) (hres:fn0.results=#[]) (hok:fnOk P cl=true)
  (hE:elT P S=some E) (hS:hasT P S=true) (hag:isAg P S=false) {N:Nat} (hN:N<4611686018427387904) {Bs:Nat}
  {g:Operand} {ps:Array Tmp} {assign body:Code} {Q:Exit→Act→World→Prop} {a:Act} {w:World} (hps:ps.size=2)
  (hg:a.eval g=.func (.func cl) #[] #[.pointer (some ⟨Bs,0,none⟩)])
  (I:Nat→World→Prop) (Ix:Code→World→Prop) (h0:∀ o1 o2,I 0 ((w.alloc o1).alloc o2))
  (hcell:∀ W,I 0 W→∃ ad cap,W.cell? ⟨Bs,0,none⟩=some (.slice ad N cap))
  (hround:∀ m k W,k<N→I k W→w.heap.size+1<W.heap.size→∃ b off cap u,W.cell? ⟨Bs,0,none⟩=some (.slice (some ⟨b,off,none⟩) N cap)∧(loadVar E ⟨b,off+(N-1-k)*szT P E,none⟩).run P W=.ok u W ∧
   assign.wpIn (F.inRound (w.heap.size+1)) m P (Exit.then (fun a1 W1=>(∀ k o,k=w.heap.size+1∨k=w.heap.size→W.heap[k]?=some o→W1.heap[k]?=some o) ∧
    ∀ o,body.wpIn (F.inRound (w.heap.size+1)) m P (bkPost (I (k+1)) Ix (w.heap.size+1) w.heap.size (W1.putObj (w.heap.size+1) o)) a1 (W1.putObj (w.heap.size+1) o)) (fun _ _ _=>False))
    {tmps:=(ps.zip #[.int .i64 ((N-1-k:Nat):Int),u]).foldl (fun t (p,v)=>t.setIfInBounds p v) a.tmps,defers:=[] } W)
  (hdone:∀ W o,I N W→w.heap.size+1<W.heap.size→W.heap[w.heap.size]?=some (.deferred (some []))→Q .normal { a with defers:={ target:=.collected w.heap.size,args:=#[] }::a.defers } (W.putObj (w.heap.size+1) o))
  (hstop:∀ c W o,Ix c W→w.heap.size+1<W.heap.size→W.heap[w.heap.size]?=some (.deferred (some []))→c.wpIn F n P Q { a with defers:={ target:=.collected w.heap.size,args:=#[] }::a.defers } (W.putObj (w.heap.size+1) o)) :
  (Code.rangeFunc g ps assign body).wpIn F n P Q a w:=by
 refine wpIn_rangeFunc ?_
 intro fn hfn
 rw [hro]
 obtain ⟨rec,hrec⟩:∃ rec:LoopState→Option Code→Loop,rec=fun st pe=>{ state:=st,pending:=pe,fn,tmps:=a.tmps,params:=ps,assign,body,defers:=w.heap.size }:=⟨_,rfl⟩
 obtain ⟨W1,hW1⟩:∃ W1,(w.alloc (.deferred (some []))).alloc (.loop (rec .ready none))=W1:=⟨_,rfl⟩
 have hL1:W1.heap[w.heap.size+1]?=some (.loop (rec .ready none)):=by
  rw [← hW1];have:=World.alloc_heap_new (w.alloc (.deferred (some []))) (.loop (rec .ready none));rwa [World.size_alloc] at this
 have hK1:W1.heap[w.heap.size]?=some (.deferred (some [])):=by
  rw [← hW1];exact (Below.heap_alloc _ _ _ (by simp)).trans (World.alloc_heap_new w _)
 have hI1:I 0 W1:=by rw [← hW1];exact h0 _ _
 have hinv:(invoke (.fn (.func cl) #[.pointer (some ⟨Bs,0,none⟩)]) #[.func (.yield (w.heap.size+1)) #[] #[]]).run P W1=.ok (.enter cl (#[.func (.yield (w.heap.size+1)) #[] #[]]++#[.pointer (some ⟨Bs,0,none⟩)])) W1:=by
  unfold fnOk at hok
  split at hok
  ·rename_i fn' hfn'
   simp only [Bool.and_eq_true,Bool.not_eq_true',Option.isSome_iff_exists] at hok
   obtain ⟨h1,c,h2⟩:=hok
   have h1':fn'.name≠"runtime.NumGoroutine":=by simpa using h1
   simp [invoke,callFunc,hfn',h1',h2]
  ·cases hok
 refine ⟨w.heap.size+1,[{ target:=.collected w.heap.size,args:=#[] }],W1,{ target:=.fn (.func cl) #[.pointer (some ⟨Bs,0,none⟩)],args:=#[.func (.yield (w.heap.size+1)) #[] #[]] },W1,cl,
  #[.func (.yield (w.heap.size+1)) #[] #[]]++#[.pointer (some ⟨Bs,0,none⟩)],W1,?_,?_,fun f' _=>hF f',hinv,fun h=>(by rw [hdep] at h;cases h),?_⟩
 ·rw [← hW1,hrec];exact run_enterLoop_outer _ _ _ _ _
 ·simp only [resolve,hg]
  simp [go_sem]
 ·refine (back_calls hF hdep hro hf hb hnt hres hE hS hag hN (l:=w.heap.size+1) (Bs:=Bs)
   (fun k W=>I k W∧W.heap[w.heap.size+1]?=some (.loop (rec .ready none))∧W.heap[w.heap.size]?=some (.deferred (some [])))
   (fun W=>∃ c,Ix c W∧W.heap[w.heap.size+1]?=some (.loop (rec .done (some c)))∧W.heap[w.heap.size]?=some (.deferred (some [])))
   (fun W h=>hcell W h.1) ?_ W1 ⟨hI1,hL1,hK1⟩).mono ?_
  ·rintro m k W hk ⟨hi,hl,hd⟩
   have hlt:w.heap.size+1<W.heap.size:=(Array.getElem?_eq_some_iff.1 hl).1
   obtain ⟨b,off,cap,u,q1,q2,q3⟩:=hround m k W hk hi hlt
   refine ⟨b,off,cap,u,q1,q2,?_⟩
   have hy:=run_yield (P:=P) (args:=#[.int .i64 ((N-1-k:Nat):Int),u]) hl (by rw [hrec];exact hps.symm)
   rw [hrec] at hy
   refine ⟨fn,_,assign,body,hy,roundIn_of_wpIn hfn (wpIn_mono q3 ?_)⟩
   intro e a1 Wa hq
   cases e with
   | normal =>
    obtain ⟨k1,k2⟩:=hq
    have hla:=k1 _ _ (.inl rfl) hl
    have hda:=k1 _ _ (.inr rfl) hd
    have hlta:w.heap.size+1<Wa.heap.size:=(Array.getElem?_eq_some_iff.1 hla).1
    refine ⟨_,run_beginRound hla (by rw [hrec]),?_⟩
    have hl2:(Wa.putObj (w.heap.size+1) (.loop { rec .ready none with state:=.busy })).heap[w.heap.size+1]?=some (.loop { rec .ready none with state:=.busy }):=World.putObj_heap_same hlta
    have hd2:(Wa.putObj (w.heap.size+1) (.loop { rec .ready none with state:=.busy })).heap[w.heap.size]?=some (.deferred (some [])):=(World.putObj_heap_other (by omega)).trans hda
    refine wpIn_mono (k2 _) ?_
    have fin:∀ (jump:Option Code) (W3:World),(∀ k o,k=w.heap.size+1∨k=w.heap.size→(Wa.putObj (w.heap.size+1) (.loop { rec .ready none with state:=.busy })).heap[k]?=some o→W3.heap[k]?=some o) →
      (Instr.endRound (w.heap.size+1) jump).run P W3=.ok (.bool jump.isNone) (W3.putObj (w.heap.size+1) (.loop (rec (if jump.isNone then .ready else .done) jump))) ∧
      (W3.putObj (w.heap.size+1) (.loop (rec (if jump.isNone then .ready else .done) jump))).heap[w.heap.size+1]?=some (.loop (rec (if jump.isNone then .ready else .done) jump)) ∧
      (W3.putObj (w.heap.size+1) (.loop (rec (if jump.isNone then .ready else .done) jump))).heap[w.heap.size]?=some (.deferred (some [])):=fun jump W3 hk3=>by
     have hl3:=hk3 _ _ (.inl rfl) hl2
     have:=run_endRound (P:=P) jump hl3
     rw [hrec] at this ⊢
     exact ⟨this,World.putObj_heap_same (Array.getElem?_eq_some_iff.1 hl3).1,(World.putObj_heap_other (by omega)).trans (hk3 _ _ (.inr rfl) hd2)⟩
    rintro e a3 W3 hp
    cases e with
    | normal=>obtain ⟨r1,r2,r3⟩:=fin none W3 hp.1;exact ⟨_,_,r1,.inl ⟨rfl,hp.2 _,r2,r3⟩⟩
    | ret=>obtain ⟨r1,r2,r3⟩:=fin (some .ret) W3 hp.1;exact ⟨_,_,r1,.inr ⟨rfl,.ret,hp.2 _,r2,r3⟩⟩
    | exit id=>obtain ⟨r1,r2,r3⟩:=fin (some (.exit id)) W3 hp.1;exact ⟨_,_,r1,.inr ⟨rfl,.exit id,hp.2 _,r2,r3⟩⟩
    | _=>exact hp.elim
   | _=>exact hq.elim
  ·rintro e W2 ⟨⟨v,rfl⟩,(⟨hi,hl,hk⟩ | ⟨c,hi,hl,hk⟩)⟩
   ·exact ⟨none,_,by have:=run_endLoop (P:=P) hl (by rw [hrec];simp);rw [hrec] at this;exact this,hdone W2 _ hi (Array.getElem?_eq_some_iff.1 hl).1 hk⟩
   ·exact ⟨some c,_,by have:=run_endLoop (P:=P) hl (by rw [hrec];simp);rw [hrec] at this;exact this,hstop c W2 _ hi (Array.getElem?_eq_some_iff.1 hl).1 hk⟩
end Go.XM
end
section
namespace Go.XM
open Go.RowKit
def Ctx.rb (Γ:Ctx) (g:G) (w:World):Ctx:={ Γ with w0:=w,L:=fun b=>∃ o,g.own b=some o,I:=g.Im }
theorem Good.rb {Γ:Ctx} {g:G} {σ:St} {a:Act} {w:World} (h:Good Γ g σ a w):Good (Γ.rb g w) g σ a w :=
 ⟨h.T,h.O,h.im,h.nt,h.df,rfl,rfl,rfl,Nat.le_refl _,fun _ _ _=>rfl,fun b o ho=>.inr ⟨o,ho⟩,h.lt,fun b hb=>.inr (.inr hb),h.nf,h.bx⟩
theorem Good.comp {Γ Γ1:Ctx} {g g':G} {σ σ':St} {a a':Act} {w w':World} (h:Good Γ g σ a w) (h':Good (Γ1.rb g w) g' σ' a' w') (e1:Γ1.nt=Γ.nt) (e2:Γ1.H=Γ.H) (e3:Γ1.β0=Γ.β0) (e4:Γ1.df=Γ.df):Good Γ g' σ' a' w' where
 T:=h'.T
 O:=h'.O
 im:=h'.im
 nt:=h'.nt.trans e1
 df:=h'.df.trans e4
 os:=h'.os.trans h.os
 tape:=h'.tape.trans h.tape
 out:=h'.out.trans h.out
 size:=Nat.le_trans h.size h'.size
 blk b hb hn:=by
  refine (h'.blk b (Nat.lt_of_lt_of_le hb h.size) ?_).trans (h.blk b hb hn)
  rintro ⟨o,ho⟩
  rcases h.mine b o ho with k | k
  ·omega
  ·exact hn k
 mine b o ho:=by
  rcases h'.mine b o ho with k | ⟨o',k⟩
  ·exact .inl (Nat.le_trans h.size k)
  ·exact h.mine b o' k
 lt:=h'.lt
 imf b hb:=by
  rcases h'.imf b hb with k | ⟨o',k⟩ | k
  ·exact .inl (Nat.le_trans h.size k)
  ·rcases h.mine b o' k with q | q
   ·exact .inl q
   ·exact .inr (.inl q)
  ·exact h.imf b k
 nf k hk:=h'.nf k (e2 ▸ hk)
 bx k l hk ho:=by
  have:=h'.bx k l (show Γ1.H k from e2 ▸ hk) ho
  rw [← e3];exact this
theorem Good.le_turn {Γ:Ctx} {g:G} {σ:St} {a:Act} {w w':World} (h:Good Γ g σ a w) (same:∀ b,(g.Im b∨∃ o,g.own b=some o)→w'.heap[b]?=w.heap[b]?):Le w g σ.O w' g σ.O:=by
 refine ⟨fun b hb=>⟨hb,same b (.inl hb)⟩,fun r hr=>hr,fun r sz' l' hr he=>⟨sz',l',he,rfl,Nat.le_refl _,rfl,fun b hb c hc=>?_⟩,fun r l' hr he=>⟨l',he,rfl⟩⟩
 have hO:=h.O r
 rw [he] at hO
 simp only [rsR,hb] at hO
 obtain ⟨c',ho,_⟩:=hO
 exact ⟨c,hc.congr (same b (.inr ⟨_,ho⟩)),rfl⟩
theorem Good.turn {Γ:Ctx} {g:G} {σ:St} {a:Act} {w w':World} (h:Good Γ g σ a w) (same:∀ b,(g.Im b∨∃ o,g.own b=some o)→w'.heap[b]?=w.heap[b]?) (hos:w'.os=w.os) (htp:w'.tape=w.tape) (hout:w'.output=w.output) (hsz:w.heap.size≤w'.heap.size)
  (h0:∀ b,b<Γ.w0.heap.size→w'.heap[b]?=w.heap[b]?):Good Γ g σ a w' where
 T i:=(h.le_turn same).sv (h.T i)
 O r:=(h.le_turn same).keep rfl (fun b hb=>⟨same b (.inr (by rcases hb with hb | ⟨i,j,hb⟩ <;> exact ⟨_,hb⟩)),rfl⟩) (h.O r)
 im b hb:=⟨Nat.lt_of_lt_of_le (h.im b hb).1 hsz,(h.im b hb).2⟩
 nt:=h.nt
 df:=h.df
 os:=hos.trans h.os
 tape:=htp.trans h.tape
 out:=hout.trans h.out
 size:=Nat.le_trans h.size hsz
 blk b hb hn:=(h0 b hb).trans (h.blk b hb hn)
 mine:=h.mine
 lt b o ho:=Nat.lt_of_lt_of_le (h.lt b o ho) hsz
 imf:=h.imf
 nf:=h.nf
 bx:=h.bx
theorem Good.putO {Γ:Ctx} {g:G} {σ:St} {a:Act} {w:World} (h:Good Γ g σ a w) {l:Nat} (o:Obj) (h1:g.own l=none) (h2:¬ g.Im l) (h3:Γ.w0.heap.size≤l):Good Γ g σ a (w.putObj l o):=by
 have key:∀ b,b≠l→(w.putObj l o).heap[b]?=w.heap[b]?:=fun b hb=>World.putObj_heap_other hb
 refine h.turn (fun b hb=>key b ?_) rfl rfl rfl (by simp [World.putObj]) (fun b hb=>key b (by omega))
 rintro rfl
 rcases hb with hb | ⟨o',hb⟩
 ·exact h2 hb
 ·rw [h1] at hb;cases hb
theorem Good.putRb {Γ:Ctx} {g:G} {σ:St} {a:Act} {w:World} (h:Good Γ g σ a w) {l:Nat} (o:Obj) (h1:g.own l=none) (h2:¬ g.Im l):Good (Γ.rb g (w.putObj l o)) g σ a (w.putObj l o):=by
 have key:∀ b,b≠l→(w.putObj l o).heap[b]?=w.heap[b]?:=fun b hb=>World.putObj_heap_other hb
 have hs:∀ b,(g.Im b∨∃ o,g.own b=some o)→(w.putObj l o).heap[b]?=w.heap[b]?:=by
  intro b hb
  refine key b ?_
  rintro rfl
  rcases hb with hb | ⟨o',hb⟩
  ·exact h2 hb
  ·rw [h1] at hb;cases hb
 exact ⟨fun i=>(h.le_turn hs).sv (h.T i),fun r=>(h.le_turn hs).keep rfl (fun b hb=>⟨hs b (.inr (by rcases hb with hb | ⟨i,j,hb⟩ <;> exact ⟨_,hb⟩)),rfl⟩) (h.O r),fun b hb=>⟨by have:=(h.im b hb).1;simpa [World.putObj] using this,(h.im b hb).2⟩,
  h.nt,h.df,rfl,rfl,rfl,Nat.le_refl _,fun _ _ _=>rfl,fun b o ho=>.inr ⟨o,ho⟩,fun b o' ho=>by have:=h.lt b o' ho;simpa [World.putObj] using this,fun b hb=>.inr (.inr hb),h.nf,h.bx⟩
theorem Good.allocs {Γ:Ctx} {g:G} {σ:St} {a:Act} {w:World} (h:Good Γ g σ a w) (o:Obj):Good Γ g σ a (w.alloc o):=by
 have key:∀ b,b<w.heap.size→(w.alloc o).heap[b]?=w.heap[b]?:=fun b hb=>Below.heap_alloc _ _ _ hb
 refine h.turn (fun b hb=>key b ?_) rfl rfl rfl (by simp) (fun b hb=>key b (Nat.lt_of_lt_of_le hb h.size))
 rcases hb with hb | ⟨o',hb⟩
 ·exact (h.im b hb).1
 ·exact h.lt b o' hb
structure Fl (l:Nat) (w:World) (g:G) (w':World) (g':G):Prop where
 os:w'.os=w.os
 tape:w'.tape=w.tape
 out:w'.output=w.output
 size:w.heap.size≤w'.heap.size
 blk:∀ b,b<w.heap.size→b≠l→g.own b=none→w'.heap[b]?=w.heap[b]?
 own:∀ b o,g'.own b=some o→w.heap.size≤b∨∃ o,g.own b=some o
 im:∀ b,g'.Im b→w.heap.size≤b∨(∃ o,g.own b=some o)∨g.Im b
theorem Good.fl {Γ:Ctx} {g g':G} {σ':St} {a':Act} {w w':World} (h:Good (Γ.rb g w) g' σ' a' w') (l:Nat):Fl l w g w' g' :=
 ⟨h.os,h.tape,h.out,h.size,fun b hb _ hn=>h.blk b hb (fun ⟨o,ho⟩=>by rw [hn] at ho;cases ho),h.mine,h.imf⟩
theorem Fl.put {l:Nat} {w:World} {g:G} {o:Obj}:Fl l w g (w.putObj l o) g :=
 ⟨rfl,rfl,rfl,by simp [World.putObj],fun b _ hb _=>World.putObj_heap_other hb,fun b o ho=>.inr ⟨o,ho⟩,fun b hb=>.inr (.inr hb)⟩
theorem Fl.trans {l:Nat} {w1 w2 w3:World} {g1 g2 g3:G} (h:Fl l w1 g1 w2 g2) (k:Fl l w2 g2 w3 g3):Fl l w1 g1 w3 g3 where
 os:=k.os.trans h.os
 tape:=k.tape.trans h.tape
 out:=k.out.trans h.out
 size:=Nat.le_trans h.size k.size
 blk b hb hl hn:=by
  refine (k.blk b (Nat.lt_of_lt_of_le hb h.size) hl ?_).trans (h.blk b hb hl hn)
  cases e:g2.own b with
  | none=>rfl
  | some o =>
   rcases h.own b o e with q | ⟨o',q⟩
   ·omega
   ·rw [hn] at q;cases q
 own b o ho:=by
  rcases k.own b o ho with q | ⟨o',q⟩
  ·exact .inl (Nat.le_trans h.size q)
  ·exact h.own b o' q
 im b hb:=by
  rcases k.im b hb with q | ⟨o',q⟩ | q
  ·exact .inl (Nat.le_trans h.size q)
  ·rcases h.own b o' q with p | p
   ·exact .inl p
   ·exact .inr (.inl p)
  ·exact h.im b q
def stabC (H:Nat→Prop):CV→Prop
 | .p _=>True
 | .nl _=>True
 | .bx k _=>H k
 | .any=>True
 | _=>False
def stabS (H:Nat→Prop):SV→Prop
 | .a (.c x)=>stabC H x
 | .a (.agg l)=>∀ x∈l,stabC H x
 | .a (.fn _ l)=>∀ x∈l,stabC H x
 | .tup _=>False
theorem stabC_R {H:Nat→Prop} {w w':World} {g g':G} {O O':Nat→RS} (hbx:∀ k,H k→∃ l,O k=.box l) (him:∀ b,g.Im b→g'.Im b∧w'.heap[b]?=w.heap[b]?) (hnf:∀ k,H k→O' k≠.fresh) (hβ:∀ k l,H k→O' k=.box l→g'.β k=g.β k)
  {x:CV} (hx:stabC H x) {u:Value} (h:cvR w g O x u):cvR w' g' O' x u:=by
 cases x with
 | p x=>exact spR.mono (p:=x) h him
 | nl sz=>exact h
 | any=>trivial
 | bx k c =>
  obtain ⟨l,hl⟩:=hbx k hx
  simp only [cvR,hl] at h
  obtain ⟨b,h1,rfl⟩:=h
  simp only [cvR]
  split
  ·rename_i e;exact hnf k hx e
  ·rename_i l' e;exact ⟨b,(hβ k l' hx e).trans h1,rfl⟩
  ·rfl
 | _=>exact hx.elim
theorem stabS_R {H:Nat→Prop} {w w':World} {g g':G} {O O':Nat→RS} (hbx:∀ k,H k→∃ l,O k=.box l) (him:∀ b,g.Im b→g'.Im b∧w'.heap[b]?=w.heap[b]?) (hnf:∀ k,H k→O' k≠.fresh) (hβ:∀ k l,H k→O' k=.box l→g'.β k=g.β k)
  {x:SV} (hx:stabS H x) {u:Value} (h:svR w g O x u):svR w' g' O' x u:=by
 cases x with
 | tup l=>exact hx.elim
 | a x=>cases x with
  | c x=>exact stabC_R hbx him hnf hβ hx h
  | agg l =>
   obtain ⟨arr,h1,h2,h3⟩:=h
   refine ⟨arr,h1,h2,fun j cv hj=>?_⟩
   obtain ⟨y,q1,q2,q3⟩:=h3 j cv hj
   exact ⟨y,q1,q2,stabC_R hbx him hnf hβ (hx cv (List.mem_of_getElem? hj)) q3⟩
  | fn f l =>
   obtain ⟨arr,h1,h2,h3⟩:=h
   refine ⟨arr,h1,h2,fun j cv hj=>?_⟩
   obtain ⟨y,q1,q3⟩:=h3 j cv hj
   exact ⟨y,q1,stabC_R hbx him hnf hβ (hx cv (List.mem_of_getElem? hj)) q3⟩
theorem Good.back {Γ Γ':Ctx} {g g':G} {T:Nat→SV} {O:Nat→RS} {σ':St} {a a':Act} {w w':World} {l:Nat} (h:Good Γ g ⟨T,O⟩ a w) (hst:∀ i,stabS Γ.H (T i)) (hbx:∀ k,Γ.H k→∃ l,O k=.box l)
  (hl:Γ.w0.heap.size≤l) (hIl:¬ g.Im l) (h':Good Γ' g' σ' a' w') (eH:Γ'.H=Γ.H) (eβ:Γ'.β0=Γ.β0) (hF:Fl l w g w' g') :
  Good Γ { g' with Im:=fun b=>g'.Im b∨g.Im b } ⟨T,σ'.O⟩ a w':=by
 have hImw:∀ b,g.Im b→w'.heap[b]?=w.heap[b]?:=fun b hb=>hF.blk b (h.im b hb).1 (fun e=>hIl (e ▸ hb)) (h.im b hb).2
 have hown:∀ b,g.Im b→g'.own b=none:=fun b hb=>by
  cases e:g'.own b with
  | none=>rfl
  | some o =>
   rcases hF.own b o e with q | ⟨o',q⟩
   ·have:=(h.im b hb).1;omega
   ·rw [(h.im b hb).2] at q;cases q
 have hle:Le w' g' σ'.O w' { g' with Im:=fun b=>g'.Im b∨g.Im b } σ'.O :=
  ⟨fun b hb=>⟨.inl hb,rfl⟩,fun r hr=>hr,fun r sz' l' hr he=>⟨sz',l',he,rfl,Nat.le_refl _,rfl,fun b hb c hc=>⟨c,hc,rfl⟩⟩,fun r l' hr he=>⟨l',he,rfl⟩⟩
 refine ⟨fun i=>?_,fun r=>hle.keep rfl (fun b hb=>⟨rfl,rfl⟩) (h'.O r),fun b hb=>?_,h.nt,h.df,hF.os.trans h.os,hF.tape.trans h.tape,hF.out.trans h.out,Nat.le_trans h.size hF.size,fun b hb hn=>?_,fun b o ho=>?_,h'.lt,fun b hb=>?_,fun k hk=>h'.nf k (by rw [eH];exact hk),fun k l hk ho=>?_⟩
 ·refine stabS_R (H:=Γ.H) (g':={ g' with Im:=fun b=>g'.Im b∨g.Im b }) hbx (fun b hb=>⟨Or.inr hb,hImw b hb⟩) (fun k hk=>h'.nf k (by rw [eH];exact hk)) (fun k l' hk ho=>?_) (hst i) (h.T i)
  obtain ⟨l0,e0⟩:=hbx k hk
  rw [h.bx k l0 hk e0,← eβ];exact h'.bx k l' (by rw [eH];exact hk) ho
 ·rcases hb with hb | hb
  ·exact h'.im b hb
  ·exact ⟨Nat.lt_of_lt_of_le (h.im b hb).1 hF.size,hown b hb⟩
 ·refine (hF.blk b (Nat.lt_of_lt_of_le hb h.size) (by omega) ?_).trans (h.blk b hb hn)
  cases e:g.own b with
  | none=>rfl
  | some o =>
   rcases h.mine b o e with q | q
   ·omega
   ·exact absurd q hn
 ·rcases hF.own b o ho with q | ⟨o',q⟩
  ·exact .inl (Nat.le_trans h.size q)
  ·exact h.mine b o' q
 ·rcases hb with hb | hb
  ·rcases hF.im b hb with q | ⟨o',q⟩ | q
   ·exact .inl (Nat.le_trans h.size q)
   ·rcases h.mine b o' q with p | p
    ·exact .inl p
    ·exact .inr (.inl p)
   ·exact h.imf b q
  ·exact h.imf b hb
 ·rw [← eβ];exact h'.bx k l (by rw [eH];exact hk) ho
end Go.XM
end
section
namespace Go.XM
open Go.RowKit
structure CLe (Γ Γ':Ctx):Prop where
 nt:Γ'.nt=Γ.nt
 H:Γ'.H=Γ.H
 good:∀ g σ a w,Good Γ' g σ a w→Good { Γ with df:=Γ'.df } g σ a w
 mark:Γ'.df=Γ.df∨∃ D,Γ'.df=[{ target:=.collected D,args:=#[] }]∧Γ.w0.heap.size≤D∧D<Γ'.w0.heap.size∧¬ Γ'.L D∧¬ Γ'.I D∧Γ'.w0.heap[D]?=some (.deferred (some []))
theorem CLe.refl (Γ:Ctx):CLe Γ Γ:=⟨rfl,rfl,fun _ _ _ _ h=>h,.inl rfl⟩
def TrX (P:Program) (Γ:Ctx) (c:Code) (Q:Ctx→Exit→St→Prop) (σ:St):Prop :=
 ∀ (m:Nat) g a w,Good Γ g σ a w→c.wpIn (Fz none) m P (fun e a' w'=>∃ Γ' σ' g',CLe Γ Γ'∧Q Γ' e σ'∧Good Γ' g' σ' a' w') a w
theorem TrX.of {P:Program} {Γ:Ctx} {c:Code} {Q:Exit→St→Prop} {σ:St} (h:Tr P Γ c Q σ) {Q':Ctx→Exit→St→Prop} (hq:∀ e σ,Q e σ→Q' Γ e σ):TrX P Γ c Q' σ :=
 fun m g a w hg=>wpIn_mono (h none m g a w hg) fun e a' w' ⟨σ',g',q,hg'⟩=>⟨Γ,σ',g',CLe.refl Γ,hq e σ' q,hg'⟩
def rngPost (H':Nat→Prop) (T:Nat→SV) (I:St→Prop) (R:Exit→St→Prop):Exit→St→Prop
 | .normal,σ=>∃ σ',(∀ Γ':Ctx,Γ'.H=H'→Sub Γ' ⟨T,σ.O⟩ σ')∧I σ'
 | .ret,σ=>R .ret ⟨T,σ.O⟩
 | .exit id,σ=>R (.exit id) ⟨T,σ.O⟩
 | _,_=>False
theorem Good.hide {Γ:Ctx} {g:G} {σ:St} {a:Act} {w:World} (h:Good Γ g σ a w) {r Bs:Nat} {l:List CV} (hO:σ.O r=.box l) (hb:g.β r=some Bs) :
  Good Γ { β:=g.β,own:=fun b=>if b=Bs then none else g.own b,Im:=fun b=>g.Im b∨b=Bs } ⟨σ.T,upd [(r,.dead)] σ.O⟩ a w:=by
 have hown:g.own Bs=some (.root r):=by
  have:=h.O r
  rw [hO] at this
  obtain ⟨b,c,q1,q2,_⟩:=this
  rw [hb] at q1;cases q1;exact q2
 have eO:∀ k,k≠r→upd [(r,RS.dead)] σ.O k=σ.O k:=fun k hk=>by simp [upd,hk]
 have eR:upd [(r,RS.dead)] σ.O r=.dead:=by simp [upd]
 have hle:Le w g σ.O w { β:=g.β,own:=fun b=>if b=Bs then none else g.own b,Im:=fun b=>g.Im b∨b=Bs } (upd [(r,RS.dead)] σ.O):=by
  refine ⟨fun b hb=>⟨.inl hb,rfl⟩,fun k hk=>?_,fun k sz' l' hk he=>?_,fun k l' hk he=>?_⟩
  ·by_cases e:k=r
   ·subst e;rw [eR];simp
   ·rw [eO k e];exact hk
  ·by_cases e:k=r
   ·subst e;rw [eR] at he;cases he
   ·rw [eO k e] at he;exact ⟨sz',l',he,rfl,Nat.le_refl _,rfl,fun b _ c hc=>⟨c,hc,rfl⟩⟩
  ·by_cases e:k=r
   ·subst e;rw [eR] at he;cases he
   ·rw [eO k e] at he;exact ⟨l',he,rfl⟩
 refine ⟨fun i=>hle.sv (h.T i),fun k=>?_,fun b hb=>?_,h.nt,h.df,h.os,h.tape,h.out,h.size,h.blk,fun b o ho=>?_,fun b o ho=>?_,fun b hb=>?_,fun k hk=>?_,fun k l' hk ho=>?_⟩
 ·show rsR _ _ _ k (upd [(r,RS.dead)] σ.O k)
  by_cases e:k=r
  ·subst e;rw [eR];trivial
  ·rw [eO k e]
   refine hle.keep rfl (fun b hk2=>⟨rfl,?_⟩) (h.O k)
   show (if b=Bs then none else g.own b)=g.own b
   rw [if_neg]
   rintro rfl
   rw [hown] at hk2
   rcases hk2 with hk2 | ⟨i,j,hk2⟩
   ·cases hk2;exact e rfl
   ·cases hk2
 ·show b<_∧(if b=Bs then none else g.own b)=none
  rcases hb with hb | rfl
  ·have:=h.im b hb
   refine ⟨this.1,?_⟩
   split
   ·rfl
   ·exact this.2
  ·exact ⟨h.lt _ _ hown,by rw [if_pos rfl]⟩
 ·have ho:(if b=Bs then none else g.own b)=some o:=ho
  split at ho
  ·cases ho
  ·exact h.mine b o ho
 ·have ho:(if b=Bs then none else g.own b)=some o:=ho
  split at ho
  ·cases ho
  ·exact h.lt b o ho
 ·rcases hb with hb | rfl
  ·exact h.imf b hb
  ·rcases h.mine _ _ hown with q | q
   ·exact .inl q
   ·exact .inr (.inl q)
 ·show upd [(r,RS.dead)] σ.O k≠.fresh
  by_cases e:k=r
  ·subst e;rw [eR];simp
  ·rw [eO k e];exact h.nf k hk
 ·have ho:upd [(r,RS.dead)] σ.O k=.box l':=ho
  by_cases e:k=r
  ·subst e;rw [eR] at ho;cases ho
  ·rw [eO k e] at ho;exact h.bx k l' hk ho
theorem Good.more {Γ:Ctx} {g:G} {σ:St} {a:Act} {w:World} (h:Good Γ g σ a w) (X:Nat→Prop) (hX:∀ b,X b→b<w.heap.size∧g.own b=none∧(Γ.w0.heap.size≤b∨Γ.L b∨Γ.I b)):Good Γ { g with Im:=fun b=>g.Im b∨X b } σ a w:=by
 have hle:Le w g σ.O w { g with Im:=fun b=>g.Im b∨X b } σ.O :=
  ⟨fun b hb=>⟨.inl hb,rfl⟩,fun r hr=>hr,fun r sz' l' hr he=>⟨sz',l',he,rfl,Nat.le_refl _,rfl,fun b hb c hc=>⟨c,hc,rfl⟩⟩,fun r l' hr he=>⟨l',he,rfl⟩⟩
 exact ⟨fun i=>hle.sv (h.T i),fun r=>hle.keep rfl (fun b hb=>⟨rfl,rfl⟩) (h.O r),fun b hb=>hb.elim (h.im b) (fun q=>⟨(hX b q).1,(hX b q).2.1⟩),h.nt,h.df,h.os,h.tape,h.out,h.size,h.blk,h.mine,h.lt,fun b hb=>hb.elim (h.imf b) (fun q=>(hX b q).2.2),h.nf,h.bx⟩
set_option maxHeartbeats 1000000 in
theorem tr_range {P:Program} {Γ:Ctx} {σ σ1:St} {i p q cl r S E sz:Nat} (hbk:BkOk P cl S E) {assign body:Code} (hdf:Γ.df=[]) (hT:σ.T i=.a (.fn cl [.bx r 0])) {rows:List (List SP)} (hO:σ.O r=.box [.p (.sl sz rows)]) (hsz:szT P E=sz) (hlen:rows.length<4611686018427387904)
  (H':Nat→Prop) (hHs:∀ k,Γ.H k→H' k) (hq:q<Γ.nt) (hpq:p≠q)
  (Inv:Nat→St→Prop) (hsub:∀ Γ':Ctx,Γ'.H=Γ.H→Sub Γ' ⟨σ.T,upd [(r,.dead)] σ.O⟩ σ1) (hi0:Inv 0 σ1) (hib:∀ k σ',Inv k σ'→(∀ j,H' j→∃ l,σ'.O j=.box l)∧∀ j,stabS H' (σ'.T j))
  (el:Nat→SV) (hel:∀ j e,rows[j]?=some e→ldCV P E (e.map .p) 0=some (el j)) (R:Exit→St→Prop)
  (hround:∀ k σ',k<rows.length→Inv k σ'→∀ Γr:Ctx,Γr.nt=Γ.nt→Γr.H=H' →
   Tr P Γr assign (fun e σa=>e=.normal∧∀ Γ2:Ctx,Γ2.nt=Γ.nt→Γ2.H=H'→Tr P Γ2 body (rngPost H' σ'.T (Inv (k+1)) R) σa) ⟨upd [(q,el (rows.length-1-k)),(p,.a (.c .any))] σ'.T,σ'.O⟩)
  (hN:∀ σ',Inv rows.length σ'→R .normal σ'):TrX P Γ (.rangeFunc (.tmp i) #[p,q] assign body) (fun _ e σ'=>R e σ') σ:=by
 intro m g a w hg
 obtain ⟨fn,Y,b1,b2,b3,b4,b5,b6,b7,b8⟩:=hbk
 have hTi:=hg.T i
 rw [hT] at hTi
 obtain ⟨arr,e1,e2,e3⟩:=hTi
 obtain ⟨x,x1,x2⟩:=e3 0 _ rfl
 simp only [cvR,hO] at x2
 obtain ⟨Bs,hBs,rfl⟩:=x2
 obtain rfl:arr=#[.pointer (some ⟨Bs,0,none⟩)]:=by
  obtain ⟨l⟩:=arr
  cases l with
  | nil=>simp at e2
  | cons y l=>cases l with
   | nil=>simp at x1;rw [x1]
   | cons=>simp at e2
 have hev:a.eval (.tmp i)=.func (.func cl) #[] #[.pointer (some ⟨Bs,0,none⟩)]:=e1
 obtain ⟨u,hu1,hu2⟩:∃ u,w.cell? ⟨Bs,0,none⟩=some u∧spR w g.Im (.sl sz rows) u:=by
  have h3:=hg.O r
  rw [hO] at h3
  obtain ⟨b,c,q1,q2,q3,q4,q5⟩:=h3
  rw [hBs] at q1
  cases q1
  obtain ⟨u,r1,r2,r3⟩:=q5 0 _ rfl
  exact ⟨u,by rw [q3.cell];exact r1,r3⟩
 have hg0:=hg.hide hO hBs
 obtain ⟨g0,hg0e⟩:∃ g0:G,g0={ β:=g.β,own:=fun b=>if b=Bs then none else g.own b,Im:=fun b=>g.Im b∨b=Bs }:=⟨_,rfl⟩
 rw [← hg0e] at hg0
 have hu2':spR w g0.Im (.sl sz rows) u:=hu2.mono fun b hb=>⟨by rw [hg0e];exact .inl hb,rfl⟩
 have hBsI:g0.Im Bs:=by rw [hg0e];exact .inr rfl
 obtain ⟨g1',hg1'⟩:=hsub (Γ.rb g0 w) rfl g0 a w hg0.rb
 have hown1:∀ b,g0.Im b→g1'.own b=none:=fun b hb=>by
  cases e:g1'.own b with
  | none=>rfl
  | some o =>
   rcases hg1'.mine b o e with q | ⟨o',q⟩
   ·have h1:w.heap.size≤b:=q
    have:=(hg0.im b hb).1;omega
   ·rw [(hg0.im b hb).2] at q;cases q
 have hg1'':=hg1'.more g0.Im fun b hb=>⟨(hg0.im b hb).1,hown1 b hb,.inr (.inr hb)⟩
 obtain ⟨g1,hg1e⟩:∃ g1:G,g1={ g1' with Im:=fun b=>g1'.Im b∨g0.Im b }:=⟨_,rfl⟩
 rw [← hg1e] at hg1''
 have hg1:Good Γ g1 σ1 a w:=hg0.comp hg1'' rfl rfl rfl rfl
 let ΓE:Ctx:={ Γ with H:=H',β0:=g1.β }
 have hgE:Good ΓE g1 σ1 a w:=⟨hg1.T,hg1.O,hg1.im,hg1.nt,hg1.df,hg1.os,hg1.tape,hg1.out,hg1.size,hg1.blk,hg1.mine,hg1.lt,hg1.imf,fun k hk=>by obtain ⟨l,e⟩:=(hib 0 _ hi0).1 k hk;rw [e];simp,fun k l _ _=>rfl⟩
 let Kp:G→World→Prop:=fun g2 W=>(∀ b,b=w.heap.size+1∨b=w.heap.size→g2.own b=none∧¬ g2.Im b)∧∀ b,g0.Im b→g2.own b=none∧g2.Im b∧W.heap[b]?=w.heap[b]?
 have h0lt:∀ b,g0.Im b→b<w.heap.size:=fun b hb=>(hg0.im b hb).1
 have hcellW:∀ W g2,Kp g2 W→W.cell? ⟨Bs,0,none⟩=some u∧spR W g2.Im (.sl sz rows) u:=fun W g2 hk =>
  ⟨(cell_congr (hk.2 Bs hBsI).2.2).trans hu1,hu2'.mono fun b hb=>(hk.2 b hb).2⟩
 have fin:∀ (g2:G) (σ2:St) (W:World) (o:Obj),Good ΓE g2 σ2 a W→Kp g2 W→w.heap.size+1<W.heap.size→W.heap[w.heap.size]?=some (.deferred (some [])) →
   ∃ Γ',CLe Γ Γ'∧Good Γ' g2 σ2 { a with defers:={ target:=.collected w.heap.size,args:=#[] }::a.defers } (W.putObj (w.heap.size+1) o):=by
  intro g2 σ2 W o h2 hz hlt hD
  have h3:=h2.putO o (hz.1 _ (.inl rfl)).1 (hz.1 _ (.inl rfl)).2 (Nat.le_trans hg.size (Nat.le_succ _))
  have hx:Good { Γ with df:=[{ target:=.collected w.heap.size,args:=#[] }] } g2 σ2 { a with defers:={ target:=.collected w.heap.size,args:=#[] }::a.defers } (W.putObj (w.heap.size+1) o) :=
   ⟨h3.T,h3.O,h3.im,h3.nt,by simp [hg.df,hdf],h3.os,h3.tape,h3.out,h3.size,h3.blk,h3.mine,h3.lt,h3.imf,fun k hk=>h3.nf k (hHs k hk),fun k l hk ho=>by
    obtain ⟨l0,e0⟩:=(hib 0 _ hi0).1 k (hHs k hk)
    exact (h3.bx k l (hHs k hk) ho).trans (hg1.bx k l0 hk e0)⟩
  refine ⟨({ Γ with df:=[{ target:=.collected w.heap.size,args:=#[] }] }:Ctx).rb g2 (W.putObj (w.heap.size+1) o),⟨rfl,rfl,fun g' σ' a' w' h=>hx.comp h rfl rfl rfl rfl,.inr ⟨w.heap.size,rfl,hg.size,(by simp [Ctx.rb,World.putObj];omega),fun ⟨o',h⟩=>(by rw [(hz.1 _ (.inr rfl)).1] at h;cases h),(hz.1 _ (.inr rfl)).2,(World.putObj_heap_other (by omega)).trans hD⟩⟩,hx.rb⟩
 refine wpIn_back (fun _=>trivial) rfl rfl b1 b2 b3 b4 b5 b6 b7 b8 hlen (Bs:=Bs) rfl hev
  (fun k W=>∃ g2 σ2,Inv k σ2∧Good ΓE g2 σ2 a W∧Kp g2 W)
  (fun c W=>∃ g2 σ2 e,((c=.ret∧e=.ret)∨∃ id,c=.exit id∧e=.exit id)∧R e σ2∧Good ΓE g2 σ2 a W∧Kp g2 W)
  ?h0 ?hcell ?hround ?hdone ?hstop
 case h0 =>
  intro o1 o2
  refine ⟨g1,σ1,hi0,(hgE.allocs o1).allocs o2,fun b hb=>⟨?_,fun h=>?_⟩,fun b hb=>⟨by rw [hg1e];exact hown1 b hb,by rw [hg1e];exact .inr hb,?_⟩⟩
  ·cases e:g1.own b with
   | none=>rfl
   | some o=>have:=hg1.lt b o e;omega
  ·have:=(hg1.im b h).1;omega
  ·have:=h0lt b hb
   exact (Below.heap_alloc _ _ _ (by simp;omega)).trans (Below.heap_alloc _ _ _ this)
 case hcell =>
  rintro W ⟨g2,σ2,hi,h2,hz⟩
  obtain ⟨u1,u2⟩:=hcellW W g2 hz
  cases u2 with
  | nil _ ad=>exact ⟨ad,0,u1⟩
  | sl b off cap=>exact ⟨_,cap,u1⟩
 case hround =>
  rintro m' k W hk ⟨g2,σ2,hi,h2,hz⟩ hlt
  obtain ⟨u1,u2⟩:=hcellW W g2 hz
  cases u2 with
  | nil=>simp at hk
  | sl b off cap _ _ us hIb hcap hrz hc1 hc2 =>
   obtain ⟨e,he⟩:∃ e,rows[rows.length-1-k]?=some e:=⟨_,List.getElem?_eq_getElem (by omega)⟩
   have hE:hasT P E=true:=(elT_spec b6).2
   obtain ⟨u,l1,l2⟩:=ld_R hE (hel _ e he) (w:=W) (g:=g2) (O:=σ2.O) (b:=b) (off:=off+(rows.length-1-k)*sz) (fun j x hx=>by
    rw [Nat.zero_add,List.getElem?_map] at hx
    cases hej:e[j]? with
    | none=>rw [hej] at hx;cases hx
    | some sp =>
     rw [hej] at hx
     cases hx
     have hsp:=hc2 _ e j sp he hej
     exact ⟨_,hc1 _ e j sp he hej,hsp.one,hsp⟩)
   refine ⟨b,off,cap,u,u1,by rw [hsz];exact l1,?_⟩
   let ΓR:Ctx:={ ΓE with df:=[] }
   have hR0:Good (ΓR.rb g2 W) g2 ⟨upd [(q,el (rows.length-1-k)),(p,.a (.c .any))] σ2.T,σ2.O⟩ { tmps:=((#[p,q]:Array Nat).zip #[.int .i64 ((rows.length-1-k:Nat):Int),u]).foldl (fun t (p,v)=>t.setIfInBounds p v) a.tmps,defers:=[] } W:=by
    have hz:((#[p,q]:Array Nat).zip #[Value.int .i64 ((rows.length-1-k:Nat):Int),u]).foldl (fun t (p,v)=>t.setIfInBounds p v) a.tmps=(a.tmps.setIfInBounds p (.int .i64 ((rows.length-1-k:Nat):Int))).setIfInBounds q u:=by simp
    rw [hz]
    refine ⟨fun j=>?_,h2.O,h2.im,(by simp;exact h2.nt),rfl,rfl,rfl,rfl,Nat.le_refl _,fun _ _ _=>rfl,fun b o ho=>.inr ⟨o,ho⟩,h2.lt,fun b hb=>.inr (.inr hb),h2.nf,h2.bx⟩
    show svR W g2 σ2.O (upd _ σ2.T j) _
    simp only [upd]
    by_cases ej:j=q
    ·subst ej
     rw [if_pos rfl]
     have:((a.tmps.setIfInBounds p (.int .i64 ((rows.length-1-k:Nat):Int))).setIfInBounds j u).getD j undef=u:=by
      have:j<a.tmps.size:=by rw [hg.nt];exact hq
      simp [this]
     rw [this];exact l2
    ·rw [if_neg ej]
     by_cases ep:j=p
     ·rw [if_pos ep];trivial
     ·rw [if_neg ep]
      have:((a.tmps.setIfInBounds p (.int .i64 ((rows.length-1-k:Nat):Int))).setIfInBounds q u).getD j undef=a.tmps.getD j undef:=by
       simp only [Array.getD_eq_getD_getElem?]
       rw [Array.getElem?_setIfInBounds_ne (Ne.symm ej),Array.getElem?_setIfInBounds_ne (Ne.symm ep)]
      rw [this];exact h2.T j
   refine wpIn_mono (hround k σ2 hk hi (ΓR.rb g2 W) rfl rfl (some (w.heap.size+1)) m' g2 _ W hR0) ?_
   rintro e1 a1 W1 ⟨σ3,g3,⟨rfl,hb2⟩,hg3⟩
   have nown:∀ (W:World) (g2 g1:G) (σ1:St) (a1:Act) (W1:World) (Γ1:Ctx),Good (Γ1.rb g2 W) g1 σ1 a1 W1→w.heap.size+1<W.heap.size→(∀ b,b=w.heap.size+1∨b=w.heap.size→g2.own b=none∧¬ g2.Im b) →
     (∀ b,b=w.heap.size+1∨b=w.heap.size→g1.own b=none∧¬ g1.Im b)∧∀ k o,k=w.heap.size+1∨k=w.heap.size→W.heap[k]?=some o→W1.heap[k]?=some o:=by
    intro W g2 g1 σ1 a1 W1 Γ1 hg1 hlt hz
    refine ⟨fun b hb=>⟨?_,fun h=>?_⟩,fun k o hk ho=>?_⟩
    ·cases e:g1.own b with
     | none=>rfl
     | some o =>
      rcases hg1.mine b o e with q | ⟨o',q⟩
      ·have:W.heap.size≤b:=q
       omega
      ·rw [(hz b hb).1] at q;cases q
    ·rcases hg1.imf b h with q | ⟨o',q⟩ | q
     ·have:W.heap.size≤b:=q
      omega
     ·rw [(hz b hb).1] at q;cases q
     ·exact (hz b hb).2 q
    ·exact (hg1.blk k (show k<W.heap.size by omega) (fun ⟨o',h⟩=>by rw [(hz k hk).1] at h;cases h)).trans ho
   have kept:∀ (W:World) (g2 g1:G) (σ1:St) (a1:Act) (W1:World) (Γ1:Ctx),Good (Γ1.rb g2 W) g1 σ1 a1 W1→w.heap.size+1<W.heap.size→(∀ b,g0.Im b→g2.own b=none∧W.heap[b]?=w.heap[b]?)→∀ b,g0.Im b→g1.own b=none∧W1.heap[b]?=w.heap[b]?:=by
    intro W g2 g1 σ1 a1 W1 Γ1 hg1 hlt hz b hb
    have hbl:=h0lt b hb
    refine ⟨?_,(hg1.blk b (show b<W.heap.size by omega) (fun ⟨o',h⟩=>by rw [(hz b hb).1] at h;cases h)).trans (hz b hb).2⟩
    cases e:g1.own b with
    | none=>rfl
    | some o =>
     rcases hg1.mine b o e with q | ⟨o',q⟩
     ·have:W.heap.size≤b:=q
      omega
     ·rw [(hz b hb).1] at q;cases q
   obtain ⟨hz3,hk3⟩:=nown W g2 g3 σ3 a1 W1 ΓR hg3 hlt hz.1
   have hf3:=kept W g2 g3 σ3 a1 W1 ΓR hg3 hlt (fun b hb=>⟨(hz.2 b hb).1,(hz.2 b hb).2.2⟩)
   refine ⟨hk3,fun o=>?_⟩
   have hs1:W.heap.size≤W1.heap.size:=hg3.size
   have hlt1:w.heap.size+1<(W1.putObj (w.heap.size+1) o).heap.size:=by simp [World.putObj];omega
   have hp1:Good ((ΓR.rb g2 W).rb g3 (W1.putObj (w.heap.size+1) o)) g3 σ3 a1 (W1.putObj (w.heap.size+1) o):=hg3.putRb o (hz3 _ (.inl rfl)).1 (hz3 _ (.inl rfl)).2
   refine wpIn_mono (hb2 ((ΓR.rb g2 W).rb g3 (W1.putObj (w.heap.size+1) o)) rfl rfl (some (w.heap.size+1)) m' g3 a1 _ hp1) ?_
   rintro e4 a4 W4 ⟨σ4,g4,hq4,hg4⟩
   obtain ⟨hz4,hk4⟩:=nown _ g3 g4 σ4 a4 W4 (ΓR.rb g2 W) hg4 hlt1 hz3
   have hf4:=kept _ g3 g4 σ4 a4 W4 (ΓR.rb g2 W) hg4 hlt1 (fun b hb=>⟨(hf3 b hb).1,(World.putObj_heap_other (by have:=h0lt b hb;omega)).trans (hf3 b hb).2⟩)
   have hFl:Fl (w.heap.size+1) W g2 W4 g4:=((hg3.fl _).trans Fl.put).trans (hg4.fl _)
   have hls:ΓE.w0.heap.size≤w.heap.size+1:=Nat.le_trans hg.size (Nat.le_succ _)
   have hbk:=h2.back (l:=w.heap.size+1) (hib k σ2 hi).2 (hib k σ2 hi).1 hls (hz.1 _ (.inl rfl)).2 hg4 rfl rfl hFl
   obtain ⟨g5,hg5e⟩:∃ g5:G,g5={ g4 with Im:=fun b=>g4.Im b∨g2.Im b }:=⟨_,rfl⟩
   rw [← hg5e] at hbk
   have hz5:∀ b,b=w.heap.size+1∨b=w.heap.size→g5.own b=none∧¬ g5.Im b:=by
    rw [hg5e];exact fun b hb=>⟨(hz4 b hb).1,fun h=>h.elim (hz4 b hb).2 (hz.1 b hb).2⟩
   have hf5:∀ b,g0.Im b→g5.own b=none∧g5.Im b∧W4.heap[b]?=w.heap[b]?:=by
    rw [hg5e];exact fun b hb=>⟨(hf4 b hb).1,.inr (hz.2 b hb).2.1,(hf4 b hb).2⟩
   have hlt4:w.heap.size+1<W4.heap.size:=by have:(W1.putObj (w.heap.size+1) o).heap.size≤W4.heap.size:=hg4.size;omega
   have put:∀ (g6:G) (o':Obj),(∀ b,b=w.heap.size+1∨b=w.heap.size→g6.own b=none∧¬ g6.Im b)→(∀ b,g0.Im b→g6.own b=none∧g6.Im b∧W4.heap[b]?=w.heap[b]?)→Kp g6 (W4.putObj (w.heap.size+1) o'):=fun g6 o' h1 h2 =>
    ⟨h1,fun b hb=>⟨(h2 b hb).1,(h2 b hb).2.1,(World.putObj_heap_other (by have:=h0lt b hb;omega)).trans (h2 b hb).2.2⟩⟩
   cases e4 with
   | normal =>
    obtain ⟨σ',hs,hi'⟩:=hq4
    refine ⟨hk4,fun o'=>?_⟩
    obtain ⟨g6,hg6⟩:=hs (ΓE.rb g5 W4) rfl _ _ _ hbk.rb
    obtain ⟨hz6,_⟩:=nown W4 _ g6 _ a W4 ΓE hg6 hlt4 hz5
    have hf6:=kept W4 g5 g6 _ a W4 ΓE hg6 hlt4 (fun b hb=>⟨(hf5 b hb).1,(hf5 b hb).2.2⟩)
    have hg7:=hg6.more g0.Im fun b hb=>⟨by have:=h0lt b hb;omega,(hf6 b hb).1,.inr (.inr (hf5 b hb).2.1)⟩
    obtain ⟨g7,hg7e⟩:∃ g7:G,g7={ g6 with Im:=fun b=>g6.Im b∨g0.Im b }:=⟨_,rfl⟩
    rw [← hg7e] at hg7
    have hz7:∀ b,b=w.heap.size+1∨b=w.heap.size→g7.own b=none∧¬ g7.Im b:=by
     rw [hg7e];exact fun b hb=>⟨(hz6 b hb).1,fun h=>h.elim (hz6 b hb).2 (fun q=>by have:=h0lt b q;omega)⟩
    have hf7:∀ b,g0.Im b→g7.own b=none∧g7.Im b∧W4.heap[b]?=w.heap[b]?:=by
     rw [hg7e];exact fun b hb=>⟨(hf6 b hb).1,.inr hb,(hf6 b hb).2⟩
    exact ⟨g7,σ',hi',(hbk.comp hg7 rfl rfl rfl rfl).putO o' (hz7 _ (.inl rfl)).1 (hz7 _ (.inl rfl)).2 hls,put g7 o' hz7 hf7⟩
   | ret=>exact ⟨hk4,fun o'=>⟨_,_,.ret,.inl ⟨rfl,rfl⟩,hq4,hbk.putO o' (hz5 _ (.inl rfl)).1 (hz5 _ (.inl rfl)).2 hls,put g5 o' hz5 hf5⟩⟩
   | exit id=>exact ⟨hk4,fun o'=>⟨_,_,.exit id,.inr ⟨id,rfl,rfl⟩,hq4,hbk.putO o' (hz5 _ (.inl rfl)).1 (hz5 _ (.inl rfl)).2 hls,put g5 o' hz5 hf5⟩⟩
   | _=>exact hq4.elim
 case hdone =>
  rintro W o ⟨g2,σ2,hi,h2,hz⟩ hlt hD
  obtain ⟨Γ',h3,h4⟩:=fin g2 σ2 W o h2 hz hlt hD
  exact ⟨Γ',_,g2,h3,hN σ2 hi,h4⟩
 case hstop =>
  rintro c W o ⟨g2,σ2,e,he,hr',h2,hz⟩ hlt hD
  obtain ⟨Γ',h3,h4⟩:=fin g2 σ2 W o h2 hz hlt hD
  rcases he with ⟨rfl,rfl⟩ | ⟨id,rfl,rfl⟩
  ·exact wpIn_ret ⟨Γ',_,g2,h3,hr',h4⟩
  ·exact wpIn_exit ⟨Γ',_,g2,h3,hr',h4⟩
end Go.XM
end
section
namespace Go.XM
open Go.RowKit
inductive LX (R:Type) where
 | old (l:LT R)
 | seqL (a:LX R) (b:LT R)
 | seqR (a:LT R) (b:LX R)
 | blk (a:LX R)
 | range (num:Nat) (M:Tm) (t:Ty) (fn:List t.D→M.caps.D→M.pars.D→Option R) (la lb:List t.D→LT R)
def boxesM (M:Tm):List Nat:=M.O.filterMap fun x=>match x.2 with
 | .box _=>some x.1
 | _=>none
def stabLS (bs:List Nat):LS→Bool
 | .p _ _ _=>true
 | .nl _=>true
 | .kb _=>true
 | .any=>true
 | .bx k _=>memK k bs
 | _=>false
def stabVS (bs:List Nat):VS→Bool
 | .c x=>stabLS bs x
 | .agg l=>l.all (stabLS bs)
 | .fn _ l=>l.all (stabLS bs)
def isBoxT:TR→Bool
 | .box _=>true
 | _=>false
def stripC:TC→TC
 | .p t x _=>.p t x no
 | c=>c
def stripR:TR→TR
 | .box l=>.box (l.map stripC)
 | .row t own xs _=>.row t own xs no
 | r=>r
def stripO (O:List (Nat × TR)):List (Nat × TR):=O.map fun x=>(x.1,stripR x.2)
def CE.rng (C:CE) (M:Tm):CE:={ C with hs:=boxesM M }
def rngK {R:Type} (C:CE) (M:Tm) (c:M.caps.D) (p:M.pars.D) (f:M.caps.D→M.pars.D→Option R) (k:KE R):KE R:=fun e τ _ =>
 match (boxesM M).all fun b=>isBoxT (τ.o b) with
 | true=>match e with
  | .normal=>jump M (boxesM M) ⟨(M.st (M.env c p)).T,stripO τ.O⟩ (M.env c p) f
  | .ret=>k .ret ⟨(M.st (M.env c p)).T,stripO τ.O⟩ (M.env c p)
  | .exit id=>k (.exit id) ⟨(M.st (M.env c p)).T,stripO τ.O⟩ (M.env c p)
  | _=>none
 | false=>none
def asK {R:Type} (f:TS→Env→Option R):KE R:=fun e τ ρ=>match e with
 | .normal=>f τ ρ
 | _=>none
def roundX {R:Type} (C:CE) (num:Nat) (M:Tm) (t:Ty) (p q:Nat) (as b:Code) (f:M.caps.D→M.pars.D→Option R) (la lb:LT R) (k:KE R) (x:t.D) (c:M.caps.D) (r:M.pars.D):Option R:=match gt none C.B num with
 | some X=>match ldT C.E.P X.E ((t.lvs x).map fun y=>.p y.1 y.2 no) 0 with
  | some v=>ev (C.rng M) as la ⟨(q,v)::(p,.a (.c .any))::(M.st (M.env c r)).T,(M.st (M.env c r)).O⟩ (M.env c r) (asK fun τ ρ=>ev (C.rng M) b lb τ ρ (rngK C M c r f k))
  | none=>none
 | none=>none
def rngOk (C:CE) (X:BX C.E.P) (M:Tm) (t:Ty) (cl p q:Nat):Bool :=
 Nat.beq X.cl cl && (Nat.beq (szT C.E.P X.E) t.sz && ((isAg C.E.P X.E || Nat.ble 1 t.sz) && (M.T.all (fun x=>stabVS (boxesM M) x.2) && (C.hs.all (fun h=>memK h (boxesM M)) && (!Nat.beq p q && (Nat.blt q C.nt && nodup (M.O.map (·.1))))))))
def evX {R:Type} (C:CE):LX R→Code→TS→Env→KE R→Option R
 | .old l,c,τ,ρ,k=>ev C c l τ ρ k
 | .seqL la lb,.seq a b,τ,ρ,k=>evX C la a τ ρ (kSeq (fun τ ρ=>ev C b lb τ ρ k) k)
 | .seqR la lb,.seq a b,τ,ρ,k=>ev C a la τ ρ (kSeq (fun τ ρ=>evX C lb b τ ρ k) k)
 | .blk la,.block id c,τ,ρ,k=>evX C la c τ ρ (kBlk id k)
 | .range num M t fn _ _,.rangeFunc (.tmp i) ⟨[p,q]⟩ _ _,τ,ρ,_=>match τ.t i,gt none C.B num with
  | .a (.fn cl [.bx r 0]),some X=>match τ.o r with
   | .box [.p ty v _]=>match cast? (t:=ty) (t':=.sl t) v with
    | some xs=>match rngOk C X M t cl p q with
     | true=>if List.length (α:=t.D) xs<4611686018427387904 then jump M C.hs ⟨τ.T,(r,.dead)::τ.O⟩ ρ (fn (List.reverse (α:=t.D) xs)) else none
     | false=>none
    | none=>none
   | _=>none
  | _,_=>none
 | _,_,_,_,_=>none
def Okx {R:Type} (C:CE):LX R→Code→KE R→Prop
 | .old l,c,k=>Okc C c l k
 | .seqL la lb,.seq a b,k=>Okx C la a (kSeq (fun τ ρ=>ev C b lb τ ρ k) k)∧Okc C b lb k
 | .seqR la lb,.seq a b,k=>Okc C a la (kSeq (fun τ ρ=>evX C lb b τ ρ k) k)∧Okx C lb b k
 | .blk la,.block id c,k=>Okx C la c (kBlk id k)
 | .range num M t fn la lb,.rangeFunc _ ⟨[p,q]⟩ as b,k=>(∀ c r,fn [] c r=k .normal (M.st (M.env c r)) (M.env c r)) ∧
   ∀ x l,(∀ c r,fn (x::l) c r=roundX C num M t p q as b (fn l) (la l) (lb l) k x c r) ∧
    ∀ c r,Okc (C.rng M) as (la l) (asK fun τ ρ=>ev (C.rng M) b (lb l) τ ρ (rngK C M c r (fn l) k))∧Okc (C.rng M) b (lb l) (rngK C M c r (fn l) k)
 | _,_,_=>True
section
variable {ρ ρ':Env} {τ:TS} {σ:St}
theorem gt_mapX {α β:Type _} {d:α} {e:β} (f:α→β) (hd:f d=e):∀ (l:List (Nat × α)) (i:Nat),gt e (l.map fun x=>(x.1,f x.2)) i=f (gt d l i)
 | [],i=>hd.symm
 | (k,x)::l,i=>by
  simp only [List.map_cons,gt]
  cases Nat.beq k i
  ·exact gt_mapX f hd l i
  ·rfl
theorem gt_mem_or {α:Type _} {d:α}:∀ (l:List (Nat × α)) (i:Nat),gt d l i=d∨(i,gt d l i)∈l
 | [],i=>.inl rfl
 | (k,x)::l,i=>by
  simp only [gt]
  cases e:Nat.beq k i with
  | true=>exact .inr (by rw [Nat.eq_of_beq_eq_true e];exact List.mem_cons_self)
  | false=>rcases gt_mem_or (d:=d) l i with h | h
           ·exact .inl h
           ·exact .inr (List.mem_cons_of_mem _ h)
theorem mkT (τ:TS) (i:Nat):(mk τ.xT τ.xO).T i=svX τ.lens (τ.t i):=by
 show upd τ.xT _ i=_
 rw [gt_upd]
 exact gt_mapX (d:=TV.a (.c .any)) (e:=SV.a (.c .any)) (svX τ.lens) rfl τ.T i
theorem strip_o (O:List (Nat × TR)) (r:Nat):gt .fresh (stripO O) r=stripR (gt .fresh O r):=gt_mapX (d:=TR.fresh) (e:=TR.fresh) stripR rfl O r
theorem strip_C {O:Nat→TR} {x:TC} {c:CV} (h:cR ρ O x c):cR ρ' (fun r=>stripR (O r)) (stripC x) c:=by
 cases x with
 | p t x g=>exact ⟨h.1,tg_no⟩
 | vf r=>simp only [stripC,cR] at h ⊢;cases hr:O r <;> rw [hr] at h <;> simpa [stripR] using h
 | vw r e n=>simp only [stripC,cR] at h ⊢;cases hr:O r <;> rw [hr] at h <;> simpa [stripR] using h
 | ad r i c'=>simp only [stripC,cR] at h ⊢;cases hr:O r <;> rw [hr] at h <;> simpa [stripR] using h
 | bx r c'=>simp only [stripC,cR] at h ⊢;cases hr:O r <;> rw [hr] at h <;> simpa [stripR] using h
 | av r=>simp only [stripC,cR] at h ⊢;cases hr:O r <;> rw [hr] at h <;> simpa [stripR] using h
 | _=>exact h
theorem strip_R {O:Nat→TR} {x:TR} {s:RS} (h:rR ρ O x s):rR ρ' (fun r=>stripR (O r)) (stripR x) s:=by
 cases x with
 | box l =>
  obtain ⟨m,rfl,h⟩:=h
  refine ⟨m,rfl,?_⟩
  induction l generalizing m with
  | nil=>cases m with
   | nil=>trivial
   | cons=>exact h.elim
  | cons y l ih=>cases m with
   | nil=>exact h.elim
   | cons z m=>exact ⟨strip_C h.1,ih m h.2⟩
 | row t own xs g=>exact ⟨h.1,tg_no⟩
 | _=>exact h
theorem st_t (M:Tm) (ρ:Env) (i:Nat):(M.st ρ).t i=.a (.c .any)∨∃ v,(i,v)∈M.T∧(M.st ρ).t i=bV ρ v:=by
 rcases gt_mem_or (d:=TV.a (.c .any)) (M.st ρ).T i with h | h
 ·exact .inl h
 ·obtain ⟨⟨j,v⟩,h1,h2⟩:=List.mem_map.1 h
  simp only [Prod.mk.injEq] at h2
  obtain ⟨rfl,h2⟩:=h2
  exact .inr ⟨v,h1,h2.symm⟩
theorem stabC_X {bs:List Nat} {n:Nat→Nat} {x:LS} (h:stabLS bs x=true):stabC (fun k=>k∈bs) (cvX n (bC ρ x)):=by
 cases x with
 | p t c g=>simp only [bC];split <;> trivial
 | nl t=>trivial
 | kb b=>trivial
 | any=>trivial
 | bx k c=>exact memK_spec h
 | _=>cases h
theorem stabS_X {bs:List Nat} {n:Nat→Nat} {v:VS} (h:stabVS bs v=true):stabS (fun k=>k∈bs) (svX n (bV ρ v)):=by
 cases v with
 | c x=>exact stabC_X h
 | agg l =>
  intro y hy
  simp only [List.map_map,List.mem_map] at hy
  obtain ⟨x,hx,rfl⟩:=hy
  exact stabC_X (List.all_eq_true.1 h x hx)
 | fn f l =>
  intro y hy
  simp only [List.map_map,List.mem_map] at hy
  obtain ⟨x,hx,rfl⟩:=hy
  exact stabC_X (List.all_eq_true.1 h x hx)
theorem stabC_R' {bs:List Nat} {n:Nat→Nat} {O O':Nat→TR} (hb:∀ k∈bs,∃ l,O' k=.box l) {x:LS} (h:stabLS bs x=true) (k:cR ρ O (bC ρ' x) (cvX n (bC ρ' x))):cR ρ O' (bC ρ' x) (cvX n (bC ρ' x)):=by
 cases x with
 | p t c g=>simp only [bC] at k ⊢;split at k <;> first | exact k | trivial
 | nl t=>exact k
 | kb b=>exact k
 | any=>trivial
 | bx k' c =>
  obtain ⟨l,e⟩:=hb k' (memK_spec h)
  simp only [bC,cvX,cR,e]
 | _=>cases h
theorem stabV_R' {bs:List Nat} {n:Nat→Nat} {O O':Nat→TR} (hb:∀ k∈bs,∃ l,O' k=.box l) {v:VS} (h:stabVS bs v=true) (k:vR ρ O (bV ρ' v) (svX n (bV ρ' v))):vR ρ O' (bV ρ' v) (svX n (bV ρ' v)):=by
 have all:∀ (l:List LS),l.all (stabLS bs)=true→All2 (cR ρ O) (l.map (bC ρ')) ((l.map (bC ρ')).map (cvX n))→All2 (cR ρ O') (l.map (bC ρ')) ((l.map (bC ρ')).map (cvX n)):=by
  intro l
  induction l with
  | nil=>intro _ _;trivial
  | cons x l ih =>
   intro h k
   simp only [List.all_cons,Bool.and_eq_true] at h
   exact ⟨stabC_R' hb h.1 k.1,ih h.2 k.2⟩
 cases v with
 | c x=>exact stabC_R' hb h k
 | agg l=>exact all l h k
 | fn f l=>exact ⟨k.1,all l h k.2⟩
theorem st_box {M:Tm} (hn:nodup (M.O.map (·.1))=true) {k:Nat} (hk:k∈boxesM M) (ρ:Env):∃ l,(M.st ρ).o k=.box l:=by
 simp only [boxesM,List.mem_filterMap] at hk
 obtain ⟨⟨j,s⟩,h1,h2⟩:=hk
 cases s with
 | row=>cases h2
 | box l =>
  cases h2
  refine ⟨l.map (bC ρ),?_⟩
  refine gt_mem (d:=TR.fresh) (x:=TR.box (l.map (bC ρ))) ?_ (List.mem_map.2 ⟨(_,.box l),h1,rfl⟩)
  simpa [Tm.st,Function.comp_def] using nodup_spec hn
variable {R:Type} {C:CE}
theorem jump_fix {M:Tm} {hs:List Nat} {f:M.caps.D→M.pars.D→Option R} {r:R} (h:jump M hs τ ρ f=some r) (hR:Rl ρ τ σ) :
  ∃ c p,f c p=some r∧Rl (M.env c p) (M.st (M.env c p)) (mk (M.st (M.env c p)).xT (M.st (M.env c p)).xO)∧∀ Γ:Ctx,(∀ k,Γ.H k→k∈hs)→Sub Γ σ (mk (M.st (M.env c p)).xT (M.st (M.env c p)).xO):=by
 unfold jump at h
 split at h
 ·rename_i τ1 hp
  split at h
  ·rename_i c p hf
   refine ⟨c,p,h,?_,fun Γ hH=>?_⟩
   ·let Γ0:Ctx:={ w0:=default,L:=fun _=>False,I:=fun _=>False,nt:=0,H:=fun _=>False,β0:=fun _=>none }
    obtain ⟨σ1,s1,s2⟩:=runPres_sub (Γ:=Γ0) hp hR
    exact (fit_sub hf s2 (Γ:=Γ0) (fun k h=>h.elim)).2.1
   ·obtain ⟨σ1,s1,s2⟩:=runPres_sub (Γ:=Γ) hp hR
    exact s1.trans (fit_sub hf s2 hH).1
  ·cases h
 ·cases h
end
end Go.XM
end
section
namespace Go.XM
open Go.RowKit
section
variable {R:Type} {C:CE}
theorem cast_enc {t ty:Ty} {v:ty.D} {xs:List t.D} (h:cast? (t:=ty) (t':=.sl t) v=some xs):TD.sp ⟨ty,v⟩=.sl t.sz (xs.map t.enc):=by
 rw [cast?_spec h];rfl
theorem vR_fn {ρ:Env} {O:Nat→TR} {f:Nat} {r:Nat} {l:List TC} {s:SV} (hO:O r=.box l) (h:vR ρ O (.a (.fn f [.bx r 0])) s):s=.a (.fn f [.bx r 0]):=by
 cases s with
 | tup m=>exact h.elim
 | a y=>cases y with
  | c=>exact h.elim
  | agg=>exact h.elim
  | fn f' m =>
   obtain ⟨rfl,h⟩:=h
   cases m with
   | nil=>exact h.elim
   | cons y m=>cases m with
    | cons=>exact h.2.elim
    | nil =>
     have h1:=h.1
     simp only [cR,hO] at h1
     subst h1;rfl
theorem elems_ld {P:Program} {E:TypeId} {t:Ty} (hsz:szT P E=t.sz) (h1:(isAg P E || Nat.ble 1 t.sz)=true) (x:t.D):∃ sv,ldCV P E ((t.enc x).map .p) 0=some sv:=by
 have hl:(t.enc x).length=t.sz:=t.enc_len x
 unfold ldCV
 cases ha:isAg P E with
 | true =>
  rw [if_pos rfl,if_pos]
  ·exact ⟨_,rfl⟩
  ·simp [hl,hsz]
 | false =>
  rw [ha] at h1
  simp only [Bool.false_or] at h1
  have:=Nat.le_of_ble_eq_true h1
  rw [if_neg (by simp)]
  have h0:0<((t.enc x).map CV.p).length:=by simp [hl];omega
  rw [List.getElem?_eq_getElem h0]
  exact ⟨_,rfl⟩
theorem lvs_cR {ρ:Env} {O:Nat→TR}:∀ (l:List TD),All2 (cR ρ O) (l.map fun y=>.p y.1 y.2 no) ((l.map TD.sp).map .p)
 | []=>trivial
 | y::l=>⟨⟨rfl,tg_no⟩,lvs_cR l⟩
set_option maxHeartbeats 1000000 in
theorem evX_sound (hm:C.E.P.follows .mixedOrders=true):∀ (lx:LX R) (c:Code) (k:KE R) (τ:TS) (ρ:Env) (r:R) (σ:St) (Γ:Ctx),Γ.nt=C.nt→(∀ k,Γ.H k→k∈C.hs)→Γ.df=[]→Okx C lx c k→evX C lx c τ ρ k=some r→Rl ρ τ σ →
  TrX C.E.P Γ c (fun Γ' e σ'=>Post Γ' k r e σ') σ:=by
 intro lx
 induction lx with
 | old l=>intro c k τ ρ r σ Γ hnt hH hdf ho h hR;exact TrX.of (ev_sound hm hnt hH c l k τ ρ r σ ho h hR) fun _ _ q=>q
 | seqL la lb ih =>
  intro c k τ ρ r σ Γ hnt hH hdf ho h hR
  cases c <;> try (cases h;done)
  rename_i a b
  intro m g act w hg
  refine wpIn_seq (wpIn_mono (ih a _ τ ρ r σ Γ hnt hH hdf ho.1 h hR m g act w hg) ?_)
  rintro e a' w' ⟨Γ',σ',g',hle,⟨τ',ρ',σ1,q1,q2,q3⟩,hg'⟩
  cases e with
  | normal =>
   obtain ⟨g1,hg1⟩:=q1 g' a' w' hg'
   refine wpIn_mono (ev_sound hm (hle.nt.trans hnt) (fun k hk=>hH k (hle.H ▸ hk)) b lb k τ' ρ' r σ1 ho.2 q3 q2 none m g1 a' w' hg1) ?_
   rintro e a2 w2 ⟨σ2,g2,q,hg2⟩
   exact ⟨Γ',σ2,g2,hle,q,hg2⟩
  | _=>exact ⟨Γ',σ',g',hle,⟨τ',ρ',σ1,q1,q2,q3⟩,hg'⟩
 | seqR la lb ih =>
  intro c k τ ρ r σ Γ hnt hH hdf ho h hR
  cases c <;> try (cases h;done)
  rename_i a b
  intro m g act w hg
  refine wpIn_seq (wpIn_mono (ev_sound hm hnt hH a la _ τ ρ r σ ho.1 h hR none m g act w hg) ?_)
  rintro e a' w' ⟨σ',g',⟨τ',ρ',σ1,q1,q2,q3⟩,hg'⟩
  cases e with
  | normal =>
   obtain ⟨g1,hg1⟩:=q1 g' a' w' hg'
   exact ih b k τ' ρ' r σ1 Γ hnt hH hdf ho.2 q3 q2 m g1 a' w' hg1
  | _=>exact ⟨Γ,σ',g',CLe.refl Γ,⟨τ',ρ',σ1,q1,q2,q3⟩,hg'⟩
 | blk la ih =>
  intro c k τ ρ r σ Γ hnt hH hdf ho h hR
  cases c <;> try (cases h;done)
  rename_i id c
  intro m g act w hg
  refine wpIn_block (wpIn_mono (ih c _ τ ρ r σ Γ hnt hH hdf ho h hR m g act w hg) ?_)
  rintro e a' w' ⟨Γ',σ',g',hle,⟨τ',ρ',σ1,q1,q2,q3⟩,hg'⟩
  cases e with
  | exit j =>
   simp only [kBlk] at q3
   simp only [Exit.inBlock]
   split
   ·rename_i e;subst e
    rw [beq_same] at q3
    exact ⟨Γ',σ',g',hle,⟨τ',ρ',σ1,q1,q2,q3⟩,hg'⟩
   ·rename_i e
    rw [beq_ne e] at q3
    exact ⟨Γ',σ',g',hle,⟨τ',ρ',σ1,q1,q2,q3⟩,hg'⟩
  | _=>exact ⟨Γ',σ',g',hle,⟨τ',ρ',σ1,q1,q2,q3⟩,hg'⟩
 | range num M t fn la lb =>
  intro c k τ ρ r σ Γ hnt hH hdf ho h hR
  cases c <;> try (cases h;done)
  rename_i f ps as b
  cases f <;> try (cases h;done)
  rename_i i
  obtain ⟨pl⟩:=ps
  cases pl with
  | nil=>cases h
  | cons p pl=>cases pl with
   | nil=>cases h
   | cons q pl=>cases pl with
    | cons=>cases h
    | nil =>
     simp only [evX] at h
     split at h
     ·rename_i cl r0 X hT hX
      split at h
      ·rename_i ty v g hO
       split at h
       ·rename_i xs hc
        split at h
        ·rename_i hok
         split at h
         ·rename_i hlen
          simp only [rngOk,Bool.and_eq_true,List.all_eq_true] at hok
          obtain ⟨k1,k2,k3,k4,k5,k6,k7,k8⟩:=hok
          have k1:=Nat.eq_of_beq_eq_true k1
          have k2:=Nat.eq_of_beq_eq_true k2
          subst k1
          have hT':σ.T i=.a (.fn X.cl [.bx r0 0]):=by
           have:=hR.T i
           rw [hT] at this
           exact vR_fn hO this
          have hO':σ.O r0=.box [.p (.sl t.sz (xs.map t.enc))]:=by
           have:=hR.O r0
           rw [hO] at this
           obtain ⟨m,e,h1⟩:=this
           cases m with
           | nil=>exact h1.elim
           | cons y m=>cases m with
            | cons=>exact h1.2.elim
            | nil=>rw [e,h1.1.1,cast_enc hc]
          have hW:Wrt ρ τ { wo:=[(r0,.dead)] } { wo:=[(r0,.dead)] } :=
           ⟨rfl,rfl,fun k=>by rw [app_o];exact ch1 (okch.dead _) k,trivial,⟨⟨rfl,by simp [rR]⟩,trivial⟩⟩
          have hR0:Rl ρ ⟨τ.T,(r0,.dead)::τ.O⟩ ⟨σ.T,upd [(r0,.dead)] σ.O⟩:=hW.rl hR
          obtain ⟨c0,p0,hf0,hRl0,hsub⟩:=jump_fix h hR0
          obtain ⟨o1,o2⟩:=ho
          have hel:∀ j e,(xs.map t.enc)[j]?=some e→ldCV C.E.P X.E (e.map .p) 0=some ((fun j=>(ldCV C.E.P X.E (((xs.map t.enc).getD j []).map .p) 0).getD (.a (.c .any))) j):=by
           intro j e he
           have h1:(xs.map t.enc).getD j []=e:=by rw [List.getD_eq_getElem?_getD,he];rfl
           simp only [h1]
           rw [List.getElem?_map] at he
           cases hj:xs[j]? with
           | none=>rw [hj] at he;cases he
           | some x =>
            rw [hj] at he
            cases he
            obtain ⟨sv,hs⟩:=elems_ld (P:=C.E.P) k2 k3 x
            rw [hs];rfl
          intro m g act w hg
          refine wpIn_mono (tr_range (σ:=σ) (rows:=xs.map t.enc) (sz:=t.sz) X.ok hdf hT' hO' k2 (by simpa using hlen) (fun k=>k∈boxesM M) (fun k hk=>memK_spec (k5 k (hH k hk))) (by rw [hnt];exact Nat.le_of_ble_eq_true k7) (fun e=>by rw [e,beq_same] at k6;cases k6)
           (fun n σ'=>∃ c p,σ'=mk (M.st (M.env c p)).xT (M.st (M.env c p)).xO∧Rl (M.env c p) (M.st (M.env c p)) σ'∧fn (xs.reverse.drop n) c p=some r)
           (fun Γ' hΓ=>hsub Γ' (fun k hk=>hH k (by rw [← hΓ];exact hk))) ⟨c0,p0,rfl,hRl0,hf0⟩ ?_ _ hel
           (fun e σ'=>∃ τ ρ,Rl ρ τ σ'∧k e τ ρ=some r) ?_ ?_ m g act w hg) ?_
          ·rintro n σ' ⟨c,p,rfl,hRl,hf⟩
           refine ⟨fun j hj=>?_,fun j=>?_⟩
           ·obtain ⟨l,e⟩:=st_box k8 hj (M.env c p)
            have:=hRl.O j
            rw [e] at this
            obtain ⟨m,e,_⟩:=this
            exact ⟨m,e⟩
           ·rw [mkT]
            rcases st_t M (M.env c p) j with e | ⟨v,h1,e⟩
            ·rw [e];trivial
            ·rw [e];exact stabS_X (k4 _ h1)
          ·rintro n σ' hn ⟨c,p',rfl,hRl,hf⟩ Γr hΓ1 hΓ2
           have hn':n<xs.reverse.length:=by simpa using hn
           rw [List.drop_eq_getElem_cons hn'] at hf
           generalize hx:xs.reverse[n]=x at hf
           have hxx:xs[xs.length-1-n]?=some x:=by
            have h1:n<xs.length:=by simpa using hn
            rw [← hx,List.getElem_reverse]
            exact List.getElem?_eq_getElem _
           have hlx:(xs.map t.enc).length-1-n=xs.length-1-n:=by simp
           have he:(xs.map t.enc)[xs.length-1-n]?=some (t.enc x):=by rw [List.getElem?_map,hxx];rfl
           generalize hl:xs.reverse.drop (n+1)=l at hf
           obtain ⟨o3,o4⟩:=o2 x l
           rw [o3] at hf
           unfold roundX at hf
           rw [hX] at hf
           simp only at hf
           split at hf
           ·rename_i v hv
            obtain ⟨sv,s1,s2⟩:=ldT_spec hv (lvs_cR (ρ:=M.env c p') (O:=(M.st (M.env c p')).o) (t.lvs x))
            rw [← t.enc_lvs] at s1
            have hes:(ldCV C.E.P X.E (((xs.map t.enc).getD ((xs.map t.enc).length-1-n) []).map .p) 0).getD (.a (.c .any))=sv:=by
             have:=hel _ _ he
             rw [s1] at this
             rw [hlx]
             exact (Option.some.inj this).symm
            rw [hes]
            obtain ⟨o5,o6⟩:=o4 c p'
            have hRr:Rl (M.env c p') ⟨(q,v)::(p,.a (.c .any))::(M.st (M.env c p')).T,(M.st (M.env c p')).O⟩ ⟨upd [(q,sv),(p,.a (.c .any))] (mk (M.st (M.env c p')).xT (M.st (M.env c p')).xO).T,(mk (M.st (M.env c p')).xT (M.st (M.env c p')).xO).O⟩:=by
             refine ⟨fun j=>?_,hRl.O⟩
             show vR _ (M.st (M.env c p')).o (gt _ ((q,v)::(p,.a (.c .any))::(M.st (M.env c p')).T) j) (upd [(q,sv),(p,.a (.c .any))] _ j)
             by_cases e1:q=j
             ·subst e1;rw [gt_same];simp only [upd,if_true];exact s2
             ·rw [gt_ne e1]
              by_cases e2:p=j
              ·subst e2;rw [gt_same];simp only [upd,if_neg (Ne.symm e1),if_true];trivial
              ·rw [gt_ne e2];simp only [upd,if_neg (Ne.symm e1),if_neg (Ne.symm e2)];exact hRl.T j
            refine tr_post (ev_sound (C:=C.rng M) (Γ:=Γr) hm (hΓ1.trans hnt) (fun k hk=>by rw [hΓ2] at hk;exact hk) as (la l) _ _ _ r _ o5 hf hRr) ?_
            rintro e σa ⟨τa,ρa,σb,a1,a2,a3⟩
            cases e with
            | normal =>
             refine ⟨σb,a1,rfl,fun Γ2 hΓ3 hΓ4=>?_⟩
             refine tr_post (ev_sound (C:=C.rng M) (Γ:=Γ2) hm (hΓ3.trans hnt) (fun k hk=>by rw [hΓ4] at hk;exact hk) b (lb l) _ _ _ r _ o6 a3 a2) ?_
             rintro e σ3 ⟨τ4,ρ4,σ4,d1,d2,d3⟩
             unfold rngK at d3
             split at d3
             ·rename_i hbx
              rw [List.all_eq_true] at hbx
              have hRb:Rl (M.env c p') ⟨(M.st (M.env c p')).T,stripO τ4.O⟩ ⟨(mk (M.st (M.env c p')).xT (M.st (M.env c p')).xO).T,σ4.O⟩:=by
               have ho:(⟨(M.st (M.env c p')).T,stripO τ4.O⟩:TS).o=fun r=>stripR (τ4.o r):=funext fun r=>strip_o τ4.O r
               refine ⟨fun j=>?_,fun j=>?_⟩
               ·rw [ho]
                show vR _ _ ((M.st (M.env c p')).t j) ((mk (M.st (M.env c p')).xT (M.st (M.env c p')).xO).T j)
                have h1:=hRl.T j
                rw [mkT] at h1 ⊢
                rcases st_t M (M.env c p') j with e | ⟨v,h2,e⟩
                ·rw [e];trivial
                ·rw [e] at h1 ⊢
                 refine stabV_R' (bs:=boxesM M) (fun k hk=>?_) (k4 _ h2) h1
                 have:=hbx k hk
                 cases hτ:τ4.o k with
                 | box l=>exact ⟨_,rfl⟩
                 | _=>rw [hτ] at this;cases this
               ·rw [ho];exact strip_R (d2.O j)
              cases e with
              | normal =>
               obtain ⟨c2,p2,f2,f3,f4⟩:=jump_fix d3 hRb
               exact ⟨σ4,d1,_,fun Γ' hΓ'=>f4 Γ' (fun k hk=>by rw [hΓ'] at hk;exact hk),c2,p2,rfl,f3,f2⟩
              | ret=>exact ⟨σ4,d1,_,_,hRb,d3⟩
              | exit id=>exact ⟨σ4,d1,_,_,hRb,d3⟩
              | _=>cases d3
             ·cases d3
            | _=>cases a3
           ·cases hf
          ·rintro σ' ⟨c,p,rfl,hRl,hf⟩
           rw [List.drop_of_length_le (by simp),o1] at hf
           exact ⟨_,_,hRl,hf⟩
          ·rintro e a' w' ⟨Γ',σ',g',hle,⟨τ',ρ',q1,q2⟩,hg'⟩
           exact ⟨Γ',σ',g',hle,⟨τ',ρ',σ',Sub.refl,q1,q2⟩,hg'⟩
         ·cases h
        ·cases h
       ·cases h
      ·cases h
     ·cases h
end
end Go.XM
end
section
namespace Go.XM
open Go.RowKit
theorem ct_introX {P:Program} {f:FuncId} {fn:Func} {c:Code} (hf:P.funcs[f]?=some fn) (hb:fn.body=some c) {args:List SV} {O0:List (Nat × RS)} {res:SV} {O1:List (Nat × RS)} (hs:List Nat)
  (hlen:args.length≤fn.ntmps) (hbx:∀ k l,ofL O0 k=.box l→k∈hs) (hb2:∀ k,k∈hs→∃ l,ofL O0 k=.box l)
  (h:∀ Γ:Ctx,Γ.nt=fn.ntmps→Γ.df=[]→(∀ k,Γ.H k→k∈hs)→TrX P Γ c (fun Γ' e σ'=>∃ σ'',Sub Γ' σ' σ''∧(e=.normal∨e=.ret)∧Out P fn hs res O1 σ'') ⟨fun i=>args.getD i (.a (.c .any)),ofL O0⟩):Ct P f args (ofL O0) res (ofL O1):=by
 intro w g vals hp hsz hv
 let Γ:Ctx:={ w0:=w,L:=fun b=>∃ o,g.own b=some o,I:=g.Im,nt:=fn.ntmps,H:=fun k=>k∈hs,β0:=g.β }
 have hg:Good Γ g ⟨fun i=>args.getD i (.a (.c .any)),ofL O0⟩ { tmps:=vals++Array.replicate (fn.ntmps-vals.size) undef,defers:=[] } w:=by
  refine ⟨fun i=>?_,hp.O,hp.im,?_,rfl,rfl,rfl,rfl,Nat.le_refl _,fun _ _ _=>rfl,fun b o ho=>.inr ⟨o,ho⟩,hp.lt,fun b hb=>.inr (.inr hb),fun k hk=>?_,fun k l hk ho=>rfl⟩
  ·show svR w g (ofL O0) (args.getD i _) _
   rw [List.getD_eq_getElem?_getD]
   cases hi:args[i]? with
   | none=>trivial
   | some sv =>
    have hlt:=idx_lt hi
    have:(vals++Array.replicate (fn.ntmps-vals.size) undef).getD i undef=vals.getD i undef:=by
     have hlt':i<vals.size:=by omega
     simp [Array.getElem?_append,hlt']
    show svR w g (ofL O0) sv ((vals++Array.replicate (fn.ntmps-vals.size) undef).getD i undef)
    rw [this];exact hv i sv hi
  ·show _=fn.ntmps
   simp;omega
  ·obtain ⟨l,hl⟩:=hb2 k hk
   show ofL O0 k≠_
   rw [hl];simp
 rw [← callsIn_wide (n:=0)]
 refine callsIn_of_wp_marks hf hb trivial (wpIn_mono (h Γ rfl rfl (fun k hk=>hk) 0 g _ w hg) ?_) rfl
 rintro e a' w' ⟨Γ',σ',g',hle,⟨σ'',hs',he,m,fz,sv,hres,hB,hO,hsv⟩,hg0'⟩
 obtain ⟨g1,hg1⟩:=hs' g' a' w' hg0'
 have hgΓ:=hle.good _ _ _ _ hg1
 simp only [fitB,Bool.and_eq_true,List.all_eq_true] at hB
 obtain ⟨⟨⟨b1,b2⟩,b3⟩,b4⟩:=hB
 have fin:∀ (W:World) (df:List Deferred),Good { Γ with df:=df } g1 σ'' a' W →
   ∃ v,(results fn a'.tmps).run P W=.ok v W∧(∃ v_1 g',Ending.returned v=.returned v_1∧svR W g' (ofL O1) res v_1∧Heap W g' (ofL O1)∧Fr w g W g'∧∀ k l l',ofL O0 k=.box l→ofL O1 k=.box l'→g'.β k=g.β k):=by
  intro W df hg'
  obtain ⟨v,k1,k2⟩:=run_results hg' hres
  obtain ⟨g0,e1,e2,e3,t,hp0⟩:=hg'.heap.part m fz b2 (fun r hr=>back_none (by have:=b3 r (by simpa using hr);simpa using this)) hO
  refine ⟨v,k1,v,g0,rfl,?_,hp0,⟨hg'.os,hg'.tape,hg'.out,hg'.size,fun b hb hn=>hg'.blk b hb (fun ⟨o,ho⟩=>by rw [hn] at ho;cases ho),fun b o ho=>?_,fun b hb=>?_⟩,fun k l l' h1 h2=>?_⟩
  ·rcases hsv with hsv | hsv
   ·exact t.sv hsv k2
   ·exact amSV_R hsv t hg'.O (fun r hr b hb=>(e2 b).2 (.inr ⟨r,hr,hb⟩)) k2
  ·rw [e1,Option.bind_eq_some_iff] at ho
   obtain ⟨o',h1,_⟩:=ho
   exact hg'.mine b o' h1
  ·rcases (e2 b).1 hb with h | ⟨r,hr,h⟩
   ·rcases hg'.imf b h with h | h | h
    ·exact .inr (.inl h)
    ·exact .inr (.inr h)
    ·exact .inl h
   ·have:∃ o,g1.own b=some o:=by rcases h with h | ⟨i,j,h⟩ <;> exact ⟨_,h⟩
    obtain ⟨o,ho⟩:=this
    rcases hg'.mine b o ho with h1 | h1
    ·exact .inr (.inl h1)
    ·exact .inr (.inr h1)
  ·have hk:=hbx k l h1
   have hlk:=look_of b1 (memNm_spec (b4 k hk))
   rw [e3 k k hlk]
   obtain ⟨f1,f2⟩:=fitO_spec hO
   rcases f2 k k hlk with ⟨sz,l2,q1,_⟩ | ⟨l2,l3,q1,q2,_⟩
   ·rw [h2] at q1;cases q1
   ·exact hg'.bx k l3 hk q2
 have hLeave:LeavesInM Fence.wide 0 P fn a'.tmps (fun e w'=>∃ v g',e=.returned v∧svR w' g' (ofL O1) res v∧Heap w' g' (ofL O1)∧Fr w g w' g'∧∀ k l l',ofL O0 k=.box l→ofL O1 k=.box l'→g'.β k=g.β k) a'.defers .returning w':=by
  rcases hle.mark with hd | ⟨D,hd,d1,d2,d3,d4,d5⟩
  ·have:a'.defers=[]:=by rw [hg1.df,hd]
   rw [this]
   obtain ⟨v,k1,k2⟩:=fin w' _ hgΓ
   exact ⟨v,k1,k2⟩
  ·have:a'.defers=[{ target:=.collected D,args:=#[] }]:=by rw [hg1.df,hd]
   rw [this]
   have hown:g1.own D=none:=by
    cases e:g1.own D with
    | none=>rfl
    | some o=>rcases hg1.mine D o e with q | q
              ·omega
              ·exact absurd q d3
   have hIm:¬ g1.Im D:=fun q=>by
    rcases hg1.imf D q with q | q | q
    ·omega
    ·exact d3 q
    ·exact d4 q
   have hD:w'.heap[D]?=some (.deferred (some [])):=(hg1.blk D d2 d3).trans d5
   obtain ⟨v,k1,k2⟩:=fin (w'.putObj D (.deferred none)) _ (hgΓ.putO (.deferred none) hown hIm d1)
   exact ⟨by simp,.inl ⟨D,_,rfl,run_takeDeferred hD,⟨v,k1,k2⟩⟩⟩
 rcases he with rfl | rfl
 ·exact hLeave
 ·exact hLeave
theorem ct_xX {C:CE} {num:Nat} {fn:Func} {c:Code} {s:Sig} {f:s.A.D→Option s.R.D} {lx:LX s.R.D} (hm:C.E.P.follows .mixedOrders=true) (hf:C.E.P.funcs[num]?=some fn) (hb:fn.body=some c) (hnt:C.nt=fn.ntmps)
  (hsig:∀ x,sigOk s fn C.hs x=true) (hok:Okx C lx c (kEnd C.E.P s fn C.hs)) (hev:∀ x,f x=evX C lx c (s.st0 x) [(1,some ⟨s.A,x⟩)] (kEnd C.E.P s fn C.hs)):CtX C.E.P num s f:=by
 intro v x r hx
 have hs:=hsig x
 simp only [sigOk,Bool.and_eq_true,List.all_eq_true] at hs
 obtain ⟨b1,b2,b3,b4,b5⟩:=hs
 have hnd:=nodup_spec b2
 refine ct_introX hf hb C.hs ?_ (fun k l hk=>?_) (fun k hk=>?_) fun Γ h1 hdf h2=>?_
 ·simp only [Sig.svs,List.length_map];exact Nat.le_of_ble_eq_true b3
 ·rw [Sig.o0,ofL_xO] at hk
  have hB:isBox (rsX (lenL (s.st0 x).O) (gt TR.fresh (s.st0 x).O k))=true:=by rw [hk];rfl
  obtain ⟨l',e⟩:=isBox_rsX hB
  rcases gt_fm (O:=(s.st0 x).O) (k:=k) with h | h
  ·rw [h] at e;cases e
  ·rw [e] at h
   exact memK_spec (b4 _ h)
 ·have:=b5 k hk
  rw [Sig.o0,ofL_xO]
  split at this
  ·rename_i l e;rw [e];exact ⟨_,rfl⟩
  ·cases this
 ·have hR:Rl [(1,some ⟨s.A,x⟩)] (s.st0 x) ⟨fun i=>(s.svs x).getD i (.a (.c .any)),ofL (s.o0 x)⟩:=st0_R b1
  have hx':evX C lx c (s.st0 x) [(1,some ⟨s.A,x⟩)] (kEnd C.E.P s fn C.hs)=some r:=by rw [← hev];exact hx
  intro m g a w hg
  refine wpIn_mono (evX_sound hm lx c _ _ _ r _ Γ (by rw [h1,hnt]) h2 hdf hok hx' hR m g a w hg) ?_
  rintro e a' w' ⟨Γ',σ',g',hle,⟨τ',ρ',σ1,q1,q2,q3⟩,hg'⟩
  have fin:(e=.normal∨e=.ret)→retK C.E.P s fn C.hs τ'=some r→∃ σ'',Sub Γ' σ' σ''∧(e=.normal∨e=.ret)∧Out C.E.P fn C.hs (s.res v r) (s.o1 v r) σ'':=by
   intro he hr
   obtain ⟨σ2,s1,s2⟩:=retK_spec (Γ:=Γ') hr q2 v
   exact ⟨σ2,q1.trans s1,he,s2⟩
  refine ⟨Γ',σ',g',hle,?_,hg'⟩
  cases e with
  | normal=>exact fin (.inl rfl) q3
  | ret=>exact fin (.inr rfl) q3
  | _=>cases q3
end Go.XM
end
section
namespace Go.XM
open Go.RowKit
def backMk (S cl Y1 Y2:TypeId):Code:=((Code.region 0 #[{ dst:=some 1,op:=Op.box S (Operand.tmp 0),type:=0,pos:="iter.go:26",after:=#[],guard:=none },{ dst:=some 2,op:=Op.assign (Operand.const Value.nilFunc),type:=Y1,pos:="iter.go:26",after:=#[],guard:=none }] false).seq ((Code.region 1 #[{ dst:=some 3,op:=Op.makeFunc (Fn.func cl) #[] #[Operand.tmp 1],type:=Y2,pos:="iter.go:27",after:=#[],guard:=none },{ dst:=some 2,op:=Op.assign (Operand.tmp 3),type:=Y1,pos:="iter.go:27",after:=#[{ on:=0,ground:=Ground.data },{ on:=0,ground:=Ground.phase }],guard:=none }] false).seq Code.ret))
theorem op_valW {F:Fence} {n:Nat} {P:Program} {ops:Array Oper} {Q:Exit→Act→World→Prop} {a:Act} {w w':World} {rest:List Oper} {o:Oper} {d:Nat} {v:Value} (hF:∀ f,F.fn f) (hg:o.guard=none) (hd:o.dst=some d) (he:(execOp a.eval o).run P w=.ok (.value v) w') (h:wpListIn F n P ops Q rest (a.put (some d) v) w'):wpListIn F n P ops Q (o::rest) a w :=
 wpListIn_plain hg fun K hK=>⟨fun f _=>hF f,by rw [semAt_val he (by simp),Oper.uponIn_value,hd];exact hK _ _ h⟩
theorem back_ct {P:Program} {num cl S Y1 Y2:Nat} {fn:Func} (hf:P.funcs[num]?=some fn) (hb:fn.body=some (backMk S cl Y1 Y2)) (hnt:fn.ntmps=4) (hres:fn.results=#[.tmp 2]) (x:SP) :
  Ct P num [.a (.c (.p x))] (ofL []) (.a (.fn cl [.bx 0 0])) (ofL [(0,.box [.p x])]):=by
 intro w g vals hp hsz hv
 obtain ⟨vl⟩:=vals
 cases vl with
 | nil=>simp at hsz
 | cons u vl=>cases vl with
  | cons=>simp at hsz
  | nil =>
   have hu:spR w g.Im x u:=hv 0 _ rfl
   have h1:u.oneCell'=true:=hu.one
   have hc:u.cells=#[u]:=by cases u <;> first | rfl | simp [Value.oneCell'] at h1
   rw [← callsIn_wide (n:=0)]
   refine callsIn_of_wp hf hb trivial ?_
   generalize ha0:({ tmps:=(⟨[u]⟩:Array Value)++Array.replicate (fn.ntmps-(⟨[u]⟩:Array Value).size) undef,defers:=[] }:Act)=a0
   have s0:a0.tmps.size=4:=by subst ha0;simp [hnt]
   have d0:a0.defers=[]:=by subst ha0;rfl
   have e0:a0.eval (.tmp 0)=u:=by subst ha0;simp [Act.eval,Array.getElem?_append]
   clear ha0
   unfold backMk
   refine wpIn_seq (wpIn_region_list ?_)
   refine op_valW (fun _=>trivial) rfl rfl (v:=.pointer (some ⟨w.heap.size,0,none⟩)) (w':=w.alloc (.cells #[u] S)) (by simp [execOp,Instr.box,newVar,newRow,e0,hc]) ?_
   generalize ha1:a0.put (some 1) (.pointer (some ⟨w.heap.size,0,none⟩))=a1
   have s1:a1.tmps.size=4:=by subst ha1;simp [Act.put,s0]
   have d1:a1.defers=[]:=by subst ha1;exact d0
   have e1:a1.eval (.tmp 1)=.pointer (some ⟨w.heap.size,0,none⟩):=by subst ha1;exact eval_put_same (by omega)
   clear ha1
   refine op_valW (fun _=>trivial) rfl rfl (exec_mv (.inr rfl) rfl _) (wpListIn_nil ?_)
   have e2:(a1.put (some 2) (a1.eval (.const .nilFunc))).eval (.tmp 1)=.pointer (some ⟨w.heap.size,0,none⟩):=by rw [eval_put_ne (by decide)];exact e1
   have s2:(a1.put (some 2) (a1.eval (.const .nilFunc))).tmps.size=4:=by simp [Act.put,s1]
   have d2:(a1.put (some 2) (a1.eval (.const .nilFunc))).defers=[]:=d1
   generalize a1.put (some 2) (a1.eval (.const .nilFunc))=a2 at e2 s2 d2
   refine wpIn_seq (wpIn_region_list ?_)
   refine op_valW (fun _=>trivial) rfl rfl (v:=.func (.func cl) #[] #[.pointer (some ⟨w.heap.size,0,none⟩)]) (w':=w.alloc (.cells #[u] S)) (by simp [execOp,Instr.makeFunc,e2]) ?_
   generalize ha3:a2.put (some 3) (.func (.func cl) #[] #[.pointer (some ⟨w.heap.size,0,none⟩)])=a3
   have s3:a3.tmps.size=4:=by subst ha3;simp [Act.put,s2]
   have d3:a3.defers=[]:=by subst ha3;exact d2
   have e3:a3.eval (.tmp 3)=.func (.func cl) #[] #[.pointer (some ⟨w.heap.size,0,none⟩)]:=by subst ha3;exact eval_put_same (by omega)
   clear ha3
   refine op_valW (fun _=>trivial) rfl rfl (exec_mv (.inr rfl) e3 _) (wpListIn_nil (wpIn_ret ?_))
   have e4:(a3.put (some 2) (.func (.func cl) #[] #[.pointer (some ⟨w.heap.size,0,none⟩)])).eval (.tmp 2)=.func (.func cl) #[] #[.pointer (some ⟨w.heap.size,0,none⟩)]:=eval_put_same (by omega)
   have hold:∀ b,b<w.heap.size→(w.alloc (.cells #[u] S)).heap[b]?=w.heap[b]?:=fun b hb=>Below.heap_alloc _ _ _ hb
   refine ⟨d3,_,results_tmp hres _ _ _,_,{ β:=fun k=>if k=0 then some w.heap.size else none,own:=fun b=>if b=w.heap.size then some (.root 0) else g.own b,Im:=g.Im },rfl,?_,⟨fun r=>?_,fun b hb=>?_,fun b o ho=>?_⟩,⟨rfl,rfl,rfl,by simp,fun b hb _=>hold b hb,fun b o ho=>?_,fun b hb=>.inl hb⟩,fun k l l' h _=>by cases (show RS.fresh=.box l from h)⟩
   ·refine ⟨_,e4,rfl,fun j cv hj=>?_⟩
    cases j with
    | zero=>cases hj;exact ⟨_,rfl,⟨_,rfl,rfl⟩⟩
    | succ j=>cases hj
   ·by_cases er:r=0
    ·subst er
     refine ⟨w.heap.size,#[u],rfl,by simp,Blk.new w #[u] S,rfl,fun j cv hj=>?_⟩
     cases j with
     | zero=>cases hj;exact ⟨u,rfl,h1,hu.mono fun b hb=>⟨hb,hold b (hp.im b hb).1⟩⟩
     | succ j=>cases hj
    ·have:ofL [(0,RS.box [CV.p x])] r=.fresh:=by simp [ofL,upd,er]
     rw [this];trivial
   ·have:=hp.im b hb
    refine ⟨by simp;omega,?_⟩
    show (if b=w.heap.size then _ else g.own b)=none
    rw [if_neg (by omega)];exact this.2
   ·have ho:(if b=w.heap.size then some (Owner.root 0) else g.own b)=some o:=ho
    split at ho
    ·rename_i e;subst e;simp
    ·have:=hp.lt b o ho;simp;omega
   ·have ho:(if b=w.heap.size then some (Owner.root 0) else g.own b)=some o:=ho
    split at ho
    ·rename_i e;subst e;exact .inl (Nat.le_refl _)
    ·exact .inr ⟨o,ho⟩
end Go.XM
end
section
namespace Go.XM
open Go.RowKit
def mkBX {P:Program} (num cl S E Y1 Y2 Y:Nat) {f1 f2:Func} (h1:P.funcs[num]?=some f1) (h2:f1.body=some (backMk S cl Y1 Y2)) (h3:f1.ntmps=4) (h4:f1.results=#[.tmp 2])
  (h5:P.funcs[cl]?=some f2) (h6:f2.body=some (backBody S E Y)) (h7:f2.ntmps=19) (h8:f2.results=#[]) (h9:fnOk P cl=true) (hE:elT P S=some E) (hS:hasT P S=true) (ha:isAg P S=false):BX P :=
 ⟨num,cl,S,E,back_ct h1 h2 h3 h4,f2,Y,h5,h6,h7,h8,h9,hE,hS,ha⟩
section
variable {R:Type} {C:CE}
theorem okx_old {c:Code} {l:LT R} {k:KE R} (h:Okc C c l k):Okx C (.old l) c k:=h
theorem okx_seqL {a b:Code} {la:LX R} {lb:LT R} {k:KE R} (h1:Okx C la a (kSeq (fun τ ρ=>ev C b lb τ ρ k) k)) (h2:Okc C b lb k):Okx C (.seqL la lb) (.seq a b) k:=⟨h1,h2⟩
theorem okx_seqR {a b:Code} {la:LT R} {lb:LX R} {k:KE R} (h1:Okc C a la (kSeq (fun τ ρ=>evX C lb b τ ρ k) k)) (h2:Okx C lb b k):Okx C (.seqR la lb) (.seq a b) k:=⟨h1,h2⟩
theorem okx_blk {id:Nat} {c:Code} {l:LX R} {k:KE R} (h:Okx C l c (kBlk id k)):Okx C (.blk l) (.block id c) k:=h
theorem okx_range {num p q:Nat} {M:Tm} {t:Ty} {fn:List t.D→M.caps.D→M.pars.D→Option R} {la lb:List t.D→LT R} {x:Operand} {as b:Code} {k:KE R} (h1:∀ c r,fn [] c r=k .normal (M.st (M.env c r)) (M.env c r))
  (h2:∀ x l,(∀ c r,fn (x::l) c r=roundX C num M t p q as b (fn l) (la l) (lb l) k x c r)∧∀ c r,Okc (C.rng M) as (la l) (asK fun τ ρ=>ev (C.rng M) b (lb l) τ ρ (rngK C M c r (fn l) k))∧Okc (C.rng M) b (lb l) (rngK C M c r (fn l) k)) :
  Okx C (.range num M t fn la lb) (.rangeFunc x ⟨[p,q]⟩ as b) k:=⟨h1,h2⟩
end
end Go.XM
end
