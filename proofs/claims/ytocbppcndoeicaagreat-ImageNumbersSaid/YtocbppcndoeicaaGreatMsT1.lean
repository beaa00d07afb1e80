import Derived.Test.YtocbppcndoeicaaGreatMsT0
set_option linter.all false
section
namespace Go.XM
open Go.RowKit
theorem pCells_len (v base:Nat):∀ (L:List TD) (c:Nat) (ms:List Md),(pCells v base c L ms).1.length=L.length
 | [],_,_=>rfl
 | y::L,c,ms=>by simp [pCells,pCells_len v base L]
theorem pCells_app (v base:Nat):∀ (L1 L2:List TD) (c:Nat) (ms:List Md),pCells v base c (L1++L2) ms =
  ((pCells v base c L1 ms).1++(pCells v base (c+L1.length) L2 (ms.drop L1.length)).1,(pCells v base c L1 ms).2++(pCells v base (c+L1.length) L2 (ms.drop L1.length)).2)
 | [],L2,c,ms=>by simp [pCells]
 | y::L1,L2,c,ms=>by
  have h:ms.tail.drop L1.length=ms.drop (L1.length+1):=by cases ms <;> simp
  simp only [List.cons_append,pCells,List.length_cons,pCells_app v base L1 L2 (c+1),h,List.append_assoc]
  rw [show c+1+L1.length=c+(L1.length+1) by omega]
theorem lvs_tys:∀ (t:Ty) (x:t.D),(t.lvs x).map (·.1)=t.ltys
 | .int _,_=>rfl
 | .bool,_=>rfl
 | .str,_=>rfl
 | .un,_=>rfl
 | .sl _,_=>rfl
 | .pr a b,x=>by simp [Ty.lvs,Ty.ltys,lvs_tys a,lvs_tys b]
theorem lenL_mem {O:List (Nat × TR)} {k n:Nat} {R:TR} (hn:(O.map (·.1)).Nodup) (h:(k,R)∈O) (hl:R.len=some n):lenL O k=n:=by
 simp only [lenL,gt_mem hn h,hl,Option.getD_some]
theorem ofL_xO {O:List (Nat × TR)} (k:Nat):ofL (xO O) k=rsX (lenL O) (gt .fresh O k):=by
 show upd (xO O) (fun _=>.fresh) k=_
 rw [gt_upd]
 exact gt_map (rsX (lenL O)) (d:=.fresh) O k
theorem lfC_rows {v c nm:Nat} {m:Md} {y:TD}:∀ x∈(lfC v c nm m y).2,x.1=nm∧∃ n,x.2.len=some n∧(lfC v c nm m y).1=.vf nm:=by
 intro x hx
 unfold lfC at hx ⊢
 split at hx
 ·obtain rfl:=List.mem_singleton.1 hx;exact ⟨rfl,_,rfl,rfl⟩
 ·obtain rfl:=List.mem_singleton.1 hx;exact ⟨rfl,_,rfl,rfl⟩
 ·simp at hx
 ·simp at hx
 ·simp at hx
section
variable {ρ:Env} {τ:TS}
structure Sur (σ:St) (m1:Nm) (lent:List Nat) (n0:Nat→Nat) (O:List (Nat × TR)) (m':Nm) (z:List Nat) (rows:List (Nat × TR)):Prop where
 m:∀ x∈m',look m1 x.1=some x.2
 z:∀ r∈z,lent.elem r=true
 r:∀ x∈rows,x∈O∧∀ n,x.2.len=some n→n0 x.1=n
theorem apM_some {a b:AM} {L:List TD} {m:Nm} {z:List Nat} (h:apM a b=some (L,m,z)):∃ L1 m1 z1 L2 m2 z2,a=some (L1,m1,z1)∧b=some (L2,m2,z2)∧L=L1++L2∧m=m1++m2∧z=z1++z2:=by
 cases a with
 | none=>cases h
 | some a=>cases b with
  | none=>cases h
  | some b =>
   simp only [apM,Option.some.injEq,Prod.mk.injEq] at h
   obtain ⟨rfl,rfl,rfl⟩:=h
   exact ⟨_,_,_,_,_,_,rfl,rfl,rfl,rfl,rfl⟩
theorem amC_spec {σ:St} (hR:Rl ρ τ σ) {m1:Nm} {lent:List Nat} {n0:Nat→Nat} {O:List (Nat × TR)} {nm v c:Nat} {ex:Bool} {m:Md} {y:TC} {L:List TD} {m':Nm} {z:List Nat} (h:amC τ nm ex m y=some (L,m',z)) :
  ∃ y0,L=[y0]∧(Sur σ m1 lent n0 O m' z (lfC v c nm m y0).2→∀ {cc:CV},cR ρ τ.o y cc →
   amCV m1 lent σ.O (cvX n0 (lfC v c nm m y0).1) cc∧(ex=true→trCV m1 (cvX n0 (lfC v c nm m y0).1)=some cc)) ∧
   (∀ x∈m',x.1=nm∧∃ R t own xs g,(lfC v c nm m y0).2=[(nm,R)]∧(∀ n1,rsX n1 R=σ.O x.2)∧τ.o x.2=.row t own xs g):=by
 have hrow:∀ {r:Nat} {t:Ty} {own:Bool} {xs:List t.D} {g:Tag},τ.o r=.row t own xs g→σ.O r=.row t.sz (rowR own t xs):=by
  intro r t own xs g hr;have:=hR.O r;rw [hr] at this;exact this.1
 unfold amC at h
 split at h
 ·rename_i t x g
  split at h
  ·split at h
   ·rename_i hl
    cases h
    refine ⟨⟨t,x⟩,rfl,fun _ cc hc=>?_,by simp⟩
    obtain ⟨rfl,_⟩:=hc
    exact ⟨amCV_p _,fun _=>rfl⟩
   ·cases h
  ·split at h
   ·rename_i hl
    cases h
    refine ⟨⟨t,x⟩,rfl,fun _ cc hc=>?_,by simp⟩
    obtain ⟨rfl,_⟩:=hc
    have:(lfC v c nm m ⟨t,x⟩).1=.p t x (v,c):=by unfold lfC;cases t <;> first | (cases m <;> rfl) | cases hl
    rw [this]
    exact ⟨amCV_p _,fun _=>rfl⟩
   ·cases h
 ·rename_i b
  cases h
  refine ⟨⟨.bool,b⟩,rfl,fun _ cc hc=>?_,by simp⟩
  cases hc
  have:(lfC v c nm m ⟨.bool,b⟩).1=.p .bool b (v,c):=by unfold lfC;cases m <;> rfl
  rw [this]
  exact ⟨amCV_p _,fun _=>rfl⟩
 ·rename_i t
  split at h
  ·cases h
   refine ⟨⟨.sl t,[]⟩,rfl,fun _ cc hc=>?_,by simp⟩
   cases hc
   exact ⟨rfl,by simp⟩
  ·cases h
   refine ⟨⟨.sl t,[]⟩,rfl,fun _ cc hc=>?_,by simp⟩
   cases hc
   exact ⟨rfl,by simp⟩
  ·cases h
 ·rename_i r
  split at h
  ·rename_i t own xs g hr
   have hO:=hrow hr
   have hlen:(τ.o r).len=some xs.length:=by rw [hr];rfl
   split at h
   ·split at h
    ·cases h
     refine ⟨⟨.sl t,xs⟩,rfl,fun hS cc hc=>?_,by simp⟩
     rw [cR_vf hlen] at hc
     subst hc
     refine ⟨⟨hS.z r (by simp),?_⟩,by simp⟩
     rw [hO]
     refine ⟨rfl,?_⟩
     rw [List.drop_zero,rowR_take,List.take_length,rowR_frc]
    ·cases h
   ·split at h
    ·rename_i ho
     cases h
     have ho:=eq_of_beq ho
     subst ho
     refine ⟨⟨.sl t,xs⟩,rfl,fun hS cc hc=>?_,fun x hx=>?_⟩
     ·rw [cR_vf hlen] at hc
      subst hc
      have h1:=(hS.r (nm,.row t t.nsd xs (v,c)) (by simp [lfC])).2 xs.length rfl
      have h2:=hS.m (nm,r) (by simp)
      simp only [lfC,cvX,amCV,trCV,h1,h2,Option.map_some]
      exact ⟨trivial,fun _=>trivial⟩
     ·obtain rfl:=List.mem_singleton.1 hx
      exact ⟨rfl,_,t,t.nsd,xs,g,rfl,fun n1=>hO.symm,hr⟩
    ·cases h
   ·split at h
    ·cases h
     refine ⟨⟨.sl t,xs⟩,rfl,fun hS cc hc=>?_,fun x hx=>?_⟩
     ·rw [cR_vf hlen] at hc
      subst hc
      have h1:=(hS.r (nm,.row t false xs (v,c)) (by simp [lfC])).2 xs.length rfl
      have h2:=hS.m (nm,r) (by simp)
      simp only [lfC,cvX,amCV,trCV,h1,h2,Option.map_some]
      exact ⟨trivial,fun _=>trivial⟩
     ·obtain rfl:=List.mem_singleton.1 hx
      exact ⟨rfl,_,t,false,xs,g,rfl,fun n1=>hO.symm,hr⟩
    ·cases h
   ·cases h
   ·cases h
  ·cases h
 ·rename_i k x
  split at h
  ·cases h
   refine ⟨⟨.sl (.int k),[x]⟩,rfl,fun _ cc hc=>?_,by simp⟩
   cases hc
   exact ⟨rfl,fun e=>by cases e⟩
  ·cases h
 ·rename_i r e n
  split at h
  ·split at h
   ·rename_i t own xs g hr
    cases h
    have hO:=hrow hr
    have hlen:(τ.o r).len=some xs.length:=by rw [hr];rfl
    refine ⟨⟨.sl t,(List.drop e xs).take n⟩,rfl,fun hS cc hc=>?_,by simp⟩
    rw [cR_vw hlen] at hc
    obtain ⟨rfl,_⟩:=hc
    refine ⟨⟨hS.z r (by simp),?_⟩,by simp⟩
    rw [hO]
    refine ⟨rfl,?_⟩
    rw [rowR_drop,rowR_take,rowR_frc]
   ·cases h
  ·cases h
 ·cases h
theorem Sur.l {σ:St} {m1:Nm} {lent:List Nat} {n0:Nat→Nat} {O:List (Nat × TR)} {m' m2:Nm} {z z2:List Nat} {rows rows2:List (Nat × TR)} (h:Sur σ m1 lent n0 O (m'++m2) (z++z2) (rows++rows2)):Sur σ m1 lent n0 O m' z rows :=
 ⟨fun x hx=>h.m x (List.mem_append_left _ hx),fun x hx=>h.z x (List.mem_append_left _ hx),fun x hx=>h.r x (List.mem_append_left _ hx)⟩
theorem Sur.r' {σ:St} {m1:Nm} {lent:List Nat} {n0:Nat→Nat} {O:List (Nat × TR)} {m' m2:Nm} {z z2:List Nat} {rows rows2:List (Nat × TR)} (h:Sur σ m1 lent n0 O (m'++m2) (z++z2) (rows++rows2)):Sur σ m1 lent n0 O m2 z2 rows2 :=
 ⟨fun x hx=>h.m x (List.mem_append_right _ hx),fun x hx=>h.z x (List.mem_append_right _ hx),fun x hx=>h.r x (List.mem_append_right _ hx)⟩
theorem amLs_spec {σ:St} (hR:Rl ρ τ σ) {m1:Nm} {lent:List Nat} {n0:Nat→Nat} {O:List (Nat × TR)} {v base:Nat} {ex:Bool}:∀ {ys:List TC} {c:Nat} {ms:List Md} {L:List TD} {m':Nm} {z:List Nat},amLs τ base ex c ms ys=some (L,m',z) →
  L.length=ys.length∧(Sur σ m1 lent n0 O m' z (pCells v base c L ms).2→∀ {cs:List CV},All2 (cR ρ τ.o) ys cs →
   amL m1 lent σ.O ((pCells v base c L ms).1.map (cvX n0)) cs∧(ex=true→trL m1 ((pCells v base c L ms).1.map (cvX n0))=some cs)) ∧
   (∀ x∈m',∃ R t own xs g,(x.1,R)∈(pCells v base c L ms).2∧R.len.isSome=true∧(∀ n1,rsX n1 R=σ.O x.2)∧τ.o x.2=.row t own xs g)
 | [],c,ms,L,m',z,h=>by
  simp only [amLs,Option.some.injEq,Prod.mk.injEq] at h
  obtain ⟨rfl,rfl,rfl⟩:=h
  exact ⟨rfl,fun _ cs hc=>by cases cs <;> first | exact ⟨trivial,fun _=>rfl⟩ | exact hc.elim,by simp⟩
 | y::ys,c,ms,L,m',z,h=>by
  obtain ⟨L1,p1,z1,L2,p2,z2,e1,e2,rfl,rfl,rfl⟩:=apM_some (show apM _ _=_ from h)
  obtain ⟨y0,rfl,k1,k2⟩:=amC_spec (v:=v) (c:=c) (m1:=m1) (lent:=lent) (n0:=n0) (O:=O) hR e1
  obtain ⟨i1,i2,i3⟩:=amLs_spec (v:=v) (m1:=m1) (lent:=lent) (n0:=n0) (O:=O) hR e2
  refine ⟨by simp [i1],fun hS cs hc=>?_,fun x hx=>?_⟩
  ·cases cs with
   | nil=>exact hc.elim
   | cons c0 cs =>
    have hS':Sur σ m1 lent n0 O (p1++p2) (z1++z2) ((lfC v c (base+c) (ms.headD .s) y0).2++(pCells v base (c+1) L2 ms.tail).2):=hS
    obtain ⟨a1,a2⟩:=k1 hS'.l hc.1
    obtain ⟨b1,b2⟩:=i2 hS'.r' hc.2
    refine ⟨⟨a1,b1⟩,fun hx=>?_⟩
    show trL m1 (cvX n0 (lfC v c (base+c) (ms.headD .s) y0).1::((pCells v base (c+1) L2 ms.tail).1.map (cvX n0)))=_
    simp only [trL,a2 hx,b2 hx]
  ·rcases List.mem_append.1 hx with hx | hx
   ·obtain ⟨q1,R,t,own,xs,g,q2,q3,q4⟩:=k2 x hx
    refine ⟨R,t,own,xs,g,?_,?_,q3,q4⟩
    ·show (x.1,R)∈(lfC v c (base+c) (ms.headD .s) y0).2++_
     rw [q2,q1];exact List.mem_append_left _ List.mem_cons_self
    ·obtain ⟨_,n,hn,_⟩:=lfC_rows (base+c,R) (by rw [q2];exact List.mem_cons_self:(base+c,R)∈(lfC v c (base+c) (ms.headD .s) y0).2)
     rw [hn];rfl
   ·obtain ⟨R,t,own,xs,g,q1,q2⟩:=i3 x hx
    exact ⟨R,t,own,xs,g,List.mem_append_right _ q1,q2⟩
def HandOk (σ:St) (τ:TS) (m1:Nm) (n0:Nat→Nat) (O:List (Nat × TR)) (x:Nat × Nat):Prop :=
 ∃ R,(x.1,R)∈O∧trRS m1 (rsX n0 R)=some (σ.O x.2)∧((∃ l l',R=.box l∧τ.o x.2=.box l')∨(∃ t own xs g,τ.o x.2=.row t own xs g)∧R.len.isSome=true)
theorem HandOk.mem {σ:St} {m1:Nm} {n0:Nat→Nat} {O O':List (Nat × TR)} {x:Nat × Nat} (h:HandOk σ τ m1 n0 O x) (k:∀ y∈O,y∈O'):HandOk σ τ m1 n0 O' x:=let ⟨R,h1,h2⟩:=h;⟨R,k _ h1,h2⟩
theorem amBx_spec {σ:St} (hR:Rl ρ τ σ) {m1:Nm} {lent:List Nat} {n0:Nat→Nat} {O:List (Nat × TR)} {v base c i n:Nat} {ms:List Md} {y:TC} {L:List TD} {m':Nm} {z:List Nat} (h:amBx τ base c ms i n y=some (L,m',z)) (hS:Sur σ m1 lent n0 O m' z (pCells v base c L ms).2) :
  L.length=n∧∃ r,y=.bx r 0∧look m1 i=some r∧(∀ c0,cR ρ τ.o y c0→c0=.bx r 0)∧∀ x∈m',∀ O',(∀ q∈(pCells v base c L ms).2,q∈O')→(i,TR.box (pCells v base c L ms).1)∈O'→HandOk σ τ m1 n0 O' x:=by
 unfold amBx at h
 split at h
 ·rename_i r
  split at h
  ·rename_i lb hbx
   split at h
   ·rename_i hn
    have hn:=Nat.eq_of_beq_eq_true hn
    obtain ⟨L1',p1',z1',L3,p3,z3,f1,f2,rfl,rfl,rfl⟩:=apM_some h
    simp only [Option.some.injEq,Prod.mk.injEq] at f2
    obtain ⟨rfl,rfl,rfl⟩:=f2
    simp only [List.append_nil] at *
    obtain ⟨i1,i2,i3⟩:=amLs_spec (v:=v) (m1:=m1) (lent:=lent) (n0:=n0) (O:=O) hR f1
    have hS1':Sur σ m1 lent n0 O p1' z1' (pCells v base c L1' ms).2:=⟨fun x hx=>hS.m x (List.mem_append_left _ hx),hS.z,hS.r⟩
    obtain ⟨mb,g1,g2⟩:=box_at hR hbx
    obtain ⟨a1,a2⟩:=i2 hS1' g2
    refine ⟨by rw [i1,hn],r,rfl,hS.m (i,r) (List.mem_append_right _ List.mem_cons_self),fun c0 hc=>?_,fun x hx O' h1 h2=>?_⟩
    ·simp only [cR,hbx] at hc;exact hc
    ·rcases List.mem_append.1 hx with hx | hx
     ·obtain ⟨R,t',own,xs,g,r1,r2,r3,r4⟩:=i3 x hx
      refine ⟨R,h1 _ r1,?_,.inr ⟨⟨t',own,xs,g,r4⟩,r2⟩⟩
      rw [r3]
      have:=hR.O x.2
      rw [r4] at this
      rw [this.1];rfl
     ·obtain rfl:=List.mem_singleton.1 hx
      refine ⟨_,h2,?_,.inl ⟨_,_,rfl,hbx⟩⟩
      show (trL m1 ((pCells v base c L1' ms).1.map (cvX n0))).map RS.box=_
      rw [a2 rfl,g1];rfl
   ·cases h
  ·cases h
 ·cases h
theorem ofL_lvs:∀ (t:Ty) (x:t.D) (L:List TD),t.ofL (t.lvs x++L)=some (x,L)
 | .int k,x,L=>by simp [Ty.ofL,Ty.lvs,one,cast?]
 | .bool,x,L=>by simp [Ty.ofL,Ty.lvs,one,cast?]
 | .str,x,L=>by simp [Ty.ofL,Ty.lvs,one,cast?]
 | .un,x,L=>rfl
 | .sl t,x,L=>by simp [Ty.ofL,Ty.lvs,one,cast?]
 | .pr a b,x,L=>by
  simp only [Ty.ofL,Ty.lvs,List.append_assoc]
  rw [ofL_lvs a]
  simp only []
  rw [ofL_lvs b]
theorem tdsOf_pCells {v base:Nat}:∀ (L:List TD) (c:Nat) (ms:List Md),allS L.length ms=true→tdsOf (pCells v base c L ms).1=some L
 | [],_,_,_=>rfl
 | y::L,c,ms,h=>by
  have h':(match ms.headD .s with | .s=>allS L.length ms.tail | _=>false)=true:=h
  split at h'
  ·rename_i e
   show tdsOf ((lfC v c (base+c) (ms.headD .s) y).1::(pCells v base (c+1) L ms.tail).1)=_
   rw [e]
   show tdsOf (.p y.1 y.2 (v,c)::_)=_
   simp only [tdsOf]
   rw [tdsOf_pCells L (c+1) ms.tail h']
  ·cases h'
theorem amPs_spec {σ:St} (hR:Rl ρ τ σ) {m1:Nm} {lent:List Nat} {n0:Nat→Nat} {O:List (Nat × TR)} {v base:Nat}:∀ {ps:List (Kd × Ty)} {c i:Nat} {ms:List Md} {pd:List TC} {vs:List TV} {L:List TD} {m':Nm} {z:List Nat},amPs τ base c ms i pd ps vs=some (L,m',z) →
  Sur σ m1 lent n0 O m' z (pCells v base c L ms).2→∀ {l:List SV},All2 (vR ρ τ.o) vs l →
   amS m1 lent σ.O ((wrapP i ps (pCells v base c L ms).1).1.map (svX n0)) l∧(∀ x∈m',HandOk σ τ m1 n0 ((pCells v base c L ms).2++(wrapP i ps (pCells v base c L ms).1).2) x) ∧
   ∀ cl,All2 (cR ρ τ.o) pd cl→trL m1 ((fnB i pd.length).map (cvX n0))=some cl
 | [],c,i,ms,pd,vs,L,m',z,h,hS,l,hl=>by
  cases pd with
  | cons=>cases h
  | nil =>
  cases vs with
  | nil =>
   simp only [amPs,Option.some.injEq,Prod.mk.injEq] at h
   obtain ⟨rfl,rfl,rfl⟩:=h
   cases l with
   | nil=>exact ⟨trivial,by simp,fun cl hc=>by cases cl <;> first | rfl | exact hc.elim⟩
   | cons=>exact hl.elim
  | cons=>cases h
 | (k,t)::ps,c,i,ms,pd,vs,L,m',z,h,hS,l,hl=>by
  have hsplit:∀ {L1 L2:List TD},L1.length=t.sz→(pCells v base c (L1++L2) ms).1.take t.sz=(pCells v base c L1 ms).1∧(pCells v base c (L1++L2) ms).1.drop t.sz=(pCells v base (c+t.sz) L2 (ms.drop t.sz)).1 ∧
    (pCells v base c (L1++L2) ms).2=(pCells v base c L1 ms).2++(pCells v base (c+t.sz) L2 (ms.drop t.sz)).2:=by
   intro L1 L2 hl1
   rw [pCells_app,hl1]
   have hlen:(pCells v base c L1 ms).1.length=t.sz:=by rw [pCells_len,hl1]
   refine ⟨?_,?_,rfl⟩
   ·rw [← hlen,List.take_left]
   ·rw [← hlen,List.drop_left]
  cases pd with
  | cons y pd =>
   cases k with
   | hid =>
    obtain ⟨L1,p1,z1,L2,p2,z2,e1,e2,rfl,rfl,rfl⟩:=apM_some (show apM _ _=_ from h)
    have hl1:L1.length=t.sz:=by
     unfold amBx at e1
     split at e1
     ·split at e1
      ·split at e1
       ·rename_i hn
        obtain ⟨L1',p1',z1',L3,p3,z3,f1,f2,rfl,rfl,rfl⟩:=apM_some e1
        simp only [Option.some.injEq,Prod.mk.injEq] at f2
        obtain ⟨rfl,rfl,rfl⟩:=f2
        rw [List.append_nil,(amLs_spec (v:=v) (m1:=m1) (lent:=lent) (n0:=n0) (O:=O) hR f1).1]
        exact Nat.eq_of_beq_eq_true hn
       ·cases e1
      ·cases e1
     ·cases e1
    obtain ⟨q1,q2,q3⟩:=hsplit (L2:=L2) hl1
    have hS1:=hS
    rw [q3] at hS1
    obtain ⟨_,r,rfl,hlk,hc0,hh⟩:=amBx_spec (v:=v) hR e1 hS1.l
    obtain ⟨r1,r2,r3⟩:=amPs_spec hR e2 hS1.r' hl
    refine ⟨?_,fun x hx=>?_,fun cl hc=>?_⟩
    ·show amS m1 lent σ.O ((wrapP (i+1) ps ((pCells v base c (L1++L2) ms).1.drop t.sz)).1.map (svX n0)) l
     rw [q2];exact r1
    ·show HandOk σ τ m1 n0 ((pCells v base c (L1++L2) ms).2++((i,.box ((pCells v base c (L1++L2) ms).1.take t.sz))::(wrapP (i+1) ps ((pCells v base c (L1++L2) ms).1.drop t.sz)).2)) x
     rw [q1,q2,q3]
     rcases List.mem_append.1 hx with hx | hx
     ·exact hh x hx _ (fun q hq=>List.mem_append_left _ (List.mem_append_left _ hq)) (List.mem_append_right _ List.mem_cons_self)
     ·exact (r2 x hx).mem fun y hy=>by
       rcases List.mem_append.1 hy with hy | hy
       ·exact List.mem_append_left _ (List.mem_append_right _ hy)
       ·exact List.mem_append_right _ (List.mem_cons_of_mem _ hy)
    ·cases cl with
     | nil=>exact hc.elim
     | cons c0 cl =>
      have e0:=hc0 c0 hc.1
      subst e0
      have:=r3 cl hc.2
      show trL m1 (cvX n0 (.bx i 0)::(fnB (i+1) pd.length).map (cvX n0))=_
      simp only [cvX,trL,trCV,hlk,Option.map_some,this]
   | _=>cases vs <;> cases h
  | nil =>
  have pdn:∀ cl,All2 (cR ρ τ.o) [] cl→trL m1 ((fnB i 0).map (cvX n0))=some cl:=fun cl hc=>by cases cl <;> first | rfl | exact hc.elim
  cases vs with
  | nil=>cases k <;> cases h
  | cons v0 vs =>
   cases l with
   | nil=>exact hl.elim
   | cons s0 l =>
   replace h:(match roArg k t (allS t.sz ms) v0 with
    | some L=>apM (some (L,[],[])) (amPs τ base (c+t.sz) (ms.drop t.sz) (i+1) [] ps vs)
    | none=>match fnArg k t v0 with
    | some l=>amPs τ base c ms (i+1) l ps vs
    | none=>apM (amP τ base c ms i k t.sz v0) (amPs τ base (c+t.sz) (ms.drop t.sz) (i+1) [] ps vs))=some (L,m',z):=by
    cases k <;> exact h
   split at h
   ·rename_i L1 hro
    obtain ⟨L1',p1,z1,L2,p2,z2,e1,e2,rfl,rfl,rfl⟩:=apM_some h
    simp only [Option.some.injEq,Prod.mk.injEq] at e1
    obtain ⟨rfl,rfl,rfl⟩:=e1
    have fin:∀ (x:t.D),L1=t.lvs x→allS t.sz ms=true→(∀ s:TV,(wrapP i ((k,t)::ps) (pCells v base c (L1++L2) ms).1).1=s::(wrapP (i+1) ps ((pCells v base c (L1++L2) ms).1.drop t.sz)).1 →
      (wrapP i ((k,t)::ps) (pCells v base c (L1++L2) ms).1).2=(wrapP (i+1) ps ((pCells v base c (L1++L2) ms).1.drop t.sz)).2→(iaOf t ((pCells v base c (L1++L2) ms).1.take t.sz)=.ia t x 0→amSV m1 lent σ.O (svX n0 s) s0) →
      amS m1 lent σ.O ((wrapP i ((k,t)::ps) (pCells v base c (L1++L2) ms).1).1.map (svX n0)) (s0::l)∧(∀ x∈[]++p2,HandOk σ τ m1 n0 ((pCells v base c (L1++L2) ms).2++(wrapP i ((k,t)::ps) (pCells v base c (L1++L2) ms).1).2) x) ∧
      ∀ cl,All2 (cR ρ τ.o) [] cl→trL m1 ((fnB i ([]:List TC).length).map (cvX n0))=some cl):=by
     intro x hx hs s hw1 hw2 ham
     have hl1:L1.length=t.sz:=by rw [hx];exact t.lvs_len x
     obtain ⟨q1,q2,q3⟩:=hsplit (L2:=L2) hl1
     have hS2:=hS
     rw [q3] at hS2
     obtain ⟨r1,r2,_⟩:=amPs_spec hR e2 hS2.r' hl.2
     have hia:iaOf t ((pCells v base c (L1++L2) ms).1.take t.sz)=.ia t x 0:=by
      rw [q1,hx]
      have:=tdsOf_pCells (v:=v) (base:=base) (t.lvs x) c ms (by rw [t.lvs_len];exact hs)
      have h2:=ofL_lvs t x []
      rw [List.append_nil] at h2
      simp only [iaOf,this,h2]
     rw [hw1,hw2,q2]
     refine ⟨⟨ham hia,r1⟩,fun y hy=>(r2 y hy).mem fun z hz=>?_,pdn⟩
     rw [q3]
     rcases List.mem_append.1 hz with hz | hz
     ·exact List.mem_append_left _ (List.mem_append_right _ hz)
     ·exact List.mem_append_right _ hz
    have hv:=hl.1
    unfold roArg at hro
    split at hro
    ·rename_i t' x
     split at hro
     ·split at hro
      ·rename_i hb
       simp only [Bool.and_eq_true,decide_eq_true_eq] at hb
       obtain ⟨rfl,hs⟩:=hb
       cases hro
       refine fin x rfl hs (.a (.c (iaOf t' ((pCells v base c (t'.lvs x++L2) ms).1.take t'.sz)))) rfl rfl fun e=>?_
       rw [e]
       cases s0 with
       | tup m=>exact hv.elim
       | a a0=>cases a0 with
        | c c0 =>
         have hv:c0=.ia (t'.enc x) 0:=hv
         subst hv
         rfl
        | agg m=>exact hv.elim
        | fn f m=>exact hv.elim
      ·cases hro
     ·cases hro
    ·rename_i f t' x
     split at hro
     ·split at hro
      ·rename_i f' hb
       simp only [Bool.and_eq_true,decide_eq_true_eq] at hb
       obtain ⟨hf,rfl,hs⟩:=hb
       have hf:=Nat.eq_of_beq_eq_true hf
       subst hf
       cases hro
       refine fin x rfl hs (.a (.fn f [iaOf t' ((pCells v base c (t'.lvs x++L2) ms).1.take t'.sz)])) rfl rfl fun e=>?_
       rw [e]
       cases s0 with
       | tup m=>exact hv.elim
       | a a0=>cases a0 with
        | fn f2 m =>
         have hv:f=f2∧All2 (cR ρ τ.o) [.ia t' x 0] m:=hv
         obtain ⟨hff,hv2⟩:=hv
         subst hff
         match m,hv2 with
         | [c0],hv2 =>
          have h0:c0=.ia (t'.enc x) 0:=hv2.1
          subst h0
          exact ⟨rfl,rfl⟩
         | [],hv2=>exact hv2.elim
         | _::_::_,hv2=>exact hv2.2.elim
        | c c0=>exact hv.elim
        | agg m=>exact hv.elim
      ·cases hro
     ·cases hro
    ·cases hro
   rename_i hro
   clear hro
   split at h
   ·rename_i lc hfa
    unfold fnArg at hfa
    split at hfa
    ·rename_i f l0
     split at hfa
     ·rename_i f' n
      split at hfa
      ·rename_i hb
       simp only [Bool.and_eq_true] at hb
       have hf:=Nat.eq_of_beq_eq_true hb.1
       have hn:=Nat.eq_of_beq_eq_true hb.2.1
       have ht:=Nat.eq_of_beq_eq_true hb.2.2
       subst hf
       simp only [Option.some.injEq] at hfa
       subst hfa
       obtain ⟨r1,r2,r3⟩:=amPs_spec hR h hS hl.2
       have hv:=hl.1
       refine ⟨⟨?_,?_⟩,?_,pdn⟩
       ·cases s0 with
        | tup m=>exact hv.elim
        | a a0=>cases a0 with
         | fn f2 m =>
          have hv:f=f2∧All2 (cR ρ τ.o) l0 m:=hv
          show f=f2∧trL m1 ((fnB (i+1) n).map (cvX n0))=some m
          rw [← hn]
          exact ⟨hv.1,r3 m hv.2⟩
         | _=>exact hv.elim
       ·show amS m1 lent σ.O ((wrapP (i+1) ps ((pCells v base c L ms).1.drop t.sz)).1.map (svX n0)) l
        rw [ht,List.drop_zero];exact r1
       ·show ∀ x∈m',HandOk σ τ m1 n0 ((pCells v base c L ms).2++(wrapP (i+1) ps ((pCells v base c L ms).1.drop t.sz)).2) x
        rw [ht,List.drop_zero];exact r2
      ·cases hfa
     ·cases hfa
    ·cases hfa
   ·rename_i hfa
    clear hfa
    obtain ⟨L1,p1,z1,L2,p2,z2,e1,e2,rfl,rfl,rfl⟩:=apM_some h
    have rest:L1.length=t.sz→amS m1 lent σ.O ((wrapP (i+1) ps ((pCells v base c (L1++L2) ms).1.drop t.sz)).1.map (svX n0)) l∧∀ x∈p2,HandOk σ τ m1 n0 ((pCells v base c (L1++L2) ms).2++(wrapP (i+1) ps ((pCells v base c (L1++L2) ms).1.drop t.sz)).2) x:=by
     intro hl1
     obtain ⟨q1,q2,q3⟩:=hsplit (L2:=L2) hl1
     have hS2:=hS
     rw [q3] at hS2
     obtain ⟨r1,r2,_⟩:=amPs_spec hR e2 hS2.r' hl.2
     rw [q2]
     refine ⟨r1,fun x hx=>(r2 x hx).mem fun y hy=>?_⟩
     rw [q3]
     rcases List.mem_append.1 hy with hy | hy
     ·exact List.mem_append_left _ (List.mem_append_right _ hy)
     ·exact List.mem_append_right _ hy
    have rowsOk:∀ {ys:List TC} {ex:Bool} {q1:Nm},amLs τ base ex c ms ys=some (L1,q1,z1)→L1.length=t.sz→∀ B,∀ x∈q1,HandOk σ τ m1 n0 ((pCells v base c (L1++L2) ms).2++B) x:=by
     intro ys ex q1 hq hl1 B x hx
     obtain ⟨_,_,i3⟩:=amLs_spec (v:=v) (m1:=m1) (lent:=lent) (n0:=n0) (O:=O) hR hq
     obtain ⟨R,t',own,xs,g,r1,r2,r3,r4⟩:=i3 x hx
     refine ⟨R,?_,?_,.inr ⟨⟨t',own,xs,g,r4⟩,r2⟩⟩
     ·rw [(hsplit (L2:=L2) hl1).2.2];exact List.mem_append_left _ (List.mem_append_left _ r1)
     ·rw [r3]
      have:=hR.O x.2
      rw [r4] at this
      rw [this.1];rfl
    have hv:=hl.1
    unfold amP at e1
    split at e1
    ·rename_i y
     split at e1
     ·split at e1
      ·rename_i hn
       have hn:=Nat.eq_of_beq_eq_true hn
       obtain ⟨i1,i2,i3⟩:=amLs_spec (v:=v) (m1:=m1) (lent:=lent) (n0:=n0) (O:=O) hR e1
       have hl1:L1.length=t.sz:=by rw [i1,hn];rfl
       obtain ⟨q1,q2,q3⟩:=hsplit (L2:=L2) hl1
       obtain ⟨r1,r2⟩:=rest hl1
       have hS1:=hS
       rw [q3] at hS1
       have hyn:y≠.any:=by
        rintro rfl
        obtain ⟨_,_,_,_,_,_,f1,_⟩:=apM_some (show apM _ _=_ from e1)
        cases f1
       have hs0:∃ c0,s0=cv c0∧cR ρ τ.o y c0:=by
        cases s0 with
        | a a0=>cases a0 with
         | c c0=>exact ⟨c0,rfl,hv⟩
         | agg m=>exfalso;cases y <;> first | exact hv | exact hyn rfl
         | fn f m=>exfalso;cases y <;> first | exact hv | exact hyn rfl
        | tup m=>exfalso;cases y <;> first | exact hv | exact hyn rfl
       obtain ⟨c0,rfl,hc0⟩:=hs0
       obtain ⟨a1,a2⟩:=i2 hS1.l (cs:=[c0]) ⟨hc0,trivial⟩
       refine ⟨⟨?_,r1⟩,fun x hx=>?_,pdn⟩
       ·show amAV m1 lent σ.O (avX n0 (.c ((pCells v base c (L1++L2) ms).1.headD .any))) (.c c0)
        have:(pCells v base c (L1++L2) ms).1.headD .any=(pCells v base c L1 ms).1.headD .any:=by
         rw [pCells_app]
         have:(pCells v base c L1 ms).1.length=1:=by rw [pCells_len,i1];rfl
         cases hh:(pCells v base c L1 ms).1 with
         | nil=>rw [hh] at this;cases this
         | cons=>rfl
        rw [this]
        have hone:(pCells v base c L1 ms).1.length=1:=by rw [pCells_len,i1];rfl
        cases hh:(pCells v base c L1 ms).1 with
        | nil=>rw [hh] at hone;cases hone
        | cons b l=>rw [hh] at a1;exact a1.1
       ·rcases List.mem_append.1 hx with hx | hx
        ·exact rowsOk e1 hl1 _ x hx
        ·exact r2 x hx
      ·cases e1
     ·have hl1:L1.length=t.sz:=by
       have e1':=e1
       unfold amBx at e1'
       split at e1'
       ·split at e1'
        ·split at e1'
         ·rename_i hn
          obtain ⟨L1',p1',z1',L3,p3,z3,f1,f2,rfl,rfl,rfl⟩:=apM_some e1'
          simp only [Option.some.injEq,Prod.mk.injEq] at f2
          obtain ⟨rfl,rfl,rfl⟩:=f2
          rw [List.append_nil,(amLs_spec (v:=v) (m1:=m1) (lent:=lent) (n0:=n0) (O:=O) hR f1).1]
          exact Nat.eq_of_beq_eq_true hn
         ·cases e1'
        ·cases e1'
       ·cases e1'
      obtain ⟨q1,q2,q3⟩:=hsplit (L2:=L2) hl1
      obtain ⟨r1,r2⟩:=rest hl1
      have hS1:=hS
      rw [q3] at hS1
      obtain ⟨_,r,rfl,hlk,hc0,hh⟩:=amBx_spec (v:=v) hR e1 hS1.l
      have hs0:s0=cv (.bx r 0):=by
       cases s0 with
       | a a0=>cases a0 with
        | c c0=>have hv:cR ρ τ.o (.bx r 0) c0:=hv;rw [hc0 _ hv]
        | _=>exact hv.elim
       | tup m=>exact hv.elim
      subst hs0
      refine ⟨⟨?_,r1⟩,fun x hx=>?_,pdn⟩
      ·show amCV m1 lent σ.O (.bx i 0) (.bx r 0)
       simp only [amCV,trCV,hlk,Option.map_some]
      ·show HandOk σ τ m1 n0 ((pCells v base c (L1++L2) ms).2++((i,.box ((pCells v base c (L1++L2) ms).1.take t.sz))::(wrapP (i+1) ps ((pCells v base c (L1++L2) ms).1.drop t.sz)).2)) x
       rcases List.mem_append.1 hx with hx | hx
       ·rw [q1,q3]
        exact hh x hx _ (fun q hq=>List.mem_append_left _ (List.mem_append_left _ hq)) (List.mem_append_right _ List.mem_cons_self)
       ·exact (r2 x hx).mem fun y hy=>by
         rcases List.mem_append.1 hy with hy | hy
         ·exact List.mem_append_left _ hy
         ·exact List.mem_append_right _ (List.mem_cons_of_mem _ hy)
     ·cases e1
    ·rename_i ly
     split at e1
     ·split at e1
      ·rename_i hn
       have hn:=Nat.eq_of_beq_eq_true hn
       obtain ⟨i1,i2,i3⟩:=amLs_spec (v:=v) (m1:=m1) (lent:=lent) (n0:=n0) (O:=O) hR e1
       have hl1:L1.length=t.sz:=by rw [i1,hn]
       obtain ⟨q1,q2,q3⟩:=hsplit (L2:=L2) hl1
       obtain ⟨r1,r2⟩:=rest hl1
       have hS1:=hS
       rw [q3] at hS1
       cases s0 with
       | tup m=>exact hv.elim
       | a a0=>cases a0 with
        | agg cl =>
         obtain ⟨a1,a2⟩:=i2 hS1.l (cs:=cl) hv
         refine ⟨⟨?_,r1⟩,fun x hx=>?_,pdn⟩
         ·show amL m1 lent σ.O (((pCells v base c (L1++L2) ms).1.take t.sz).map (cvX n0)) cl
          rw [q1];exact a1
         ·rcases List.mem_append.1 hx with hx | hx
          ·exact rowsOk e1 hl1 _ x hx
          ·exact r2 x hx
        | _=>exact hv.elim
      ·cases e1
     ·cases e1
    ·cases e1
end
end Go.XM
end
section
namespace Go.XM
open Go.RowKit
theorem ns1_encO:∀ {t:Ty},t.ns1=true→∀ (x:t.D),∀ p∈t.encO x,nsRC p
 | .int _,_,x,p,h=>by cases List.mem_singleton.1 h;trivial
 | .bool,_,x,p,h=>by cases List.mem_singleton.1 h;trivial
 | .str,_,x,p,h=>by cases List.mem_singleton.1 h;trivial
 | .un,_,x,p,h=>by cases h
 | .sl t,hn,xs,p,h=>by
  cases List.mem_singleton.1 h
  have hn:t.nsd=false:=by simpa [Ty.ns1] using hn
  intro e he
  obtain ⟨y,_,rfl⟩:=List.mem_map.1 he
  exact nsd_enc hn y
 | .pr a b,hn,x,p,h=>by
  simp only [Ty.ns1,Bool.and_eq_true] at hn
  rcases List.mem_append.1 h with h | h
  ·exact ns1_encO hn.1 _ p h
  ·exact ns1_encO hn.2 _ p h
theorem nsRow_false {t:Ty} (h:t.nsd=false) (sz:Nat) (xs:List t.D):nsRS (.row sz (rowR false t xs)):=by
 intro e he x hx
 obtain ⟨y,_,rfl⟩:=List.mem_map.1 he
 obtain ⟨p,hp,rfl⟩:=List.mem_map.1 hx
 exact nsd_enc h y p hp
theorem nsRow_own {t:Ty} (h:t.ns1=true) (sz:Nat) (xs:List t.D):nsRS (.row sz (rowR t.nsd t xs)):=by
 cases hn:t.nsd with
 | false=>exact nsRow_false hn sz xs
 | true =>
  intro e he x hx
  obtain ⟨y,_,rfl⟩:=List.mem_map.1 he
  exact ns1_encO h y x hx
theorem lfC_ns {n:Nat→Nat} {v c nm:Nat} {ms:List Md} {y:TD} {ts:List Ty} (h:nsM (y.1::ts) ms=true):nsCV (cvX n (lfC v c nm (ms.headD .s) y).1)∧(∀ x∈(lfC v c nm (ms.headD .s) y).2,nsRS (rsX n x.2))∧nsM ts ms.tail=true:=by
 simp only [nsM,Bool.and_eq_true] at h
 obtain ⟨h1,h2⟩:=h
 obtain ⟨t,x⟩:=y
 generalize ms.headD .s=m at *
 cases t with
 | int k=>cases m <;> exact ⟨trivial,by simp [lfC],h2⟩
 | bool=>cases m <;> exact ⟨trivial,by simp [lfC],h2⟩
 | str=>cases m <;> exact ⟨trivial,by simp [lfC],h2⟩
 | un=>cases m <;> exact ⟨trivial,by simp [lfC],h2⟩
 | pr a b=>cases h1
 | sl e =>
  cases m with
  | s=>cases h1
  | o=>exact ⟨trivial,fun x hx=>by simp only [lfC,List.mem_singleton] at hx;subst hx;exact nsRow_own h1 _ _,h2⟩
  | o1=>exact ⟨trivial,fun x hx=>by simp only [lfC,List.mem_singleton] at hx;subst hx;exact nsRow_false (by simpa using h1) _ _,h2⟩
  | l=>cases h1
  | n=>cases h1
theorem pCells_ns {n:Nat→Nat} {v base:Nat}:∀ {L:List TD} {c:Nat} {ms:List Md},nsM (L.map (·.1)) ms=true→(∀ x∈(pCells v base c L ms).1,nsCV (cvX n x))∧∀ x∈(pCells v base c L ms).2,nsRS (rsX n x.2)
 | [],c,ms,_=>by simp [pCells]
 | y::L,c,ms,h=>by
  obtain ⟨h1,h2,h3⟩:=lfC_ns (n:=n) (v:=v) (c:=c) (nm:=base+c) (show nsM (y.1::L.map (·.1)) ms=true from h)
  obtain ⟨i1,i2⟩:=pCells_ns (n:=n) (v:=v) (base:=base) (c:=c+1) h3
  refine ⟨fun x hx=>?_,fun x hx=>?_⟩
  ·rcases List.mem_cons.1 hx with rfl | hx
   ·exact h1
   ·exact i1 x hx
  ·rcases List.mem_append.1 (show x∈_++_ from hx) with hx | hx
   ·exact h2 x hx
   ·exact i2 x hx
theorem pCells_tg {ρ:Env} {v base:Nat}:∀ {L:List TD} {c:Nat} {ms:List Md},(∀ (j:Nat) (y:TD),L[j]?=some y→tg ρ (v,c+j) y)→(∀ x∈(pCells v base c L ms).1,tgC ρ x)∧∀ x∈(pCells v base c L ms).2,tgR ρ x.2
 | [],c,ms,_=>by simp [pCells]
 | y::L,c,ms,h=>by
  obtain ⟨i1,i2⟩:=pCells_tg (ρ:=ρ) (v:=v) (base:=base) (L:=L) (c:=c+1) (ms:=ms.tail) (fun j z hj=>by rw [Nat.add_right_comm,Nat.add_assoc];exact h (j+1) z hj)
  have h0:=h 0 y rfl
  have hl:tgC ρ (lfC v c (base+c) (ms.headD .s) y).1∧∀ x∈(lfC v c (base+c) (ms.headD .s) y).2,tgR ρ x.2:=by
   unfold lfC
   split
   ·exact ⟨trivial,fun x hx=>by obtain rfl:=List.mem_singleton.1 hx;exact h0⟩
   ·exact ⟨trivial,fun x hx=>by obtain rfl:=List.mem_singleton.1 hx;exact h0⟩
   ·exact ⟨trivial,by simp⟩
   ·exact ⟨trivial,by simp⟩
   ·exact ⟨h0,by simp⟩
  refine ⟨fun x hx=>?_,fun x hx=>?_⟩
  ·rcases List.mem_cons.1 hx with rfl | hx
   ·exact hl.1
   ·exact i1 x hx
  ·rcases List.mem_append.1 (show x∈_++_ from hx) with hx | hx
   ·exact hl.2 x hx
   ·exact i2 x hx
def cellsA:TA→List TC
 | .c x=>[x]
 | .agg l=>l
 | .fn _ l=>l
theorem wrapR_cells:∀ {q:Nat} {rs:List (Rk × Ty)} {cs:List TC},∀ a∈wrapR q rs cs,∀ x∈cellsA a,x∈cs∨x=.any∨∃ k,x=.bx k 0
 | _,[],cs,a,h=>by simp [wrapR] at h
 | q,(b,t)::rs,cs,a,h=>by
  intro x hx
  rcases List.mem_cons.1 h with rfl | h
  ·cases b with
   | agg=>exact .inl (List.mem_of_mem_take hx)
   | one =>
    obtain rfl:=List.mem_singleton.1 hx
    cases cs with
    | nil=>exact .inr (.inl rfl)
    | cons c cs=>exact .inl List.mem_cons_self
   | ptr=>obtain rfl:=List.mem_singleton.1 hx;exact .inr (.inr ⟨_,rfl⟩)
  ·rcases wrapR_cells a h x hx with h | h
   ·exact .inl (List.mem_of_mem_drop h)
   ·exact .inr h
theorem wrapN_cells:∀ {rs:List (Rk × Ty)} {q:Nat} {cs:List TC},∀ a∈wrapN q rs cs,∃ l,a.2=.box l∧∀ x∈l,x∈cs
 | [],q,cs,a,h=>by simp [wrapN] at h
 | (k,t)::rs,q,cs,a,h=>by
  have tail:a∈wrapN (q+1) rs (cs.drop t.sz)→∃ l,a.2=.box l∧∀ x∈l,x∈cs:=fun h=>by
   obtain ⟨l,e,hl⟩:=wrapN_cells a h
   exact ⟨l,e,fun x hx=>List.mem_of_mem_drop (hl x hx)⟩
  cases k with
  | ptr =>
   rcases List.mem_cons.1 h with rfl | h
   ·exact ⟨_,rfl,fun x hx=>List.mem_of_mem_take hx⟩
   ·exact tail h
  | one=>exact tail h
  | agg=>exact tail h
theorem wrapB_cells:∀ {ps:List (Kd × Ty)} {i:Nat} {cs:List TC},∀ a∈wrapB i ps cs,∃ l,a.2=.box l∧∀ x∈l,x∈cs
 | [],i,cs,a,h=>by simp [wrapB] at h
 | (k,t)::ps,i,cs,a,h=>by
  have hit:a∈(i,TR.box (cs.take t.sz))::wrapB (i+1) ps (cs.drop t.sz)→∃ l,a.2=.box l∧∀ x∈l,x∈cs:=fun h=>by
   rcases List.mem_cons.1 h with rfl | h
   ·exact ⟨_,rfl,fun x hx=>List.mem_of_mem_take hx⟩
   ·obtain ⟨l,e,hl⟩:=wrapB_cells a h
    exact ⟨l,e,fun x hx=>List.mem_of_mem_drop (hl x hx)⟩
  cases k with
  | box=>exact hit h
  | hid=>exact hit h
  | one=>exact wrapB_cells (ps:=ps) (i:=i+1) a h
  | agg=>exact wrapB_cells (ps:=ps) (i:=i+1) a h
  | fn f n=>exact wrapB_cells (ps:=ps) (i:=i+1) a h
  | ro=>exact wrapB_cells (ps:=ps) (i:=i+1) a h
  | fr f=>exact wrapB_cells (ps:=ps) (i:=i+1) a h
def NoTg (x:TC):Prop:=x=.any∨(∃ k,x=.bx k 0)∨∃ t y,x=.ia t y 0
theorem iaOf_no (t:Ty) (cs:List TC):NoTg (iaOf t cs):=by
 unfold iaOf
 split
 ·split
  ·exact .inr (.inr ⟨_,_,rfl⟩)
  ·exact .inl rfl
 ·exact .inl rfl
theorem fnB_cells:∀ {n i:Nat},∀ x∈fnB i n,NoTg x
 | 0,i,x,h=>by cases h
 | n+1,i,x,h=>by
  rcases List.mem_cons.1 h with rfl | h
  ·exact .inr (.inl ⟨_,rfl⟩)
  ·exact fnB_cells x h
theorem wrapP_cells:∀ {ps:List (Kd × Ty)} {i:Nat} {cs:List TC},(∀ a∈(wrapP i ps cs).1,(∃ x,a=.a (.c x)∧(x∈cs∨NoTg x))∨(∃ l,a=.a (.agg l)∧∀ x∈l,x∈cs)∨∃ f l,a=.a (.fn f l)∧∀ x∈l,NoTg x)∧∀ a∈(wrapP i ps cs).2,∃ l,a.2=.box l∧∀ x∈l,x∈cs
 | [],i,cs=>by simp [wrapP]
 | (k,t)::ps,i,cs=>by
  obtain ⟨i1,i2⟩:=wrapP_cells (ps:=ps) (i:=i+1) (cs:=cs.drop t.sz)
  have j1:∀ a∈(wrapP (i+1) ps (cs.drop t.sz)).1,(∃ x,a=.a (.c x)∧(x∈cs∨NoTg x))∨(∃ l,a=.a (.agg l)∧∀ x∈l,x∈cs)∨∃ f l,a=.a (.fn f l)∧∀ x∈l,NoTg x:=by
   intro a ha
   rcases i1 a ha with ⟨x,e,h⟩ | ⟨l,e,h⟩ | h
   ·refine .inl ⟨x,e,?_⟩
    rcases h with h | h
    ·exact .inl (List.mem_of_mem_drop h)
    ·exact .inr h
   ·exact .inr (.inl ⟨l,e,fun x hx=>List.mem_of_mem_drop (h x hx)⟩)
   ·exact .inr (.inr h)
  have j2:∀ a∈(wrapP (i+1) ps (cs.drop t.sz)).2,∃ l,a.2=.box l∧∀ x∈l,x∈cs:=by
   intro a ha
   obtain ⟨l,e,hl⟩:=i2 a ha
   exact ⟨l,e,fun x hx=>List.mem_of_mem_drop (hl x hx)⟩
  have bx:∀ a∈(i,TR.box (cs.take t.sz))::(wrapP (i+1) ps (cs.drop t.sz)).2,∃ l,a.2=.box l∧∀ x∈l,x∈cs:=by
   intro a ha
   rcases List.mem_cons.1 ha with rfl | ha
   ·exact ⟨_,rfl,fun x hx=>List.mem_of_mem_take hx⟩
   ·exact j2 a ha
  cases k with
  | one =>
   refine ⟨fun a ha=>?_,j2⟩
   rcases List.mem_cons.1 (show a∈_::_ from ha) with rfl | ha
   ·refine .inl ⟨_,rfl,?_⟩
    cases cs with
    | nil=>exact .inr (.inl rfl)
    | cons c cs=>exact .inl List.mem_cons_self
   ·exact j1 a ha
  | ro =>
   refine ⟨fun a ha=>?_,j2⟩
   rcases List.mem_cons.1 (show a∈_::_ from ha) with rfl | ha
   ·exact .inl ⟨_,rfl,.inr (iaOf_no _ _)⟩
   ·exact j1 a ha
  | fr f =>
   refine ⟨fun a ha=>?_,j2⟩
   rcases List.mem_cons.1 (show a∈_::_ from ha) with rfl | ha
   ·refine .inr (.inr ⟨_,_,rfl,fun x hx=>?_⟩)
    obtain rfl:=List.mem_singleton.1 hx
    exact iaOf_no _ _
   ·exact j1 a ha
  | agg =>
   refine ⟨fun a ha=>?_,j2⟩
   rcases List.mem_cons.1 (show a∈_::_ from ha) with rfl | ha
   ·exact .inr (.inl ⟨_,rfl,fun x hx=>List.mem_of_mem_take hx⟩)
   ·exact j1 a ha
  | box =>
   refine ⟨fun a ha=>?_,fun a ha=>bx a ha⟩
   rcases List.mem_cons.1 (show a∈_::_ from ha) with rfl | ha
   ·exact .inl ⟨_,rfl,.inr (.inr (.inl ⟨i,rfl⟩))⟩
   ·exact j1 a ha
  | hid=>exact ⟨j1,fun a ha=>bx a ha⟩
  | fn f n =>
   refine ⟨fun a ha=>?_,j2⟩
   rcases List.mem_cons.1 (show a∈_::_ from ha) with rfl | ha
   ·exact .inr (.inr ⟨_,_,rfl,fnB_cells⟩)
   ·exact j1 a ha
section
variable {ρ ρ':Env} {τ:TS}
theorem tg_ext {v:Nat} {y:Option TD} (hv:ρ.at v=none) {g:Tag} {x:TD} (h:tg ρ g x):tg ((v,y)::ρ) g x:=by
 rcases h with h | ⟨z,h1,h2⟩
 ·exact .inl h
 ·refine .inr ⟨z,?_,h2⟩
  show gt none ((v,y)::ρ) g.1=_
  rw [gt_ne]
  ·exact h1
  ·intro e;rw [← e,hv] at h1;cases h1
theorem cR_env (h:∀ g x,tg ρ g x→tg ρ' g x) {O:Nat→TR} {x:TC} {c:CV} (k:cR ρ O x c):cR ρ' O x c:=by
 cases x with
 | p t x g=>exact ⟨k.1,h _ _ k.2⟩
 | _=>exact k
theorem aR_env (h:∀ g x,tg ρ g x→tg ρ' g x) {O:Nat→TR} {x:TA} {c:AV} (k:aR ρ O x c):aR ρ' O x c:=by
 cases x with
 | c x=>cases c with
  | c y=>exact cR_env h k
  | agg m=>cases x <;> first | exact k | exact k.elim
  | fn f m=>cases x <;> first | exact k | exact k.elim
 | agg l=>cases c with
  | agg m=>exact All2.mono (fun _ _=>cR_env h) k
  | _=>exact k.elim
 | fn f l=>cases c with
  | fn f' m=>exact ⟨k.1,All2.mono (fun _ _=>cR_env h) k.2⟩
  | _=>exact k.elim
theorem vR_env (h:∀ g x,tg ρ g x→tg ρ' g x) {O:Nat→TR} {x:TV} {c:SV} (k:vR ρ O x c):vR ρ' O x c:=by
 cases x with
 | a x=>cases c with
  | a y=>exact aR_env h k
  | tup m=>cases x with
   | c x=>cases x <;> first | exact k | exact k.elim
   | _=>exact k.elim
 | tup l=>cases c with
  | tup m=>exact All2.mono (fun _ _=>aR_env h) k
  | _=>exact k.elim
theorem rR_env (h:∀ g x,tg ρ g x→tg ρ' g x) {O:Nat→TR} {x:TR} {c:RS} (k:rR ρ O x c):rR ρ' O x c:=by
 cases x with
 | box l=>obtain ⟨m,e,k⟩:=k;exact ⟨m,e,All2.mono (fun _ _=>cR_env h) k⟩
 | row t o xs g=>exact ⟨k.1,h _ _ k.2⟩
 | _=>exact k
theorem Rl.env (h:∀ g x,tg ρ g x→tg ρ' g x) {σ:St} (k:Rl ρ τ σ):Rl ρ' τ σ:=⟨fun i=>vR_env h (k.T i),fun r=>rR_env h (k.O r)⟩
theorem gt_dead {O:List (Nat × TR)} {k n:Nat} (h:(gt TR.fresh O k).len=some n):gt TR.dead O k=gt TR.fresh O k:=by
 induction O with
 | nil=>cases h
 | cons x O ih =>
  obtain ⟨a,y⟩:=x
  simp only [gt] at h ⊢
  cases e:Nat.beq a k with
  | true=>rfl
  | false=>rw [e] at h;exact ih h
theorem gt_deadB {O:List (Nat × TR)} {k:Nat} {l:List TC} (h:gt TR.fresh O k=.box l):gt TR.dead O k=.box l:=by
 induction O with
 | nil=>cases h
 | cons x O ih =>
  obtain ⟨a,y⟩:=x
  simp only [gt] at h ⊢
  cases e:Nat.beq a k with
  | true=>rw [e] at h;exact h
  | false=>rw [e] at h;exact ih h
theorem gt_deadF {O:List (Nat × TR)} {k:Nat} (h:∀ x∈O,x.2≠.fresh) (hd:gt TR.dead O k=.dead):gt TR.fresh O k=.fresh∨gt TR.fresh O k=.dead:=by
 induction O with
 | nil=>exact .inl rfl
 | cons x O ih =>
  obtain ⟨a,y⟩:=x
  simp only [gt] at hd ⊢
  cases e:Nat.beq a k with
  | true=>rw [e] at hd;exact .inr hd
  | false=>rw [e] at hd;exact ih (fun x hx=>h x (List.mem_cons_of_mem _ hx)) hd
theorem len_rn {m:Nm} {x:TR}:(rnR m x).len=x.len:=by cases x <;> rfl
theorem ren_C {O:List (Nat × TR)} {m2:Nm} {O':Nat→TR} (hO:∀ k a,look m2 k=some a→O' a=rnR m2 (gt .dead O k)) {x:TC} (hok:okCell ⟨[],O⟩ x=true) (ht:tgC ρ x) {y:CV} (h:trCV m2 (cvX (lenL O) x)=some y):cR ρ O' (rnC m2 x) y:=by
 cases x with
 | p t x g=>cases h;exact ⟨rfl,ht⟩
 | kb b=>cases h;rfl
 | w v=>cases h;rfl
 | nl t=>cases h;rfl
 | ia t x c=>cases h;rfl
 | li k x=>cases h;rfl
 | any=>trivial
 | vw=>cases hok
 | ad=>cases hok
 | av k =>
  obtain ⟨n,hn⟩:=Option.isSome_iff_exists.1 hok
  have hn:(gt TR.fresh O k).len=some n:=hn
  simp only [cvX,trCV,Option.map_eq_some_iff] at h
  obtain ⟨a,h1,rfl⟩:=h
  simp only [rnC,h1,Option.getD_some]
  rw [cR_av (n:=n) (by rw [hO k a h1,len_rn,gt_dead hn,hn])]
 | vf k =>
  obtain ⟨n,hn⟩:=Option.isSome_iff_exists.1 hok
  have hn:(gt TR.fresh O k).len=some n:=hn
  simp only [cvX,trCV,Option.map_eq_some_iff] at h
  obtain ⟨a,h1,rfl⟩:=h
  simp only [rnC,h1,Option.getD_some]
  rw [cR_vf (n:=n) (by rw [hO k a h1,len_rn,gt_dead hn,hn])]
  simp only [lenL,hn,Option.getD_some]
 | bx k c =>
  simp only [okCell] at hok
  split at hok
  ·rename_i l hl
   have hl:gt TR.fresh O k=.box l:=hl
   simp only [cvX,trCV,Option.map_eq_some_iff] at h
   obtain ⟨a,h1,rfl⟩:=h
   simp only [rnC,h1,Option.getD_some,cR,hO k a h1,gt_deadB hl,rnR]
  ·cases hok
theorem ren_L {O:List (Nat × TR)} {m2:Nm} {O':Nat→TR} (hO:∀ k a,look m2 k=some a→O' a=rnR m2 (gt .dead O k)):∀ {l:List TC} {m:List CV},l.all (okCell ⟨[],O⟩)=true→(∀ x∈l,tgC ρ x)→trL m2 (l.map (cvX (lenL O)))=some m→All2 (cR ρ O') (l.map (rnC m2)) m
 | [],m,_,_,h=>by simp only [List.map_nil,trL,Option.some.injEq] at h;subst h;trivial
 | x::l,m,h1,h2,h=>by
  simp only [List.all_cons,Bool.and_eq_true] at h1
  simp only [List.map_cons,trL] at h
  split at h
  ·rename_i y m' e1 e2
   cases h
   exact ⟨ren_C hO h1.1 (h2 x List.mem_cons_self) e1,ren_L hO h1.2 (fun z hz=>h2 z (List.mem_cons_of_mem _ hz)) e2⟩
  ·cases h
theorem ren_A {O:List (Nat × TR)} {m2:Nm} {O':Nat→TR} (hO:∀ k a,look m2 k=some a→O' a=rnR m2 (gt .dead O k)) {a:TA} {y:AV} (hok:okTAs ⟨[],O⟩ a=true) (ht:∀ x∈cellsA a,tgC ρ x) (h:trAV m2 (avX (lenL O) a)=some y):aR ρ O' (rnA m2 a) y:=by
 cases a with
 | c x =>
  simp only [avX,trAV,Option.map_eq_some_iff] at h
  obtain ⟨c,h1,rfl⟩:=h
  exact ren_C hO hok (ht x List.mem_cons_self) h1
 | agg l =>
  simp only [avX,trAV,Option.map_eq_some_iff] at h
  obtain ⟨c,h1,rfl⟩:=h
  exact ren_L hO hok ht h1
 | fn f l=>cases hok
theorem ren_V {O:List (Nat × TR)} {m2:Nm} {O':Nat→TR} (hO:∀ k a,look m2 k=some a→O' a=rnR m2 (gt .dead O k)) {as:List TA} {y:SV} (hok:as.all (okTAs ⟨[],O⟩)=true) (ht:∀ a∈as,∀ x∈cellsA a,tgC ρ x) (h:trSV m2 (svX (lenL O) (oneV as))=some y):vR ρ O' (rnV m2 (oneV as)) y:=by
 have tup:∀ (l:List TA) {m:List AV},l.all (okTAs ⟨[],O⟩)=true→(∀ a∈l,∀ x∈cellsA a,tgC ρ x)→trAL m2 (l.map (avX (lenL O)))=some m→All2 (aR ρ O') (l.map (rnA m2)) m:=by
  intro l
  induction l with
  | nil=>intro m _ _ h;simp only [List.map_nil,trAL,Option.some.injEq] at h;subst h;trivial
  | cons a l ih =>
   intro m h1 h2 h
   simp only [List.all_cons,Bool.and_eq_true] at h1
   simp only [List.map_cons,trAL] at h
   split at h
   ·rename_i y m' e1 e2
    cases h
    exact ⟨ren_A hO h1.1 (h2 a List.mem_cons_self) e1,ih h1.2 (fun z hz=>h2 z (List.mem_cons_of_mem _ hz)) e2⟩
   ·cases h
 have tup':oneV as=.tup as→vR ρ O' (rnV m2 (oneV as)) y:=by
  intro e
  rw [e] at h ⊢
  simp only [svX,trSV,Option.map_eq_some_iff] at h
  obtain ⟨m,h1,rfl⟩:=h
  exact tup as hok ht h1
 cases as with
 | nil=>exact tup' rfl
 | cons a as=>cases as with
  | nil =>
   simp only [oneV,svX,trSV,Option.map_eq_some_iff] at h
   obtain ⟨c,h1,rfl⟩:=h
   simp only [List.all_cons,List.all_nil,Bool.and_true] at hok
   have:=ren_A hO hok (ht a List.mem_cons_self) h1
   exact this
  | cons b as=>exact tup' rfl
theorem rdAll_T {E:TE} {σ:St} (hR:Rl ρ τ σ):∀ {xs:List Operand} {ts:List TypeId} {vs:List TV} {ks:List Nat},E.rdAll τ xs ts=some (vs,ks)→∃ l ks',rdAll E.P σ xs ts=some (l,ks')∧keys ks'=ks∧All2 (vR ρ τ.o) vs l
 | [],ts,vs,ks,h=>by simp only [TE.rdAll,Option.some.injEq,Prod.mk.injEq] at h;obtain ⟨rfl,rfl⟩:=h;exact ⟨[],[],rfl,rfl,trivial⟩
 | x::xs,ts,vs,ks,h=>by
  simp only [TE.rdAll] at h
  split at h
  ·rename_i v l ks1 h1 h2
   cases h
   obtain ⟨l',ks',k1,k2,k3⟩:=rdAll_T hR h2
   obtain ⟨sv,s1,s2⟩:=rd_T hR h1
   exact ⟨sv::l',evk σ x++ks',by simp only [Go.XM.rdAll,s1,k1],by simp [k2],⟨s2,k3⟩⟩
  ·cases h
theorem callee_T {σ:St} (hR:Rl ρ τ σ) {fo:Operand} {f:FuncId} {ex:List TV} {rk:List Nat} (h:TE.callee τ fo=some (f,ex,rk)):∃ l ks,calleeOf σ fo=some (f,l,ks)∧keys ks=rk∧All2 (vR ρ τ.o) ex l:=by
 unfold TE.callee at h
 split at h
 ·cases h;exact ⟨[],[],rfl,rfl,trivial⟩
 ·rename_i i
  split at h
  ·rename_i f' l hT
   cases h
   have hs:=hR.T i
   rw [hT] at hs
   cases hsv:σ.T i with
   | tup m=>rw [hsv] at hs;exact hs.elim
   | a av=>rw [hsv] at hs;cases av with
    | fn f2 m =>
     have hs:f=f2∧All2 (cR ρ τ.o) l m:=hs
     obtain ⟨rfl,hs2⟩:=hs
     refine ⟨m.map (fun c=>.a (.c c)),[(i,σ.T i)],by simp only [calleeOf,hsv],rfl,?_⟩
     clear hT hsv hs
     induction l generalizing m with
     | nil=>cases m <;> first | trivial | exact hs2.elim
     | cons x l ih=>cases m with
      | nil=>exact hs2.elim
      | cons y m=>exact ⟨hs2.1,ih m hs2.2⟩
    | _=>exact hs.elim
  ·cases h
 ·cases h
end
end Go.XM
end
section
namespace Go.XM
open Go.RowKit
theorem isFresh_rsX {n:Nat→Nat} {x:TR} (h:isFresh (rsX n x)=true):x=.fresh:=by cases x <;> first | rfl | cases h
theorem isBox_rsX {n:Nat→Nat} {x:TR} (h:isBox (rsX n x)=true):∃ l,x=.box l:=by cases x <;> first | exact ⟨_,rfl⟩ | cases h
theorem isFresh_spec {x:RS} (h:isFresh x=true):x=.fresh:=by cases x <;> first | rfl | cases h
theorem namesOk_mono {O O':Nat→RS} {H:CallH} (h:∀ k,isFresh (O k)=true→isFresh (O' k)=true) (k:namesOk O H=true):namesOk O' H=true:=by
 unfold namesOk at k ⊢
 simp only [Bool.and_eq_true,List.all_eq_true] at k ⊢
 obtain ⟨k1,k2⟩:=k
 refine ⟨k1,fun x hx=>?_⟩
 have:=k2 x hx
 simp only [Bool.or_eq_true,Bool.and_eq_true] at this ⊢
 rcases this with h1 | h1
 ·exact .inl h1
 ·exact .inr ⟨h _ h1.1,h1.2⟩
theorem hand_of {O O0:Nat→RS} {m:Nm}:∀ {l:Nm},(∀ x∈l,trRS m (O0 x.1)=some (O x.2))→hand O O0 m l
 | [],_=>trivial
 | (k,r)::l,h=>⟨h (k,r) List.mem_cons_self,hand_of fun x hx=>h x (List.mem_cons_of_mem _ hx)⟩
theorem gt_fm {O:List (Nat × TR)} {k:Nat}:gt TR.fresh O k=.fresh∨(k,gt TR.fresh O k)∈O:=by
 induction O with
 | nil=>exact .inl rfl
 | cons x O ih =>
  obtain ⟨a,y⟩:=x
  simp only [gt]
  cases e:Nat.beq a k with
  | true=>right;rw [Nat.eq_of_beq_eq_true e];exact List.mem_cons_self
  | false=>rcases ih with h | h
           ·exact .inl h
           ·exact .inr (List.mem_cons_of_mem _ h)
theorem nsV_of {n:Nat→Nat}:∀ {as:List TA},(∀ a∈as,nsAV (avX n a))→nsSV (svX n (oneV as))
 | [],_=>by intro x hx;simp at hx
 | [a],h=>h a List.mem_cons_self
 | a::b::as,h=>by
  intro x hx
  obtain ⟨y,hy,rfl⟩:=List.mem_map.1 hx
  exact h y hy
theorem nsAV_of {n:Nat→Nat} {a:TA} (h:∀ x∈cellsA a,nsCV (cvX n x)):nsAV (avX n a):=by
 cases a with
 | c x=>exact h x List.mem_cons_self
 | agg l=>intro y hy;obtain ⟨x,hx,rfl⟩:=List.mem_map.1 hy;exact h x hx
 | fn f l=>intro y hy;obtain ⟨x,hx,rfl⟩:=List.mem_map.1 hy;exact h x hx
section
variable {E:TE} {o:Oper} {ρ:Env} {τ:TS}
theorem call_right {C:CallT E.P} {f d v:Nat} {fo:Operand} {xs:Array Operand} {ts:Array TypeId} {vs ex:List TV} {rt rk:List Nat} {L:List TD} (hd:o.dst=some d) (ho:o.op=.call ⟨.value fo,xs,ts⟩)
  (hcal:TE.callee τ fo=some (f,ex,rk)) (hvs:E.rdAll τ xs.toList ts.toList=some (vs,rt)) (hrt:C.rt=rt++rk) (ham:amPs τ 1000000 0 C.F.s.ms 0 [] C.F.s.ps (vs++ex)=some (L,C.m1,C.lent)) (hof:C.F.s.A.ofL L=some (C.x,[])) {r:C.F.s.R.D} (hfn:C.F.fn C.x=some r)
  (hok:C.ok τ f v r=true) (hv:ρ.at v=none) {σ:St} (hR:Rl ρ τ σ):∃ f' c,pstep E.P o (.call (C.H v r)) σ=some (f',c)∧c.holds∧Wrt ((v,some ⟨C.F.s.R,r⟩)::ρ) τ (C.out d v r) f':=by
 unfold CallT.ok at hok
 simp only [Bool.and_eq_true] at hok
 obtain ⟨b1,b2,b3,b4,b5,b6,b7,b8,b9,b10,b11⟩:=hok
 have hnum:=Nat.eq_of_beq_eq_true b2
 have hxl:=ofL_all hof
 obtain ⟨l,ks,r1,r2,r3⟩:=rdAll_T hR hvs
 obtain ⟨le,ke,e1,e2,e3⟩:=callee_T hR hcal
 have hnm:namesOk σ.O (C.H v r)=true:=by
  refine namesOk_mono (fun k hk=>?_) b3
  have:=isFresh_rsX hk
  have h2:=hR.O k
  rw [this] at h2
  rw [show σ.O k=.fresh from h2];rfl
 have hnm':=hnm
 unfold namesOk at hnm'
 simp only [Bool.and_eq_true] at hnm'
 obtain ⟨⟨⟨⟨⟨⟨⟨n1,n2⟩,n3⟩,n4⟩,n5⟩,n6⟩,n7⟩,n8⟩:=hnm'
 have hn0:=nodup_spec b10
 have hn1:=nodup_spec b11
 have hcells:(C.F.s.A.lvs C.x)=L:=hxl
 have hS:Sur σ C.m1 C.lent (lenL (C.F.s.st0 C.x).O) (C.F.s.st0 C.x).O C.m1 C.lent (pCells 1 1000000 0 L C.F.s.ms).2:=by
  refine ⟨fun x hx=>look_of n1 hx,fun x hx=>by simpa using hx,fun x hx=>?_⟩
  have hm:x∈(C.F.s.st0 C.x).O:=by
   show x∈(pCells 1 1000000 0 (C.F.s.A.lvs C.x) C.F.s.ms).2++_
   rw [hcells];exact List.mem_append_left _ hx
  exact ⟨hm,fun n hn=>lenL_mem (R:=x.2) hn0 hm hn⟩
 obtain ⟨a1,a2,_⟩:=amPs_spec (v:=1) (base:=1000000) hR ham hS (All2.app r3 e3)
 rw [← hcells] at a1 a2
 have hhand:hand σ.O (ofL (C.F.s.o0 C.x)) C.m1 C.m1:=by
  refine hand_of fun x hx=>?_
  obtain ⟨R,h1,h2,_⟩:=a2 x hx
  rw [Sig.o0,ofL_xO,gt_mem hn0 (show (x.1,R)∈(C.F.s.st0 C.x).O from h1)]
  exact h2
 have hns:C.lent=[]∨nsSV (C.F.s.res v r)∧nsAll (C.H v r) (C.m2 r):=by
  simp only [Bool.or_eq_true] at b6
  rcases b6 with h | h
  ·exact .inl (by simpa using h)
  ·right
   obtain ⟨p1,p2⟩:=pCells_ns (n:=lenL (C.F.s.outO v r)) (v:=v) (base:=2000000) (L:=C.F.s.R.lvs r) (c:=0) (ms:=C.F.s.rm) (by rw [lvs_tys];exact h)
   refine ⟨nsV_of fun a ha=>nsAV_of fun x hx=>?_,?_⟩
   ·rcases wrapR_cells a ha x hx with h | rfl | ⟨k,rfl⟩
    ·exact p1 x h
    ·trivial
    ·trivial
   ·have key:∀ k,nsRS (ofL (C.F.s.o1 v r) k):=by
     intro k
     rw [Sig.o1,ofL_xO]
     rcases gt_fm (O:=C.F.s.outO v r) (k:=k) with h | h
     ·rw [h];trivial
     ·generalize gt TR.fresh (C.F.s.outO v r) k=R at *
      rcases List.mem_append.1 (show (k,R)∈(pCells v 2000000 0 (C.F.s.R.lvs r) C.F.s.rm).2++_ from h) with h | h
      ·exact p2 _ h
      ·rcases List.mem_append.1 h with h | h
       ·obtain ⟨l,e,hl⟩:=wrapN_cells _ h
        have e:R=.box l:=e
        subst e
        intro x hx
        obtain ⟨y,hy,rfl⟩:=List.mem_map.1 hx
        exact p1 y (hl y hy)
       ·obtain ⟨l,e,hl⟩:=wrapB_cells _ h
        have e:R=.box l:=e
        subst e
        intro x hx
        obtain ⟨y,hy,rfl⟩:=List.mem_map.1 hx
        exact p1 y (List.mem_of_mem_drop (hl y hy))
    exact nsAll_of key
 obtain ⟨res',hres⟩:=Option.isSome_iff_exists.1 b5
 have hro:keys (roOf σ.O (C.H v r))=C.m1.map (·.2)++(C.lent++(C.m2 r).map (·.2)):=by
  simp [roOf,keys,CallT.H,Function.comp_def]
 let ρ':Env:=(v,some ⟨C.F.s.R,r⟩)::ρ
 have hρ':ρ'.at v=some ⟨C.F.s.R,r⟩:=gt_same
 obtain ⟨t1,t2⟩:=pCells_tg (ρ:=ρ') (v:=v) (base:=2000000) (L:=C.F.s.R.lvs r) (c:=0) (ms:=C.F.s.rm) (fun j y hj=>.inr ⟨_,hρ',by simpa using hj⟩)
 have htO:∀ x∈C.F.s.outO v r,tgR ρ' x.2:=by
  intro x hx
  rcases List.mem_append.1 (show x∈(pCells v 2000000 0 (C.F.s.R.lvs r) C.F.s.rm).2++_ from hx) with h | h
  ·exact t2 _ h
  ·rcases List.mem_append.1 h with h | h
   ·obtain ⟨l,e,hl⟩:=wrapN_cells _ h
    rw [e]
    intro y hy
    exact t1 y (hl y hy)
   ·obtain ⟨l,e,hl⟩:=wrapB_cells _ h
    rw [e]
    intro y hy
    exact t1 y (List.mem_of_mem_drop (hl y hy))
 let out:=C.out d v r
 have hm2:((C.m2 r).map (·.2)).Nodup:=nodup_spec n4
 have hnew:∀ k a,look (C.m2 r) k=some a→(τ.app out).o a=rnR (C.m2 r) (gt .dead (C.F.s.outO v r) k):=by
  intro k a hk
  rw [app_o]
  show gt _ (((C.m2 r).map fun x=>(x.2,rnR (C.m2 r) (gt .dead (C.F.s.outO v r) x.1)))++_) a=_
  rw [gt_app]
  refine gt_mem (by simpa [Function.comp_def] using hm2) ?_
  exact List.mem_map.2 ⟨(k,a),look_mem hk,rfl⟩
 have hch:∀ k,okch (τ.o k) ((τ.app out).o k):=by
  intro k
  rw [app_o]
  show okch _ (gt _ (((C.m2 r).map fun x=>(x.2,rnR (C.m2 r) (gt .dead (C.F.s.outO v r) x.1)))++C.m1.map fun x=>(x.2,TR.dead)) k)
  rw [gt_app]
  by_cases hk:k∈(C.m2 r).map (·.2)
  ·obtain ⟨⟨k',a⟩,hx,rfl⟩:=List.mem_map.1 hk
   rw [gt_mem (x:=rnR (C.m2 r) (gt .dead (C.F.s.outO v r) k')) (by simpa [Function.comp_def] using hm2) (List.mem_map.2 ⟨(k',a),hx,rfl⟩)]
   have h8:=List.all_eq_true.1 n8 (k',a) hx
   simp only [Bool.or_eq_true,Bool.and_eq_true] at h8
   rcases h8 with ⟨⟨h1,h2⟩,h3⟩ | ⟨h1,_⟩
   ·have hm:=memNm_spec h1
    obtain ⟨R,g1,g2,g3⟩:=a2 _ hm
    have h2':isBox (ofL (C.F.s.o0 C.x) k')=true:=h2
    rw [Sig.o0,ofL_xO,gt_mem hn0 (show (k',R)∈(C.F.s.st0 C.x).O from g1)] at h2'
    obtain ⟨l0,rfl⟩:=isBox_rsX h2'
    have h3':isBox (ofL (C.F.s.o1 v r) k')=true:=h3
    rw [Sig.o1,ofL_xO] at h3'
    obtain ⟨l1,e1⟩:=isBox_rsX h3'
    rw [gt_deadB e1]
    rcases g3 with ⟨_,l',_,e⟩ | ⟨_,e⟩
    ·rw [show τ.o a=.box l' from e];exact .inr ⟨_,rfl⟩
    ·cases e
   ·have h1:isFresh (σ.O a)=true:=h1
    have h8':=List.all_eq_true.1 (show ((C.m2 r).all fun x=>(memNm x C.m1 && isBox (ofL (C.F.s.o0 C.x) x.1) && isBox (ofL (C.F.s.o1 v r) x.1)) || (isFresh (rsX τ.lens (τ.o x.2)) && !(C.m1.map (·.2)).elem x.2))=true by
     have:=b3
     unfold namesOk at this
     simp only [Bool.and_eq_true] at this
     exact this.2) (k',a) hx
    simp only [Bool.or_eq_true,Bool.and_eq_true] at h8'
    rcases h8' with ⟨⟨q1,q2⟩,q3⟩ | ⟨q1,_⟩
    ·exfalso
     have hm:=memNm_spec q1
     obtain ⟨R,g1,g2,g3⟩:=a2 _ hm
     rw [isFresh_spec h1] at g2
     have:=trRS_live g2
     exact this rfl
    ·rw [isFresh_rsX q1];trivial
  ·have hnot:gt (gt (τ.o k) (C.m1.map fun x=>(x.2,TR.dead)) k) ((C.m2 r).map fun x=>(x.2,rnR (C.m2 r) (gt .dead (C.F.s.outO v r) x.1))) k=gt (τ.o k) (C.m1.map fun x=>(x.2,TR.dead)) k:=gt_out (by simpa [Function.comp_def] using hk)
   rw [hnot]
   have:∀ m:Nm,okch (τ.o k) (gt (τ.o k) (m.map fun x=>(x.2,TR.dead)) k):=by
    intro m
    induction m with
    | nil=>exact okch.refl _
    | cons x m ih =>
     simp only [List.map_cons,gt]
     cases Nat.beq x.2 k with
     | true=>exact okch.dead _
     | false=>exact ih
   exact this _
 have hR':Rl ρ' τ σ:=hR.env fun g x h=>tg_ext hv h
 refine ⟨{ rt:=ks++ke,ro:=roOf σ.O (C.H v r),wt:=[(d,res')],wo:=woOf (C.H v r) },some (Ct E.P f (C.H v r).svs (ofL (C.H v r).O0) (C.H v r).res (ofL (C.H v r).O1)∧amS (C.H v r).m1 (C.H v r).lent σ.O (C.H v r).svs (l++le)∧hand σ.O (ofL (C.H v r).O0) (C.H v r).m1 (C.H v r).m1∧((C.H v r).lent=[]∨nsSV (C.H v r).res∧nsAll (C.H v r) (C.H v r).m2)),?_,?_,⟨(by simp only [keys_app,r2,e2];exact hrt.symm),hro,hch,⟨⟨rfl,?_⟩,trivial⟩,?_⟩⟩
 ·rw [pstep_eq ho hd]
  simp only [pstepM,pCallC,pCallH,pCall,r1,e1]
  rw [show trSV (C.H v r).m2 (C.H v r).res=some res' from hres]
  simp only
  rw [if_pos (by simp only [Bool.and_eq_true];exact ⟨⟨b1,hnm⟩,b4⟩)]
 ·refine ⟨?_,a1,hhand,hns⟩
  have:=C.F.ct v C.x r hfn
  rw [hnum] at this
  exact this
 ·refine ren_V (O:=C.F.s.outO v r) hnew b8 (fun a ha x hx=>?_) hres
  rcases wrapR_cells a ha x hx with h | rfl | ⟨k,rfl⟩
  ·exact t1 x h
  ·trivial
  ·trivial
 ·-- roots
  show All2 (kR (rR ρ' (τ.app out).o)) (((C.m2 r).map fun x=>(x.2,rnR (C.m2 r) (gt .dead (C.F.s.outO v r) x.1)))++C.m1.map fun x=>(x.2,TR.dead)) (((C.m2 r).map fun x=>(x.2,(trRS (C.m2 r) (ofL (C.F.s.o1 v r) x.1)).getD .dead))++C.m1.map fun x=>(x.2,RS.dead))
  refine All2.app ?_ ?_
  ·have key:∀ m:Nm,(∀ x∈m,x∈C.m2 r)→All2 (kR (rR ρ' (τ.app out).o)) (m.map fun x=>(x.2,rnR (C.m2 r) (gt .dead (C.F.s.outO v r) x.1))) (m.map fun x=>(x.2,(trRS (C.m2 r) (ofL (C.F.s.o1 v r) x.1)).getD .dead)):=by
    intro m
    induction m with
    | nil=>intro _;trivial
    | cons x m ih =>
     intro hm
     refine ⟨⟨rfl,?_⟩,ih fun y hy=>hm y (List.mem_cons_of_mem _ hy)⟩
     show rR ρ' _ (rnR _ (gt .dead (C.F.s.outO v r) x.1)) ((trRS _ (ofL (C.F.s.o1 v r) x.1)).getD .dead)
     rw [Sig.o1,ofL_xO]
     have hT:=trAll_spec b4 x.1 x.2 (hm x List.mem_cons_self)
     obtain ⟨y,hy⟩:=hT
     have hy:trRS (C.m2 r) (ofL (C.F.s.o1 v r) x.1)=some y:=hy
     rw [Sig.o1,ofL_xO] at hy
     rcases gt_fm (O:=C.F.s.outO v r) (k:=x.1) with h | h
     ·rw [h] at hy;cases hy
     ·have hok7:okTR ⟨[],C.F.s.outO v r⟩ (gt TR.fresh (C.F.s.outO v r) x.1)=true:=by
       simp only [okSt,Bool.and_eq_true,List.all_eq_true] at b7
       exact b7.2 _ h
      have htg:=htO _ h
      simp only at htg
      cases hx:gt TR.fresh (C.F.s.outO v r) x.1 with
      | fresh=>rw [hx] at hok7;cases hok7
      | dead=>rw [hx] at hok7;cases hok7
      | hole=>rw [hx] at hok7;cases hok7
      | row t own ys g =>
       rw [hx] at htg
       rw [gt_dead (n:=ys.length) (by rw [hx];rfl),hx]
       exact ⟨rfl,htg⟩
      | box lb =>
       rw [hx] at hok7 htg hy
       rw [gt_deadB hx]
       simp only [rsX,trRS,Option.map_eq_some_iff] at hy
       obtain ⟨mb,g1,rfl⟩:=hy
       simp only [rsX,trRS,g1,Option.map_some,Option.getD_some]
       exact ⟨mb,rfl,ren_L hnew hok7 htg g1⟩
   exact key _ fun _ h=>h
  ·have:∀ m:Nm,All2 (kR (rR ρ' (τ.app out).o)) (m.map fun x=>(x.2,TR.dead)) (m.map fun x=>(x.2,RS.dead)):=by
    intro m
    induction m with
    | nil=>trivial
    | cons x m ih=>exact ⟨⟨rfl,by simp [rR]⟩,ih⟩
   exact this _
end
end Go.XM
end
section
namespace Go.XM
open Go.RowKit
structure FK where
 rt:List Nat:=[]
 ro:List Nat:=[]
 wt:List Nat:=[]
 wo:List Nat:=[]
def fkOf (f:Ft):FK:=⟨keys f.rt,keys f.ro,keys f.wt,keys f.wo⟩
def Ot.fk (o:Ot):FK:=⟨o.rt,o.ro,keysT o.wt,keysT o.wo⟩
theorem Wrt.fk {ρ:Env} {τ:TS} {out:Ot} {f:Ft} (h:Wrt ρ τ out f):fkOf f=out.fk:=by
 simp only [fkOf,Ot.fk,h.rt,h.ro,kR_keys h.wt,kR_keys h.wo];rfl
theorem Wrt.env {ρ ρ':Env} {τ:TS} {out:Ot} {f:Ft} (e:∀ g x,tg ρ g x→tg ρ' g x) (h:Wrt ρ τ out f):Wrt ρ' τ out f :=
 ⟨h.rt,h.ro,h.ch,All2.mono (fun _ _ k=>⟨k.1,vR_env e k.2⟩) h.wt,All2.mono (fun _ _ k=>⟨k.1,rR_env e k.2⟩) h.wo⟩
structure SX (P:Program) where
 num:Nat
 fn:List Int→List Int
 ct:∀ as,as.length<4611686018427387904→CtN P num as (fn as)
structure BX (P:Program) where
 num:Nat
 cl:Nat
 S:Nat
 E:Nat
 ct:∀ x:SP,Ct P num [.a (.c (.p x))] (ofL []) (.a (.fn cl [.bx 0 0])) (ofL [(0,.box [.p x])])
 ok:BkOk P cl S E
structure CE where
 E:TE
 F:List (Nat × Option (FX E.P))
 I:List (Nat × Option (SX E.P))
 K:Nat
 own:List (Nat × List Nat)
 pre:List (Nat × List Pre)
 hs:List Nat
 nt:Nat
 B:List (Nat × Option (BX E.P))
def viewsL (τ:TS):List TC→List Nat
 | []=>[]
 | .vf r::l=>match τ.o r with
  | .row _ _ _ _=>r::viewsL τ l
  | _=>viewsL τ l
 | _::l=>viewsL τ l
def viewsV (τ:TS):TV→List Nat
 | .a (.c x)=>viewsL τ [x]
 | .a (.agg l)=>viewsL τ l
 | _=>[]
def viewsO (τ:TS):Operand→List (Nat × Nat)
 | .tmp s=>(viewsV τ (τ.t s)).map fun r=>(s,r)
 | _=>[]
def fzArgs (τ:TS):List (Kd × Ty)→List Md→List Operand→List (Nat × Nat)
 | (.hid,t)::ps,ms,xs=>fzArgs τ ps (ms.drop t.sz) xs
 | (k,t)::ps,ms,x::xs=>(match k,allS t.sz ms with
  | .one,true=>viewsO τ x
  | .agg,true=>viewsO τ x
  | _,_=>[])++fzArgs τ ps (ms.drop t.sz) xs
 | _,_,_=>[]
def fzOf (C:CE) (τ:TS):Op→List (Nat × Nat)
 | .buildSlice _ _ ⟨ps⟩=>ps.flatMap fun p=>viewsO τ p.2
 | .store _ x y=>match C.E.rd τ 0 x with
  | some (.a (.c (.ad r _ _)))=>match τ.o r with
   | .row _ false _ _=>viewsO τ y
   | _=>[]
  | _=>[]
 | .call ⟨.value fo,⟨xs⟩,_⟩=>match TE.callee τ fo with
  | some (f,_,_)=>match gt none C.F f with
   | some F=>match nsM F.s.R.ltys F.s.rm with
    | true=>[]
    | false=>fzArgs τ F.s.ps F.s.ms xs
   | none=>match gt none C.B f with
    | some _=>xs.flatMap (viewsO τ)
    | none=>[]
  | none=>[]
 | _=>[]
def tFz:TS→List (Nat × Nat)→Option (List Ot × TS)
 | τ,[]=>some ([],τ)
 | τ,(s,r)::l=>match tFrz τ s r with
  | some f=>match tFz (τ.app f) l with
   | some (fs,τ')=>some (f::fs,τ')
   | none=>none
  | none=>none
def wrapFz:List Ot→Ot→Ot
 | [],o=>o
 | f::fs,o=>compT f (wrapFz fs o)
def gdK {R:Type} (g:Option PD) (x:Option R):Option R:=match g with
 | none=>x
 | some g=>@ite _ g.p g.d x none
def splitK {R:Type} (need:Bool) (out:Ot) (k:Ot→Option R):Option R:=match need with
 | false=>k out
 | true=>match out.wt with
  | [(d,.a (.c (.p .bool b _)))]=>if b=true then k { out with wt:=[(d,.a (.c (.kb true)))] } else k { out with wt:=[(d,.a (.c (.kb false)))] }
  | _=>k out
def callK {R:Type} (C:CE) (fo:Operand) (d:Nat) (xs:List Operand) (ts:List TypeId) (τ:TS) (ρ:Env) (k:Ot→Env→Option R):Option R:=match TE.callee τ fo with
 | some (f,ex,rk)=>match gt none C.F f,C.E.rdAll τ xs ts with
  | some F,some (vs,rt)=>match amPs τ 1000000 0 F.s.ms 0 [] F.s.ps (vs++ex) with
   | some (L,m1,lent)=>match F.s.A.ofL L,ρ.at (4000000+d) with
    | some (x,[]),none=>(F.fn x).bind fun r =>
     let D:CallT C.E.P:=⟨F,x,m1,lent,fun r=>m2R 2000000 (4000000+d*1000) 0 (F.s.R.lvs r) F.s.rm++(m2N (4000000+d*1000+900) 0 F.s.rs++m2B m1 0 F.s.ps),rt++rk⟩
     match D.ok τ f (4000000+d) r with
     | true=>k (D.out d (4000000+d) r) ((4000000+d,some ⟨F.s.R,r⟩)::ρ)
     | false=>none
    | _,_=>none
   | none=>none
  | _,_=>none
 | none=>none
def memO (l:List (Nat × List Nat)) (id i:Nat):Bool:=memK i (gt [] l id)
def inpOf (C:CE):Operand→Option (FuncId × SX C.E.P)
 | .func f=>match gt none C.I f with
  | some X=>some (f,X)
  | none=>none
 | _=>none
def inpK {R:Type} (C:CE) (f:FuncId) (X:SX C.E.P) (d:Nat) (xs:List Operand) (ts:List TypeId) (τ:TS) (ρ:Env) (k:Ot→Env→Option R):Option R:=match xs,ts with
 | [x],[t]=>match C.E.rd τ t x with
  | some (.a (.c (.vf r)))=>match τ.o r with
   | .row (.int .i64) false as _=>match fnOk C.E.P f && Nat.beq X.num f with
    | true=>if List.length as<4611686018427387904 then k { rt:=evkK x,ro:=[r],wt:=[(d,.tup [])],wo:=[(r,.row (.int .i64) false (X.fn as) no)] } ρ else none
    | false=>none
   | _=>none
  | _=>none
 | _,_=>none
def bkOf (C:CE):Operand→Option (FuncId × BX C.E.P)
 | .func f=>match gt none C.B f with
  | some X=>some (f,X)
  | none=>none
 | _=>none
def bkK {R:Type} (C:CE) (f:FuncId) (X:BX C.E.P) (d:Nat) (xs:List Operand) (ts:List TypeId) (τ:TS) (ρ:Env) (k:Ot→Env→Option R):Option R:=match xs,ts with
 | [x],[t]=>match C.E.rd τ t x with
  | some (.a (.c (.p ty v _)))=>match τ.o (4000000+d*1000+900) with
   | .fresh=>match fnOk C.E.P f && Nat.beq X.num f with
    | true=>k { rt:=evkK x,ro:=[4000000+d*1000+900],wt:=[(d,.a (.fn X.cl [.bx (4000000+d*1000+900) 0]))],wo:=[(4000000+d*1000+900,.box [.p ty v no])] } ρ
    | false=>none
   | _=>none
  | _=>none
 | _,_=>none
def opK {R:Type} (C:CE) (id i:Nat) (o:Oper) (τ:TS) (ρ:Env) (k:Ot→Env→Option R):Option R:=match o.op,o.dst with
 | .call ⟨.value fo,⟨xs⟩,⟨ts⟩⟩,some d=>match inpOf C fo with
  | some (f,X)=>inpK C f X d xs ts τ ρ k
  | none=>match bkOf C fo with
   | some (f,X)=>bkK C f X d xs ts τ ρ k
   | none=>callK C fo d xs ts τ ρ k
 | op,d=>match tstepM C.E o (memO C.own id i) τ op d with
  | some out=>gdK out.g (k out ρ)
  | none=>none
def stepK {R:Type} (C:CE) (id i:Nat) (need:Bool) (o:Oper) (τ:TS) (ρ:Env) (k:Ot→Env→Option R):Option R:=match tFz τ (fzOf C τ o.op) with
 | some (fs,τ1)=>opK C id i o τ1 ρ fun out ρ'=>splitK need out fun out=>k (wrapFz fs out) ρ'
 | none=>none
def skipK:Option Tmp→List (Nat × TV)
 | some d=>[(d,.tup [])]
 | none=>[]
def needs (all:List Oper) (i:Nat) (d:Option Tmp):Bool:=all.any fun o=>(match o.guard with
 | some (j,_)=>Nat.beq j i
 | none=>false) || (match o.op,d with
 | .pick (.tmp s) _ _,some d=>Nat.beq s d
 | _,_=>false)
def atK {R:Type} (C:CE) (id:Nat) (all:List Oper) (i:Nat) (o:Oper) (τ:TS) (ρ:Env) (k:Ot→Env→Option R):Option R:=match o.guard with
 | none=>stepK C id i (needs all i o.dst) o τ ρ k
 | some (j,want)=>match all[j]? with
  | some oj=>match oj.dst with
   | some d=>match τ.t d with
    | .a (.c (.kb b))=>match b == want with
     | true=>stepK C id i (needs all i o.dst) o τ ρ fun out ρ'=>k { out with rt:=d::out.rt } ρ'
     | false=>k { rt:=[d],wt:=skipK o.dst } ρ
    | .tup []=>k { rt:=[d],wt:=skipK o.dst } ρ
    | _=>none
   | none=>none
  | none=>none
def opsK {R:Type} (C:CE) (id:Nat) (all:List Oper):Nat→List Oper→List FK→TS→Env→(List FK→TS→Env→Option R)→Option R
 | _,[],acc,τ,ρ,k=>k acc τ ρ
 | i,o::os,acc,τ,ρ,k=>atK C id all i o τ ρ fun out ρ'=>opsK C id all (i+1) os (acc++[out.fk]) (τ.app out) ρ' k
def indepK (f g:FK):Bool :=
 apart f.wt g.rt && apart f.wt g.wt && apart g.wt f.rt && (apart f.wo g.ro && apart f.wo g.wo && apart g.wo f.ro)
def indepRowK (fs:List FK) (f:FK) (m:Nat):Nat→Bool
 | 0=>true
 | i+1=>(m.testBit i || indepK (fs.getD i {}) f) && indepRowK fs f m i
def drawOkK (ops:Array Oper) (B:List Nat) (fs:List FK):Nat→Bool
 | 0=>true
 | j+1=>(match ops[j]? with
  | some o=>Nat.beq (B.getD j 0) (preOf B o) && o.after.all (fun e=>!Region.binds .any e || decide (e.on<j)) && indepRowK fs (fs.getD j {}) (B.getD j 0) j
  | none=>false) && drawOkK ops B fs j
def ltAll (n:Nat):List FK→Bool
 | []=>true
 | f::fs=>f.wt.all (fun k=>Nat.blt k n) && ltAll n fs
def regOkK (nt:Nat) (draw:Bool) (ops:Array Oper) (fs:List FK):Bool :=
 ltAll nt fs && (Nat.beq fs.length ops.size && (!draw || drawOkK ops (befT ops.toList) fs ops.size))
def regK {R:Type} (C:CE) (id:Nat) (ops:Array Oper) (draw:Bool) (τ:TS) (ρ:Env) (k:TS→Env→Option R):Option R:=match runPres τ (gt [] C.pre id) with
 | some τ1=>opsK C id ops.toList 0 ops.toList [] τ1 ρ fun fs τ' ρ'=>match regOkK C.nt draw ops fs with
  | true=>k τ' ρ'
  | false=>none
 | none=>none
theorem getD_map {fs:List Ft} (i:Nat):(fs.map fkOf).getD i {}=fkOf (fs.getD i {}):=by
 simp only [List.getD_eq_getElem?_getD,List.getElem?_map]
 cases fs[i]? <;> rfl
theorem indepRowK_eq {fs:List Ft} {f:Ft} {m:Nat}:∀ n,indepRowK (fs.map fkOf) (fkOf f) m n=indepRow fs f m n
 | 0=>rfl
 | n+1=>by simp only [indepRowK,indepRow,getD_map,indepRowK_eq n];rfl
theorem drawOkK_eq {ops:Array Oper} {B:List Nat} {fs:List Ft}:∀ n,drawOkK ops B (fs.map fkOf) n=drawOk ops B fs n
 | 0=>rfl
 | n+1=>by
  simp only [drawOkK,drawOk,getD_map,indepRowK_eq,drawOkK_eq n]
  cases ops[n]? <;> rfl
theorem ltAll_eq {n:Nat}:∀ {fs:List Ft},ltAll n (fs.map fkOf)=true→inNt n fs=true
 | [],_=>rfl
 | f::fs,h=>by
  simp only [List.map_cons,ltAll,Bool.and_eq_true,List.all_eq_true] at h
  have ih:=ltAll_eq h.2
  simp only [inNt,List.all_cons,Bool.and_eq_true,List.all_eq_true,decide_eq_true_eq] at ih ⊢
  refine ⟨fun x hx=>?_,ih⟩
  have:=h.1 x.1 (List.mem_map.2 ⟨x,hx,rfl⟩)
  exact Nat.le_of_ble_eq_true this
section
variable {R:Type} {C:CE} {ρ:Env} {τ:TS} {σ:St}
abbrev Ext (ρ ρ':Env):Prop:=∀ g x,tg ρ g x→tg ρ' g x
theorem opK_spec {id i:Nat} {o:Oper} {k:Ot→Env→Option R} {r:R} (h:opK C id i o τ ρ k=some r) (hR:Rl ρ τ σ) :
  ∃ out ρ' hn f c,pstep C.E.P o hn σ=some (f,c)∧c.holds∧Ext ρ ρ'∧Wrt ρ' τ out f∧k out ρ'=some r:=by
 have gen:∀ {op:Op} {d:Option Tmp},o.op=op→o.dst=d→(match tstepM C.E o (memO C.own id i) τ op d with | some out=>gdK out.g (k out ρ) | none=>none)=some r →
   ∃ out ρ' hn f c,pstep C.E.P o hn σ=some (f,c)∧c.holds∧Ext ρ ρ'∧Wrt ρ' τ out f∧k out ρ'=some r:=by
  intro op d e1 e2 h
  split at h
  ·rename_i out ho
   have hh:out.holds∧k out ρ=some r:=by
    unfold gdK at h
    unfold Ot.holds
    split at h
    ·rename_i e;rw [e];exact ⟨trivial,h⟩
    ·rename_i g e;rw [e];exact @gd_some g.p g.d _ (k out ρ) r h
   obtain ⟨hn,f,c,k1,k2,k3⟩:=tstep_right (E:=C.E) (o:=o) (ρ:=ρ) (τ:=τ) (own:=memO C.own id i) out (by unfold tstep;rw [e1,e2];exact ho) σ hR hh.1
   exact ⟨out,ρ,hn,f,c,k1,k2,fun _ _ h=>h,k3,hh.2⟩
  ·cases h
 unfold opK at h
 split at h
 ·rename_i fo xs ts d ho hd
  split at h
  ·rename_i f X hi
   obtain rfl:fo=.func f:=by
    unfold inpOf at hi
    split at hi
    ·split at hi <;> cases hi
     rfl
    ·cases hi
   unfold inpK at h
   split at h
   ·rename_i x t
    split at h
    ·rename_i r hx
     split at h
     ·rename_i as g hr
      split at h
      ·rename_i hb
       simp only [Bool.and_eq_true] at hb
       obtain ⟨hfn,hnum⟩:=hb
       have hnum:=Nat.eq_of_beq_eq_true hnum
       split at h
       ·rename_i hlt
        obtain ⟨q1,q2⟩:rR ρ τ.o (.row (.int .i64) false as g) (σ.O r):=hr ▸ hR.O r
        have hlen:(τ.o r).len=some (List.length as):=by rw [hr];rfl
        obtain ⟨cx,c1,c2⟩:=rd_C hR (by simp) hx
        rw [cR_vf hlen] at c2
        subst c2
        have hct:=X.ct as hlt
        rw [hnum] at hct
        have hrow:∀ xs:List Int,rowR false (.int .i64) xs=rowI xs:=by
         intro xs;simp [rowR,rowI,elR,Ty.enc]
        have hch:∀ k,okch (τ.o k) (gt (τ.o k) [(r,TR.row (.int .i64) false (X.fn as) no)] k):=ch1 (okch.len hlen (by
         show some (List.length (X.fn as))=_
         rw [hct.1]))
        refine ⟨{ rt:=evkK x,ro:=[r],wt:=[(d,.tup [])],wo:=[(r,.row (.int .i64) false (X.fn as) no)] },ρ,.inp as (X.fn as),{ rt:=evk σ x,ro:=[(r,.row 1 (rowI as))],wt:=[(d,.tup [])],wo:=[(r,.row 1 (rowI (X.fn as)))] },some (rowI as=rowI as∧CtN C.E.P f as (X.fn as)),?_,⟨rfl,hct⟩,fun _ _ h=>h,⟨by simp,rfl,fun k=>by rw [app_o];exact hch k,⟨⟨rfl,trivial⟩,trivial⟩,⟨⟨rfl,?_,tg_no⟩,trivial⟩⟩,h⟩
        ·rw [pstep_eq ho hd]
         have q1:σ.O r=.row 1 (rowI as):=by rw [q1,← hrow];rfl
         simp only [pstepM,pCallC,pCallH,pInp,c1,q1,hfn,beq_same,Bool.and_self,if_true]
        ·rw [← hrow];rfl
       ·cases h
      ·cases h
     ·cases h
    ·cases h
   ·cases h
  split at h
  ·rename_i f X hi
   obtain rfl:fo=.func f:=by
    unfold bkOf at hi
    split at hi
    ·split at hi <;> cases hi
     rfl
    ·cases hi
   unfold bkK at h
   split at h
   ·rename_i x t
    split at h
    ·rename_i ty v g hx
     split at h
     ·rename_i hfr
      split at h
      ·rename_i hb
       simp only [Bool.and_eq_true] at hb
       obtain ⟨hfn,hnum⟩:=hb
       have hnum:=Nat.eq_of_beq_eq_true hnum
       obtain ⟨c1,c2⟩:=rd_P hR hx
       have hfr':σ.O (4000000+d*1000+900)=.fresh:=by have:=hR.O (4000000+d*1000+900);rw [hfr] at this;exact this
       have hct:=X.ct (TD.sp ⟨ty,v⟩)
       rw [hnum] at hct
       obtain ⟨H,hH⟩:∃ H:CallH,H=⟨[.a (.c (.p (TD.sp ⟨ty,v⟩)))],[],[],[],.a (.fn X.cl [.bx 0 0]),[(0,.box [.p (TD.sp ⟨ty,v⟩)])],[(0,4000000+d*1000+900)]⟩:=⟨_,rfl⟩
       have hwo:woOf H=[(4000000+d*1000+900,.box [.p (TD.sp ⟨ty,v⟩)])]:=by subst hH;rfl
       have hro:roOf σ.O H=[(4000000+d*1000+900,.fresh)]:=by subst hH;simp [roOf,hfr']
       have hnm:namesOk σ.O H=true:=by subst hH;simp [namesOk,nodup,hfr',isFresh,look,live]
       have hres:trSV H.m2 H.res=some (.a (.fn X.cl [.bx (4000000+d*1000+900) 0])):=by subst hH;rfl
       have htr:trAll H H.m2=true:=by subst hH;rfl
       refine ⟨_,ρ,.call H,{ rt:=(evk σ x++[])++[],ro:=roOf σ.O H,wt:=[(d,.a (.fn X.cl [.bx (4000000+d*1000+900) 0]))],wo:=woOf H },some (Ct C.E.P f H.svs (ofL H.O0) H.res (ofL H.O1)∧amS H.m1 H.lent σ.O H.svs ([.a (.c (.p (TD.sp ⟨ty,v⟩)))]++[])∧hand σ.O (ofL H.O0) H.m1 H.m1∧(H.lent=[]∨nsSV H.res∧nsAll H H.m2)),?_,?_,fun _ _ h=>h,?_,h⟩
       ·rw [pstep_eq ho hd]
        simp only [pstepM,pCallC,pCallH,pCall,rdAll,List.headD,c1,calleeOf,hres,hfn,hnm,htr,Bool.and_self,if_true]
       ·subst hH
        refine ⟨hct,⟨?_,trivial⟩,trivial,.inl rfl⟩
        show amCV [] [] σ.O (.p (TD.sp ⟨ty,v⟩)) (.p (TD.sp ⟨ty,v⟩))
        generalize TD.sp ⟨ty,v⟩=y
        cases y <;> rfl
       ·rw [hwo,hro]
        refine ⟨by simp,rfl,fun k=>by rw [app_o];exact ch1 (by rw [hfr];trivial) k,⟨⟨rfl,?_⟩,trivial⟩,⟨⟨rfl,?_⟩,trivial⟩⟩
        ·refine ⟨rfl,?_,trivial⟩
         show cR _ _ (.bx _ 0) _
         simp only [cR,app_o,gt_same]
        ·exact ⟨_,rfl,⟨rfl,tg_no⟩,trivial⟩
      ·cases h
     ·cases h
    ·cases h
   ·cases h
  unfold callK at h
  split at h
  ·rename_i f ex rk hcal
   split at h
   ·rename_i F vs rt hF hvs
    split at h
    ·rename_i L m1 lent ham
     split at h
     ·rename_i x hof hv
      obtain ⟨rr,h1,h2⟩:=bd_some h
      simp only at h2
      split at h2
      ·rename_i hok
       obtain ⟨f',c,k1,k2,k3⟩:=call_right (E:=C.E) (C:=⟨F,x,m1,lent,fun r=>m2R 2000000 (4000000+d*1000) 0 (F.s.R.lvs r) F.s.rm++(m2N (4000000+d*1000+900) 0 F.s.rs++m2B m1 0 F.s.ps),rt++rk⟩) hd ho hcal hvs rfl ham hof h1 hok hv hR
       exact ⟨_,_,_,f',c,k1,k2,fun g x h=>tg_ext hv h,k3,h2⟩
      ·cases h2
     ·cases h
    ·cases h
   ·cases h
  ·cases h
 ·exact gen rfl rfl h
theorem compT_g (fs:List Ot) (o:Ot):(wrapFz fs o).g=o.g:=by
 induction fs with
 | nil=>rfl
 | cons f fs ih=>exact ih
theorem tFz_spec {P:Program} {o:Oper}:∀ {l:List (Nat × Nat)} {τ τ1:TS} {σ:St} {fs:List Ot},tFz τ l=some (fs,τ1)→Rl ρ τ σ →
  ∃ σ1,Rl ρ τ1 σ1∧∀ (out:Ot) (ρ':Env),Ext ρ ρ'→(∃ hn f c,pIs P o hn σ1=some (f,c)∧c.holds∧Wrt ρ' τ1 out f)→∃ hn f c,pIs P o hn σ=some (f,c)∧c.holds∧Wrt ρ' τ (wrapFz fs out) f
 | [],τ,τ1,σ,fs,h,hR=>by
  simp only [tFz,Option.some.injEq,Prod.mk.injEq] at h
  obtain ⟨rfl,rfl⟩:=h
  exact ⟨σ,hR,fun _ _ _ h=>h⟩
 | (s,r)::l,τ,τ1,σ,fs,h,hR=>by
  simp only [tFz] at h
  split at h
  ·rename_i f1 h1
   split at h
   ·rename_i fs' τ' h2
    cases h
    obtain ⟨L,F1,c1,k1,k2,k3⟩:=tFrz_spec h1 hR
    obtain ⟨σ1,q1,q2⟩:=tFz_spec h2 (k3.rl hR)
    refine ⟨σ1,q1,fun out ρ' e hh=>?_⟩
    obtain ⟨hn,f,c,g1,g2,g3⟩:=q2 out ρ' e hh
    refine ⟨.frz s r L hn,comp F1 f,c1.and c,?_,PC.and_holds.2 ⟨k2,g2⟩,(k3.env e).comp g3⟩
    simp only [pIs,k1,g1]
   ·cases h
  ·cases h
theorem pIs_of_pstep {P:Program} {o:Oper} {hn:Hn} {σ:St} {f:Ft} {c:PC} (h:pstep P o hn σ=some (f,c)):∃ hn',pIs P o hn' σ=some (f,c):=by
 cases hn with
 | is b h' =>
  refine ⟨.no,?_⟩
  unfold pIs
  rw [← h]
  unfold pstep
  cases hd:o.dst <;> cases ho:o.op <;> simp [pstepM,pBuildH,pAllocH,pIdxH,pLoadH,pStoreH,hSps,hOwn,pBin2,pBin,pCallC,pCallH,pBI,hVal,hNh]
 | frz s r L h' =>
  refine ⟨.no,?_⟩
  unfold pIs
  rw [← h]
  unfold pstep
  cases hd:o.dst <;> cases ho:o.op <;> simp [pstepM,pBuildH,pAllocH,pIdxH,pLoadH,pStoreH,hSps,hOwn,pBin2,pBin,pCallC,pCallH,pBI,hVal,hNh]
 | drp a c' h' =>
  refine ⟨.no,?_⟩
  unfold pIs
  rw [← h]
  unfold pstep
  cases hd:o.dst <;> cases ho:o.op <;> simp [pstepM,pBuildH,pAllocH,pIdxH,pLoadH,pStoreH,hSps,hOwn,pBin2,pBin,pCallC,pCallH,pBI,hVal,hNh]
 | no=>exact ⟨.no,h⟩
 | val v=>exact ⟨.val v,h⟩
 | rcs v=>exact ⟨.rcs v,h⟩
 | sps v=>exact ⟨.sps v,h⟩
 | take v=>exact ⟨.take v,h⟩
 | fill v w=>exact ⟨.fill v w,h⟩
 | news v=>exact ⟨.news v,h⟩
 | own v=>exact ⟨.own v,h⟩
 | call v=>exact ⟨.call v,h⟩
 | inp v w=>exact ⟨.inp v w,h⟩
theorem splitK_spec {P:Program} {o:Oper} {need:Bool} {out:Ot} {k:Ot→Option R} {r:R} (h:splitK need out k=some r) {ρ':Env} {hn:Hn} {f:Ft} {c:PC} (h1:pstep P o hn σ=some (f,c)) (h2:c.holds) (h3:Wrt ρ' τ out f) :
  ∃ out' hn f' c',pIs P o hn σ=some (f',c')∧c'.holds∧Wrt ρ' τ out' f'∧k out'=some r:=by
 unfold splitK at h
 split at h
 ·obtain ⟨hn',e⟩:=pIs_of_pstep h1
  exact ⟨out,hn',f,c,e,h2,h3,h⟩
 ·split at h
  ·rename_i d b g hw
   have hwt:=h3.wt
   rw [hw] at hwt
   cases hfw:f.wt with
   | nil=>rw [hfw] at hwt;exact hwt.elim
   | cons y l =>
    rw [hfw] at hwt
    cases l with
    | cons=>exact hwt.2.elim
    | nil =>
     obtain ⟨d',sv⟩:=y
     obtain ⟨⟨e1,e2⟩,_⟩:=hwt
     simp only at e1 e2
     subst e1
     have hsv:sv=bo b:=by
      cases sv with
      | a a=>cases a with
       | c cc=>have e2:cR ρ' (τ.app out).o (.p .bool b g) cc:=e2;rw [e2.1];rfl
       | _=>exact e2.elim
      | tup m=>exact e2.elim
     subst hsv
     have key:∀ w:Bool,b=w→∃ hn f' c',pIs P o hn σ=some (f',c')∧c'.holds∧Wrt ρ' τ { out with wt:=[(d,.a (.c (.kb w)))] } f':=by
      intro w hb
      refine ⟨.is w hn,{ f with wt:=[(d,bo w)] },c.and (some (b=w)),?_,PC.and_holds.2 ⟨h2,hb⟩,⟨h3.rt,h3.ro,h3.ch,⟨⟨rfl,rfl⟩,trivial⟩,h3.wo⟩⟩
      simp only [pIs,h1,hfw,bo,boV]
     by_cases hb:b=true
     ·rw [if_pos hb] at h
      obtain ⟨hn,f',c',q1,q2,q3⟩:=key true hb
      exact ⟨_,hn,f',c',q1,q2,q3,h⟩
     ·rw [if_neg hb] at h
      obtain ⟨hn,f',c',q1,q2,q3⟩:=key false (by simpa using hb)
      exact ⟨_,hn,f',c',q1,q2,q3,h⟩
  ·obtain ⟨hn',e⟩:=pIs_of_pstep h1
   exact ⟨out,hn',f,c,e,h2,h3,h⟩
theorem stepK_spec {id i:Nat} {need:Bool} {o:Oper} {k:Ot→Env→Option R} {r:R} (h:stepK C id i need o τ ρ k=some r) (hR:Rl ρ τ σ) :
  ∃ out ρ' hn f c,pIs C.E.P o hn σ=some (f,c)∧c.holds∧Ext ρ ρ'∧Wrt ρ' τ out f∧k out ρ'=some r:=by
 unfold stepK at h
 split at h
 ·rename_i fs τ1 hf
  obtain ⟨σ1,k1,k2⟩:=tFz_spec (P:=C.E.P) (o:=o) hf hR
  obtain ⟨out,ρ',hn,f,c,q1,q2,q3,q4,q5⟩:=opK_spec h k1
  obtain ⟨out',hn',f',c',g1,g2,g3,g4⟩:=splitK_spec q5 q1 q2 q4
  obtain ⟨hn2,f2,c2,m1,m2,m3⟩:=k2 out' ρ' q3 ⟨hn',f',c',g1,g2,g3⟩
  exact ⟨_,ρ',hn2,f2,c2,m1,m2,q3,m3,g4⟩
 ·cases h
theorem atK_spec {id i:Nat} {ops:Array Oper} {o:Oper} {k:Ot→Env→Option R} {r:R} (h:atK C id ops.toList i o τ ρ k=some r) (hR:Rl ρ τ σ) :
  ∃ out ρ' hn f c,pAt C.E.P ops o hn σ=some (f,c)∧c.holds∧Rl ρ' (τ.app out) (f.app σ)∧fkOf f=out.fk∧k out ρ'=some r:=by
 unfold atK at h
 split at h
 ·rename_i hg
  obtain ⟨out,ρ',hn,f,c,q1,q2,q3,q4,q5⟩:=stepK_spec h hR
  refine ⟨out,ρ',hn,f,c,?_,q2,q4.rl (hR.env q3),q4.fk,q5⟩
  simp only [pAt,hg,q1]
 ·rename_i j want hg
  split at h
  ·rename_i oj hj
   have hj':ops[j]?=some oj:=by simpa using hj
   split at h
   ·rename_i d hd
    have skip:∀ {sv:SV},σ.T d=sv→(boV sv=none∧isUn sv=true∨∃ b,boV sv=some b∧b≠want)→k { rt:=[d],wt:=skipK o.dst } ρ=some r →
      ∃ out ρ' hn f c,pAt C.E.P ops o hn σ=some (f,c)∧c.holds∧Rl ρ' (τ.app out) (f.app σ)∧fkOf f=out.fk∧k out ρ'=some r:=by
     intro sv hsv hs hk
     have hW:∀ x:Nat × SV,x.1=d→Wrt ρ τ { rt:=[d],wt:=skipK o.dst } { rt:=[x],wt:=skipT o.dst }:=by
      intro x hx
      refine Wrt.tmp rfl rfl (by simp [keys,hx]) rfl ?_
      cases o.dst with
      | none=>trivial
      | some d'=>exact ⟨⟨rfl,trivial⟩,trivial⟩
     rcases hs with ⟨h1,h2⟩ | ⟨b,h1,h2⟩
     ·refine ⟨_,ρ,.no,{ rt:=[(d,.tup [])],wt:=skipT o.dst },none,?_,trivial,(hW _ rfl).rl hR,(hW _ rfl).fk,hk⟩
      simp only [pAt,hg,hj',hd,hsv,h1,h2,if_true]
     ·refine ⟨_,ρ,.no,{ rt:=[(d,bo b)],wt:=skipT o.dst },none,?_,trivial,(hW _ rfl).rl hR,(hW _ rfl).fk,hk⟩
      simp only [pAt,hg,hj',hd,hsv,h1,if_neg h2]
    split at h
    ·rename_i b hb
     obtain ⟨c',e1,e2⟩:=single_at hR (by simp) hb
     cases e2
     split at h
     ·rename_i hw
      have hw:=eq_of_beq hw
      obtain ⟨out,ρ',hn,f,c,q1,q2,q3,q4,q5⟩:=stepK_spec h hR
      have hW:Wrt ρ' τ { out with rt:=d::out.rt } { f with rt:=(d,bo b)::f.rt }:=⟨by simp only [keys,List.map_cons];congr 1;exact q4.rt,q4.ro,q4.ch,q4.wt,q4.wo⟩
      refine ⟨_,ρ',hn,{ f with rt:=(d,bo b)::f.rt },c,?_,q2,hW.rl (hR.env q3),hW.fk,q5⟩
      simp only [pAt,hg,hj',hd,e1,boV,hw,if_true,q1]
     ·rename_i hw
      refine skip e1 (.inr ⟨b,rfl,?_⟩) h
      intro e;subst e;simp at hw
    ·rename_i hb
     have hs:=hR.T d
     rw [hb] at hs
     cases hsv:σ.T d with
     | a a=>rw [hsv] at hs;exact hs.elim
     | tup m =>
      rw [hsv] at hs
      cases m with
      | nil=>exact skip hsv (.inl ⟨rfl,rfl⟩) h
      | cons=>exact hs.elim
    ·cases h
   ·cases h
  ·cases h
theorem opsK_spec {id:Nat} {ops:Array Oper} {k:List FK→TS→Env→Option R} {r:R}:∀ {os:List Oper} {i:Nat} {acc:List FK} {τ:TS} {ρ:Env} {σ:St},opsK C id ops.toList i os acc τ ρ k=some r→Rl ρ τ σ →
  ∃ hs fs c σ' τ' ρ',plan C.E.P ops os hs σ=some (fs,c,σ')∧c.holds∧Rl ρ' τ' σ'∧k (acc++fs.map fkOf) τ' ρ'=some r
 | [],i,acc,τ,ρ,σ,h,hR=>⟨[],[],none,σ,τ,ρ,rfl,trivial,hR,by rw [List.map_nil,List.append_nil];exact h⟩
 | o::os,i,acc,τ,ρ,σ,h,hR=>by
  simp only [opsK] at h
  obtain ⟨out,ρ1,hn,f,c,q1,q2,q3,q4,q5⟩:=atK_spec h hR
  obtain ⟨hs,fs,c',σ',τ',ρ',k1,k2,k3,k4⟩:=opsK_spec q5 q3
  refine ⟨hn::hs,f::fs,c.and c',σ',τ',ρ',?_,PC.and_holds.2 ⟨q2,k2⟩,k3,?_⟩
  ·simp only [plan,List.headD,q1,List.tail,k1]
  ·rw [← k4,List.map_cons,q4,List.append_assoc];rfl
theorem plan_len {P:Program} {ops:Array Oper}:∀ {os:List Oper} {hs:List Hn} {σ:St} {fs:List Ft} {c:PC} {σ':St},plan P ops os hs σ=some (fs,c,σ')→fs.length=os.length
 | [],hs,σ,fs,c,σ',h=>by simp only [plan,Option.some.injEq,Prod.mk.injEq] at h;rw [← h.1];rfl
 | o::os,hs,σ,fs,c,σ',h=>by
  simp only [plan] at h
  split at h
  ·split at h
   ·rename_i h2;cases h;simp [plan_len h2]
   ·cases h
  ·cases h
theorem regK_spec {Γ:Ctx} (hm:C.E.P.follows .mixedOrders=true) (hnt:Γ.nt=C.nt) {id:Nat} {ops:Array Oper} {draw:Bool} {k:TS→Env→Option R} {r:R} (h:regK C id ops draw τ ρ k=some r) (hR:Rl ρ τ σ) :
  Tr C.E.P Γ (.region id ops draw) (fun e σ'=>e=.normal∧∃ τ' ρ',Rl ρ' τ' σ'∧k τ' ρ'=some r) σ:=by
 unfold regK at h
 split at h
 ·rename_i τ1 hp
  obtain ⟨σ1,s1,s2⟩:=runPres_sub (Γ:=Γ) hp hR
  refine tr_sub s1 ?_
  obtain ⟨hs,fs,c,σ',τ',ρ',k1,k2,k3,k4⟩:=opsK_spec h s2
  rw [List.nil_append] at k4
  split at k4
  ·rename_i hok
   simp only [regOkK,Bool.and_eq_true] at hok
   obtain ⟨b1,b2,b3⟩:=hok
   obtain ⟨a1,a2,a3⟩:=plan_spec k1 k2
   have hlen:fs.length=ops.size:=by have:=Nat.eq_of_beq_eq_true b2;simpa using this
   have hq:(fun e σ'=>e=Exit.normal∧∃ τ' ρ',Rl ρ' τ' σ'∧k τ' ρ'=some r) Exit.normal (runC fs σ1):=⟨rfl,τ',ρ',a3 ▸ k3,k4⟩
   cases draw with
   | false=>exact tr_region hlen (by rw [hnt];exact ltAll_eq b1) a1 a2 hq
   | true=>exact tr_draw hm hlen (by rw [hnt];exact ltAll_eq b1) (by rw [drawOkK_eq] at b3;simpa using b3) a1 a2 hq
  ·cases k4
 ·cases h
end
end Go.XM
end
section
namespace Go.XM
open Go.RowKit
def ownOf:List (Nat × RSh)→Nat→Bool
 | [],_=>false
 | (k,.row _ own _ _)::l,i=>bif Nat.beq k i then own else ownOf l i
 | _::l,i=>ownOf l i
def uniq:List Nat→List Nat
 | []=>[]
 | x::l=>let m:=uniq l;bif memK x m then m else x::m
def isSl:Ty→Bool
 | .sl _=>true
 | _=>false
def preC:LS→TC→List Nat × Bool
 | .p t _ _,.vf r=>(bif isSl t then [r] else [],false)
 | .p t _ _,.vw r _ _=>(bif isSl t then [r] else [],false)
 | .p t _ _,.nl _=>([],isSl t)
 | _,_=>([],false)
def preL:List LS→List TC→List Nat × Bool
 | x::l,y::l'=>let a:=preC x y;let b:=preL l l';(a.1++b.1,a.2 || b.2)
 | _,_=>([],false)
def preT (τ:TS) (O:List (Nat × RSh)):List (Nat × VS)→List Pre × List Nat
 | []=>([],[])
 | (i,v)::l =>
  let b:=preT τ O l
  match v,τ.t i with
  | .c (.vf k),.a (.c (.nl _))=>(.nilS i (6000000+i) (ownOf O k)::b.1,b.2)
  | .c x,.a (.c y)=>let a:=preC x y;((match a.2 with | true=>[Pre.nsS i] | false=>[])++b.1,a.1++b.2)
  | .agg x,.a (.agg y)=>let a:=preL x y;((match a.2 with | true=>[Pre.nsS i] | false=>[])++b.1,a.1++b.2)
  | _,_=>b
def preB (O:List (Nat × RSh)) (r:Nat):Nat→List LS→List TC→List Pre × List Nat
 | c,x::l,y::l' =>
  let b:=preB O r (c+1) l l'
  match x,y with
  | .vf k,.nl _=>(.nilB r c (7000000+r*100+c) (ownOf O k)::b.1,b.2)
  | x,y=>let a:=preC x y;((match a.2 with | true=>[Pre.nsB r c] | false=>[])++b.1,a.1++b.2)
 | _,_,_=>([],[])
def preO (τ:TS) (O:List (Nat × RSh)) (m:Nm):List (Nat × RSh)→List Pre × List Nat
 | []=>([],[])
 | (k,.box l)::o =>
  let b:=preO τ O m o
  match look m k with
  | some r=>match τ.o r with
   | .box cs=>let a:=preB O r 0 l cs;(a.1++b.1,a.2++b.2)
   | _=>b
  | none=>b
 | _::o=>preO τ O m o
def Tm.pre (M:Tm) (τ:TS):List Pre :=
 let a:=preT τ M.O M.T
 let b:=preO τ M.O (nmO τ (nmT τ [] M.T) M.O) M.O
 a.1++(b.1++(uniq (a.2++b.2)).map Pre.frz)
def jump {R:Type} (M:Tm) (hs:List Nat) (τ:TS) (ρ:Env) (f:M.caps.D→M.pars.D→Option R):Option R:=match runPres τ (M.pre τ) with
 | some τ1=>match fit M hs ρ τ1 with
  | some (c,p)=>f c p
  | none=>none
 | none=>none
inductive LT (R:Type) where
 | t
 | two (a b:LT R)
 | join (M:Tm) (fn:M.caps.D→M.pars.D→Option R) (a b:LT R)
 | one (a:LT R)
 | loop (M:Tm) (fn:Nat→M.caps.D→M.pars.D→Option R) (body:Nat→LT R)
def LT.l {R:Type}:LT R→LT R
 | .two a _=>a
 | .one a=>a
 | _=>.t
def LT.r {R:Type}:LT R→LT R
 | .two _ b=>b
 | _=>.t
abbrev KE (R:Type):=Exit→TS→Env→Option R
abbrev kSeq {R:Type} (f:TS→Env→Option R) (k:KE R):KE R:=fun e τ ρ=>match e with
 | .normal=>f τ ρ
 | e=>k e τ ρ
abbrev kBlk {R:Type} (id:Nat) (k:KE R):KE R:=fun e τ ρ=>match e with
 | .exit j=>match Nat.beq j id with
  | true=>k .normal τ ρ
  | false=>k (.exit j) τ ρ
 | e=>k e τ ρ
abbrev kScp {R:Type} (k:KE R):KE R:=fun e τ ρ=>match e with
 | .goto _=>none
 | e=>k e τ ρ
def ev {R:Type} (C:CE):Code→LT R→TS→Env→KE R→Option R
 | .skip,_,τ,ρ,k=>k .normal τ ρ
 | .label _,_,τ,ρ,k=>k .normal τ ρ
 | .ret,_,τ,ρ,k=>k .ret τ ρ
 | .exit i,_,τ,ρ,k=>k (.exit i) τ ρ
 | .region id ops draw,_,τ,ρ,k=>regK C id ops draw τ ρ fun τ ρ=>k .normal τ ρ
 | .seq a b,lt,τ,ρ,k=>match lt with
  | .join M fn la _=>ev C a la τ ρ (kSeq (fun τ ρ=>jump M C.hs τ ρ fn) k)
  | lt=>ev C a lt.l τ ρ (kSeq (fun τ ρ=>ev C b lt.r τ ρ k) k)
 | .block id c,lt,τ,ρ,k=>ev C c lt.l τ ρ (kBlk id k)
 | .scope c,lt,τ,ρ,k=>ev C c lt.l τ ρ (kScp k)
 | .cond x a b,lt,τ,ρ,k=>match C.E.rd τ 0 x with
  | some (.a (.c (.kb v)))=>match v with
   | true=>ev C a lt.l τ ρ k
   | false=>ev C b lt.r τ ρ k
  | some (.a (.c (.p .bool v _)))=>if v=true then ev C a lt.l τ ρ k else ev C b lt.r τ ρ k
  | _=>none
 | .loop _,lt,τ,ρ,_=>match lt with
  | .loop M fn _=>jump M C.hs τ ρ (fn C.K)
  | _=>none
 | _,_,_,_,_=>none
def Okc {R:Type} (C:CE):Code→LT R→KE R→Prop
 | .seq a b,lt,k=>match lt with
  | .join M fn la lb=>Okc C a la (kSeq (fun τ ρ=>jump M C.hs τ ρ fn) k)∧((∀ c p,fn c p=ev C b lb (M.st (M.env c p)) (M.env c p) k)∧Okc C b lb k)
  | lt=>Okc C a lt.l (kSeq (fun τ ρ=>ev C b lt.r τ ρ k) k)∧Okc C b lt.r k
 | .block id c,lt,k=>Okc C c lt.l (kBlk id k)
 | .scope c,lt,k=>Okc C c lt.l (kScp k)
 | .cond _ a b,lt,k=>Okc C a lt.l k∧Okc C b lt.r k
 | .loop c,lt,k=>match lt with
  | .loop M fn body=>(∀ c p,fn 0 c p=none)∧∀ n,(∀ p q,fn (n+1) p q=ev C c (body n) (M.st (M.env p q)) (M.env p q) (kSeq (fun τ ρ=>jump M C.hs τ ρ (fn n)) k))∧Okc C c (body n) (kSeq (fun τ ρ=>jump M C.hs τ ρ (fn n)) k)
  | _=>True
 | _,_,_=>True
section
variable {R:Type} {C:CE} {Γ:Ctx}
def Post (Γ:Ctx) (k:KE R) (r:R) (e:Exit) (σ:St):Prop:=∃ τ ρ σ',Sub Γ σ σ'∧Rl ρ τ σ'∧k e τ ρ=some r
theorem Post.sub {k:KE R} {r:R} {e:Exit} {σ σ':St} (h:Post Γ k r e σ') (s:Sub Γ σ σ'):Post Γ k r e σ:=let ⟨τ,ρ,σ1,h1,h2,h3⟩:=h;⟨τ,ρ,σ1,s.trans h1,h2,h3⟩
theorem jump_spec (hH:∀ k,Γ.H k→k∈C.hs) {M:Tm} {τ:TS} {ρ:Env} {f:M.caps.D→M.pars.D→Option R} {r:R} (h:jump M C.hs τ ρ f=some r) {σ:St} (hR:Rl ρ τ σ) :
  ∃ c p σ',Sub Γ σ σ'∧Rl (M.env c p) (M.st (M.env c p)) σ'∧f c p=some r:=by
 unfold jump at h
 split at h
 ·rename_i τ1 hp
  obtain ⟨σ1,s1,s2⟩:=runPres_sub (Γ:=Γ) hp hR
  split at h
  ·rename_i c p hf
   obtain ⟨s3,s4,_⟩:=fit_sub hf s2 hH
   exact ⟨c,p,_,s1.trans s3,s4,h⟩
  ·cases h
 ·cases h
theorem ev_sound (hm:C.E.P.follows .mixedOrders=true) (hnt:Γ.nt=C.nt) (hH:∀ k,Γ.H k→k∈C.hs):∀ (c:Code) (lt:LT R) (k:KE R) (τ:TS) (ρ:Env) (r:R) (σ:St),Okc C c lt k→ev C c lt τ ρ k=some r→Rl ρ τ σ→Tr C.E.P Γ c (Post Γ k r) σ:=by
 intro c
 induction c with
 | skip=>intro lt k τ ρ r σ _ h hR;exact tr_skip ⟨τ,ρ,σ,Sub.refl,hR,h⟩
 | label l=>intro lt k τ ρ r σ _ h hR;exact tr_label ⟨τ,ρ,σ,Sub.refl,hR,h⟩
 | ret=>intro lt k τ ρ r σ _ h hR;exact tr_ret ⟨τ,ρ,σ,Sub.refl,hR,h⟩
 | exit i=>intro lt k τ ρ r σ _ h hR;exact tr_exit ⟨τ,ρ,σ,Sub.refl,hR,h⟩
 | region id ops draw =>
  intro lt k τ ρ r σ _ h hR
  refine Tr.mono (regK_spec hm hnt h hR) ?_
  rintro e σ' ⟨rfl,τ',ρ',h1,h2⟩
  exact ⟨τ',ρ',σ',Sub.refl,h1,h2⟩
 | seq a b iha ihb =>
  intro lt k τ ρ r σ ho h hR
  have gen:∀ (la lb:LT R),Okc C a la (kSeq (fun τ ρ=>ev C b lb τ ρ k) k)→Okc C b lb k→ev C a la τ ρ (kSeq (fun τ ρ=>ev C b lb τ ρ k) k)=some r→Tr C.E.P Γ (.seq a b) (Post Γ k r) σ:=by
   intro la lb o1 o2 h
   refine tr_seq (fun σ'=>Post Γ (kSeq (fun τ ρ=>ev C b lb τ ρ k) k) r .normal σ') ?_ ?_
   ·refine Tr.mono (iha la _ τ ρ r σ o1 h hR) fun e σ' q=>?_
    cases e <;> exact q
   ·rintro σ' ⟨τ',ρ',σ1,q1,q2,q3⟩
    exact tr_sub q1 (ihb lb k τ' ρ' r σ1 o2 q3 q2)
  cases lt with
  | join M fn la lb =>
   obtain ⟨o1,o2,o3⟩:=ho
   refine tr_seq (fun σ'=>Post Γ (kSeq (fun τ ρ=>jump M C.hs τ ρ fn) k) r .normal σ') ?_ ?_
   ·refine Tr.mono (iha la _ τ ρ r σ o1 h hR) fun e σ' q=>?_
    cases e <;> exact q
   ·rintro σ' ⟨τ',ρ',σ1,q1,q2,q3⟩
    obtain ⟨c,p,σ2,s1,s2,s3⟩:=jump_spec hH (show jump M C.hs τ' ρ' fn=some r from q3) q2
    rw [o2] at s3
    exact tr_sub (q1.trans s1) (ihb lb k _ _ r σ2 o3 s3 s2)
  | t=>exact gen .t .t ho.1 ho.2 h
  | two la lb=>exact gen la lb ho.1 ho.2 h
  | one la=>exact gen la .t ho.1 ho.2 h
  | loop M fn body=>exact gen .t .t ho.1 ho.2 h
 | block id c ih =>
  intro lt k τ ρ r σ ho h hR
  refine tr_block (Tr.mono (ih lt.l _ τ ρ r σ ho h hR) fun e σ' q=>?_)
  cases e with
  | exit j =>
   obtain ⟨τ',ρ',σ1,q1,q2,q3⟩:=q
   simp only [kBlk] at q3
   simp only
   split
   ·rename_i e;subst e
    rw [beq_same] at q3
    exact ⟨τ',ρ',σ1,q1,q2,q3⟩
   ·rename_i e
    rw [beq_ne e] at q3
    exact ⟨τ',ρ',σ1,q1,q2,q3⟩
  | _=>exact q
 | scope c ih =>
  intro lt k τ ρ r σ ho h hR ro m g a w hg
  refine wpIn_scope_straight ?_
  refine wpIn_mono (ih lt.l _ τ ρ r σ ho h hR ro m g a w hg) ?_
  rintro e a' w' ⟨σ',g',q,hg'⟩
  obtain ⟨τ',ρ',σ1,q1,q2,q3⟩:=q
  cases e with
  | goto l=>cases q3
  | _=>exact ⟨σ',g',⟨τ',ρ',σ1,q1,q2,q3⟩,hg'⟩
 | cond x a b iha ihb =>
  intro lt k τ ρ r σ ho h hR
  obtain ⟨o1,o2⟩:=ho
  unfold ev at h
  split at h
  ·rename_i v hx
   have hv:=rd_K hR hx
   refine tr_cond v hv (fun e=>?_) (fun e=>?_)
   ·subst e;exact iha lt.l k τ ρ r σ o1 h hR
   ·subst e;exact ihb lt.r k τ ρ r σ o2 h hR
  ·rename_i v g hx
   have hv:=(rd_P hR hx).1
   refine tr_cond v hv (fun e=>?_) (fun e=>?_)
   ·rw [if_pos e] at h;exact iha lt.l k τ ρ r σ o1 h hR
   ·rw [if_neg (by rw [e];simp)] at h;exact ihb lt.r k τ ρ r σ o2 h hR
  ·cases h
 | loop c ih =>
  intro lt k τ ρ r σ ho h hR
  cases lt with
  | loop M fn body =>
   obtain ⟨o1,o2⟩:=ho
   obtain ⟨p,q,σ1,s1,s2,s3⟩:=jump_spec (f:=fn C.K) hH h hR
   refine tr_sub s1 ?_
   refine Tr.mono (Q:=fun e σ'=>match e with | .normal=>False | e=>Post Γ k r e σ') ?_ (fun e σ' q=>by cases e <;> first | exact q.elim | exact q)
   refine tr_loop (fun (n:Nat) σ=>∃ σ',Sub Γ σ σ'∧∃ p q,Rl (M.env p q) (M.st (M.env p q)) σ'∧fn n p q=some r) id C.K ⟨σ1,Sub.refl,p,q,s2,s3⟩ fun n σ0 ⟨σ',hs,p,q,h1,h2⟩=>?_
   cases n with
   | zero=>rw [o1] at h2;cases h2
   | succ n =>
    obtain ⟨o3,o4⟩:=o2 n
    rw [o3] at h2
    refine tr_sub hs (Tr.mono (ih (body n) _ _ _ r σ' o4 h2 h1) fun e σ2 hq=>?_)
    cases e with
    | normal =>
     obtain ⟨τ',ρ',σ3,q1,q2,q3⟩:=hq
     obtain ⟨p',q',σ4,t1,t2,t3⟩:=jump_spec (f:=fn n) hH q3 q2
     exact ⟨n,⟨σ4,q1.trans t1,p',q',t2,t3⟩,Nat.lt_succ_self n⟩
    | _=>exact hq
  | _=>cases h
 | rangeFunc f ps as b _ _=>intro lt k τ ρ r σ _ h hR;cases h
 | goto l=>intro lt k τ ρ r σ _ h hR;cases h
 | _=>intro lt k τ ρ r σ _ h hR;cases h
end
end Go.XM
end
section
namespace Go.XM
open Go.RowKit
def rvT (P:Program) (τ:TS):ResultVar→Option TV
 | .tmp t=>some (τ.t t)
 | .cell a t=>match hasT P t,τ.t a with
  | true,.a (.c (.bx r 0))=>match τ.o r with
   | .box l=>ldT P t l 0
   | _=>none
  | _,_=>none
def rvsT (P:Program) (τ:TS):List ResultVar→Option (List TV)
 | []=>some []
 | r::rs=>match rvT P τ r,rvsT P τ rs with
  | some x,some l=>some (x::l)
  | _,_=>none
def amR (τ:TS) (base:Nat):Nat→List Md→List (Rk × Ty)→List TV→AM
 | _,_,[],[]=>some ([],[],[])
 | c,ms,(a,t)::rs,v::vs=>apM (match a,v with
   | .agg,.a (.agg l)=>match Nat.beq l.length t.sz with
    | true=>amLs τ base true c ms l
    | false=>none
   | .one,.a (.c y)=>match Nat.beq t.sz 1 with
    | true=>amLs τ base true c ms [y]
    | false=>none
   | .ptr,.a (.c (.bx r 0))=>match τ.o r with
    | .box l=>match Nat.beq l.length t.sz with
     | true=>amLs τ base true c ms l
     | false=>none
    | _=>none
   | _,_=>none) (amR τ base (c+t.sz) (ms.drop t.sz) rs vs)
 | _,_,_,_=>none
def ptrNm:Nat→List (Rk × Ty)→List TV→Nm
 | q,(.ptr,_)::rs,.a (.c (.bx r _))::vs=>(3000000+q,r)::ptrNm (q+1) rs vs
 | q,_::rs,_::vs=>ptrNm (q+1) rs vs
 | _,_,_=>[]
def amBo (τ:TS) (base:Nat) (c:Nat) (ms:List Md) (i n:Nat):AM:=match τ.o i with
 | .box l=>match Nat.beq l.length n with
  | true=>amLs τ base true c ms l
  | false=>none
 | _=>none
def amB (τ:TS) (base:Nat):Nat→List Md→Nat→List (Kd × Ty)→AM
 | _,_,_,[]=>some ([],[],[])
 | c,ms,i,(.box,t)::ps=>apM (amBo τ base c ms i t.sz) (amB τ base (c+t.sz) (ms.drop t.sz) (i+1) ps)
 | c,ms,i,(.hid,t)::ps=>apM (amBo τ base c ms i t.sz) (amB τ base (c+t.sz) (ms.drop t.sz) (i+1) ps)
 | c,ms,i,_::ps=>amB τ base c ms (i+1) ps
def boxNm:Nat→List (Kd × Ty)→Nm
 | _,[]=>[]
 | i,(.box,_)::ps=>(i,i)::boxNm (i+1) ps
 | i,(.hid,_)::ps=>(i,i)::boxNm (i+1) ps
 | i,_::ps=>boxNm (i+1) ps
def endC (x:Md) (y:TC) (nilP:List Pre) (nsP:List Pre):List Pre × List Nat:=match x,y with
 | .s,.nl _=>(nsP,[])
 | .s,.vf r=>([],[r])
 | .s,.vw r _ _=>([],[r])
 | .s,_=>([],[])
 | _,.nl _=>(nilP,[])
 | _,_=>([],[])
def endL (r:Nat) (own:Md→TC→Bool):Nat→List Md→List TC→List Pre × List Nat
 | c,ms,y::l =>
  let m:=ms.headD .s
  let a:=endC m y [.nilB r c (7000000+r*100+c) (own m y)] [.nsB r c]
  let b:=endL r own (c+1) ms.tail l
  (a.1++b.1,a.2++b.2)
 | _,_,[]=>([],[])
def ownM:Md→TC→Bool
 | .o,.nl t=>t.nsd
 | _,_=>false
def endT (ms:List Md):List TC→List Nat × Bool
 | y::l=>let a:=endC (ms.headD .s) y [] [.nsS 0];let b:=endT ms.tail l;(a.2++b.1,!a.1.isEmpty || b.2)
 | []=>([],false)
def endR (τ:TS):List Md→List (Rk × Ty)→List ResultVar→List Pre × List Nat
 | ms,(_,t)::rs,v::vs =>
  let b:=endR τ (ms.drop t.sz) rs vs
  match v with
  | .tmp i=>match τ.t i with
   | .a (.c (.bx r 0))=>match τ.o r with
    | .box l=>let a:=endL r ownM 0 (ms.take t.sz) l;(a.1++b.1,a.2++b.2)
    | _=>b
   | .a (.c y)=>let a:=endC (ms.headD .s) y [.nilS i (6000000+i) (ownM (ms.headD .s) y)] [.nsS i];(a.1++b.1,a.2++b.2)
   | .a (.agg l)=>let a:=endT ms l;((match a.2 with | true=>[Pre.nsS i] | false=>[])++b.1,a.1++b.2)
   | _=>b
  | .cell a _=>match τ.t a with
   | .a (.c (.bx r 0))=>match τ.o r with
    | .box l=>let a:=endL r ownM 0 ms l;(a.1++b.1,a.2++b.2)
    | _=>b
   | _=>b
 | _,_,_=>([],[])
def endB1 (τ:TS) (ms:List Md) (i n:Nat) (b:List Pre × List Nat):List Pre × List Nat:=match τ.o i with
 | .box l=>let a:=endL i ownM 0 (ms.take n) l;(a.1++b.1,a.2++b.2)
 | _=>b
def endB (τ:TS):List Md→Nat→List (Kd × Ty)→List Pre × List Nat
 | ms,i,(.box,t)::ps=>endB1 τ ms i t.sz (endB τ (ms.drop t.sz) (i+1) ps)
 | ms,i,(.hid,t)::ps=>endB1 τ ms i t.sz (endB τ (ms.drop t.sz) (i+1) ps)
 | ms,i,_::ps=>endB τ ms (i+1) ps
 | _,_,[]=>([],[])
def endPre (s:Sig) (fn:Func) (τ:TS):List Pre :=
 let a:=endR τ s.rm s.rs fn.results.toList
 let b:=endB τ (s.rm.drop (rsz s.rs)) 0 s.ps
 a.1++(b.1++(uniq (a.2++b.2)).map Pre.frz)
def beqL:List Nat→List Nat→Bool
 | [],[]=>true
 | x::l,y::m=>Nat.beq x y && beqL l m
 | _,_=>false
theorem beqL_spec:∀ {l m:List Nat},beqL l m=true→l=m
 | [],[],_=>rfl
 | x::l,y::m,h=>by
  simp only [beqL,Bool.and_eq_true] at h
  rw [Nat.eq_of_beq_eq_true h.1,beqL_spec h.2]
 | [],_::_,h=>by cases h
 | _::_,[],h=>by cases h
def retK (P:Program) (s:Sig) (fn:Func) (hs:List Nat) (τ:TS):Option s.R.D:=match runPres τ (endPre s fn τ) with
 | some τ1=>match rvsT P τ1 fn.results.toList with
  | some vs=>match amR τ1 2000000 0 s.rm s.rs vs,amB τ1 2000000 (rsz s.rs) (s.rm.drop (rsz s.rs)) 0 s.ps with
   | some (L1,m1,_),some (L2,m2,_)=>match s.R.ofL (L1++L2) with
    | some (r,[])=>match Nat.beq L1.length (rsz s.rs) && (fitB ((m1++m2)++(ptrNm 0 s.rs vs++boxNm 0 s.ps)) [] hs && (beqL ((s.outO 0 r).map (·.1)) (((m1++m2)++(ptrNm 0 s.rs vs++boxNm 0 s.ps)).map (·.1)) && (okSt ⟨[],s.outO 0 r⟩))) with
     | true=>some r
     | false=>none
    | _=>none
   | _,_=>none
  | none=>none
 | none=>none
def kEnd (P:Program) (s:Sig) (fn:Func) (hs:List Nat):KE s.R.D:=fun e τ _=>match e with
 | .normal=>retK P s fn hs τ
 | .ret=>retK P s fn hs τ
 | _=>none
section
variable {ρ:Env} {τ:TS} {P:Program}
theorem rvsT_spec {σ:St} (hR:Rl ρ τ σ):∀ {rs:List ResultVar} {vs:List TV},rvsT P τ rs=some vs→∃ l,rvs P σ rs=some l∧All2 (vR ρ τ.o) vs l
 | [],vs,h=>by simp only [rvsT,Option.some.injEq] at h;subst h;exact ⟨[],rfl,trivial⟩
 | r::rs,vs,h=>by
  simp only [rvsT] at h
  split at h
  ·rename_i x l h1 h2
   cases h
   obtain ⟨l',k1,k2⟩:=rvsT_spec hR h2
   have:∃ sv,rvOf P σ r=some sv∧vR ρ τ.o x sv:=by
    unfold rvT at h1
    split at h1
    ·cases h1;exact ⟨_,rfl,hR.T _⟩
    ·rename_i a t
     split at h1
     ·rename_i r' ht ha
      split at h1
      ·rename_i lb hb
       obtain ⟨c',e1,e2⟩:=single_at hR (by simp) ha
       simp only [cR,hb] at e2
       subst e2
       obtain ⟨m,q1,q2⟩:=box_at hR hb
       obtain ⟨sv,g1,g2⟩:=ldT_spec h1 q2
       refine ⟨sv,?_,g2⟩
       simp only [rvOf,ht,if_true,e1,q1,g1]
      ·cases h1
     ·cases h1
   obtain ⟨sv,s1,s2⟩:=this
   exact ⟨sv::l',by simp only [rvs,s1,k1],⟨s2,k2⟩⟩
  ·cases h
theorem Sur.top {σ:St} {m1:Nm} {n0:Nat→Nat} {O:List (Nat × TR)} {m':Nm} {z:List Nat} {rows:List (Nat × TR)} (hm:∀ x∈m',look m1 x.1=some x.2) (hz:z=[]) (hr:∀ x∈rows,x∈O∧∀ n,x.2.len=some n→n0 x.1=n):Sur σ m1 [] n0 O m' z rows :=
 ⟨hm,fun r h=>by subst hz;simp at h,hr⟩
theorem amC_ex {nm:Nat} {m:Md} {y:TC} {L:List TD} {m':Nm} {z:List Nat} (h:amC τ nm true m y=some (L,m',z)):z=[]:=by
 unfold amC at h
 split at h
 ·split at h <;> split at h <;> first | (cases h;rfl) | cases h
 ·cases h;rfl
 ·split at h <;> first | (simp_all) | cases h
 ·split at h
  ·split at h
   ·simp at h
   ·split at h <;> first | (cases h;rfl) | cases h
   ·split at h <;> first | (cases h;rfl) | cases h
   ·cases h
   ·cases h
  ·cases h
 ·split at h <;> first | (simp_all) | cases h
 ·split at h <;> first | (simp_all) | cases h
 ·cases h
theorem amLs_ex {base:Nat}:∀ {ys:List TC} {c:Nat} {ms:List Md} {L:List TD} {m':Nm} {z:List Nat},amLs τ base true c ms ys=some (L,m',z)→z=[]
 | [],c,ms,L,m',z,h=>by simp only [amLs,Option.some.injEq,Prod.mk.injEq] at h;exact h.2.2.symm
 | y::ys,c,ms,L,m',z,h=>by
  obtain ⟨L1,p1,z1,L2,p2,z2,e1,e2,rfl,rfl,rfl⟩:=apM_some (show apM _ _=_ from h)
  rw [amC_ex e1,amLs_ex e2];rfl
theorem amR_spec {σ:St} (hR:Rl ρ τ σ) {m1:Nm} {n0:Nat→Nat} {O:List (Nat × TR)} {v base:Nat}:∀ {q:Nat} {rs:List (Rk × Ty)} {c:Nat} {ms:List Md} {vs:List TV} {L:List TD} {m':Nm} {z:List Nat},amR τ base c ms rs vs=some (L,m',z) →
  L.length=rsz rs∧z=[]∧(Sur σ m1 [] n0 O m' [] (pCells v base c L ms).2→(∀ x∈ptrNm q rs vs,look m1 x.1=some x.2)→∀ {l:List SV} (tail:List TC),All2 (vR ρ τ.o) vs l →
   (∃ al,l=al.map SV.a∧trAL m1 ((wrapR q rs ((pCells v base c L ms).1++tail)).map (avX n0))=some al) ∧
   ∀ x∈ptrNm q rs vs,∃ R,(x.1,R)∈wrapN q rs ((pCells v base c L ms).1++tail)∧trRS m1 (rsX n0 R)=some (σ.O x.2)) ∧
   ∀ x∈m',∃ R t own xs g,(x.1,R)∈(pCells v base c L ms).2∧R.len.isSome=true∧(∀ n1,rsX n1 R=σ.O x.2)∧τ.o x.2=.row t own xs g
 | q,[],c,ms,vs,L,m',z,h=>by
  cases vs with
  | nil =>
   simp only [amR,Option.some.injEq,Prod.mk.injEq] at h
   obtain ⟨rfl,rfl,rfl⟩:=h
   refine ⟨rfl,rfl,fun _ _ l _ hl=>?_,by simp⟩
   cases l with
   | nil=>exact ⟨⟨[],rfl,rfl⟩,fun x hx=>by cases hx⟩
   | cons=>exact hl.elim
  | cons=>cases h
 | q,(a,t)::rs,c,ms,vs,L,m',z,h=>by
  cases vs with
  | nil=>cases h
  | cons v0 vs =>
   obtain ⟨L1,p1,z1,L2,p2,z2,e1,e2,rfl,rfl,rfl⟩:=apM_some (show apM _ _=_ from h)
   have one:∃ ys,amLs τ base true c ms ys=some (L1,p1,z1)∧ys.length=t.sz∧(a=.agg∧v0=.a (.agg ys)∨(a=.one∧∃ y,ys=[y]∧v0=.a (.c y))∨(a=.ptr∧∃ r,v0=.a (.c (.bx r 0))∧τ.o r=.box ys)):=by
    split at e1
    ·split at e1
     ·rename_i hn;exact ⟨_,e1,Nat.eq_of_beq_eq_true hn,.inl ⟨rfl,rfl⟩⟩
     ·cases e1
    ·split at e1
     ·rename_i hn;exact ⟨_,e1,(Nat.eq_of_beq_eq_true hn).symm,.inr (.inl ⟨rfl,_,rfl,rfl⟩)⟩
     ·cases e1
    ·split at e1
     ·rename_i l hb
      split at e1
      ·rename_i hn;exact ⟨_,e1,Nat.eq_of_beq_eq_true hn,.inr (.inr ⟨rfl,_,rfl,hb⟩)⟩
      ·cases e1
     ·cases e1
    ·cases e1
   obtain ⟨ys,eA,hys,hv0⟩:=one
   obtain ⟨i1,i2,i3⟩:=amLs_spec (v:=v) (m1:=m1) (lent:=[]) (n0:=n0) (O:=O) hR eA
   have hz1:=amLs_ex eA
   subst hz1
   have hl1:L1.length=t.sz:=by rw [i1,hys]
   obtain ⟨j1,j2,j3,j4⟩:=amR_spec (q:=q+1) (v:=v) (m1:=m1) (n0:=n0) (O:=O) hR e2
   subst j2
   have happ:pCells v base c (L1++L2) ms=((pCells v base c L1 ms).1++(pCells v base (c+t.sz) L2 (ms.drop t.sz)).1,(pCells v base c L1 ms).2++(pCells v base (c+t.sz) L2 (ms.drop t.sz)).2):=by rw [pCells_app,hl1]
   refine ⟨by simp [rsz,hl1,j1],rfl,fun hS hN l tail hl=>?_,fun x hx=>?_⟩
   ·rw [happ] at hS
    have hS':Sur σ m1 [] n0 O (p1++p2) ([]++[]) ((pCells v base c L1 ms).2++(pCells v base (c+t.sz) L2 (ms.drop t.sz)).2):=hS
    cases l with
    | nil=>exact hl.elim
    | cons s0 l =>
     have hN':∀ x∈ptrNm (q+1) rs vs,look m1 x.1=some x.2:=fun x hx=>hN x (by
      rcases hv0 with ⟨rfl,rfl⟩ | ⟨rfl,y,rfl,rfl⟩ | ⟨rfl,r,rfl,hbx⟩
      ·exact hx
      ·cases y <;> exact hx
      ·exact List.mem_cons_of_mem _ hx)
     obtain ⟨⟨al,q1,q2⟩,q3⟩:=j3 hS'.r' hN' tail hl.2
     subst q1
     have hlen:(pCells v base c L1 ms).1.length=t.sz:=by rw [pCells_len,hl1]
     have hdrop:((pCells v base c (L1++L2) ms).1++tail).drop t.sz=(pCells v base (c+t.sz) L2 (ms.drop t.sz)).1++tail:=by
      rw [happ,List.append_assoc,← hlen,List.drop_left]
     have htake:((pCells v base c (L1++L2) ms).1++tail).take t.sz=(pCells v base c L1 ms).1:=by
      rw [happ,List.append_assoc,← hlen,List.take_left]
     have hv:=hl.1
     rcases hv0 with ⟨rfl,rfl⟩ | ⟨rfl,y,rfl,rfl⟩ | ⟨rfl,r,rfl,hbx⟩
     ·cases s0 with
      | tup m=>exact hv.elim
      | a a0=>cases a0 with
       | agg cl =>
        obtain ⟨_,k2⟩:=i2 hS'.l (cs:=cl) hv
        refine ⟨⟨.agg cl::al,rfl,?_⟩,fun x hx=>?_⟩
        ·simp only [wrapR,List.map_cons,trAL,hdrop,q2,htake,avX,trAV,k2 rfl,Option.map_some]
        ·simp only [wrapN,hdrop];exact q3 x hx
       | _=>exact hv.elim
     ·have hyn:y≠.any:=by
       rintro rfl
       obtain ⟨_,_,_,_,_,_,f1,_⟩:=apM_some (show apM _ _=_ from eA)
       cases f1
      have hs0:∃ c0,s0=cv c0∧cR ρ τ.o y c0:=by
       cases s0 with
       | a a0=>cases a0 with
        | c c0=>exact ⟨c0,rfl,hv⟩
        | agg m=>exfalso;cases y <;> first | exact hv | exact hyn rfl
        | fn f m=>exfalso;cases y <;> first | exact hv | exact hyn rfl
       | tup m=>exfalso;cases y <;> first | exact hv | exact hyn rfl
      obtain ⟨c0,rfl,hc0⟩:=hs0
      obtain ⟨_,k2⟩:=i2 hS'.l (cs:=[c0]) ⟨hc0,trivial⟩
      refine ⟨⟨.c c0::al,rfl,?_⟩,fun x hx=>?_⟩
      ·have hone:(pCells v base c L1 ms).1.length=1:=by rw [pCells_len,i1];rfl
       cases hh:(pCells v base c L1 ms).1 with
       | nil=>rw [hh] at hone;cases hone
       | cons b bl =>
        have hb:((pCells v base c (L1++L2) ms).1++tail).headD .any=b:=by rw [happ,hh];rfl
        have k3:=k2 rfl
        rw [hh] at k3
        simp only [List.map_cons,trL] at k3
        have k4:trCV m1 (cvX n0 b)=some c0:=by
         split at k3
         ·rename_i y' l' e1 e2;cases k3;exact e1
         ·cases k3
        simp only [wrapR,List.map_cons,trAL,hdrop,q2,hb,avX,trAV,k4,Option.map_some]
      ·simp only [wrapN,hdrop]
       refine q3 x ?_
       cases y <;> exact hx
     ·have hs0:s0=cv (.bx r 0):=by
       cases s0 with
       | a a0=>cases a0 with
        | c c0=>have hv:cR ρ τ.o (.bx r 0) c0:=hv;simp only [cR,hbx] at hv;rw [hv]
        | _=>exact hv.elim
       | tup m=>exact hv.elim
      subst hs0
      have hlk:look m1 (3000000+q)=some r:=hN (3000000+q,r) List.mem_cons_self
      refine ⟨⟨.c (.bx r 0)::al,rfl,?_⟩,fun x hx=>?_⟩
      ·simp only [wrapR,List.map_cons,trAL,hdrop,q2,avX,cvX,trAV,trCV,hlk,Option.map_some]
      ·rcases List.mem_cons.1 (show x∈(3000000+q,r)::ptrNm (q+1) rs vs from hx) with rfl | hx
       ·obtain ⟨mb,g1,g2⟩:=box_at hR hbx
        obtain ⟨_,k2⟩:=i2 hS'.l g2
        refine ⟨_,List.mem_cons_self,?_⟩
        simp only [htake,rsX,trRS,k2 rfl,Option.map_some,g1]
       ·obtain ⟨R,h1,h2⟩:=q3 x hx
        exact ⟨R,List.mem_cons_of_mem _ (by rw [hdrop];exact h1),h2⟩
   ·rcases List.mem_append.1 hx with hx | hx
    ·obtain ⟨R,t',own,xs,g,r1,r2⟩:=i3 x hx
     exact ⟨R,t',own,xs,g,by rw [happ];exact List.mem_append_left _ r1,r2⟩
    ·obtain ⟨R,t',own,xs,g,r1,r2⟩:=j4 x hx
     exact ⟨R,t',own,xs,g,by rw [happ];exact List.mem_append_right _ r1,r2⟩
theorem amB_step {σ:St} (hR:Rl ρ τ σ) {m1:Nm} {n0:Nat→Nat} {O:List (Nat × TR)} {v base:Nat} {K:Kd} {t:Ty} {ps:List (Kd × Ty)} {c i:Nat} {ms:List Md} {L:List TD} {m':Nm} {z:List Nat}
  (ih:∀ {c' i':Nat} {ms':List Md} {L:List TD} {m':Nm} {z:List Nat},amB τ base c' ms' i' ps=some (L,m',z)→z=[]∧(Sur σ m1 [] n0 O m' [] (pCells v base c' L ms').2→∀ x∈boxNm i' ps,∃ R,(x.1,R)∈wrapB i' ps (pCells v base c' L ms').1∧trRS m1 (rsX n0 R)=some (σ.O x.2))∧∀ x∈m',∃ R t own xs g,(x.1,R)∈(pCells v base c' L ms').2∧R.len.isSome=true∧(∀ n1,rsX n1 R=σ.O x.2)∧τ.o x.2=.row t own xs g)
  (hb:boxNm i ((K,t)::ps)=(i,i)::boxNm (i+1) ps) (hw:∀ cs,wrapB i ((K,t)::ps) cs=(i,.box (cs.take t.sz))::wrapB (i+1) ps (cs.drop t.sz))
  (h:apM (amBo τ base c ms i t.sz) (amB τ base (c+t.sz) (ms.drop t.sz) (i+1) ps)=some (L,m',z)) :
  z=[]∧(Sur σ m1 [] n0 O m' [] (pCells v base c L ms).2→∀ x∈boxNm i ((K,t)::ps),∃ R,(x.1,R)∈wrapB i ((K,t)::ps) (pCells v base c L ms).1∧trRS m1 (rsX n0 R)=some (σ.O x.2))∧∀ x∈m',∃ R t own xs g,(x.1,R)∈(pCells v base c L ms).2∧R.len.isSome=true∧(∀ n1,rsX n1 R=σ.O x.2)∧τ.o x.2=.row t own xs g:=by
  obtain ⟨L1,p1,z1,L2,p2,z2,e1,e2,rfl,rfl,rfl⟩:=apM_some h
  have one:∃ ys,amLs τ base true c ms ys=some (L1,p1,z1)∧ys.length=t.sz∧τ.o i=.box ys:=by
   unfold amBo at e1
   split at e1
   ·rename_i l hl
    split at e1
    ·rename_i hn;exact ⟨l,e1,Nat.eq_of_beq_eq_true hn,hl⟩
    ·cases e1
   ·cases e1
  obtain ⟨ys,e1,hys,hbx⟩:=one
  obtain ⟨i1,i2,i3⟩:=amLs_spec (v:=v) (m1:=m1) (lent:=[]) (n0:=n0) (O:=O) hR e1
  have hz1:=amLs_ex e1
  subst hz1
  have hl1:L1.length=t.sz:=by rw [i1,hys]
  obtain ⟨j2,j3,j4⟩:=ih e2
  subst j2
  have happ:pCells v base c (L1++L2) ms=((pCells v base c L1 ms).1++(pCells v base (c+t.sz) L2 (ms.drop t.sz)).1,(pCells v base c L1 ms).2++(pCells v base (c+t.sz) L2 (ms.drop t.sz)).2):=by rw [pCells_app,hl1]
  refine ⟨rfl,fun hS x hx=>?_,fun x hx=>?_⟩
  ·rw [happ] at hS ⊢
   rw [hw]
   rw [hb] at hx
   have hS':Sur σ m1 [] n0 O (p1++p2) ([]++[]) ((pCells v base c L1 ms).2++(pCells v base (c+t.sz) L2 (ms.drop t.sz)).2):=hS
   have hlen:(pCells v base c L1 ms).1.length=t.sz:=by rw [pCells_len,hl1]
   have hdrop:((pCells v base c L1 ms).1++(pCells v base (c+t.sz) L2 (ms.drop t.sz)).1).drop t.sz=(pCells v base (c+t.sz) L2 (ms.drop t.sz)).1:=by rw [← hlen,List.drop_left]
   have htake:((pCells v base c L1 ms).1++(pCells v base (c+t.sz) L2 (ms.drop t.sz)).1).take t.sz=(pCells v base c L1 ms).1:=by rw [← hlen,List.take_left]
   rcases List.mem_cons.1 hx with rfl | hx
   ·obtain ⟨mb,g1,g2⟩:=box_at hR hbx
    obtain ⟨_,k2⟩:=i2 hS'.l g2
    refine ⟨_,List.mem_cons_self,?_⟩
    simp only [htake,rsX,trRS,k2 rfl,Option.map_some,g1]
   ·obtain ⟨R,q1,q2⟩:=j3 hS'.r' x hx
    refine ⟨R,List.mem_cons_of_mem _ ?_,q2⟩
    simp only [hdrop];exact q1
  ·rcases List.mem_append.1 hx with hx | hx
   ·obtain ⟨R,t',own,xs,g,r1,r2⟩:=i3 x hx
    exact ⟨R,t',own,xs,g,by rw [happ];exact List.mem_append_left _ r1,r2⟩
   ·obtain ⟨R,t',own,xs,g,r1,r2⟩:=j4 x hx
    exact ⟨R,t',own,xs,g,by rw [happ];exact List.mem_append_right _ r1,r2⟩
theorem amB_spec {σ:St} (hR:Rl ρ τ σ) {m1:Nm} {n0:Nat→Nat} {O:List (Nat × TR)} {v base:Nat}:∀ {ps:List (Kd × Ty)} {c i:Nat} {ms:List Md} {L:List TD} {m':Nm} {z:List Nat},amB τ base c ms i ps=some (L,m',z) →
  z=[]∧(Sur σ m1 [] n0 O m' [] (pCells v base c L ms).2→∀ x∈boxNm i ps,∃ R,(x.1,R)∈wrapB i ps (pCells v base c L ms).1∧trRS m1 (rsX n0 R)=some (σ.O x.2))∧∀ x∈m',∃ R t own xs g,(x.1,R)∈(pCells v base c L ms).2∧R.len.isSome=true∧(∀ n1,rsX n1 R=σ.O x.2)∧τ.o x.2=.row t own xs g
 | [],c,i,ms,L,m',z,h=>by
  simp only [amB,Option.some.injEq,Prod.mk.injEq] at h
  obtain ⟨rfl,rfl,rfl⟩:=h
  refine ⟨rfl,fun _ x hx=>?_,fun x hx=>?_⟩
  ·cases hx
  ·cases hx
 | (.one,t)::ps,c,i,ms,L,m',z,h=>amB_spec hR (ps:=ps) (i:=i+1) (show amB τ base c ms (i+1) ps=_ from h)
 | (.agg,t)::ps,c,i,ms,L,m',z,h=>amB_spec hR (ps:=ps) (i:=i+1) (show amB τ base c ms (i+1) ps=_ from h)
 | (.fn f n,t)::ps,c,i,ms,L,m',z,h=>amB_spec hR (ps:=ps) (i:=i+1) (show amB τ base c ms (i+1) ps=_ from h)
 | (.ro,t)::ps,c,i,ms,L,m',z,h=>amB_spec hR (ps:=ps) (i:=i+1) (show amB τ base c ms (i+1) ps=_ from h)
 | (.fr f,t)::ps,c,i,ms,L,m',z,h=>amB_spec hR (ps:=ps) (i:=i+1) (show amB τ base c ms (i+1) ps=_ from h)
 | (.box,t)::ps,c,i,ms,L,m',z,h=>amB_step (K:=.box) hR (fun h=>amB_spec hR h) rfl (fun _=>rfl) h
 | (.hid,t)::ps,c,i,ms,L,m',z,h=>amB_step (K:=.hid) hR (fun h=>amB_spec hR h) rfl (fun _=>rfl) h
theorem getO_want {σO:Nat→RS} {m:Nm}:∀ {o:List (Nat × RS)} {m':Nm},o.map (·.1)=m'.map (·.1)→(∀ k R r,(k,R)∈o→(k,r)∈m'→trRS m R=some (σO r))→getO σO m'=wantO m o
 | [],[],_,_=>rfl
 | (k,R)::o,(k',r)::m',h,hh=>by
  simp only [List.map_cons,List.cons.injEq] at h
  obtain ⟨h1,h2⟩:=h
  subst h1
  simp only [getO,wantO,List.map_cons]
  rw [hh k R r List.mem_cons_self List.mem_cons_self]
  congr 1
  exact getO_want h2 fun a b c d e=>hh a b c (List.mem_cons_of_mem _ d) (List.mem_cons_of_mem _ e)
 | [],_::_,h,_=>by cases h
 | _::_,[],h,_=>by cases h
theorem outO_keys {s:Sig} (v:Nat) (r:s.R.D):(s.outO v r).map (·.1)=(s.outO 0 r).map (·.1):=by
 have h1:∀ (L:List TD) (c:Nat) (ms:List Md),(pCells v 2000000 c L ms).2.map (·.1)=(pCells 0 2000000 c L ms).2.map (·.1):=by
  intro L
  induction L with
  | nil=>intro c ms;rfl
  | cons y L ih =>
   intro c ms
   simp only [pCells,List.map_append,ih]
   congr 1
   unfold lfC
   split <;> rfl
 have h2:∀ (ps:List (Kd × Ty)) (i:Nat) (cs cs':List TC),(wrapB i ps cs).map (·.1)=(wrapB i ps cs').map (·.1):=by
  intro ps
  induction ps with
  | nil=>intro i cs cs';rfl
  | cons p ps ih =>
   intro i cs cs'
   obtain ⟨k,t⟩:=p
   cases k with
   | box=>simp only [wrapB,List.map_cons,ih (i+1) (cs.drop t.sz) (cs'.drop t.sz)]
   | hid=>simp only [wrapB,List.map_cons,ih (i+1) (cs.drop t.sz) (cs'.drop t.sz)]
   | one=>exact ih (i+1) cs cs'
   | agg=>exact ih (i+1) cs cs'
   | fn f n=>exact ih (i+1) cs cs'
   | ro=>exact ih (i+1) cs cs'
   | fr f=>exact ih (i+1) cs cs'
 have h3:∀ (rs:List (Rk × Ty)) (q:Nat) (cs cs':List TC),(wrapN q rs cs).map (·.1)=(wrapN q rs cs').map (·.1):=by
  intro rs
  induction rs with
  | nil=>intro i cs cs';rfl
  | cons p rs ih =>
   intro q cs cs'
   obtain ⟨k,t⟩:=p
   cases k with
   | ptr=>simp only [wrapN,List.map_cons,ih (q+1) (cs.drop t.sz) (cs'.drop t.sz)]
   | one=>exact ih (q+1) (cs.drop t.sz) (cs'.drop t.sz)
   | agg=>exact ih (q+1) (cs.drop t.sz) (cs'.drop t.sz)
 simp only [Sig.outO,List.map_append,h1]
 rw [h3 _ _ _ (pCells 0 2000000 0 (s.R.lvs r) s.rm).1,h2 _ _ _ ((pCells 0 2000000 0 (s.R.lvs r) s.rm).1.drop (rsz s.rs))]
theorem tupOf_map:∀ (l:List AV),tupOf (l.map SV.a)=some l
 | []=>rfl
 | x::l=>by simp only [List.map_cons,tupOf,tupOf_map l,Option.map_some]
theorem one_res {m:Nm} {n:Nat→Nat} {as:List TA} {al:List AV} (h:trAL m (as.map (avX n))=some al):∀ {l:List SV},l=al.map SV.a→∃ sv,(match l with | [x]=>some x | l=>(tupOf l).map .tup)=some sv∧trSV m (svX n (oneV as))=some sv:=by
 intro l hl
 subst hl
 cases as with
 | nil=>simp only [List.map_nil,trAL,Option.some.injEq] at h;subst h;exact ⟨_,rfl,rfl⟩
 | cons a as=>cases as with
  | nil =>
   simp only [List.map_cons,List.map_nil,trAL] at h
   split at h
   ·rename_i y l' e1 e2
    cases h
    cases e2
    exact ⟨.a y,rfl,by simp only [oneV,svX,trSV,e1,Option.map_some]⟩
   ·cases h
  | cons b as =>
   have hlen:=(trAL_spec h).1
   cases al with
   | nil=>simp at hlen
   | cons x al=>cases al with
    | nil=>simp at hlen
    | cons y al =>
     refine ⟨.tup (x::y::al),?_,?_⟩
     ·show (tupOf ((x::y::al).map SV.a)).map SV.tup=_
      rw [tupOf_map];rfl
     ·simp only [oneV,svX,trSV,h,Option.map_some]
theorem retK_spec {Γ:Ctx} {s:Sig} {fn:Func} {hs:List Nat} {r:s.R.D} (h:retK P s fn hs τ=some r) {σ:St} (hR:Rl ρ τ σ) (v:Nat):∃ σ',Sub Γ σ σ'∧Out P fn hs (s.res v r) (s.o1 v r) σ':=by
 unfold retK at h
 split at h
 ·rename_i τ1 hp
  obtain ⟨σ1,s1,hR1⟩:=runPres_sub (Γ:=Γ) hp hR
  split at h
  ·rename_i vs hvs
   obtain ⟨l,l1,l2⟩:=rvsT_spec hR1 hvs
   split at h
   ·rename_i L1 p1 z1 L2 p2 z2 hA hB
    split at h
    ·rename_i r' hof
     split at h
     ·rename_i hb
      cases h
      simp only [Bool.and_eq_true] at hb
      obtain ⟨b0,b1,b2,b3⟩:=hb
      have hlvs:=ofL_all hof
      have hL1:=Nat.eq_of_beq_eq_true b0
      let m:=(p1++p2)++(ptrNm 0 s.rs vs++boxNm 0 s.ps)
      have hfB:=b1
      simp only [fitB,Bool.and_eq_true] at hfB
      have hkeys:(s.outO v r).map (·.1)=m.map (·.1):=by rw [outO_keys];exact beqL_spec b2
      have hnd:((s.outO v r).map (·.1)).Nodup:=by rw [hkeys];exact nodup_spec hfB.1.1.1
      have hcells:pCells v 2000000 0 (s.R.lvs r) s.rm=((pCells v 2000000 0 L1 s.rm).1++(pCells v 2000000 (rsz s.rs) L2 (s.rm.drop (rsz s.rs))).1,(pCells v 2000000 0 L1 s.rm).2++(pCells v 2000000 (rsz s.rs) L2 (s.rm.drop (rsz s.rs))).2):=by
       rw [hlvs,pCells_app,hL1,Nat.zero_add]
      have hc1:(pCells v 2000000 0 L1 s.rm).1.length=rsz s.rs:=by rw [pCells_len,hL1]
      have hO:s.outO v r=((pCells v 2000000 0 L1 s.rm).2++(pCells v 2000000 (rsz s.rs) L2 (s.rm.drop (rsz s.rs))).2)++(wrapN 0 s.rs ((pCells v 2000000 0 L1 s.rm).1++(pCells v 2000000 (rsz s.rs) L2 (s.rm.drop (rsz s.rs))).1)++wrapB 0 s.ps (pCells v 2000000 (rsz s.rs) L2 (s.rm.drop (rsz s.rs))).1):=by
       simp only [Sig.outO,hcells]
       rw [← hc1,List.drop_left]
      have hlook:∀ x∈m,look m x.1=some x.2:=fun x hx=>look_of hfB.1.1.1 hx
      have hrow:∀ x∈s.outO v r,x∈s.outO v r∧∀ n,x.2.len=some n→lenL (s.outO v r) x.1=n:=fun x hx=>⟨hx,fun n hn=>lenL_mem (R:=x.2) hnd hx hn⟩
      obtain ⟨i1,i2,i3,i4⟩:=amR_spec (q:=0) (v:=v) (m1:=m) (n0:=lenL (s.outO v r)) (O:=s.outO v r) hR1 hA
      obtain ⟨j2,j3,j4⟩:=amB_spec (v:=v) (m1:=m) (n0:=lenL (s.outO v r)) (O:=s.outO v r) hR1 hB
      obtain ⟨⟨al,q1,q2⟩,q4⟩:=i3 (Sur.top (fun x hx=>hlook x (List.mem_append_left _ (List.mem_append_left _ hx))) rfl fun x hx=>hrow x (by rw [hO];exact List.mem_append_left _ (List.mem_append_left _ hx))) (fun x hx=>hlook x (List.mem_append_right _ (List.mem_append_left _ hx))) (pCells v 2000000 (rsz s.rs) L2 (s.rm.drop (rsz s.rs))).1 l2
      have q2':trAL m ((s.outs v r).map (avX (lenL (s.outO v r))))=some al:=by
       simp only [Sig.outs,hcells];exact q2
      obtain ⟨sv,g1,g2⟩:=one_res q2' q1
      refine ⟨σ1,s1,m,[],sv,?_,b1,?_,.inl g2⟩
      ·simp only [resOf,l1]
       cases l with
       | nil=>exact g1
       | cons x l=>cases l with
        | nil=>exact g1
        | cons=>exact g1
      ·refine fitO_of (getO_want (by simp only [Sig.o1,xO,List.map_map,Function.comp_def];exact hkeys) fun k R x hk hx=>?_) (by simp only [keys,Sig.o1,xO,List.map_map,Function.comp_def];exact hkeys)
       obtain ⟨⟨k',R0⟩,h0,h1⟩:=List.mem_map.1 (show (k,R)∈(s.outO v r).map fun x=>(x.1,rsX (lenL (s.outO v r)) x.2) from hk)
       simp only [Prod.mk.injEq] at h1
       obtain ⟨rfl,rfl⟩:=h1
       have same:∀ R1,(k',R1)∈s.outO v r→R1=R0:=fun R1 h=>by
        have e1:=gt_mem (d:=TR.fresh) hnd h
        have e2:=gt_mem (d:=TR.fresh) hnd h0
        rw [← e1,e2]
       have fromRow:(∃ R t own xs g,(k',R)∈s.outO v r∧R.len.isSome=true∧(∀ n1,rsX n1 R=σ1.O x)∧τ1.o x=.row t own xs g)→trRS m (rsX (lenL (s.outO v r)) R0)=some (σ1.O x):=by
        rintro ⟨R,t,own,xs,g,f1,f2,f3,f4⟩
        rw [← same R f1,f3]
        have:=hR1.O x
        rw [f4] at this
        rw [this.1];rfl
       rcases List.mem_append.1 hx with hx | hx
       ·rcases List.mem_append.1 hx with hx | hx
        ·obtain ⟨R,t,own,xs,g,f1,f2⟩:=i4 _ hx
         exact fromRow ⟨R,t,own,xs,g,by rw [hO];exact List.mem_append_left _ (List.mem_append_left _ f1),f2⟩
        ·obtain ⟨R,t,own,xs,g,f1,f2⟩:=j4 _ hx
         exact fromRow ⟨R,t,own,xs,g,by rw [hO];exact List.mem_append_left _ (List.mem_append_right _ f1),f2⟩
       ·rcases List.mem_append.1 hx with hx | hx
        ·obtain ⟨R,f1,f2⟩:=q4 _ hx
         rw [← same R (by rw [hO];exact List.mem_append_right _ (List.mem_append_left _ f1))]
         exact f2
        ·obtain ⟨R,f1,f2⟩:=j3 (Sur.top (fun x hx=>hlook x (List.mem_append_left _ (List.mem_append_right _ hx))) rfl fun x hx=>hrow x (by rw [hO];exact List.mem_append_left _ (List.mem_append_right _ hx))) _ hx
         rw [← same R (by rw [hO];exact List.mem_append_right _ (List.mem_append_right _ f1))]
         exact f2
     ·cases h
    ·cases h
   ·cases h
  ·cases h
 ·cases h
end
theorem idx_get {α:Type _} {d:α}:∀ (l:List α) (n i:Nat),gt d (idx n l) i=if n≤i then l.getD (i-n) d else d
 | [],n,i=>by simp [idx,gt]
 | x::l,n,i=>by
  simp only [idx]
  by_cases e:n=i
  ·subst e;rw [gt_same];simp
  ·rw [gt_ne e,idx_get l (n+1) i]
   by_cases h:n≤i
   ·rw [if_pos h,if_pos (by omega)]
    have:i-n=(i-(n+1))+1:=by omega
    rw [this];simp
   ·rw [if_neg h,if_neg (by omega)]
def sigOk (s:Sig) (fn:Func) (hs:List Nat) (x:s.A.D):Bool :=
 okSt (s.st0 x) && (nodup ((s.st0 x).O.map (·.1)) && (Nat.ble (s.vals x).length fn.ntmps && (((s.st0 x).O.all fun y=>match y.2 with | .box _=>memK y.1 hs | _=>true) && hs.all fun k=>match gt TR.fresh (s.st0 x).O k with | .box _=>true | _=>false)))
theorem st0_R {s:Sig} {x:s.A.D} (b1:okSt (s.st0 x)=true):Rl [(1,some ⟨s.A,x⟩)] (s.st0 x) ⟨fun i=>(s.svs x).getD i (.a (.c .any)),ofL (s.o0 x)⟩:=by
 have hρ:Env.at [(1,some ⟨s.A,x⟩)] 1=some ⟨s.A,x⟩:=rfl
 obtain ⟨t1,t2⟩:=pCells_tg (ρ:=[(1,some ⟨s.A,x⟩)]) (v:=1) (base:=1000000) (L:=s.A.lvs x) (c:=0) (ms:=s.ms) (fun j y hj=>.inr ⟨_,hρ,by simpa using hj⟩)
 obtain ⟨w1,w2⟩:=wrapP_cells (ps:=s.ps) (i:=0) (cs:=(pCells 1 1000000 0 (s.A.lvs x) s.ms).1)
 have hl:∀ (l:List TV) (n:Nat) (a:Nat × TV),a∈idx n l→a.2∈l:=by
  intro l
  induction l with
  | nil=>intro n a h;simp [idx] at h
  | cons y l ih =>
   intro n a h
   rcases List.mem_cons.1 h with rfl | h
   ·exact List.mem_cons_self
   ·exact List.mem_cons_of_mem _ (ih (n+1) a h)
 have base:=okSt_R (ρ:=[(1,some ⟨s.A,x⟩)]) b1 (fun a ha=>by
   have:=hl _ _ _ ha
   rcases w1 _ this with ⟨y,e,hy⟩ | ⟨l,e,hy⟩ | ⟨f,l,e,hy⟩
   ·rw [e]
    rcases hy with hy | rfl | ⟨k,rfl⟩ | ⟨t,z,rfl⟩
    ·exact t1 y hy
    ·trivial
    ·trivial
    ·trivial
   ·rw [e];exact fun y hy'=>t1 y (hy y hy')
   ·rw [e];intro y hy';rcases hy y hy' with rfl | ⟨k,rfl⟩ | ⟨t,z,rfl⟩ <;> trivial) (fun a ha=>by
   rcases List.mem_append.1 (show a∈(pCells 1 1000000 0 (s.A.lvs x) s.ms).2++_ from ha) with h | h
   ·exact t2 a h
   ·obtain ⟨l,e,hl'⟩:=w2 a h
    rw [e];exact fun y hy=>t1 y (hl' y hy))
 refine ⟨fun i=>?_,base.O⟩
 have hi:=base.T i
 have e1:(mk (s.st0 x).xT (s.st0 x).xO).T i=(s.svs x).getD i (.a (.c .any)):=by
  show upd (s.st0 x).xT _ i=_
  rw [gt_upd]
  have:(s.st0 x).xT=idx 0 (s.svs x):=by
   simp only [TS.xT,Sig.svs,Sig.vals]
   have:∀ (l:List TV) (n:Nat),(idx n l).map (fun y=>(y.1,svX (s.st0 x).lens y.2))=idx n (l.map (svX (s.st0 x).lens)):=by
    intro l
    induction l with
    | nil=>intro n;rfl
    | cons y l ih=>intro n;simp only [idx,List.map_cons,ih]
   exact this _ 0
  rw [this,idx_get]
  simp
 rw [e1] at hi
 exact hi
theorem ct_x {C:CE} {num:Nat} {fn:Func} {c:Code} {s:Sig} {f:s.A.D→Option s.R.D} {lt:LT s.R.D} (hm:C.E.P.follows .mixedOrders=true) (hf:C.E.P.funcs[num]?=some fn) (hb:fn.body=some c) (hnt:C.nt=fn.ntmps)
  (hsig:∀ x,sigOk s fn C.hs x=true) (hok:Okc C c lt (kEnd C.E.P s fn C.hs)) (hev:∀ x,f x=ev C c lt (s.st0 x) [(1,some ⟨s.A,x⟩)] (kEnd C.E.P s fn C.hs)):CtX C.E.P num s f:=by
 intro v x r hx
 have hs:=hsig x
 simp only [sigOk,Bool.and_eq_true,List.all_eq_true] at hs
 obtain ⟨b1,b2,b3,b4,b5⟩:=hs
 have hnd:=nodup_spec b2
 refine ct_intro hf hb C.hs ?_ (fun k l hk=>?_) (fun k hk=>?_) fun Γ h1 hdf h2=>?_
 ·simp only [Sig.svs,List.length_map];exact Nat.le_of_ble_eq_true b3
 ·rw [Sig.o0,ofL_xO] at hk
  have hB:isBox (rsX (lenL (s.st0 x).O) (gt TR.fresh (s.st0 x).O k))=true:=by rw [hk];rfl
  obtain ⟨l',e⟩:=isBox_rsX hB
  rcases gt_fm (O:=(s.st0 x).O) (k:=k) with h | h
  ·rw [h] at e;cases e
  ·rw [e] at h
   exact memK_spec (b4 _ h)
 ·have:=b5 k hk
  rw [Sig.o0,ofL_xO]
  split at this
  ·rename_i l e;rw [e];exact ⟨_,rfl⟩
  ·cases this
 ·have hR:Rl [(1,some ⟨s.A,x⟩)] (s.st0 x) ⟨fun i=>(s.svs x).getD i (.a (.c .any)),ofL (s.o0 x)⟩:=st0_R b1
  have hx':ev C c lt (s.st0 x) [(1,some ⟨s.A,x⟩)] (kEnd C.E.P s fn C.hs)=some r:=by rw [← hev];exact hx
  refine tr_post (ev_sound hm (by rw [h1,hnt]) h2 c lt _ _ _ r _ hok hx' hR) ?_
  rintro e σ' ⟨τ',ρ',σ1,q1,q2,q3⟩
  have fin:(e=.normal∨e=.ret)→retK C.E.P s fn C.hs τ'=some r→∃ σ'',Sub Γ σ' σ''∧(e=.normal∨e=.ret)∧Out C.E.P fn C.hs (s.res v r) (s.o1 v r) σ'':=by
   intro he hr
   obtain ⟨σ2,s1,s2⟩:=retK_spec (Γ:=Γ) hr q2 v
   exact ⟨σ2,q1.trans s1,he,s2⟩
  cases e with
  | normal=>exact fin (.inl rfl) q3
  | ret=>exact fin (.inr rfl) q3
  | _=>cases q3
end Go.XM
end
section
namespace Go.XM
open Go.RowKit
section
variable {R:Type} {C:CE}
theorem ok_t:∀ {c:Code} {k:KE R},Okc C c .t k:=by
 intro c
 induction c with
 | seq a b iha ihb=>intro k;exact ⟨iha,ihb⟩
 | block id c ih=>intro k;exact ih (k:=kBlk id k)
 | scope c ih=>intro k;exact ih (k:=kScp k)
 | cond x a b iha ihb=>intro k;exact ⟨iha,ihb⟩
 | _=>intro k;trivial
theorem ok_two {a b:Code} {la lb:LT R} {k:KE R} (h1:Okc C a la (kSeq (fun τ ρ=>ev C b lb τ ρ k) k)) (h2:Okc C b lb k):Okc C (.seq a b) (.two la lb) k:=⟨h1,h2⟩
theorem ok_cond {x:Operand} {a b:Code} {la lb:LT R} {k:KE R} (h1:Okc C a la k) (h2:Okc C b lb k):Okc C (.cond x a b) (.two la lb) k:=⟨h1,h2⟩
theorem ok_block {id:Nat} {c:Code} {l:LT R} {k:KE R} (h:Okc C c l (kBlk id k)):Okc C (.block id c) (.one l) k:=h
theorem ok_scope {c:Code} {l:LT R} {k:KE R} (h:Okc C c l (kScp k)):Okc C (.scope c) (.one l) k:=h
theorem ok_join {a b:Code} {M:Tm} {fn:M.caps.D→M.pars.D→Option R} {la lb:LT R} {k:KE R} (h1:Okc C a la (kSeq (fun τ ρ=>jump M C.hs τ ρ fn) k))
  (h2:∀ c p,fn c p=ev C b lb (M.st (M.env c p)) (M.env c p) k) (h3:Okc C b lb k):Okc C (.seq a b) (.join M fn la lb) k:=⟨h1,h2,h3⟩
theorem ok_loop {c:Code} {M:Tm} {fn:Nat→M.caps.D→M.pars.D→Option R} {body:Nat→LT R} {k:KE R} (h1:∀ c p,fn 0 c p=none)
  (h2:∀ n,(∀ p q,fn (n+1) p q=ev C c (body n) (M.st (M.env p q)) (M.env p q) (kSeq (fun τ ρ=>jump M C.hs τ ρ (fn n)) k))∧Okc C c (body n) (kSeq (fun τ ρ=>jump M C.hs τ ρ (fn n)) k)):Okc C (.loop c) (.loop M fn body) k :=
 ⟨h1,fun n=>h2 n⟩
end
theorem sub_emp {P:Program} {Γ:Ctx} {c:Code} {Q:Exit→St→Prop} {σ:St} {i sz:Nat} (hT:σ.T i=cv (.p (.sl sz []))) (k:∀ (a:Option Addr) (n:Nat),(a=none→n=0)→Tr P Γ c Q ⟨upd [(i,pl (.slice a 0 n))] σ.T,σ.O⟩):Tr P Γ c Q σ:=by
 intro ro m g act w hg
 have hi:=hg.T i
 rw [hT] at hi
 obtain ⟨a,n,hu,hn⟩:∃ a n,act.tmps.getD i undef=.slice a 0 n∧(a=none→n=0):=by
  generalize act.tmps.getD i undef=u at hi
  cases (show spR _ _ (.sl sz []) u from hi) with
  | nil _ a=>exact ⟨a,0,rfl,fun _=>rfl⟩
  | sl b off cap=>exact ⟨_,cap,rfl,fun h=>by cases h⟩
 refine k a n hn ro m g act w ⟨fun j=>?_,hg.O,hg.im,hg.nt,hg.df,hg.os,hg.tape,hg.out,hg.size,hg.blk,hg.mine,hg.lt,hg.imf,hg.nf,hg.bx⟩
 show svR w g _ (upd _ σ.T j) _
 simp only [upd]
 by_cases e:j=i
 ·subst e;rw [if_pos rfl,hu];exact spR.v _ rfl
 ·rw [if_neg e];exact hg.T j
theorem ct_clone {C:CE} {num:Nat} {fn:Func} {c:Code} {t:Ty} {rs:List (Rk × Ty)} {rm:List Md} {f:t.sl.D→Option (Sig.mk [(.one,t.sl)] [] rs rm).R.D} {lt:LT (Sig.mk [(.one,t.sl)] [] rs rm).R.D} (hm:C.E.P.follows .mixedOrders=true) (hf:C.E.P.funcs[num]?=some fn) (hb:fn.body=some c) (hnt:C.nt=fn.ntmps)
  (hsig:∀ x,sigOk (Sig.mk [(.one,t.sl)] [] rs rm) fn C.hs x=true) (hok:Okc C c lt (kEnd C.E.P (Sig.mk [(.one,t.sl)] [] rs rm) fn C.hs))
  (h1:∀ (x:t.D) (xs:List t.D),f (x::xs)=ev C c lt ((Sig.mk [(.one,t.sl)] [] rs rm).st0 (x::xs)) [(1,some ⟨t.sl,x::xs⟩)] (kEnd C.E.P (Sig.mk [(.one,t.sl)] [] rs rm) fn C.hs))
  (h2:∀ (_ n:Nat),f []=ev C c lt ⟨[(0,.a (.c (.w (.slice none 0 n))))],[]⟩ [] (kEnd C.E.P (Sig.mk [(.one,t.sl)] [] rs rm) fn C.hs))
  (h3:∀ (a:Addr) (_ n:Nat),f []=ev C c lt ⟨[(0,.a (.c (.w (.slice (some a) 0 n))))],[]⟩ [] (kEnd C.E.P (Sig.mk [(.one,t.sl)] [] rs rm) fn C.hs)):CtX C.E.P num (Sig.mk [(.one,t.sl)] [] rs rm) f:=by
 intro v x r hx
 have hlen:[SV.a (.c .any)].length≤fn.ntmps:=by
  have:=hsig []
  simp only [sigOk,Bool.and_eq_true] at this
  exact Nat.le_of_ble_eq_true this.2.2.1
 have hhs:C.hs=[]:=by
  have:=hsig []
  simp only [sigOk,Bool.and_eq_true,List.all_eq_true] at this
  obtain ⟨_,_,_,_,h5⟩:=this
  cases hh:C.hs with
  | nil=>rfl
  | cons k l =>
   have:=h5 k (by rw [hh];exact List.mem_cons_self)
   exact absurd (show false=true from this) (by decide)
 have fin:∀ {Γ:Ctx} {τ:TS} {ρ:Env} {σ:St},Γ.nt=fn.ntmps→(∀ k,Γ.H k→k∈C.hs)→ev C c lt τ ρ (kEnd C.E.P (Sig.mk [(.one,t.sl)] [] rs rm) fn C.hs)=some r→Rl ρ τ σ →
   Tr C.E.P Γ c (fun e σ'=>(e=.normal∨e=.ret)∧Out C.E.P fn C.hs ((Sig.mk [(.one,t.sl)] [] rs rm).res v r) ((Sig.mk [(.one,t.sl)] [] rs rm).o1 v r) σ') σ:=by
  intro Γ τ ρ σ g1 g2 he hR
  refine tr_post (ev_sound hm (by rw [g1,hnt]) g2 c lt _ _ _ r _ hok he hR) ?_
  rintro e σ' ⟨τ',ρ',σ1,q1,q2,q3⟩
  have fin:(e=.normal∨e=.ret)→retK C.E.P (Sig.mk [(.one,t.sl)] [] rs rm) fn C.hs τ'=some r→∃ σ'',Sub Γ σ' σ''∧(e=.normal∨e=.ret)∧Out C.E.P fn C.hs ((Sig.mk [(.one,t.sl)] [] rs rm).res v r) ((Sig.mk [(.one,t.sl)] [] rs rm).o1 v r) σ'':=by
   intro he hr
   obtain ⟨σ2,s1,s2⟩:=retK_spec (Γ:=Γ) hr q2 v
   exact ⟨σ2,q1.trans s1,he,s2⟩
  cases e with
  | normal=>exact fin (.inl rfl) q3
  | ret=>exact fin (.inr rfl) q3
  | _=>cases q3
 have hst:∀ i,((Sig.mk [(.one,t.sl)] [] rs rm).svs x).getD i (.a (.c .any))=upd [(0,cv (.p (.sl t.sz (List.map t.enc x))))] (fun _=>SV.a (.c .any)) i:=by
  intro i
  cases i with
  | zero=>rfl
  | succ i=>rfl
 refine ct_intro hf hb C.hs (by simpa [Sig.svs,Sig.vals,wrapP] using hlen) (fun k l hk=>?_) (fun k hk=>by rw [hhs] at hk;simp at hk) fun Γ g1 gdf g2=>?_
 ·rw [Sig.o0,ofL_xO] at hk
  cases (show RS.fresh=RS.box l from hk)
 ·have hO:∀ k,ofL ((Sig.mk [(.one,t.sl)] [] rs rm).o0 x) k=.fresh:=by
   intro k;rw [Sig.o0,ofL_xO];rfl
  cases x with
  | cons y ys =>
   rw [h1] at hx
   refine fin g1 g2 hx ⟨fun i=>?_,fun k=>by rw [show (St.mk _ (ofL _)).O k=.fresh from hO k];rfl⟩
   show vR _ _ _ (((Sig.mk [(.one,t.sl)] [] rs rm).svs (y::ys)).getD i _)
   cases i with
   | zero=>exact ⟨rfl,.inr ⟨⟨t.sl,y::ys⟩,rfl,rfl⟩⟩
   | succ i=>exact vR_any
  | nil =>
   refine sub_emp (i:=0) (sz:=t.sz) rfl fun a n hn=>?_
   cases a with
   | none =>
    rw [h2 0 n] at hx
    refine fin g1 g2 hx ⟨fun i=>?_,fun k=>by rw [show (St.mk _ (ofL _)).O k=.fresh from hO k];rfl⟩
    cases i with
    | zero=>exact rfl
    | succ i=>exact vR_any
   | some a =>
    rw [h3 a 0 n] at hx
    refine fin g1 g2 hx ⟨fun i=>?_,fun k=>by rw [show (St.mk _ (ofL _)).O k=.fresh from hO k];rfl⟩
    cases i with
    | zero=>exact rfl
    | succ i=>exact vR_any
end Go.XM
end
