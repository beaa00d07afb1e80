import Derived.Below
import Derived.Calls
import Derived.KernelRfl
import Derived.Laws.Append
import Derived.Laws.MakeOwn
import Derived.Laws.Slices
import Derived.Orders
import Derived.OrdersIn
import Derived.Scope
set_option linter.all false
section
namespace Go.XM
open Go.RowKit
inductive SP where
 | v (x:Value)
 | sl (sz:Nat) (l:List (List SP))
inductive RC where
 | s (x:SP)
 | o (sz:Nat) (l:List (List SP))
 | hole
inductive CV where
 | p (x:SP)
 | nl (sz:Nat)
 | vw (r e n:Nat)
 | ad (r e c:Nat)
 | bx (r c:Nat)
 | ia (l:List SP) (c:Nat)
 | li (x:Value)
 | any
inductive AV where
 | c (x:CV)
 | agg (l:List CV)
 | fn (f:Nat) (caps:List CV)
inductive SV where
 | a (x:AV)
 | tup (l:List AV)
inductive RS where
 | fresh
 | dead
 | box (l:List CV)
 | row (sz:Nat) (l:List (List RC))
structure St where
 T:Nat→SV
 O:Nat→RS
inductive Owner where
 | root (r:Nat)
 | cell (r i j:Nat)
structure G where
 β:Nat→Option Nat
 own:Nat→Option Owner
 Im:Nat→Prop
def Blk (w:World) (b:Nat) (c:Array Value):Prop :=
 ∃ el fr,w.heap[b]?=some (.cells c el fr)∧∀ k,k<c.size→(decide (fr.1≤k) && decide (k<fr.2))=false
theorem Blk.lt {w:World} {b:Nat} {c:Array Value} (h:Blk w b c):b<w.heap.size:=by
 obtain ⟨el,fr,h,_⟩:=h
 rcases Nat.lt_or_ge b w.heap.size with h' | h'
 ·exact h'
 ·simp [Array.getElem?_eq_none h'] at h
theorem Blk.congr {w w':World} {b:Nat} {c:Array Value} (h:Blk w b c) (e:w'.heap[b]?=w.heap[b]?):Blk w' b c:=by
 obtain ⟨el,fr,h,k⟩:=h;exact ⟨el,fr,e.trans h,k⟩
theorem Blk.uniq {w:World} {b:Nat} {c c':Array Value} (h:Blk w b c) (h':Blk w b c'):c=c':=by
 obtain ⟨el,fr,h,k⟩:=h;obtain ⟨el',fr',h',k'⟩:=h';rw [h] at h';simp at h';exact h'.1
theorem Blk.cell {w:World} {b:Nat} {c:Array Value} (h:Blk w b c) (k:Nat):w.cell? ⟨b,k,none⟩=c[k]?:=by
 obtain ⟨el,fr,h,_⟩:=h;simp [World.cell?,h]
theorem Blk.unf {w:World} {b:Nat} {c:Array Value} (h:Blk w b c) (k:Nat) (hk:k<c.size):w.frozen? ⟨b,k,none⟩=false:=by
 obtain ⟨el,fr,h,u⟩:=h;simp only [World.frozen?,h];exact u k hk
theorem Blk.set {w:World} {b:Nat} {c:Array Value} (h:Blk w b c) (k:Nat) (v:Value):Blk (w.setCell ⟨b,k,none⟩ v) b (c.setIfInBounds k v):=by
 obtain ⟨el,fr,h,u⟩:=h
 refine ⟨el,fr,?_,?_⟩
 ·simp [World.setCell,Array.getElem?_modify,h]
 ·intro j hj;exact u j (by simpa using hj)
theorem Blk.new (w:World) (c:Array Value) (el:TypeId):Blk (w.alloc (.cells c el)) w.heap.size c :=
 ⟨el,(0,0),by simp only [World.alloc,Array.getElem?_push_size],fun k _=>by simp⟩
inductive spR (w:World) (Im:Nat→Prop):SP→Value→Prop where
 | v (x:Value) (h:x.oneCell'=true):spR w Im (.v x) x
 | nil (sz:Nat) (a:Option Addr):spR w Im (.sl sz []) (.slice a 0 0)
 | sl (b off cap sz:Nat) (l:List (List SP)) (us:Nat→Nat→Value) (hi:Im b) (hc:l.length≤cap)
   (hz:∀ e∈l,e.length=sz)
   (h1:∀ (i:Nat) (e:List SP) (j:Nat) (p:SP),l[i]?=some e→e[j]?=some p→w.cell? ⟨b,off+i*sz+j,none⟩=some (us i j))
   (h2:∀ (i:Nat) (e:List SP) (j:Nat) (p:SP),l[i]?=some e→e[j]?=some p→spR w Im p (us i j)) :
   spR w Im (.sl sz l) (.slice (some ⟨b,off,none⟩) l.length cap)
theorem cell_congr {w w':World} {a:Addr} (h:w'.heap[a.block]?=w.heap[a.block]?):w'.cell? a=w.cell? a:=by
 simp only [World.cell?,h]
theorem spR.one {w:World} {Im:Nat→Prop} {p:SP} {u:Value} (h:spR w Im p u):u.oneCell'=true:=by
 cases h <;> first | assumption | rfl
theorem spR.mono {w w':World} {Im Im':Nat→Prop} {p:SP} {u:Value} (h:spR w Im p u)
  (hi:∀ b,Im b→Im' b∧w'.heap[b]?=w.heap[b]?):spR w' Im' p u:=by
 induction h with
 | v x h=>exact .v x h
 | nil sz a=>exact .nil sz a
 | sl b off cap sz l us hb hc hz h1 h2 ih =>
  exact .sl b off cap sz l us (hi b hb).1 hc hz (fun i e j p he hp=>by rw [cell_congr (hi b hb).2];exact h1 i e j p he hp) ih
def cvR (w:World) (g:G) (O:Nat→RS):CV→Value→Prop
 | .p x,u=>spR w g.Im x u
 | .nl _,u=>u=.slice none 0 0
 | .vw r e n,u=>match O r with
  | .fresh=>False
  | .row sz l=>match g.β r with
   | none=>e=0∧n=0∧∃ a,u=.slice a 0 0
   | some b=>∃ cap c off,u=.slice (some ⟨b,off,none⟩) n cap∧(cap=0∨off=e*sz)∧n≤cap∧e+n≤l.length∧Blk w b c∧c.size=(e+cap)*sz
  | _=>u.oneCell'=true
 | .ad r e c,u=>match O r with
  | .fresh=>False
  | .row sz _=>∃ b,g.β r=some b∧u=.pointer (some ⟨b,e*sz+c,none⟩)
  | _=>u.oneCell'=true
 | .bx r c,u=>match O r with
  | .fresh=>False
  | .box _=>∃ b,g.β r=some b∧u=.pointer (some ⟨b,c,none⟩)
  | _=>u.oneCell'=true
 | .ia l c,u=>∃ b off,u=.pointer (some ⟨b,off+c,none⟩)∧g.Im b∧∃ us:Nat→Value,∀ j p,l[j]?=some p→w.cell? ⟨b,off+j,none⟩=some (us j)∧spR w g.Im p (us j)
 | .li x,u=>∃ b el,u=.slice (some ⟨b,0,none⟩) 1 1∧g.Im b∧x.oneCell'=true∧w.heap[b]?=some (.cells #[x] el (0,0))
 | .any,_=>True
def avR (w:World) (g:G) (O:Nat→RS):AV→Value→Prop
 | .c x,u=>cvR w g O x u
 | .agg l,u=>∃ arr:Array Value,u=.agg arr∧arr.size=l.length∧∀ (j:Nat) (cv:CV),l[j]?=some cv→∃ x,arr[j]?=some x∧x.oneCell'=true∧cvR w g O cv x
 | .fn f caps,u=>∃ arr:Array Value,u=.func (.func f) #[] arr∧arr.size=caps.length∧∀ (j:Nat) (cv:CV),caps[j]?=some cv→∃ x,arr[j]?=some x∧cvR w g O cv x
def svR (w:World) (g:G) (O:Nat→RS):SV→Value→Prop
 | .a x,u=>avR w g O x u
 | .tup l,u=>∃ arr:Array Value,u=.tuple arr∧arr.size=l.length∧∀ (j:Nat) (av:AV),l[j]?=some av→∃ x,arr[j]?=some x∧avR w g O av x
def rcR (w:World) (g:G) (r i j:Nat):RC→Value→Prop
 | .s x,u=>spR w g.Im x u
 | .o sz l,u=>(l=[]∧∃ a,u=.slice a 0 0)∨∃ b cap c,(∃ off,u=.slice (some ⟨b,off,none⟩) l.length cap∧(cap=0∨off=0))∧l.length≤cap∧g.own b=some (.cell r i j)∧Blk w b c∧c.size=cap*sz∧(∀ e∈l,e.length=sz) ∧
   ∀ (i:Nat) (e:List SP) (j:Nat) (p:SP),l[i]?=some e→e[j]?=some p→∃ u,c[i*sz+j]?=some u∧spR w g.Im p u
 | .hole,_=>True
def rsR (w:World) (g:G) (O:Nat→RS) (r:Nat):RS→Prop
 | .fresh=>True
 | .dead=>True
 | .box l=>∃ b c,g.β r=some b∧g.own b=some (.root r)∧Blk w b c∧c.size=l.length∧∀ (j:Nat) (cv:CV),l[j]?=some cv→∃ u,c[j]?=some u∧u.oneCell'=true∧cvR w g O cv u
 | .row sz l=>match g.β r with
  | none=>l=[]
  | some b=>∃ c,g.own b=some (.root r)∧Blk w b c∧(∀ e∈l,e.length=sz)∧l.length*sz≤c.size ∧
   ∀ (i:Nat) (e:List RC) (j:Nat) (rc:RC),l[i]?=some e→e[j]?=some rc→∃ u,c[i*sz+j]?=some u∧u.oneCell'=true∧rcR w g r i j rc u
structure Ctx where
 w0:World
 L:Nat→Prop
 I:Nat→Prop
 nt:Nat
 H:Nat→Prop
 β0:Nat→Option Nat
 df:List Deferred:=[]
def Fz (ro:Option Nat):Fence:={ fn:=fun _=>True,depth:=none,alive:=false,round:=ro }
theorem semAt_val {P:Program} {ro:Option Nat} {ρ:Operand→Value} {o:Oper} {w w':World} {x:Next} (h:(execOp ρ o).run P w=.ok x w') (hx:∀ d,x≠.defer d):(Oper.semAt ro ρ o).run P w=.ok x w':=by
 rw [Oper.semAt_eq]
 ·exact h
 ·intro c hc
  simp only [execOp,hc,Sem.run_bind] at h
  cases hr:(resolve ρ c o.type).run P w with
  | ok d w1 =>
   rw [hr] at h
   simp [Result.andThen,Sem.run] at h
   exact hx d h.1.symm
  | halt e w1=>rw [hr] at h;simp [Result.andThen] at h
structure Good (Γ:Ctx) (g:G) (σ:St) (a:Act) (w:World):Prop where
 T:∀ i,svR w g σ.O (σ.T i) (a.tmps.getD i undef)
 O:∀ r,rsR w g σ.O r (σ.O r)
 im:∀ b,g.Im b→b<w.heap.size∧g.own b=none
 nt:a.tmps.size=Γ.nt
 df:a.defers=Γ.df
 os:w.os=Γ.w0.os
 tape:w.tape=Γ.w0.tape
 out:w.output=Γ.w0.output
 size:Γ.w0.heap.size≤w.heap.size
 blk:∀ b,b<Γ.w0.heap.size→¬ Γ.L b→w.heap[b]?=Γ.w0.heap[b]?
 mine:∀ b o,g.own b=some o→Γ.w0.heap.size≤b∨Γ.L b
 lt:∀ b o,g.own b=some o→b<w.heap.size
 imf:∀ b,g.Im b→Γ.w0.heap.size≤b∨Γ.L b∨Γ.I b
 nf:∀ k,Γ.H k→σ.O k≠.fresh
 bx:∀ k l,Γ.H k→σ.O k=.box l→g.β k=Γ.β0 k
structure Le (w:World) (g:G) (O:Nat→RS) (w':World) (g':G) (O':Nat→RS):Prop where
 im:∀ b,g.Im b→g'.Im b∧w'.heap[b]?=w.heap[b]?
 fresh:∀ r,O r≠.fresh→O' r≠.fresh
 row:∀ r sz' l',O r≠.fresh→O' r=.row sz' l'→∃ sz l,O r=.row sz l∧sz'=sz∧l.length≤l'.length∧g'.β r=g.β r∧∀ b,g.β r=some b→∀ c,Blk w b c→∃ c',Blk w' b c'∧c'.size=c.size
 box:∀ r l',O r≠.fresh→O' r=.box l'→∃ l,O r=.box l∧g'.β r=g.β r
section
variable {w w':World} {g g':G} {O O':Nat→RS}
theorem cvR.one {x:CV} {u:Value} (k:cvR w g O x u) (hx:x≠.any):u.oneCell'=true:=by
 cases x with
 | p x=>exact spR.one k
 | nl sz=>cases k;rfl
 | any=>exact absurd rfl hx
 | ia l c=>obtain ⟨b,off,rfl,_⟩:=k;rfl
 | li x=>obtain ⟨b,el,rfl,_⟩:=k;rfl
 | vw r e n =>
  simp only [cvR] at k
  split at k
  ·exact k.elim
  ·split at k
   ·obtain ⟨_,_,_,rfl⟩:=k;rfl
   ·obtain ⟨_,_,_,rfl,_⟩:=k;rfl
  ·exact k
 | ad r e c =>
  simp only [cvR] at k
  split at k
  ·exact k.elim
  ·obtain ⟨_,_,rfl⟩:=k;rfl
  ·exact k
 | bx r c =>
  simp only [cvR] at k
  split at k
  ·exact k.elim
  ·obtain ⟨_,_,rfl⟩:=k;rfl
  ·exact k
theorem Le.cv (h:Le w g O w' g' O') {x:CV} {u:Value} (k:cvR w g O x u):cvR w' g' O' x u:=by
 cases x with
 | p x=>exact spR.mono (p:=x) k h.im
 | nl sz=>exact k
 | vw r e n =>
  have hf:O r≠.fresh:=by intro e;simp [cvR,e] at k
  have hone:=cvR.one (x:=.vw r e n) k (by simp)
  simp only [cvR] at k ⊢
  cases ho':O' r with
  | fresh=>exact absurd ho' (h.fresh r hf)
  | dead=>exact hone
  | box l=>exact hone
  | row sz' l' =>
   obtain ⟨sz,l,ho,rfl,hl,hb,hB⟩:=h.row r sz' l' hf ho'
   simp only [ho] at k
   simp only [hb]
   cases hg:g.β r with
   | none=>simp only [hg] at k ⊢;exact k
   | some b =>
    simp only [hg] at k ⊢
    obtain ⟨cap,c,off,h1,h0,h2,h3,h4,h5⟩:=k
    obtain ⟨c',hc',hs⟩:=hB b hg c h4
    exact ⟨cap,c',off,h1,h0,h2,by omega,hc',by rw [hs];exact h5⟩
 | ad r e c =>
  have hf:O r≠.fresh:=by intro e;simp [cvR,e] at k
  have hone:=cvR.one (x:=.ad r e c) k (by simp)
  simp only [cvR] at k ⊢
  cases ho':O' r with
  | fresh=>exact absurd ho' (h.fresh r hf)
  | dead=>exact hone
  | box l=>exact hone
  | row sz' l' =>
   obtain ⟨sz,l,ho,rfl,hl,hb,hB⟩:=h.row r sz' l' hf ho'
   simp only [ho] at k
   simp only [hb]
   exact k
 | bx r c =>
  have hf:O r≠.fresh:=by intro e;simp [cvR,e] at k
  have hone:=cvR.one (x:=.bx r c) k (by simp)
  simp only [cvR] at k ⊢
  cases ho':O' r with
  | fresh=>exact absurd ho' (h.fresh r hf)
  | dead=>exact hone
  | row sz' l'=>exact hone
  | box l' =>
   obtain ⟨l,ho,hb⟩:=h.box r l' hf ho'
   simp only [ho] at k
   simp only [hb]
   exact k
 | ia l c =>
  obtain ⟨b,off,h1,h2,us,h3⟩:=k
  refine ⟨b,off,h1,(h.im b h2).1,us,fun j p hp=>?_⟩
  obtain ⟨h4,h5⟩:=h3 j p hp
  exact ⟨by rw [cell_congr (h.im b h2).2];exact h4,h5.mono h.im⟩
 | li x =>
  obtain ⟨b,el,h1,h2,h3,h4⟩:=k
  exact ⟨b,el,h1,(h.im b h2).1,h3,by rw [(h.im b h2).2];exact h4⟩
 | any=>trivial
theorem Le.av (h:Le w g O w' g' O') {x:AV} {u:Value} (k:avR w g O x u):avR w' g' O' x u:=by
 cases x with
 | c x=>exact h.cv k
 | agg l =>
  obtain ⟨arr,rfl,hs,k⟩:=k
  exact ⟨arr,rfl,hs,fun j cv hj=>let ⟨x,h1,h2,h3⟩:=k j cv hj;⟨x,h1,h2,h.cv h3⟩⟩
 | fn f l =>
  obtain ⟨arr,rfl,hs,k⟩:=k
  exact ⟨arr,rfl,hs,fun j cv hj=>let ⟨x,h1,h3⟩:=k j cv hj;⟨x,h1,h.cv h3⟩⟩
theorem Le.sv (h:Le w g O w' g' O') {x:SV} {u:Value} (k:svR w g O x u):svR w' g' O' x u:=by
 cases x with
 | a x=>exact h.av k
 | tup l =>
  obtain ⟨arr,rfl,hs,k⟩:=k
  exact ⟨arr,rfl,hs,fun j cv hj=>let ⟨x,h1,h3⟩:=k j cv hj;⟨x,h1,h.av h3⟩⟩
theorem Le.keep (h:Le w g O w' g' O') {r:Nat} {x:RS} (hb:g'.β r=g.β r)
  (ho:∀ b,(g.own b=some (.root r)∨∃ i j,g.own b=some (.cell r i j))→w'.heap[b]?=w.heap[b]?∧g'.own b=g.own b)
  (k:rsR w g O r x):rsR w' g' O' r x:=by
 cases x with
 | fresh=>trivial
 | dead=>trivial
 | box l =>
  obtain ⟨b,c,h1,h2,h3,h4,h5⟩:=k
  obtain ⟨e1,e2⟩:=ho b (.inl h2)
  exact ⟨b,c,hb.trans h1,e2.trans h2,h3.congr e1,h4,fun j cv hj=>let ⟨u,a1,a2,a3⟩:=h5 j cv hj;⟨u,a1,a2,h.cv a3⟩⟩
 | row sz l =>
  simp only [rsR] at k ⊢
  rw [hb]
  cases hg:g.β r with
  | none=>simp only [hg] at k;exact k
  | some b =>
   simp only [hg] at k ⊢
   obtain ⟨c,h2,h3,h4,h6,h5⟩:=k
   obtain ⟨e1,e2⟩:=ho b (.inl h2)
   refine ⟨c,e2.trans h2,h3.congr e1,h4,h6,fun i e j rc hi hj=>?_⟩
   obtain ⟨u,a1,a2,a3⟩:=h5 i e j rc hi hj
   refine ⟨u,a1,a2,?_⟩
   cases rc with
   | s x=>exact spR.mono (p:=x) a3 h.im
   | hole=>trivial
   | o sz' l' =>
    rcases a3 with a3 | ⟨b',cap,c',q1,q2,q3,q4,q5,q6,q7⟩
    ·exact .inl a3
    ·obtain ⟨e1,e2⟩:=ho b' (.inr ⟨i,j,q3⟩)
     exact .inr ⟨b',cap,c',q1,q2,e2.trans q3,q4.congr e1,q5,q6,fun i e j p hi hj=>let ⟨u,z1,z2⟩:=q7 i e j p hi hj;⟨u,z1,z2.mono h.im⟩⟩
end
end Go.XM
end
section
namespace Go.XM
open Go.RowKit
structure Ft where
 rt:List (Nat × SV):=[]
 ro:List (Nat × RS):=[]
 wt:List (Nat × SV):=[]
 wo:List (Nat × RS):=[]
def upd {α:Type}:List (Nat × α)→(Nat→α)→Nat→α
 | [],f=>f
 | (k,x)::l,f=>fun i=>if i=k then x else upd l f i
def okL {α:Type}:List (Nat × α)→(Nat→α)→Prop
 | [],_=>True
 | (k,x)::l,f=>f k=x∧okL l f
def keys {α:Type} (l:List (Nat × α)):List Nat:=l.map (·.1)
def apart:List Nat→List Nat→Bool
 | [],_=>true
 | x::l,m=>!m.elem x && apart l m
theorem upd_out {α:Type} {l:List (Nat × α)} {f:Nat→α} {i:Nat} (h:i ∉ keys l):upd l f i=f i:=by
 induction l with
 | nil=>rfl
 | cons x l ih =>
  obtain ⟨k,x⟩:=x
  simp only [keys,List.map_cons,List.mem_cons,not_or] at h
  simp only [upd]
  rw [if_neg h.1]
  exact ih h.2
theorem upd_in {α:Type} {l:List (Nat × α)} {f g:Nat→α} {i:Nat} (h:i∈keys l):upd l f i=upd l g i:=by
 induction l with
 | nil=>simp [keys] at h
 | cons x l ih =>
  obtain ⟨k,x⟩:=x
  simp only [upd]
  by_cases e:i=k
  ·rw [if_pos e,if_pos e]
  ·rw [if_neg e,if_neg e]
   exact ih (by simpa [keys,e] using h)
theorem okL_mem {α:Type} {l:List (Nat × α)} {f:Nat→α}:okL l f↔∀ x∈l,f x.1=x.2:=by
 induction l with
 | nil=>simp [okL]
 | cons x l ih=>simp [okL,ih]
theorem okL_congr {α:Type} {l:List (Nat × α)} {f g:Nat→α} (h:∀ i∈keys l,g i=f i) (k:okL l f):okL l g:=by
 rw [okL_mem] at k ⊢
 intro x hx
 rw [h x.1 (List.mem_map.2 ⟨x,hx,rfl⟩)]
 exact k x hx
theorem apart_spec {l m:List Nat} (h:apart l m=true):∀ i∈l,i ∉ m:=by
 induction l with
 | nil=>simp
 | cons x l ih =>
  simp only [apart,Bool.and_eq_true,Bool.not_eq_true',List.elem_eq_mem,decide_eq_false_iff_not] at h
  intro i hi
  rcases List.mem_cons.1 hi with rfl | hi
  ·exact h.1
  ·exact ih h.2 i hi
def Ft.ok (f:Ft) (σ:St):Prop:=okL f.rt σ.T∧okL f.ro σ.O
def Ft.app (f:Ft) (σ:St):St:=⟨upd f.wt σ.T,upd f.wo σ.O⟩
def indep (f g:Ft):Bool :=
 apart (keys f.wt) (keys g.rt) && apart (keys f.wt) (keys g.wt) && apart (keys g.wt) (keys f.rt) &&
 (apart (keys f.wo) (keys g.ro) && apart (keys f.wo) (keys g.wo) && apart (keys g.wo) (keys f.ro))
theorem apart_comm {l m:List Nat} (h:∀ i∈l,i ∉ m):∀ i∈m,i ∉ l:=fun i hi hl=>h i hl hi
theorem upd_comm {α:Type} {l m:List (Nat × α)} {f:Nat→α} (h:∀ i∈keys l,i ∉ keys m):upd l (upd m f)=upd m (upd l f):=by
 funext i
 by_cases hl:i∈keys l
 ·rw [upd_in (g:=f) hl,upd_out (h i hl)]
 ·rw [upd_out hl]
  by_cases hm:i∈keys m
  ·exact upd_in hm
  ·rw [upd_out hm,upd_out hm,upd_out hl]
theorem swap {f g:Ft} {σ:St} (h:indep f g=true) (h1:f.ok σ) (h2:g.ok (f.app σ)):g.ok σ∧f.ok (g.app σ)∧f.app (g.app σ)=g.app (f.app σ):=by
 simp only [indep,Bool.and_eq_true] at h
 obtain ⟨⟨⟨a1,a2⟩,a3⟩,⟨a4,a5⟩,a6⟩:=h
 replace a1:=apart_spec a1;replace a2:=apart_spec a2;replace a3:=apart_spec a3
 replace a4:=apart_spec a4;replace a5:=apart_spec a5;replace a6:=apart_spec a6
 refine ⟨⟨okL_congr (fun i hi=>?_) h2.1,okL_congr (fun i hi=>?_) h2.2⟩,⟨okL_congr (fun i hi=>?_) h1.1,okL_congr (fun i hi=>?_) h1.2⟩,?_⟩
 ·exact (upd_out (apart_comm a1 i hi)).symm
 ·exact (upd_out (apart_comm a4 i hi)).symm
 ·exact upd_out (apart_comm a3 i hi)
 ·exact upd_out (apart_comm a6 i hi)
 ·simp only [Ft.app,St.mk.injEq]
  exact ⟨upd_comm a2,upd_comm a5⟩
def Chain (fs:Nat→Ft):List Nat→St→St→Prop
 | [],σ,σ'=>σ=σ'
 | i::l,σ,σ'=>(fs i).ok σ∧Chain fs l ((fs i).app σ) σ'
theorem Chain.front {fs:Nat→Ft} {i:Nat} {C:List Nat}:∀ {A:List Nat} {σ σ':St},(∀ a∈A,indep (fs a) (fs i)=true)→Chain fs (A++i::C) σ σ'→Chain fs (i::(A++C)) σ σ'
 | [],_,_,_,h=>h
 | a::A,σ,σ',hi,h=>by
  obtain ⟨h1,h2⟩:=h
  obtain ⟨h3,h4⟩:=Chain.front (A:=A) (fun x hx=>hi x (List.mem_cons_of_mem _ hx)) h2
  obtain ⟨k1,k2,k3⟩:=swap (hi a List.mem_cons_self) h1 h3
  exact ⟨k1,k2,by rw [k3];exact h4⟩
def Sound (P:Program) (o:Oper) (f:Ft):Prop :=
 ∀ (ro:Option Nat) (m:Nat) (Γ:Ctx) (g:G) (σ:St) (a:Act) (w:World),f.ok σ→(∀ i∈keys f.wt,i<Γ.nt)→Good Γ g σ a w→∀ (next:Act→World→Prop) (Q:Exit→Act→World→Prop),
  (∀ a' w' g',Good Γ g' (f.app σ) a' w'→next a' w')→o.wpIn (Fz ro) m P a w next Q
def bo (b:Bool):SV:=.a (.c (.p (.v (.bool b))))
def skipT:Option Nat→List (Nat × SV)
 | some d=>[(d,.tup [])]
 | none=>[]
def SoundAt (P:Program) (ops:Array Oper) (o:Oper) (f:Ft):Prop :=
 match o.guard with
 | none=>Sound P o f
 | some (j,want)=>∃ oj d,ops[j]?=some oj∧oj.dst=some d∧((∃ b,(d,bo b)∈f.rt∧if b=want then Sound P o f else f.wo=[]∧f.wt=skipT o.dst)∨((d,.tup [])∈f.rt∧f.wo=[]∧f.wt=skipT o.dst))
theorem Good.put_any {Γ:Ctx} {g:G} {σ:St} {a:Act} {w:World} (h:Good Γ g σ a w) (d:Nat):Good Γ g ⟨upd [(d,.tup [])] σ.T,σ.O⟩ (a.put (some d) undef) w where
 T i:=by
  simp only [upd]
  by_cases e:i=d
  ·rw [if_pos e]
   refine ⟨#[],?_,rfl,fun j av hj=>by simp at hj⟩
   subst e
   simp only [Act.put,Array.getD_eq_getD_getElem?,Array.getElem?_setIfInBounds_self]
   split <;> rfl
  ·rw [if_neg e]
   have:=h.T i
   simp only [Act.put]
   simpa [Array.getElem?_setIfInBounds_ne (Ne.symm e)] using this
 O:=h.O
 im:=h.im
 nt:=by simp only [Act.put,Array.size_setIfInBounds];exact h.nt
 df:=h.df
 os:=h.os
 tape:=h.tape
 out:=h.out
 size:=h.size
 blk:=h.blk
 mine:=h.mine
 lt:=h.lt
 imf:=h.imf
 nf:=h.nf
 bx:=h.bx
theorem SoundAt.wpOp {ro:Option Nat} {m:Nat} {P:Program} {ops:Array Oper} {i:Nat} {o:Oper} {f:Ft} (hi:ops[i]?=some o) (h:SoundAt P ops o f) {Γ:Ctx} {g:G} {σ:St} {a:Act} {w:World}
  (hf:f.ok σ) (hn:∀ i∈keys f.wt,i<Γ.nt) (hg:Good Γ g σ a w) {K:Act→World→Prop} {Q:Exit→Act→World→Prop}
  (hK:∀ a' w' g',Good Γ g' (f.app σ) a' w'→K a' w'):wpOpIn (Fz ro) m P ops Q i K a w:=by
 unfold Go.wpOpIn
 simp only [hi]
 unfold SoundAt at h
 unfold Region.wanted
 cases hgd:o.guard with
 | none =>
  simp only [hgd] at h ⊢
  simp only [if_true]
  exact h ro m Γ g σ a w hf hn hg K Q hK
 | some jw =>
  obtain ⟨j,want⟩:=jw
  simp only [hgd] at h ⊢
  obtain ⟨oj,d,hj,hd,h⟩:=h
  have skip:(yielded ops a.tmps j == some want)=false→f.wo=[]∧f.wt=skipT o.dst→(if (yielded ops a.tmps j == some want)=true then o.wpIn (Fz ro) m P a w K Q else (∀ f,o.about P w a.eval=some f→(Fz ro).fn f)∧K (a.put o.dst undef) w):=by
   intro this h
   simp only [this,Bool.false_eq_true,if_false]
   obtain ⟨ho,ht⟩:=h
   refine ⟨fun _ _=>trivial,?_⟩
   cases hd':o.dst with
   | none =>
    refine hK _ _ g ?_
    simp only [hd',skipT] at ht
    simp only [Ft.app,ho,ht,upd,Act.put]
    exact hg
   | some d' =>
    refine hK _ _ g ?_
    simp only [hd',skipT] at ht
    simp only [Ft.app,ho,ht]
    exact hg.put_any d'
  rcases h with ⟨b,hb,h⟩ | ⟨hb,h⟩
  ·have hT:σ.T d=bo b:=(okL_mem.1 hf.1) _ hb
   have hv:=hg.T d
   rw [hT] at hv
   have hv':a.tmps.getD d undef=.bool b:=by
    have hv:spR w g.Im (.v (.bool b)) (a.tmps.getD d undef):=hv
    generalize a.tmps.getD d undef=u at hv
    cases hv
    rfl
   have hy:yielded ops a.tmps j=some b:=by
    unfold yielded
    simp only [hj,Option.bind_some,hd]
    cases hx:a.tmps[d]? with
    | none=>simp [hx,undef] at hv'
    | some x=>simp [hx] at hv';simp [hv']
   by_cases e:b=want
   ·subst e
    simp only [if_true] at h
    simp only [hy,beq_self_eq_true,if_true]
    exact h ro m Γ g σ a w hf hn hg K Q hK
   ·rw [if_neg e] at h
    exact skip (by simp [hy,e]) h
  ·have hT:σ.T d=.tup []:=(okL_mem.1 hf.1) _ hb
   have hv:=hg.T d
   rw [hT] at hv
   obtain ⟨arr,hv,_⟩:=hv
   have hy:yielded ops a.tmps j=none:=by
    unfold yielded
    simp only [hj,Option.bind_some,hd]
    cases hx:a.tmps[d]? with
    | none=>simp
    | some x=>simp [hx] at hv;simp [hv]
   exact skip (by simp [hy]) h
def preOf (B:List Nat) (o:Oper):Nat:=o.after.foldl (fun s e=>if Region.binds .any e then s ||| 2 ^ e.on ||| B.getD e.on 0 else s) 0
theorem preOf_spec {B:List Nat} {o:Oper} {x:Nat} (h:(preOf B o).testBit x=true):∃ e∈o.after,Region.binds .any e=true∧(e.on=x∨(B.getD e.on 0).testBit x=true):=by
 unfold preOf at h
 rw [← Array.foldl_toList] at h
 have key:∀ (l:List Edge) (s:Nat),(l.foldl (fun s e=>if Region.binds .any e then s ||| 2 ^ e.on ||| B.getD e.on 0 else s) s).testBit x=true →
   s.testBit x=true∨∃ e∈l,Region.binds .any e=true∧(e.on=x∨(B.getD e.on 0).testBit x=true):=by
  intro l
  induction l with
  | nil=>exact fun s h=>.inl h
  | cons e l ih =>
   intro s h
   simp only [List.foldl_cons] at h
   rcases ih _ h with h | ⟨e',he',h⟩
   ·by_cases hb:Region.binds .any e=true
    ·rw [if_pos hb] at h
     simp only [Nat.testBit_or,Bool.or_eq_true] at h
     rcases h with (h | h) | h
     ·exact .inl h
     ·rw [Nat.testBit_two_pow] at h
      exact .inr ⟨e,List.mem_cons_self,hb,.inl (by simpa using h)⟩
     ·exact .inr ⟨e,List.mem_cons_self,hb,.inr h⟩
    ·rw [if_neg hb] at h
     exact .inl h
   ·exact .inr ⟨e',List.mem_cons_of_mem _ he',h⟩
 rcases key _ _ h with h | ⟨e,he,h⟩
 ·simp at h
 ·exact ⟨e,by simpa using he,h⟩
def indepRow (fs:List Ft) (f:Ft) (m:Nat):Nat→Bool
 | 0=>true
 | i+1=>(m.testBit i || indep (fs.getD i {}) f) && indepRow fs f m i
theorem indepRow_spec {fs:List Ft} {f:Ft} {m:Nat}:∀ {n:Nat},indepRow fs f m n=true→∀ i<n,m.testBit i=true∨indep (fs.getD i {}) f=true
 | 0,_,i,hi=>by omega
 | n+1,h,i,hi=>by
  simp only [indepRow,Bool.and_eq_true,Bool.or_eq_true] at h
  by_cases e:i=n
  ·subst e;exact h.1
  ·exact indepRow_spec h.2 i (by omega)
def drawOk (ops:Array Oper) (B:List Nat) (fs:List Ft):Nat→Bool
 | 0=>true
 | j+1=>(match ops[j]? with
  | some o=>Nat.beq (B.getD j 0) (preOf B o) && o.after.all (fun e=>!Region.binds .any e || decide (e.on<j)) && indepRow fs (fs.getD j {}) (B.getD j 0) j
  | none=>false) && drawOk ops B fs j
theorem drawOk_spec {ops:Array Oper} {B:List Nat} {fs:List Ft}:∀ {n:Nat},drawOk ops B fs n=true→∀ j<n,∃ o,ops[j]?=some o∧B.getD j 0=preOf B o ∧
  (∀ e∈o.after,Region.binds .any e=true→e.on<j)∧∀ i<j,(B.getD j 0).testBit i=true∨indep (fs.getD i {}) (fs.getD j {})=true
 | 0,_,i,hi=>by omega
 | n+1,h,j,hj=>by
  simp only [drawOk,Bool.and_eq_true] at h
  by_cases e:j=n
  ·subst e
   obtain ⟨h,-⟩:=h
   split at h
   ·rename_i o ho
    simp only [Bool.and_eq_true] at h
    refine ⟨o,ho,Nat.eq_of_beq_eq_true h.1.1,fun e he hb=>?_,indepRow_spec h.2⟩
    have:=Array.all_eq_true_iff_forall_mem.1 h.1.2 e he
    simpa [hb] using this
   ·cases h
  ·exact drawOk_spec h.2 j (by omega)
theorem split_first {p:Nat→Bool} {i:Nat}:∀ {L:List Nat},i∈L→∃ A C,L=A++i::C∧i ∉ A
 | [],h=>by simp at h
 | x::L,h=>by
  by_cases e:x=i
  ·subst e;exact ⟨[],L,rfl,by simp⟩
  ·obtain ⟨A,C,hL,hA⟩:=split_first (p:=p) (i:=i) (L:=L) (by simpa [Ne.symm e] using h)
   exact ⟨x::A,C,by rw [hL];rfl,by simp [hA,Ne.symm e]⟩
theorem region_any {ro:Option Nat} {m:Nat} {P:Program} {ops:Array Oper} {B:List Nat} {fs:List Ft} {Γ:Ctx} {Q:Exit→Act→World→Prop}
  (hd:drawOk ops B fs ops.size=true) (hs:∀ i o,ops[i]?=some o→SoundAt P ops o (fs.getD i {})) (hn:∀ i<ops.size,∀ k∈keys (fs.getD i {}).wt,k<Γ.nt) {σ':St}
  (hQ:∀ a w g,Good Γ g σ' a w→Q .normal a w) :
  ∀ (fuel:Nat) (L:List Nat) (listed:Array Bool) (σ:St) (g:G) (a:Act) (w:World),listed.size=ops.size→L.length≤fuel→L.Nodup→L.Pairwise (·<·) →
   (∀ i,i∈L↔i<ops.size∧listed.getD i true=false) →
   (∀ p,p<ops.size→listed.getD p true=true→∀ x,(B.getD p 0).testBit x=true→listed.getD x true=true) →
   Chain (fun i=>fs.getD i {}) L σ σ'→Good Γ g σ a w→wpAnyIn (Fz ro) m P .any ops Q fuel listed a w:=by
 have hlow:∀ j,j<ops.size→∀ x,(B.getD j 0).testBit x=true→x<j:=by
  intro j
  induction j using Nat.strongRecOn with
  | _ j ih =>
   intro hj x hx
   obtain ⟨o,ho,hB,he,_⟩:=drawOk_spec hd j hj
   rw [hB] at hx
   obtain ⟨e,hm,hb,hx⟩:=preOf_spec hx
   have:=he e hm hb
   rcases hx with rfl | hx
   ·exact this
   ·have:=ih e.on this (by omega) x hx
    omega
 intro fuel
 induction fuel with
 | zero =>
  intro L listed σ g a w hsz hL hnd hsort hmem hcl hch hg
  have hL0:L=[]:=by cases L with | nil=>rfl | cons=>simp at hL
  subst hL0
  simp only [Chain] at hch
  subst hch
  refine ⟨?_,hQ _ _ _ hg⟩
  cases hr:Region.ready .any ops listed with
  | nil=>rfl
  | cons x xs =>
   have:=mem_ready.1 (hr ▸ List.mem_cons_self:x∈Region.ready .any ops listed)
   obtain ⟨o,ho,_⟩:=this.2
   have h1:=(hmem x).2 ⟨by
    rcases Nat.lt_or_ge x ops.size with h' | h'
    ·exact h'
    ·simp [Array.getElem?_eq_none h'] at ho,this.1⟩
   simp at h1
 | succ fuel ih =>
  intro L listed σ g a w hsz hL hnd hsort hmem hcl hch hg
  refine ⟨fun hr=>?_,fun i hi=>?_⟩
  ·-- nothing is ready: nothing is left
   have hL0:L=[]:=by
    cases L with
    | nil=>rfl
    | cons x L =>
     exfalso
     obtain ⟨hx,hlx⟩:=(hmem x).1 List.mem_cons_self
     obtain ⟨o,ho,hB,he,_⟩:=drawOk_spec hd x hx
     have:x∈Region.ready .any ops listed:=by
      refine mem_ready.2 ⟨hlx,o,ho,?_⟩
      intro e hm hb
      ·have hlt:=he e hm hb
       cases hle:listed.getD e.on false with
       | true=>rfl
       | false =>
        exfalso
        have hmm:e.on∈x::L:=(hmem e.on).2 ⟨by omega,by
         have:e.on<listed.size:=by omega
         simp [this] at hle ⊢;exact hle⟩
        have:=List.pairwise_cons.1 hsort
        rcases List.mem_cons.1 hmm with h | h
        ·omega
        ·have:=this.1 _ h;omega
     rw [hr] at this
     simp at this
   subst hL0
   simp only [Chain] at hch
   subst hch
   exact hQ _ _ _ hg
  ·obtain ⟨hi2,o',ho',hi3⟩:=mem_ready.1 hi
   have hi1:i<ops.size:=by
    rcases Nat.lt_or_ge i ops.size with h' | h'
    ·exact h'
    ·simp [Array.getElem?_eq_none h'] at ho'
   obtain ⟨o,ho,hB,he,hind⟩:=drawOk_spec hd i hi1
   obtain rfl:o'=o:=by rw [ho] at ho';exact (Option.some.inj ho').symm
   have hpre:∀ x,(B.getD i 0).testBit x=true→listed.getD x true=true:=by
    intro x hx
    rw [hB] at hx
    obtain ⟨e,hm,hb,hx⟩:=preOf_spec hx
    have h1:=hi3 e hm hb
    have hlt:=he e hm hb
    have hon:listed.getD e.on true=true:=by
     have:e.on<listed.size:=by omega
     simp [this] at h1 ⊢;exact h1
    rcases hx with rfl | hx
    ·exact hon
    ·exact hcl e.on (by omega) hon x hx
   obtain ⟨A,C,rfl,hA⟩:=split_first (p:=fun _=>true) ((hmem i).2 ⟨hi1,hi2⟩)
   have hAi:∀ x∈A,indep (fs.getD x {}) (fs.getD i {})=true:=by
    intro x hx
    have hlt:x<i:=(List.pairwise_append.1 hsort).2.2 x hx i List.mem_cons_self
    rcases hind x hlt with h | h
    ·have h1:=hpre x h
     have h2:=((hmem x).1 (List.mem_append_left _ hx)).2
     rw [h1] at h2
     cases h2
    ·exact h
   obtain ⟨hok,hch'⟩:=Chain.front hAi hch
   refine SoundAt.wpOp ho (hs i _ ho) hok (hn i hi1) hg fun a' w' g' hg'=>?_
   have hnd':(i::(A++C)).Nodup:=(List.perm_middle.nodup_iff).1 hnd
   refine ih (A++C) (listed.setIfInBounds i true) _ g' a' w' (by simpa using hsz) (by simp at hL ⊢;omega) (List.nodup_cons.1 hnd').2 ?_ ?_ ?_ hch' hg'
   ·exact hsort.sublist (by simp)
   ·intro x
    have hx:=hmem x
    have hnm:i ∉ A++C:=(List.nodup_cons.1 hnd').1
    simp only [Array.getD_eq_getD_getElem?] at hx ⊢
    by_cases e:x=i
    ·subst e
     have hi':x<listed.size:=by omega
     simp [Array.getElem?_setIfInBounds_self,hi'] at hnm ⊢
     exact hnm
    ·rw [Array.getElem?_setIfInBounds_ne (Ne.symm e)]
     rw [← hx]
     simp [e]
   ·intro p hp hlp x hx
    simp only [Array.getD_eq_getD_getElem?] at hlp hpre hcl ⊢
    by_cases e:x=i
    ·subst e
     have hi':x<listed.size:=by omega
     simp [Array.getElem?_setIfInBounds_self,hi']
    ·rw [Array.getElem?_setIfInBounds_ne (Ne.symm e)]
     by_cases ep:p=i
     ·subst ep;exact hpre x hx
     ·rw [Array.getElem?_setIfInBounds_ne (Ne.symm ep)] at hlp
      exact hcl p hp hlp x hx
theorem Good.drew {Γ:Ctx} {g:G} {σ:St} {a:Act} {w:World} (h:Good Γ g σ a w):Good Γ g σ a { w with drawn:=w.drawn+1 } where
 T i:=(show Le w g σ.O { w with drawn:=w.drawn+1 } g σ.O from ⟨fun b hb=>⟨hb,rfl⟩,fun _ h=>h,fun r sz' l' _ ho=>⟨sz',l',ho,rfl,Nat.le_refl _,rfl,fun b _ c hc=>⟨c,hc,rfl⟩⟩,fun r l' _ ho=>⟨l',ho,rfl⟩⟩).sv (h.T i)
 O r:=Le.keep (show Le w g σ.O { w with drawn:=w.drawn+1 } g σ.O from ⟨fun b hb=>⟨hb,rfl⟩,fun _ h=>h,fun r sz' l' _ ho=>⟨sz',l',ho,rfl,Nat.le_refl _,rfl,fun b _ c hc=>⟨c,hc,rfl⟩⟩,fun r l' _ ho=>⟨l',ho,rfl⟩⟩) rfl (fun _ _=>⟨rfl,rfl⟩) (h.O r)
 im:=h.im
 nt:=h.nt
 df:=h.df
 os:=h.os
 tape:=h.tape
 out:=h.out
 size:=h.size
 blk:=h.blk
 mine:=h.mine
 lt:=h.lt
 imf:=h.imf
 nf:=h.nf
 bx:=h.bx
def inNt (n:Nat) (fs:List Ft):Bool:=fs.all fun f=>f.wt.all fun x=>decide (x.1<n)
theorem inNt_spec {n:Nat} {fs:List Ft} (h:inNt n fs=true) (i:Nat):∀ k∈keys (fs.getD i {}).wt,k<n:=by
 intro k hk
 simp only [inNt,List.all_eq_true,decide_eq_true_eq] at h
 rw [List.getD_eq_getElem?_getD] at hk
 cases hf:fs[i]? with
 | none=>simp [hf,keys] at hk
 | some f =>
  simp only [hf,Option.getD_some,keys,List.mem_map] at hk
  obtain ⟨x,hx,rfl⟩:=hk
  exact h f (List.mem_of_getElem? hf) x hx
theorem ops_seq {ro:Option Nat} {m:Nat} {P:Program} {ops:Array Oper} {fs:List Ft} {Γ:Ctx} {Q:Exit→Act→World→Prop}
  (hs:∀ i o,ops[i]?=some o→SoundAt P ops o (fs.getD i {})) (hn:∀ i<ops.size,∀ k∈keys (fs.getD i {}).wt,k<Γ.nt) {σ':St}
  (hQ:∀ a w g,Good Γ g σ' a w→Q .normal a w):∀ (L:List Nat) (σ:St) (g:G) (a:Act) (w:World),(∀ i∈L,i<ops.size)→Chain (fun i=>fs.getD i {}) L σ σ'→Good Γ g σ a w→wpOpsIn (Fz ro) m P ops Q L a w:=by
 intro L
 induction L with
 | nil =>
  intro σ g a w _ hch hg
  simp only [Chain] at hch
  subst hch
  exact hQ _ _ _ hg
 | cons i L ih =>
  intro σ g a w hL hch hg
  rw [wpOpsIn_cons]
  have hi:=hL i List.mem_cons_self
  obtain ⟨hok,hch⟩:=hch
  exact SoundAt.wpOp (Array.getElem?_eq_getElem hi) (hs i _ (Array.getElem?_eq_getElem hi)) hok (hn i hi) hg fun a' w' g' hg'=>ih _ g' a' w' (fun x hx=>hL x (List.mem_cons_of_mem _ hx)) hch hg'
def Tr (P:Program) (Γ:Ctx) (c:Code) (Q:Exit→St→Prop) (σ:St):Prop :=
 ∀ (ro:Option Nat) (m:Nat) g a w,Good Γ g σ a w→c.wpIn (Fz ro) m P (fun e a' w'=>∃ σ' g',Q e σ'∧Good Γ g' σ' a' w') a w
def allSound (P:Program) (ops:Array Oper):List Oper→List Ft→Prop
 | [],[]=>True
 | o::os,f::fs=>SoundAt P ops o f∧allSound P ops os fs
 | _,_=>False
theorem allSound_at {P:Program} {ops:Array Oper}:∀ {l:List Oper} {fs:List Ft},allSound P ops l fs→∀ (i:Nat) (o:Oper),l[i]?=some o→SoundAt P ops o (fs.getD i {})
 | [],[],_,i,o,h=>by simp at h
 | o::os,f::fs,h,0,o',h'=>by simp at h';subst h';simpa using h.1
 | o::os,f::fs,h,i+1,o',h'=>by simpa using allSound_at h.2 i o' (by simpa using h')
def runC (fs:List Ft) (σ:St):St:=fs.foldl (fun σ f=>f.app σ) σ
def okC:List Ft→St→Prop
 | [],_=>True
 | f::fs,σ=>f.ok σ∧okC fs (f.app σ)
theorem chain_range (fs:List Ft):∀ (pre suf:List Ft) (σ:St),fs=pre++suf→okC suf σ→Chain (fun i=>fs.getD i {}) (List.range' pre.length suf.length) σ (runC suf σ):=by
 intro pre suf
 induction suf generalizing pre with
 | nil=>intro σ _ _;rfl
 | cons f suf ih =>
  intro σ hfs hok
  have hget:fs.getD pre.length {}=f:=by rw [hfs];simp
  simp only [List.length_cons,List.range'_succ,Chain,hget]
  refine ⟨hok.1,?_⟩
  have:=ih (pre++[f]) (f.app σ) (by rw [hfs];simp) hok.2
  simpa [runC] using this
theorem tr_region {P:Program} {Γ:Ctx} {id:Nat} {ops:Array Oper} {fs:List Ft} {σ:St} {Q:Exit→St→Prop} (hl:fs.length=ops.size) (hn:inNt Γ.nt fs=true)
  (hs:allSound P ops ops.toList fs) (hok:okC fs σ) (hQ:Q .normal (runC fs σ)):Tr P Γ (.region id ops false) Q σ:=by
 intro ro m g a w hg
 refine wpIn_region ?_
 refine ops_seq (σ':=runC fs σ) (fun i o ho=>allSound_at hs i o (by simpa using ho)) (fun i _=>inNt_spec hn i) (fun a w g h=>⟨_,g,hQ,h⟩) (List.range ops.size) σ g a w (by simp) ?_ hg
 have:=chain_range fs [] fs σ rfl hok
 rw [hl] at this
 simpa [List.range_eq_range'] using this
theorem tr_draw {P:Program} (hm:P.follows .mixedOrders=true) {Γ:Ctx} {id:Nat} {ops:Array Oper} {fs:List Ft} {B:List Nat} {σ:St} {Q:Exit→St→Prop} (hl:fs.length=ops.size) (hn:inNt Γ.nt fs=true)
  (hd:drawOk ops B fs ops.size=true) (hs:allSound P ops ops.toList fs) (hok:okC fs σ) (hQ:Q .normal (runC fs σ)):Tr P Γ (.region id ops true) Q σ:=by
 intro ro m g a w hg
 refine wpIn_region_any hm ?_
 have hch:=chain_range fs [] fs σ rfl hok
 rw [hl] at hch
 refine region_any (σ':=runC fs σ) hd (fun i o ho=>allSound_at hs i o (by simpa using ho)) (fun i _=>inNt_spec hn i) (fun a w g h=>⟨_,g,hQ,h⟩) ops.size (List.range ops.size) (Array.replicate ops.size false) σ g a _ (by simp) (by simp) List.nodup_range List.pairwise_lt_range ?_ ?_ (by simpa [List.range_eq_range'] using hch) hg.drew
 ·intro i
  simp only [List.mem_range]
  constructor
  ·intro h;exact ⟨h,by simp [h]⟩
  ·exact fun h=>h.1
 ·intro p hp hlp
  simp [hp] at hlp
end Go.XM
end
section
namespace Go.XM
open Go.RowKit
theorem Good.put {Γ:Ctx} {g:G} {σ:St} {a:Act} {w:World} (h:Good Γ g σ a w) {d:Nat} (hd:d<Γ.nt) {sv:SV} {u:Value} (hu:svR w g σ.O sv u) :
  Good Γ g ⟨upd [(d,sv)] σ.T,σ.O⟩ (a.put (some d) u) w where
 T i:=by
  simp only [upd]
  by_cases e:i=d
  ·subst e
   rw [if_pos rfl]
   have:i<a.tmps.size:=by rw [h.nt];exact hd
   simpa [Act.put,this] using hu
  ·rw [if_neg e]
   have:=h.T i
   simp only [Act.put]
   simpa [Array.getElem?_setIfInBounds_ne (Ne.symm e)] using this
 O:=h.O
 im:=h.im
 nt:=by simp only [Act.put,Array.size_setIfInBounds];exact h.nt
 df:=h.df
 os:=h.os
 tape:=h.tape
 out:=h.out
 size:=h.size
 blk:=h.blk
 mine:=h.mine
 lt:=h.lt
 imf:=h.imf
 nf:=h.nf
 bx:=h.bx
theorem sound_val {P:Program} {o:Oper} {f:Ft} {d:Nat} {sv:SV} (hd:o.dst=some d) (ht:f.wt=[(d,sv)]) (ho:f.wo=[])
  (h:∀ (Γ:Ctx) (g:G) (σ:St) (a:Act) (w:World),f.ok σ→Good Γ g σ a w→∃ u,(execOp a.eval o).run P w=.ok (.value u) w∧svR w g σ.O sv u):Sound P o f:=by
 intro ro m Γ g σ a w hf hn hg next Q hK
 obtain ⟨u,h1,h2⟩:=h Γ g σ a w hf hg
 refine ⟨fun _ _=>trivial,?_⟩
 rw [semAt_val h1 (by simp),Oper.uponIn_value,hd]
 refine hK _ _ g ?_
 simp only [Ft.app,ht,ho]
 exact hg.put (hn d (by simp [ht,keys])) h2
abbrev pl (v:Value):SV:=.a (.c (.p (.v v)))
abbrev cv (x:CV):SV:=.a (.c x)
def szEl (P:Program) (t:TypeId):Nat:=match P.underlying t with
 | some (.slice e)=>((P.info? e).map (·.size)).getD 0
 | _=>0
def cst (sz:Nat):Value→Option SV
 | .int k n=>some (pl (.int k n))
 | .bool b=>some (pl (.bool b))
 | .string s=>some (pl (.string s))
 | .slice none 0 0=>some (cv (.nl sz))
 | .nilIface=>some (pl .nilIface)
 | .pointer none=>some (pl (.pointer none))
 | _=>none
theorem cst_R {w:World} {g:G} {O:Nat→RS} {sz:Nat} {v:Value} {sv:SV} (h:cst sz v=some sv):svR w g O sv v:=by
 unfold cst at h
 split at h <;> cases h <;> first | exact spR.v _ rfl | rfl
def rd (P:Program) (σ:St) (t:TypeId):Operand→Option SV
 | .tmp i=>some (σ.T i)
 | .const v=>cst (szEl P t) v
 | .func f=>some (.a (.fn f []))
 | .global _=>none
def evk (σ:St):Operand→List (Nat × SV)
 | .tmp i=>[(i,σ.T i)]
 | _=>[]
theorem okL_append {α:Type} {l m:List (Nat × α)} {f:Nat→α}:okL (l++m) f↔okL l f∧okL m f:=by
 simp only [okL_mem,List.mem_append]
 exact ⟨fun h=>⟨fun x hx=>h x (.inl hx),fun x hx=>h x (.inr hx)⟩,fun h x hx=>hx.elim (h.1 x) (h.2 x)⟩
theorem evk_ok (σ:St) (x:Operand):okL (evk σ x) σ.T:=by
 cases x <;> simp [evk,okL]
theorem rd_R {P:Program} {σ0 σ:St} {t:TypeId} {x:Operand} {sv:SV} (h:rd P σ0 t x=some sv) (ho:okL (evk σ0 x) σ.T) {Γ:Ctx} {g:G} {a:Act} {w:World} (hg:Good Γ g σ a w):svR w g σ.O sv (a.eval x):=by
 cases x with
 | tmp i =>
  simp only [rd,Option.some.injEq] at h
  subst h
  have:=hg.T i
  rw [(show σ.T i=σ0.T i from ho.1)] at this
  exact this
 | const v=>exact cst_R h
 | func f =>
  simp only [rd,Option.some.injEq] at h
  subst h
  exact ⟨#[],rfl,rfl,fun j cv hj=>by simp at hj⟩
 | global _=>simp [rd] at h
theorem rd_pl {P:Program} {σ0 σ:St} {t:TypeId} {x:Operand} {v:Value} (h:rd P σ0 t x=some (pl v)) (ho:okL (evk σ0 x) σ.T) {Γ:Ctx} {g:G} {a:Act} {w:World} (hg:Good Γ g σ a w):a.eval x=v:=by
 have:spR w g.Im (.v v) (a.eval x):=rd_R h ho hg
 generalize a.eval x=u at this
 cases this
 rfl
abbrev PC:=Option Prop
def PC.holds:PC→Prop
 | none=>True
 | some p=>p
def PC.and:PC→PC→PC
 | none,q=>q
 | p,none=>p
 | some p,some q=>some (p∧q)
theorem PC.and_holds {p q:PC}:(p.and q).holds↔p.holds∧q.holds:=by
 cases p <;> cases q <;> simp [PC.and,PC.holds]
abbrev PR:=Option (Ft × PC)
def Right (P:Program) (o:Oper) (σ:St) (r:PR):Prop:=∀ f c,r=some (f,c)→c.holds→f.ok σ∧Sound P o f
def pMove (P:Program) (σ:St) (t:TypeId) (d:Nat) (x:Operand):PR :=
 match rd P σ t x with
 | some sv=>some ({ rt:=evk σ x,wt:=[(d,sv)] },none)
 | none=>none
theorem pMove_right {P:Program} {σ:St} {o:Oper} {d:Nat} {x:Operand} {t:TypeId} (hd:o.dst=some d) (h:o.op=.move x∨o.op=.assign x):Right P o σ (pMove P σ t d x):=by
 intro f c hr _
 unfold pMove at hr
 split at hr
 ·rename_i sv hsv
  cases hr
  refine ⟨⟨evk_ok _ _,trivial⟩,sound_val hd rfl rfl fun Γ g σ' a w hf hg=>⟨a.eval x,?_,rd_R hsv hf.1 hg⟩⟩
  rcases h with h | h <;> simp [execOp,h]
 ·cases hr
def wr:IntKind→Int→Int
 | .i64,n=>wrap64 n
 | k,n=>k.wrap n
theorem wr_eq (k:IntKind) (n:Int):k.wrap n=wr k n:=by
 cases k <;> first | rfl | (show IntKind.i64.wrap n=wrap64 n;unfold IntKind.wrap wrap64;simp only [IntKind.bits,IntKind.signed];simp;split <;> omega)
def ib (op:BinOp) (k:IntKind) (x y:Int):Int :=
 let a:=BitVec.ofInt k.bits x
 let b:=BitVec.ofInt k.bits y
 match op with
 | .and=>k.wrap (a &&& b).toNat
 | .or=>k.wrap (a ||| b).toNat
 | .xor=>k.wrap (a ^^^ b).toNat
 | _=>k.wrap (a &&& ~~~b).toNat
def bop (u:Option TypeDesc):BinOp→Value→Value→Option (Value × PC)
 | .add,.int k a,.int k' b=>if k=k' then some (.int k (wr k (a+b)),none) else none
 | .sub,.int k a,.int k' b=>if k=k' then some (.int k (wr k (a-b)),none) else none
 | .mul,.int k a,.int k' b=>if k=k' then some (.int k (wr k (a*b)),none) else none
 | .quo,.int k a,.int k' b=>if k=k' then some (.int k (wr k (a.tdiv b)),some (b≠0)) else none
 | .rem,.int k a,.int k' b=>if k=k' then some (.int k (a.tmod b),some (b≠0)) else none
 | .and,.int k a,.int k' b=>if k=k' then some (.int k (ib .and k a b),none) else none
 | .or,.int k a,.int k' b=>if k=k' then some (.int k (ib .or k a b),none) else none
 | .xor,.int k a,.int k' b=>if k=k' then some (.int k (ib .xor k a b),none) else none
 | .andNot,.int k a,.int k' b=>if k=k' then some (.int k (ib .andNot k a b),none) else none
 | .shl,.int k a,.int _ b=>some (.int k (wr k (a*2 ^ min b.toNat k.bits)),some (0≤b))
 | .shr,.int k a,.int _ b=>some (.int k (a.fdiv (2 ^ min b.toNat k.bits)),some (0≤b))
 | .eql,.int k a,.int k' b=>if k=k' then some (.bool (a == b),none) else none
 | .neq,.int k a,.int k' b=>if k=k' then some (.bool (a != b),none) else none
 | .lss,.int k a,.int k' b=>if k=k' then some (.bool (decide (a<b)),none) else none
 | .leq,.int k a,.int k' b=>if k=k' then some (.bool (decide (a≤b)),none) else none
 | .gtr,.int k a,.int k' b=>if k=k' then some (.bool (decide (a > b)),none) else none
 | .geq,.int k a,.int k' b=>if k=k' then some (.bool (decide (a≥b)),none) else none
 | .add,.string a,.string b=>some (.string (a++b),some (((a.size+b.size:Nat):Int)≤9223372036854775807))
 | .eql,.string a,.string b=>some (.bool (a.toList == b.toList),none)
 | .neq,.string a,.string b=>some (.bool (!(a.toList == b.toList)),none)
 | .eql,.bool a,.bool b=>match u with | some .bool=>some (.bool (a == b),none) | _=>none
 | .neq,.bool a,.bool b=>match u with | some .bool=>some (.bool (!(a == b)),none) | _=>none
 | _,_,_=>none
theorem run_underlying {P:Program} {t:TypeId} {d:TypeDesc} (h:P.underlying t=some d) (w:World):(underlying t).run P w=.ok d w:=by
 unfold underlying
 simp [h]
theorem run_equal_bool {P:Program} {t:TypeId} (h:P.underlying t=some .bool) (a b:Bool) (w:World):(Op.equal t (.bool a) (.bool b)).run P w=.ok (a == b) w:=by
 unfold Op.equal
 show (Op.equalIn (9999+1) t (.bool a) (.bool b)).run P w=_
 unfold Op.equalIn
 simp [run_underlying h]
theorem bop_run {P:Program} {op:BinOp} {t:TypeId} {x y:Operand} {vx vy r:Value} {c:PC} (h:bop (P.underlying t) op vx vy=some (r,c)) (hc:c.holds) (w:World) :
  ((do eqGuard op t x y vx vy;binOp op t vx vy:Sem Value)).run P w=.ok r w:=by
 unfold bop at h
 split at h
 all_goals try (split at h <;> cases h)
 all_goals try cases h
 all_goals try subst_vars
 all_goals simp [eqGuard,binOp,Op.intArith,Op.intDiv,Op.intBits,Op.shift,Op.intCmp,Op.stringOp,ib,PC.holds] at hc ⊢
 all_goals try simp only [wr_eq]
 all_goals try rfl
 all_goals first
  | (rw [if_neg hc])
  | (intro h;exact absurd h hc)
  | (rw [if_neg (by omega)])
  | (intro h;omega)
  | omega
  | simp [run_equal_bool ‹_›]
end Go.XM
end
section
namespace Go.XM
open Go.RowKit
theorem Good.step {Γ:Ctx} {g:G} {σ:St} {a:Act} {w:World} (h:Good Γ g σ a w) {g':G} {O':Nat→RS} {w':World} (hle:Le w g σ.O w' g' O')
  (hO:∀ r,rsR w' g' O' r (O' r)) (him:∀ b,g'.Im b→b<w'.heap.size∧g'.own b=none) (hos:w'.os=w.os) (htape:w'.tape=w.tape) (hout:w'.output=w.output)
  (hsz:w.heap.size≤w'.heap.size) (hblk:∀ b,b<w.heap.size→(∀ o,g.own b≠some o)→w'.heap[b]?=w.heap[b]?)
  (hown:∀ b o,g'.own b=some o→b<w'.heap.size∧(w.heap.size≤b∨∃ o,g.own b=some o)) (himf:∀ b,g'.Im b→g.Im b∨w.heap.size≤b∨∃ o,g.own b=some o) :
  Good Γ g' ⟨σ.T,O'⟩ a w' where
 T i:=hle.sv (h.T i)
 O:=hO
 im:=him
 nt:=h.nt
 df:=h.df
 os:=hos.trans h.os
 tape:=htape.trans h.tape
 out:=hout.trans h.out
 size:=Nat.le_trans h.size hsz
 blk b hb hL:=by
  rw [← h.blk b hb hL]
  refine hblk b (Nat.lt_of_lt_of_le hb h.size) fun o ho=>?_
  rcases h.mine b o ho with h1 | h1
  ·omega
  ·exact hL h1
 mine b o ho:=by
  rcases (hown b o ho).2 with h1 | ⟨o',h1⟩
  ·exact .inl (Nat.le_trans h.size h1)
  ·exact h.mine b o' h1
 lt b o ho:=(hown b o ho).1
 imf b hb:=by
  rcases himf b hb with h1 | h1 | ⟨o,h1⟩
  ·exact h.imf b h1
  ·exact .inl (Nat.le_trans h.size h1)
  ·rcases h.mine b o h1 with h2 | h2
   ·exact .inl h2
   ·exact .inr (.inl h2)
 nf k hk:=hle.fresh k (h.nf k hk)
 bx k l hk ho:=by
  obtain ⟨l0,h1,h2⟩:=hle.box k l (h.nf k hk) ho
  exact h2.trans (h.bx k l0 hk h1)
theorem add_mk (b off n:Nat):(⟨b,off,none⟩:Addr).add n=⟨b,off+n,none⟩:=by
 unfold Addr.add
 split
 ·rename_i h;simp [h]
 ·rfl
def hasT (P:Program) (t:TypeId):Bool:=(P.underlying t).isSome && (P.info? t).isSome
def isAg (P:Program) (t:TypeId):Bool:=match P.underlying t with
 | some (.struct _)=>true
 | some (.array _ _)=>true
 | _=>false
def szT (P:Program) (t:TypeId):Nat:=((P.info? t).map (·.size)).getD 0
theorem run_sizeOf {P:Program} {t:TypeId} (h:hasT P t=true) (w:World):(sizeOf t).run P w=.ok (szT P t) w:=by
 unfold sizeOf typeInfo szT
 simp only [hasT,Bool.and_eq_true,Option.isSome_iff_exists] at h
 obtain ⟨_,i,hi⟩:=h
 simp [hi]
theorem run_isAgg {P:Program} {t:TypeId} (h:hasT P t=true) (w:World):(isAgg t).run P w=.ok (isAg P t) w:=by
 unfold isAgg isAg
 simp only [hasT,Bool.and_eq_true,Option.isSome_iff_exists] at h
 obtain ⟨⟨d,hd⟩,_⟩:=h
 simp only [Sem.run_bind,run_underlying hd,Result.andThen_ok,hd]
 cases d <;> rfl
theorem run_loadCellsFrom {P:Program} {w:World} {b off:Nat} {us:Nat→Value}:∀ (n i:Nat) (acc:Array Value),(∀ j,j<n→w.cell? ⟨b,off+(i+j),none⟩=some (us (i+j))) →
  (loadCellsFrom ⟨b,off,none⟩ i n acc).run P w=.ok (acc++((List.range' i n).map us).toArray) w
 | 0,i,acc,_=>by simp [loadCellsFrom]
 | n+1,i,acc,h=>by
  have h0:=h 0 (by omega)
  simp only [Nat.add_zero] at h0
  simp only [loadCellsFrom,Sem.run_bind,run_load,add_mk,h0,Result.andThen_ok]
  rw [run_loadCellsFrom n (i+1) _ (fun j hj=>by have:=h (j+1) (by omega);rwa [show i+(j+1)=i+1+j by omega] at this)]
  simp [List.range'_succ]
theorem run_loadCells {P:Program} {w:World} {b off n:Nat} {us:Nat→Value} (h:∀ j,j<n→w.cell? ⟨b,off+j,none⟩=some (us j)) :
  (loadCells ⟨b,off,none⟩ n).run P w=.ok ((List.range n).map us).toArray w:=by
 unfold loadCells
 rw [run_loadCellsFrom n 0 #[] (fun j hj=>by simpa using h j hj)]
 simp [List.range_eq_range']
def ldCV (P:Program) (t:TypeId) (l:List CV) (c:Nat):Option SV :=
 if isAg P t then (if ((l.drop c).take (szT P t)).length=szT P t then some (.a (.agg ((l.drop c).take (szT P t)))) else none)
 else match l[c]? with
  | some x=>some (cv x)
  | none=>none
theorem ld_R {P:Program} {t:TypeId} (ht:hasT P t=true) {l:List CV} {c:Nat} {sv:SV} (h:ldCV P t l c=some sv) {w:World} {g:G} {O:Nat→RS} {b off:Nat}
  (hl:∀ (j:Nat) (x:CV),l[c+j]?=some x→∃ u,w.cell? ⟨b,off+j,none⟩=some u∧u.oneCell'=true∧cvR w g O x u) :
  ∃ u,(loadVar t ⟨b,off,none⟩).run P w=.ok u w∧svR w g O sv u:=by
 unfold ldCV at h
 unfold loadVar
 simp only [Sem.run_bind,run_isAgg ht,Result.andThen_ok]
 split at h
 ·rename_i ha
  split at h
  ·rename_i hn
   cases h
   simp only [ha,if_true,Sem.run_bind,run_sizeOf ht,Result.andThen_ok]
   have hcell:∀ j,j<szT P t→∃ u,w.cell? ⟨b,off+j,none⟩=some u∧∃ x,l[c+j]?=some x∧u.oneCell'=true∧cvR w g O x u:=by
    intro j hj
    have hlen:c+j<l.length:=by simp at hn;omega
    obtain ⟨u,h1,h2,h3⟩:=hl j _ (List.getElem?_eq_getElem hlen)
    exact ⟨u,h1,_,List.getElem?_eq_getElem hlen,h2,h3⟩
   let us:Nat→Value:=fun j=>(w.cell? ⟨b,off+j,none⟩).getD undef
   have hus:∀ j,j<szT P t→w.cell? ⟨b,off+j,none⟩=some (us j):=by
    intro j hj
    obtain ⟨u,h1,_⟩:=hcell j hj
    simp only [us,h1,Option.getD_some]
   rw [run_loadCells hus]
   refine ⟨_,rfl,_,rfl,by simp [hn],fun j x hj=>?_⟩
   have hj':j<szT P t:=by
    rcases Nat.lt_or_ge j (szT P t) with h | h
    ·exact h
    ·rw [List.getElem?_eq_none (by omega)] at hj;cases hj
   obtain ⟨u,h1,x',h2,h3,h4⟩:=hcell j hj'
   have:x'=x:=by
    rw [List.getElem?_take,if_pos hj',List.getElem?_drop,h2] at hj
    exact Option.some.inj hj
   subst this
   have hu:us j=u:=by simp only [us,h1,Option.getD_some]
   exact ⟨u,by simp [hj',hu],h3,h4⟩
  ·cases h
 ·rename_i ha
  simp only [ha,Bool.false_eq_true,if_false]
  split at h
  ·rename_i x hx
   cases h
   obtain ⟨u,h1,h2,h3⟩:=hl 0 x (by simpa using hx)
   simp only [Nat.add_zero] at h1
   exact ⟨u,by simp [h1],h3⟩
  ·cases h
inductive Hint where
 | no
 | sz (n:Nat)
 | val (v:Value)
 | rcs (l:List RC)
 | sps (l:List SP)
def rcCV:RC→CV
 | .s x=>.p x
 | _=>.any
def pLoad (P:Program) (σ:St) (t:TypeId) (d:Nat) (x:Operand) (h:Hint):PR :=
 if hasT P t then
  match rd P σ 0 x with
  | some (.a (.c (.bx r c)))=>match σ.O r with
   | .box l=>match ldCV P t l c with
    | some sv=>some ({ rt:=evk σ x,ro:=[(r,.box l)],wt:=[(d,sv)] },none)
    | none=>none
   | _=>none
  | some (.a (.c (.ad r e c)))=>match σ.O r,h with
   | .row sz l,.rcs es=>match ldCV P t (es.map rcCV) c with
    | some sv=>some ({ rt:=evk σ x,ro:=[(r,.row sz l)],wt:=[(d,sv)] },some (l[e]?=some es))
    | none=>none
   | _,_=>none
  | some (.a (.c (.ia l c)))=>match ldCV P t (l.map .p) c with
   | some sv=>some ({ rt:=evk σ x,wt:=[(d,sv)] },none)
   | none=>none
  | _=>none
 else none
theorem exec_load {P:Program} {ρ:Operand→Value} {o:Oper} {t:TypeId} {x:Operand} (h:o.op=.load t x) {b off:Nat} (hx:ρ x=.pointer (some ⟨b,off,none⟩)) {w:World} {u:Value}
  (hl:(loadVar t ⟨b,off,none⟩).run P w=.ok u w):(execOp ρ o).run P w=.ok (.value u) w:=by
 simp [execOp,h,Instr.loadAt,Instr.sureAddr,hx,hl]
theorem pLoad_right {P:Program} {σ:St} {o:Oper} {t:TypeId} {d:Nat} {x:Operand} {h:Hint} (hd:o.dst=some d) (ho:o.op=.load t x):Right P o σ (pLoad P σ t d x h):=by
 intro f c hr hc
 unfold pLoad at hr
 split at hr
 ·rename_i ht
  split at hr
  ·rename_i r c' hx
   split at hr
   ·rename_i l hO
    split at hr
    ·rename_i sv hsv
     cases hr
     refine ⟨⟨evk_ok _ _,hO,trivial⟩,sound_val hd rfl rfl fun Γ g σ' a w hf hg=>?_⟩
     have hOr:σ'.O r=.box l:=hf.2.1
     have hv:cvR w g σ'.O (.bx r c') (a.eval x):=rd_R hx hf.1 hg
     simp only [cvR,hOr] at hv
     obtain ⟨b,hb,hv⟩:=hv
     have hbox:=hg.O r
     rw [hOr] at hbox
     obtain ⟨b',cs,h1,h2,h3,h4,h5⟩:=hbox
     obtain rfl:b'=b:=by rw [hb] at h1;exact (Option.some.inj h1).symm
     obtain ⟨u,k1,k2⟩:=ld_R ht hsv (w:=w) (g:=g) (O:=σ'.O) (b:=b') (off:=c') (fun j y hy=>by
      obtain ⟨u,a1,a2,a3⟩:=h5 _ y hy
      exact ⟨u,by rw [h3.cell];exact a1,a2,a3⟩)
     exact ⟨u,exec_load ho hv k1,k2⟩
    ·cases hr
   ·cases hr
  ·rename_i r e c' hx
   split at hr
   ·rename_i sz l es hO
    split at hr
    ·rename_i sv hsv
     cases hr
     have hle:l[e]?=some es:=hc
     refine ⟨⟨evk_ok _ _,hO,trivial⟩,sound_val hd rfl rfl fun Γ g σ' a w hf hg=>?_⟩
     have hOr:σ'.O r=.row sz l:=hf.2.1
     have hv:cvR w g σ'.O (.ad r e c') (a.eval x):=rd_R hx hf.1 hg
     simp only [cvR,hOr] at hv
     obtain ⟨b,hb,hv⟩:=hv
     have hrow:=hg.O r
     rw [hOr] at hrow
     simp only [rsR,hb] at hrow
     obtain ⟨cs,h2,h3,h4,h6,h5⟩:=hrow
     obtain ⟨u,k1,k2⟩:=ld_R ht hsv (w:=w) (g:=g) (O:=σ'.O) (b:=b) (off:=e*sz+c') (fun j y hy=>by
      rw [List.getElem?_map,Option.map_eq_some_iff] at hy
      obtain ⟨rc,hrc,rfl⟩:=hy
      obtain ⟨u,a1,a2,a3⟩:=h5 e es (c'+j) rc hle hrc
      refine ⟨u,by rw [h3.cell,Nat.add_assoc];exact a1,a2,?_⟩
      cases rc with
      | s y=>exact a3
      | o _ _=>trivial
      | hole=>trivial)
     exact ⟨u,exec_load ho hv k1,k2⟩
    ·cases hr
   ·cases hr
  ·rename_i l c' hx
   split at hr
   ·rename_i sv hsv
    cases hr
    refine ⟨⟨evk_ok _ _,trivial⟩,sound_val hd rfl rfl fun Γ g σ' a w hf hg=>?_⟩
    obtain ⟨b,off,hv,hi,us,hus⟩:cvR w g σ'.O (.ia l c') (a.eval x):=rd_R hx hf.1 hg
    obtain ⟨u,k1,k2⟩:=ld_R ht hsv (w:=w) (g:=g) (O:=σ'.O) (b:=b) (off:=off+c') (fun j y hy=>by
     rw [List.getElem?_map,Option.map_eq_some_iff] at hy
     obtain ⟨p,hp,rfl⟩:=hy
     obtain ⟨a1,a2⟩:=hus _ p hp
     exact ⟨us (c'+j),by rw [Nat.add_assoc];exact a1,a2.one,a2⟩)
    exact ⟨u,exec_load ho hv k1,k2⟩
   ·cases hr
  ·cases hr
 ·cases hr
end Go.XM
end
section
namespace Go.XM
open Go.RowKit
theorem sound_step {P:Program} {o:Oper} {f:Ft} {d:Nat} {sv:SV} (hd:o.dst=some d) (ht:f.wt=[(d,sv)])
  (h:∀ (Γ:Ctx) (g:G) (σ:St) (a:Act) (w:World),f.ok σ→Good Γ g σ a w→∃ u w' g',(execOp a.eval o).run P w=.ok (.value u) w'∧Good Γ g' ⟨σ.T,upd f.wo σ.O⟩ a w'∧svR w' g' (upd f.wo σ.O) sv u):Sound P o f:=by
 intro ro m Γ g σ a w hf hn hg next Q hK
 obtain ⟨u,w',g',h1,h2,h3⟩:=h Γ g σ a w hf hg
 refine ⟨fun _ _=>trivial,?_⟩
 rw [semAt_val h1 (by simp),Oper.uponIn_value,hd]
 refine hK _ _ g' ?_
 simp only [Ft.app,ht]
 exact h2.put (hn d (by simp [ht,keys])) h3
def upF {α:Type} (f:Nat→α) (k:Nat) (x:α):Nat→α:=fun i=>if i=k then x else f i
@[simp] theorem upF_same {α:Type} (f:Nat→α) (k:Nat) (x:α):upF f k x k=x:=by simp [upF]
theorem upF_ne {α:Type} {f:Nat→α} {k i:Nat} {x:α} (h:i≠k):upF f k x i=f i:=by simp [upF,h]
def spRow (l:List (List SP)):List (List RC):=l.map (·.map RC.s)
theorem spRow_get {l:List (List SP)} {i j:Nat} {e:List RC} {rc:RC} (hi:(spRow l)[i]?=some e) (hj:e[j]?=some rc) :
  ∃ e' p,l[i]?=some e'∧e'[j]?=some p∧rc=.s p:=by
 unfold spRow at hi
 rw [List.getElem?_map,Option.map_eq_some_iff] at hi
 obtain ⟨e',h1,rfl⟩:=hi
 rw [List.getElem?_map,Option.map_eq_some_iff] at hj
 obtain ⟨p,h2,rfl⟩:=hj
 exact ⟨e',p,h1,h2,rfl⟩
def pTake (P:Program) (σ:St) (t:TypeId) (d:Nat) (x:Operand) (es:List RC):PR :=
 if hasT P t && !isAg P t then
  match rd P σ 0 x with
  | some (.a (.c (.ad r e c)))=>match σ.O r,es[c]?,σ.O d with
   | .row sz l,some (.o sz' l'),.fresh =>
    some ({ rt:=evk σ x,ro:=[(r,.row sz l),(d,.fresh)],wt:=[(d,cv (.vw d 0 (spRow l').length))],wo:=[(r,.row sz (l.set e (es.set c .hole))),(d,.row sz' (spRow l'))] },some (l[e]?=some es))
   | _,_,_=>none
  | _=>none
 else none
theorem idx_lt {α:Type} {l:List α} {i:Nat} {x:α} (h:l[i]?=some x):i<l.length:=by
 rcases Nat.lt_or_ge i l.length with h' | h'
 ·exact h'
 ·simp [List.getElem?_eq_none h'] at h
theorem pTake_right {P:Program} {σ:St} {o:Oper} {t:TypeId} {d:Nat} {x:Operand} {es:List RC} (hd:o.dst=some d) (ho:o.op=.load t x):Right P o σ (pTake P σ t d x es):=by
 intro f c hr hc
 unfold pTake at hr
 split at hr
 ·rename_i ht
  simp only [Bool.and_eq_true,Bool.not_eq_true'] at ht
  obtain ⟨ht,hag⟩:=ht
  split at hr
  ·rename_i r e c' hx
   split at hr
   ·rename_i sz l sz' l' hO hes hfr
    cases hr
    have hle:l[e]?=some es:=hc
    refine ⟨⟨evk_ok _ _,hO,hfr,trivial⟩,sound_step hd rfl fun Γ g σ' a w hf hg=>?_⟩
    have hOr:σ'.O r=.row sz l:=hf.2.1
    have hOd:σ'.O d=.fresh:=hf.2.2.1
    have hrd:r≠d:=by intro e;rw [e,hOd] at hOr;cases hOr
    have hv:cvR w g σ'.O (.ad r e c') (a.eval x):=rd_R hx hf.1 hg
    simp only [cvR,hOr] at hv
    obtain ⟨b,hb,hv⟩:=hv
    have hrow:=hg.O r
    rw [hOr] at hrow
    simp only [rsR,hb] at hrow
    obtain ⟨cs,h2,h3,h4,h6,h5⟩:=hrow
    obtain ⟨u,a1,a2,a3⟩:=h5 e es c' _ hle hes
    have hload:(loadVar t ⟨b,e*sz+c',none⟩).run P w=.ok u w:=by
     unfold loadVar
     have:=h3.cell (e*sz+c')
     rw [a1] at this
     simp [run_isAgg ht,hag,this]
    obtain ⟨ob,hob⟩:∃ ob:Option Nat,∀ b',ob=some b'↔(∃ cap c,(∃ off,u=.slice (some ⟨b',off,none⟩) l'.length cap∧(cap=0∨off=0))∧l'.length≤cap∧g.own b'=some (.cell r e c')∧Blk w b' c∧c.size=cap*sz'∧(∀ e∈l',e.length=sz') ∧
      ∀ (i:Nat) (e:List SP) (j:Nat) (p:SP),l'[i]?=some e→e[j]?=some p→∃ u,c[i*sz'+j]?=some u∧spR w g.Im p u):=by
     by_cases hex:∃ b' cap c,(∃ off,u=.slice (some ⟨b',off,none⟩) l'.length cap∧(cap=0∨off=0))∧l'.length≤cap∧g.own b'=some (.cell r e c')∧Blk w b' c∧c.size=cap*sz'∧(∀ e∈l',e.length=sz') ∧
      ∀ (i:Nat) (e:List SP) (j:Nat) (p:SP),l'[i]?=some e→e[j]?=some p→∃ u,c[i*sz'+j]?=some u∧spR w g.Im p u
     rotate_left
     ·refine ⟨none,fun b'=>⟨fun h=>(by cases h),fun h=>absurd ⟨b',h⟩ hex⟩⟩
     ·obtain ⟨b',cap,c,e1,e2⟩:=hex
      refine ⟨some b',fun b''=>⟨fun h=>(by cases h;exact ⟨cap,c,e1,e2⟩),fun ⟨cap',c'',⟨_,q,_⟩,_⟩=>(by obtain ⟨_,e1,_⟩:=e1;rw [e1] at q;cases q;rfl)⟩⟩
    have hnil:ob=none→l'=[]∧∃ a,u=.slice a 0 0:=by
     intro h
     rcases a3 with h' | ⟨b',cap,c,e1⟩
     ·exact h'
     ·have:=(hob b').2 ⟨cap,c,e1⟩
      rw [h] at this;cases this
    let g':G:={ β:=upF g.β d ob,own:=fun k=>if ob=some k then some (.root d) else g.own k,Im:=g.Im }
    let O':Nat→RS:=upd [(r,.row sz (l.set e (es.set c' .hole))),(d,.row sz' (spRow l'))] σ'.O
    have hO'r:O' r=.row sz (l.set e (es.set c' .hole)):=by simp [O',upd]
    have hO'd:O' d=.row sz' (spRow l'):=by simp [O',upd,Ne.symm hrd]
    have hO'o:∀ k,k≠r→k≠d→O' k=σ'.O k:=by intro k h1 h2;simp [O',upd,h1,h2]
    have hlen:e<l.length:=idx_lt hle
    have hbe:ob≠some b:=by
     intro h
     obtain ⟨cap,c,q1,q2,q3,_⟩:=(hob b).1 h
     rw [h2] at q3;cases q3
    have hle':Le w g σ'.O w g' O':=by
     refine ⟨fun b hb=>⟨hb,rfl⟩,fun k hk=>?_,fun k sz1 l1 hk hr1=>?_,fun k l1 hk hr1=>?_⟩
     ·by_cases e1:k=r
      ·rw [e1,hO'r];simp
      ·by_cases e2:k=d
       ·rw [e2,hO'd];simp
       ·rw [hO'o k e1 e2];exact hk
     ·have hkd:k≠d:=by intro e;rw [e,hOd] at hk;exact hk rfl
      have hβ:g'.β k=g.β k:=upF_ne hkd
      by_cases e1:k=r
      ·subst e1
       rw [hO'r] at hr1
       cases hr1
       exact ⟨_,l,hOr,rfl,by simp,hβ,fun b _ c hc=>⟨c,hc,rfl⟩⟩
      ·rw [hO'o k e1 hkd] at hr1
       exact ⟨sz1,l1,hr1,rfl,Nat.le_refl _,hβ,fun b _ c hc=>⟨c,hc,rfl⟩⟩
     ·have hkd:k≠d:=by intro e;rw [e,hOd] at hk;exact hk rfl
      by_cases e1:k=r
      ·rw [e1,hO'r] at hr1;cases hr1
      ·rw [hO'o k e1 hkd] at hr1
       exact ⟨l1,hr1,upF_ne hkd⟩
    have hown_ne:∀ k,(∀ i j,g.own k≠some (.cell r i j))→g'.own k=g.own k:=by
     intro k hk
     show (if ob=some k then _ else _)=_
     rw [if_neg]
     intro h
     obtain ⟨cap,c,q1,q2,q3,_⟩:=(hob k).1 h
     exact hk _ _ q3
    refine ⟨u,w,g',exec_load ho hv hload,hg.step hle' (fun k=>?_) (fun k hk=>⟨(hg.im k hk).1,?_⟩) rfl rfl rfl (Nat.le_refl _) (fun _ _ _=>rfl) (fun k o' ho'=>?_) (fun k hk=>.inl hk),?_⟩
    ·show rsR w g' O' k (O' k)
     by_cases e1:k=d
     ·subst e1
      rw [hO'd]
      show match g'.β k with | none=>_ | some b=>_
      simp only [g',upF_same]
      cases hobv:ob with
      | none=>simp [(hnil hobv).1,spRow]
      | some b' =>
       obtain ⟨cap,c,q1,q2,q3,q4,q5,q6,q7⟩:=(hob b').1 hobv
       refine ⟨c,by simp [hobv],q4,?_,?_,?_⟩
       ·intro e he
        simp only [spRow,List.mem_map] at he
        obtain ⟨e',he',rfl⟩:=he
        simp [q6 e' he']
       ·simp only [spRow,List.length_map,q5]
        exact Nat.mul_le_mul_right _ q2
       ·intro i e j rc hi hj
        obtain ⟨e',p,k1,k2,rfl⟩:=spRow_get hi hj
        obtain ⟨v,z1,z2⟩:=q7 i e' j p k1 k2
        exact ⟨v,z1,z2.one,z2⟩
     ·by_cases e2:k=r
      ·subst e2
       rw [hO'r]
       show match g'.β k with | none=>_ | some b=>_
       have:g'.β k=some b:=by simp only [g'];rw [upF_ne e1];exact hb
       rw [this]
       refine ⟨cs,?_,h3,?_,by simpa using h6,?_⟩
       ·show (if ob=some b then _ else _)=_
        rw [if_neg hbe];exact h2
       ·intro e' he'
        rcases List.mem_or_eq_of_mem_set he' with h | rfl
        ·exact h4 e' h
        ·simp [h4 es (List.mem_of_getElem? hle)]
       ·intro i e' j rc hi hj
        have key:∀ v,rcR w g k i j rc v→(rc≠.hole→¬ (i=e∧j=c'))→rcR w g' k i j rc v:=by
         intro v hv hne
         cases rc with
         | s y=>exact hv
         | hole=>trivial
         | o sz2 l2 =>
          rcases hv with hv | ⟨b2,cap2,c2,z1,z2,z3,z4⟩
          ·exact .inl hv
          ·refine .inr ⟨b2,cap2,c2,z1,z2,?_,z4⟩
           show (if ob=some b2 then _ else _)=_
           rw [if_neg]
           ·exact z3
           ·intro h
            obtain ⟨_,_,_,_,y3,_⟩:=(hob b2).1 h
            rw [y3] at z3
            simp only [Option.some.injEq,Owner.cell.injEq,true_and] at z3
            exact hne (by simp) ⟨z3.1.symm,z3.2.symm⟩
        rw [List.getElem?_set] at hi
        by_cases ei:e=i
        ·subst ei
         rw [if_pos rfl,if_pos hlen] at hi
         obtain rfl:=Option.some.inj hi
         rw [List.getElem?_set] at hj
         by_cases ej:c'=j
         ·subst ej
          rw [if_pos rfl,if_pos (idx_lt hes)] at hj
          obtain rfl:=Option.some.inj hj
          exact ⟨u,a1,a2,trivial⟩
         ·rw [if_neg ej] at hj
          obtain ⟨v,z1,z2,z3⟩:=h5 e es j rc hle hj
          exact ⟨v,z1,z2,key v z3 fun _ h=>ej h.2.symm⟩
        ·rw [if_neg ei] at hi
         obtain ⟨v,z1,z2,z3⟩:=h5 i e' j rc hi hj
         exact ⟨v,z1,z2,key v z3 fun _ h=>ei h.1.symm⟩
      ·rw [hO'o k e2 e1]
       refine hle'.keep (upF_ne e1) (fun b1 hb1=>⟨rfl,?_⟩) (hg.O k)
       refine hown_ne b1 fun i j h=>?_
       rcases hb1 with h1 | ⟨i1,j1,h1⟩
       ·rw [h] at h1;cases h1
       ·rw [h] at h1;cases h1;exact e2 rfl
    ·show (if ob=some k then _ else _)=_
     have h0:=(hg.im k hk).2
     rw [if_neg]
     ·exact h0
     ·intro h
      obtain ⟨_,_,_,_,y3,_⟩:=(hob k).1 h
      rw [h0] at y3;cases y3
    ·suffices h:∃ o,g.own k=some o from ⟨h.elim fun o h=>hg.lt k o h,.inr h⟩
     have ho':(if ob=some k then some (Owner.root d) else g.own k)=some o':=ho'
     by_cases h:ob=some k
     ·obtain ⟨_,_,_,_,y3,_⟩:=(hob k).1 h
      exact ⟨_,y3⟩
     ·rw [if_neg h] at ho';exact ⟨_,ho'⟩
    ·have hspl:(spRow l').length=l'.length:=by simp [spRow]
     show cvR w g' O' (.vw d 0 (spRow l').length) u
     rw [hspl]
     simp only [cvR,hO'd,g',upF_same]
     cases hobv:ob with
     | none=>simp [(hnil hobv).1,(hnil hobv).2]
     | some b' =>
      obtain ⟨cap,c,q1,q2,q3,q4,q5,q6,q7⟩:=(hob b').1 hobv
      obtain ⟨off,q1,q0⟩:=q1
      exact ⟨cap,c,off,q1,q0.imp_right (by simp),q2,by simp [spRow],q4,by simpa using q5⟩
   ·cases hr
  ·cases hr
 ·cases hr
end Go.XM
end
section
namespace Go.XM
open Go.RowKit
theorem Good.grow {Γ:Ctx} {g:G} {σ:St} {a:Act} {w:World} (hg:Good Γ g σ a w) {d:Nat} (hfr:σ.O d=.fresh) (c:Array Value) (el:TypeId) (rs:RS)
  (hrs:∀ w' g',g'.β d=some w.heap.size→g'.own w.heap.size=some (.root d)→Blk w' w.heap.size c→Le w g σ.O w' g' (upd [(d,rs)] σ.O)→rsR w' g' (upd [(d,rs)] σ.O) d rs) :
  ∃ g',Good Γ g' ⟨σ.T,upd [(d,rs)] σ.O⟩ a (w.alloc (.cells c el))∧g'.β d=some w.heap.size∧Blk (w.alloc (.cells c el)) w.heap.size c:=by
 let g':G:={ β:=upF g.β d (some w.heap.size),own:=upF g.own w.heap.size (some (.root d)),Im:=g.Im }
 have hB:Blk (w.alloc (.cells c el)) w.heap.size c:=Blk.new w c el
 have hold:∀ k,k<w.heap.size→(w.alloc (.cells c el)).heap[k]?=w.heap[k]?:=fun k hk=>Below.heap_alloc w _ k hk
 have hO:∀ k,k≠d→upd [(d,rs)] σ.O k=σ.O k:=fun k hk=>by simp [upd,hk]
 have hle:Le w g σ.O (w.alloc (.cells c el)) g' (upd [(d,rs)] σ.O):=by
  refine ⟨fun b hb=>⟨hb,hold b (hg.im b hb).1⟩,fun r hr=>?_,fun r sz' l' hr hr'=>?_,fun r l' hr hr'=>?_⟩
  ·have:r≠d:=fun e=>hr (e ▸ hfr)
   rw [hO r this];exact hr
  ·have hrd:r≠d:=fun e=>hr (e ▸ hfr)
   rw [hO r hrd] at hr'
   refine ⟨sz',l',hr',rfl,Nat.le_refl _,upF_ne hrd,fun b hb c1 hc1=>⟨c1,hc1.congr (hold b hc1.lt),rfl⟩⟩
  ·have hrd:r≠d:=fun e=>hr (e ▸ hfr)
   rw [hO r hrd] at hr'
   exact ⟨l',hr',upF_ne hrd⟩
 refine ⟨g',hg.step hle (fun r=>?_) (fun b hb=>?_) rfl rfl rfl (by simp) (fun b hb _=>hold b hb) (fun b o ho=>?_) (fun b hb=>.inl hb),upF_same _ _ _,hB⟩
 ·by_cases e:r=d
  ·subst e
   have:upd [(r,rs)] σ.O r=rs:=by simp [upd]
   rw [this]
   exact hrs _ _ (upF_same _ _ _) (upF_same _ _ _) hB hle
  ·rw [hO r e]
   refine hle.keep (upF_ne e) (fun b hb=>?_) (hg.O r)
   have hlt:b<w.heap.size:=by
    rcases hb with hb | ⟨i,j,hb⟩ <;> exact hg.lt b _ hb
   exact ⟨hold b hlt,upF_ne (by omega)⟩
 ·have:=hg.im b hb
  refine ⟨by simp;omega,?_⟩
  show upF g.own _ _ b=_
  rw [upF_ne (by omega)];exact this.2
 ·by_cases e:b=w.heap.size
  ·subst e;exact ⟨by simp,.inl (Nat.le_refl _)⟩
  ·have ho':g.own b=some o:=by
    have:upF g.own w.heap.size (some (.root d)) b=some o:=ho
    rwa [upF_ne e] at this
   have:=hg.lt b o ho'
   exact ⟨by simp;omega,.inr ⟨o,ho'⟩⟩
def flatT (P:Program):Nat→TypeId→List TypeId
 | 0,t=>[t]
 | n+1,t=>match P.underlying t with
  | some (.struct fs)=>fs.toList.flatMap fun f=>flatT P n f.type
  | _=>[t]
def cstP (sz:Nat):Value→Option SP
 | .int k n=>some (.v (.int k n))
 | .bool b=>some (.v (.bool b))
 | .string s=>some (.v (.string s))
 | .slice none 0 0=>some (.sl sz [])
 | .nilIface=>some (.v .nilIface)
 | .pointer none=>some (.v (.pointer none))
 | .nilFunc=>some (.v .nilFunc)
 | _=>none
theorem cstP_R {w:World} {Im:Nat→Prop} {sz:Nat} {v:Value} {p:SP} (h:cstP sz v=some p):spR w Im p v:=by
 unfold cstP at h
 split at h <;> cases h <;> first | exact spR.v _ rfl | exact spR.nil sz none
def zipZ (P:Program):List Value→List TypeId→Option (List SP)
 | [],[]=>some []
 | v::vs,t::ts=>match cstP (szEl P t) v,zipZ P vs ts with
  | some p,some l=>some (p::l)
  | _,_=>none
 | _,_=>none
theorem zipZ_R {P:Program} {w:World} {Im:Nat→Prop}:∀ {vs:List Value} {ts:List TypeId} {ps:List SP},zipZ P vs ts=some ps→vs.length=ps.length∧∀ (j:Nat) (p:SP),ps[j]?=some p→∃ v,vs[j]?=some v∧spR w Im p v
 | [],[],ps,h=>by simp only [zipZ,Option.some.injEq] at h;subst h;simp
 | v::vs,t::ts,ps,h=>by
  simp only [zipZ] at h
  split at h
  ·rename_i p l h1 h2
   cases h
   obtain ⟨k1,k2⟩:=zipZ_R (w:=w) (Im:=Im) h2
   refine ⟨by simp [k1],fun j q hj=>?_⟩
   cases j with
   | zero=>simp at hj;subst hj;exact ⟨v,rfl,cstP_R h1⟩
   | succ j=>exact k2 j q (by simpa using hj)
  ·cases h
 | [],_::_,ps,h=>by simp [zipZ] at h
 | _::_,[],ps,h=>by simp [zipZ] at h
def zcs (P:Program) (t:TypeId):Option (List SP):=match P.info? t with
 | some i=>match i.zero with
  | some z=>zipZ P z.cells.toList (flatT P 8 t)
  | none=>none
 | none=>none
theorem zcs_spec {P:Program} {t:TypeId} {ps:List SP} (h:zcs P t=some ps):∃ i z,P.info? t=some i∧i.zero=some z∧z.cells.size=ps.length ∧
  ∀ (w:World) (Im:Nat→Prop) (j:Nat) (p:SP),ps[j]?=some p→∃ v,z.cells[j]?=some v∧spR w Im p v:=by
 unfold zcs at h
 split at h
 ·rename_i i hi
  split at h
  ·rename_i z hz
   refine ⟨i,z,hi,hz,?_,fun w Im j p hj=>?_⟩
   ·have:=(zipZ_R (w:=default) (Im:=fun _=>True) h).1
    simpa using this
   ·obtain ⟨v,h1,h2⟩:=(zipZ_R (w:=w) (Im:=Im) h).2 j p hj
    exact ⟨v,by simpa using h1,h2⟩
  ·cases h
 ·cases h
def zcv:SP→CV
 | .sl sz []=>.nl sz
 | p=>.p p
theorem zcv_R {w:World} {g:G} {O:Nat→RS} {p:SP} {u:Value} (h:spR w g.Im p u) (hn:∀ sz,p=.sl sz []→u=.slice none 0 0):cvR w g O (zcv p) u:=by
 unfold zcv
 split
 ·exact hn _ rfl
 ·exact h
theorem zcs_nil {P:Program} {t:TypeId} {ps:List SP} (h:zcs P t=some ps):∃ i z,P.info? t=some i∧i.zero=some z∧∀ (j:Nat) (sz:Nat),ps[j]?=some (.sl sz [])→z.cells[j]?=some (.slice none 0 0):=by
 unfold zcs at h
 split at h
 ·rename_i i hi
  split at h
  ·rename_i z hz
   refine ⟨i,z,hi,hz,fun j sz hj=>?_⟩
   have key:∀ (vs:List Value) (ts:List TypeId) (ps:List SP) (j:Nat),zipZ P vs ts=some ps→ps[j]?=some (.sl sz [])→vs[j]?=some (.slice none 0 0):=by
    intro vs
    induction vs with
    | nil=>intro ts ps j h hj;cases ts <;> simp [zipZ] at h;subst h;simp at hj
    | cons v vs ih =>
     intro ts ps j h hj
     cases ts with
     | nil=>simp [zipZ] at h
     | cons t ts =>
      simp only [zipZ] at h
      split at h
      ·rename_i p l h1 h2
       cases h
       cases j with
       | zero =>
        simp only [List.getElem?_cons_zero,Option.some.injEq] at hj
        subst hj
        unfold cstP at h1
        split at h1 <;> cases h1
        rfl
       | succ j=>exact ih ts l j h2 (by simpa using hj)
      ·cases h
   have:=key _ _ _ j h hj
   simpa using this
  ·cases h
 ·cases h
def pAlloc (P:Program) (σ:St) (t:TypeId) (d:Nat):PR :=
 match zcs P t,σ.O d with
 | some ps,.fresh=>some ({ ro:=[(d,.fresh)],wt:=[(d,cv (.bx d 0))],wo:=[(d,.box (ps.map zcv))] },none)
 | _,_=>none
theorem bx_R {w:World} {g:G} {O:Nat→RS} {d b:Nat} {l:List CV} (ho:O d=.box l) (hb:g.β d=some b):svR w g O (cv (.bx d 0)) (.pointer (some ⟨b,0,none⟩)):=by
 show cvR w g O (.bx d 0) _
 simp only [cvR,ho]
 exact ⟨b,hb,rfl⟩
theorem pAlloc_right {P:Program} {σ:St} {o:Oper} {t:TypeId} {d:Nat} (hd:o.dst=some d) (ho:o.op=.alloc t):Right P o σ (pAlloc P σ t d):=by
 intro f c hr _
 unfold pAlloc at hr
 split at hr
 ·rename_i ps hps hfr
  cases hr
  refine ⟨⟨trivial,hfr,trivial⟩,sound_step hd rfl fun Γ g σ' a w hf hg=>?_⟩
  have hfr':σ'.O d=.fresh:=hf.2.1
  obtain ⟨i,z,hi,hz,hsz,hcells⟩:=zcs_spec hps
  obtain ⟨i2,z2,hi2,hz2,hnil⟩:=zcs_nil hps
  rw [hi] at hi2;cases hi2;rw [hz] at hz2;cases hz2
  obtain ⟨g',k1,k2,k3⟩:=hg.grow hfr' z.cells t (.box (ps.map zcv)) (fun w' g' h1 h2 h3 _=>by
   refine ⟨w.heap.size,z.cells,h1,h2,h3,by simp [hsz],fun j x hj=>?_⟩
   rw [List.getElem?_map,Option.map_eq_some_iff] at hj
   obtain ⟨p,hp,rfl⟩:=hj
   obtain ⟨v,e1,e2⟩:=hcells w' g'.Im j p hp
   exact ⟨v,e1,e2.one,zcv_R e2 fun sz hsl=>by subst hsl;have:=hnil j sz hp;rw [e1] at this;exact Option.some.inj this⟩)
  refine ⟨_,_,g',?_,k1,bx_R (l:=ps.map zcv) (by simp [upd]) k2⟩
  simp [execOp,ho,Instr.alloc,zeroValue,typeInfo,hi,hz,newVar,newRow]
 ·cases hr
def avCells:AV→Option (List CV)
 | .c .any=>none
 | .c x=>some [x]
 | .agg l=>if l.all (fun x=>match x with | .any=>false | _=>true) then some l else none
 | .fn _ _=>none
theorem avCells_R {w:World} {g:G} {O:Nat→RS} {av:AV} {l:List CV} {u:Value} (h:avCells av=some l) (hu:avR w g O av u) :
  u.cells.size=l.length∧∀ (j:Nat) (x:CV),l[j]?=some x→∃ v,u.cells[j]?=some v∧v.oneCell'=true∧cvR w g O x v:=by
 cases av with
 | c x =>
  have hx:x≠.any:=by intro e;subst e;simp [avCells] at h
  have hl:l=[x]:=by cases x <;> simp [avCells] at h <;> first | exact h.symm | exact absurd rfl hx
  subst hl
  have hone:=cvR.one hu hx
  have hc:u.cells=#[u]:=by cases u <;> first | rfl | simp [Value.oneCell'] at hone
  rw [hc]
  refine ⟨rfl,fun j y hj=>?_⟩
  cases j with
  | zero=>simp at hj;subst hj;exact ⟨u,rfl,hone,hu⟩
  | succ j=>simp at hj
 | agg m =>
  simp only [avCells] at h
  split at h
  ·cases h
   obtain ⟨arr,rfl,h1,h2⟩:=hu
   exact ⟨h1,h2⟩
  ·cases h
 | fn f c=>simp [avCells] at h
def pBox (P:Program) (σ:St) (t:TypeId) (d:Nat) (x:Operand):PR :=
 match rd P σ t x,σ.O d with
 | some (.a av),.fresh=>match avCells av with
  | some l=>some ({ rt:=evk σ x,ro:=[(d,.fresh)],wt:=[(d,cv (.bx d 0))],wo:=[(d,.box l)] },none)
  | none=>none
 | _,_=>none
theorem pBox_right {P:Program} {σ:St} {o:Oper} {t:TypeId} {d:Nat} {x:Operand} (hd:o.dst=some d) (ho:o.op=.box t x):Right P o σ (pBox P σ t d x):=by
 intro f c hr _
 unfold pBox at hr
 split at hr
 ·rename_i av hx hfr
  split at hr
  ·rename_i l hl
   cases hr
   refine ⟨⟨evk_ok _ _,hfr,trivial⟩,sound_step hd rfl fun Γ g σ' a w hf hg=>?_⟩
   have hfr':σ'.O d=.fresh:=hf.2.1
   have hv:avR w g σ'.O av (a.eval x):=rd_R hx hf.1 hg
   obtain ⟨h1,h2⟩:=avCells_R hl hv
   obtain ⟨g',k1,k2,k3⟩:=hg.grow hfr' (a.eval x).cells t (.box l) (fun w' g' e1 e2 e3 hle=>by
    refine ⟨w.heap.size,_,e1,e2,e3,h1,fun j y hj=>?_⟩
    obtain ⟨v,z1,z2,z3⟩:=h2 j y hj
    exact ⟨v,z1,z2,hle.cv z3⟩)
   refine ⟨_,_,g',?_,k1,bx_R (l:=l) (by simp [upd]) k2⟩
   simp [execOp,ho,Instr.box,newVar,newRow]
  ·cases hr
 ·cases hr
def zrc (own:Bool):SP→RC
 | .sl sz []=>if own then .o sz [] else .s (.sl sz [])
 | p=>.s p
theorem zrc_R {w:World} {g:G} {own:Bool} {r i j:Nat} {p:SP} {u:Value} (h:spR w g.Im p u) (hnil:∀ sz,p=.sl sz []→u=.slice none 0 0):rcR w g r i j (zrc own p) u:=by
 unfold zrc
 split
 ·rename_i sz
  split
  ·exact .inl ⟨rfl,⟨none,hnil sz rfl⟩⟩
  ·exact h
 ·exact h
def pMake (P:Program) (σ:St) (t:TypeId) (d:Nat) (ln cp:Operand) (own:Bool):PR :=
 match rd P σ 0 ln,rd P σ 0 cp,σ.O d,P.underlying t with
 | some (.a (.c (.p (.v (.int k n))))),some (.a (.c (.p (.v (.int k' m))))),.fresh,some (.slice e)=>match zcs P e,P.info? e with
  | some ps,some i=>if i.size=ps.length then some ({ rt:=evk σ ln++evk σ cp,ro:=[(d,.fresh)],wt:=[(d,cv (.vw d 0 (List.replicate n.toNat (ps.map (zrc own))).length))],wo:=[(d,.row ps.length (List.replicate n.toNat (ps.map (zrc own))))] },some (m=n∧0≤n∧(i.bytes:Int)*n≤281474976710656∧n≤9223372036854775807)) else none
  | _,_=>none
 | _,_,_,_=>none
theorem madeCells_get {z:Array Value} {n k:Nat} (hk:k<n) (hz:0<z.size):(madeCells z n)[k]?=z[k % z.size]?:=by
 have:k % z.size<z.size:=Nat.mod_lt _ hz
 simp [madeCells,hk,this]
theorem pMake_right {P:Program} {σ:St} {o:Oper} {t:TypeId} {d:Nat} {ln cp:Operand} {own:Bool} (hd:o.dst=some d) (ho:o.op=.makeSlice t ln cp):Right P o σ (pMake P σ t d ln cp own):=by
 intro f c hr hc
 unfold pMake at hr
 split at hr
 ·rename_i k n k' m e hn hm hfr hu
  split at hr
  ·rename_i ps i hps hi
   split at hr
   ·rename_i hsz
    cases hr
    obtain ⟨rfl,h0,hbytes,h63⟩:m=n∧0≤n∧(i.bytes:Int)*n≤281474976710656∧n≤9223372036854775807:=hc
    refine ⟨⟨okL_append.2 ⟨evk_ok _ _,evk_ok _ _⟩,hfr,trivial⟩,sound_step hd rfl fun Γ g σ' a w hf hg=>?_⟩
    obtain ⟨hf1,hf2⟩:=okL_append.1 hf.1
    have hfr':σ'.O d=.fresh:=hf.2.1
    have e1:=rd_pl hn hf1 hg
    have e2:=rd_pl hm hf2 hg
    obtain ⟨i',z,hi',hz,hzs,hcells⟩:=zcs_spec hps
    obtain ⟨i2,z2,hi2,hz2,hnil⟩:=zcs_nil hps
    rw [hi] at hi' hi2
    cases hi';cases hi2
    rw [hz] at hz2;cases hz2
    have hrun:=run_make (P:=P) w t e i z hu hi hz k k' m m h0 (Int.le_refl _) hbytes h63
    have hrow:∀ w' g' O',g'.β d=some w.heap.size→g'.own w.heap.size=some (.root d)→Blk w' w.heap.size (madeCells z.cells (m.toNat*i.size)) →
      rsR w' g' O' d (.row ps.length (List.replicate m.toNat (ps.map (zrc own)))):=by
     intro w' g' O' h1 h2 h3
     show match g'.β d with | none=>_ | some b=>_
     rw [h1]
     refine ⟨_,h2,h3,?_,by simp [size_madeCells,hsz],?_⟩
     ·intro e he
      simp [List.eq_of_mem_replicate he]
     ·intro i1 e j rc hi1 hj
      have hlt:i1<m.toNat:=by have:=idx_lt hi1;simpa using this
      have he:e=ps.map (zrc own):=List.eq_of_mem_replicate (List.mem_of_getElem? hi1)
      subst he
      rw [List.getElem?_map,Option.map_eq_some_iff] at hj
      obtain ⟨p,hp,rfl⟩:=hj
      have hjl:=idx_lt hp
      obtain ⟨v,q1,q2⟩:=hcells w' g'.Im j p hp
      have hk:i1*ps.length+j<m.toNat*i.size:=by
       rw [hsz]
       calc i1*ps.length+j<i1*ps.length+ps.length:=by omega
        _=(i1+1)*ps.length:=by rw [Nat.succ_mul]
        _≤m.toNat*ps.length:=Nat.mul_le_mul_right _ hlt
      refine ⟨v,?_,q2.one,zrc_R q2 fun sz hsl=>?_⟩
      ·rw [madeCells_get hk (by omega),hzs,Nat.mul_comm,Nat.mul_add_mod,Nat.mod_eq_of_lt hjl,q1]
      ·subst hsl
       have:=hnil j sz hp
       rw [q1] at this
       exact Option.some.inj this
    obtain ⟨g',k1,k2,k3⟩:=hg.grow hfr' (madeCells z.cells (m.toNat*i.size)) e _ (fun w' g' h1 h2 h3 _=>hrow w' g' _ h1 h2 h3)
    refine ⟨.slice (some ⟨w.heap.size,0,none⟩) m.toNat m.toNat,_,g',?_,k1,?_⟩
    ·simp only [execOp,ho,e1,e2]
     rw [Sem.run_bind,hrun]
     rfl
    ·show cvR _ g' _ (.vw d 0 (List.replicate m.toNat (ps.map (zrc own))).length) _
     rw [List.length_replicate]
     have hOd:upd [(d,RS.row ps.length (List.replicate m.toNat (ps.map (zrc own))))] σ'.O d=.row ps.length (List.replicate m.toNat (ps.map (zrc own))):=by simp [upd]
     simp only [cvR,hOd,k2]
     exact ⟨m.toNat,_,0,rfl,.inr (by simp),Nat.le_refl _,by simp,k3,by simp [size_madeCells,hsz]⟩
   ·cases hr
  ·cases hr
 ·cases hr
end Go.XM
end
section
namespace Go.XM
open Go.RowKit
def splice {α:Type}:List α→Nat→List α→List α
 | L,_,[]=>L
 | L,k,x::xs=>splice (L.set k x) (k+1) xs
def setsA:Array Value→Nat→List Value→Array Value
 | c,_,[]=>c
 | c,k,v::vs=>setsA (c.setIfInBounds k v) (k+1) vs
theorem size_setsA:∀ (vs:List Value) (c:Array Value) (k:Nat),(setsA c k vs).size=c.size
 | [],_,_=>rfl
 | v::vs,c,k=>by simp [setsA,size_setsA vs]
theorem len_splice {α:Type}:∀ (xs:List α) (L:List α) (k:Nat),(splice L k xs).length=L.length
 | [],_,_=>rfl
 | x::xs,L,k=>by simp [splice,len_splice xs]
theorem setsA_get:∀ (vs:List Value) (c:Array Value) (k j:Nat),k+vs.length≤c.size→(setsA c k vs)[j]?=if k≤j∧j<k+vs.length then vs[j-k]? else c[j]?
 | [],c,k,j,_=>by
  simp only [setsA,List.length_nil,Nat.add_zero]
  rw [if_neg (by omega)]
 | v::vs,c,k,j,h=>by
  simp only [List.length_cons] at h
  simp only [setsA,List.length_cons]
  rw [setsA_get vs _ _ _ (by simp;omega)]
  by_cases e:j=k
  ·subst e
   rw [if_neg (by omega),if_pos (by omega)]
   simp [show j<c.size by omega]
  ·by_cases e2:k+1≤j∧j<k+1+vs.length
   ·rw [if_pos e2,if_pos (by omega)]
    rw [show j-k=(j-(k+1))+1 by omega,List.getElem?_cons_succ]
   ·rw [if_neg e2,if_neg (by omega),Array.getElem?_setIfInBounds_ne (Ne.symm e)]
theorem splice_get {α:Type}:∀ (xs:List α) (L:List α) (k j:Nat),k+xs.length≤L.length→(splice L k xs)[j]?=if k≤j∧j<k+xs.length then xs[j-k]? else L[j]?
 | [],L,k,j,_=>by
  simp only [splice,List.length_nil,Nat.add_zero]
  rw [if_neg (by omega)]
 | x::xs,L,k,j,h=>by
  simp only [List.length_cons] at h
  simp only [splice,List.length_cons]
  rw [splice_get xs _ _ _ (by simp;omega)]
  by_cases e:j=k
  ·subst e
   rw [if_neg (by omega),if_pos (by omega)]
   simp [show j<L.length by omega]
  ·by_cases e2:k+1≤j∧j<k+1+xs.length
   ·rw [if_pos e2,if_pos (by omega)]
    rw [show j-k=(j-(k+1))+1 by omega,List.getElem?_cons_succ]
   ·rw [if_neg e2,if_neg (by omega),List.getElem?_set_ne (Ne.symm e)]
def Rel {α:Type} (R:α→Value→Prop) (arr:Array Value) (L:List α):Prop:=arr.size=L.length∧∀ (j:Nat) (x:α),L[j]?=some x→∃ u,arr[j]?=some u∧R x u
theorem Rel.splice {α:Type} {R:α→Value→Prop} {arr vs:Array Value} {L xs:List α} (h:Rel R arr L) (k:Nat) (hv:Rel R vs xs) (hk:k+xs.length≤L.length):Rel R (setsA arr k vs.toList) (splice L k xs):=by
 have hl:vs.toList.length=xs.length:=by simpa using hv.1
 refine ⟨by rw [size_setsA,len_splice];exact h.1,fun j x hj=>?_⟩
 rw [splice_get _ _ _ _ hk] at hj
 rw [setsA_get _ _ _ _ (by rw [hl,h.1];exact hk),hl]
 split at hj
 ·rename_i hin
  rw [if_pos hin]
  obtain ⟨u,h1,h2⟩:=hv.2 _ x hj
  exact ⟨u,by simpa using h1,h2⟩
 ·rename_i hin
  rw [if_neg hin]
  exact h.2 j x hj
theorem fold_zip (off:Nat):∀ (vs:List Value) (n:Nat) (c:Array Value),(vs.zipIdx n).foldl (fun cs (x:Value × Nat)=>cs.setIfInBounds (off+x.2) x.1) c=setsA c (off+n) vs
 | [],_,_=>rfl
 | v::vs,n,c=>by simp only [List.zipIdx_cons,List.foldl_cons,setsA];rw [fold_zip off vs (n+1)];rfl
def fillL {α:Type} (pl:Nat→Option (Nat × Nat)):List α→List (Nat × List α)→Option (List α)
 | L,[]=>some L
 | L,(i,xs)::rest=>match pl i with
  | none=>none
  | some (off,size)=>if xs.length=size∧off+xs.length≤L.length then fillL pl (splice L off xs) rest else none
theorem fill_R {α:Type} {R:α→Value→Prop} {pl:Nat→Option (Nat × Nat)}:∀ {ps:List (Nat × List α)} {vs:List (Nat × Value)} {arr:Array Value} {L L':List α},Rel R arr L→fillL pl L ps=some L' →
  vs.length=ps.length→(∀ (k:Nat) (i:Nat) (xs:List α),ps[k]?=some (i,xs)→∃ v,vs[k]?=some (i,v)∧Rel R v.cells xs)→∃ arr',Instr.fill pl arr vs=some arr'∧Rel R arr' L'
 | [],[],arr,L,L',h,hf,_,_=>by simp only [fillL,Option.some.injEq] at hf;subst hf;exact ⟨arr,rfl,h⟩
 | [],_::_,_,_,_,_,_,hl,_=>by simp at hl
 | _::_,[],_,_,_,_,_,hl,_=>by simp at hl
 | (i,xs)::ps,(i',v)::vs,arr,L,L',h,hf,hl,hp=>by
  obtain ⟨v',h1,h2⟩:=hp 0 i xs rfl
  simp only [List.getElem?_cons_zero,Option.some.injEq,Prod.mk.injEq] at h1
  obtain ⟨rfl,rfl⟩:=h1
  simp only [fillL] at hf
  simp only [Instr.fill]
  cases hpl:pl i' with
  | none=>simp [hpl] at hf
  | some os =>
   obtain ⟨off,size⟩:=os
   simp only [hpl] at hf ⊢
   split at hf
   ·rename_i hc
    have e1:(v.cells.size≠size || off+v.cells.size > arr.size)=false:=by
     rw [h2.1,h.1]
     obtain ⟨hc1,hc2⟩:=hc
     rw [hc1] at hc2 ⊢
     simp [hc2]
    have e2:v.cells.zipIdx.foldl (fun cs (x:Value × Nat)=>cs.setIfInBounds (off+x.2) x.1) arr=setsA arr off v.cells.toList:=by
     rw [← Array.foldl_toList,Array.toList_zipIdx,fold_zip]
     rfl
    have e1':¬ ((v.cells.size≠size || off+v.cells.size > arr.size)=true):=by rw [e1];simp
    rw [if_neg e1']
    have:=fill_R (h.splice off h2 hc.2) hf (by simpa using hl) (fun k i xs hk=>by simpa using hp (k+1) i xs (by simpa using hk))
    rw [← e2] at this
    exact this
   ·cases hf
def places (P:Program):List Field→Option (List (Nat × Nat))
 | []=>some []
 | f::fs=>if hasT P f.type then (places P fs).map ((f.offset,szT P f.type)::·) else none
theorem run_places {P:Program} {w:World}:∀ {fs:List Field} {l:List (Nat × Nat)},places P fs=some l →
  (fs.mapM fun f=>do pure (f.offset,← sizeOf f.type):Sem (List (Nat × Nat))).run P w=.ok l w
 | [],l,h=>by simp only [places,Option.some.injEq] at h;subst h;simp
 | f::fs,l,h=>by
  simp only [places] at h
  split at h
  ·rename_i ht
   rw [Option.map_eq_some_iff] at h
   obtain ⟨l',h1,rfl⟩:=h
   have:=run_places (w:=w) h1
   simp only [List.mapM_cons,Sem.run_bind,run_sizeOf ht,Result.andThen_ok,this,Sem.run_pure]
  ·cases h
def partsOf (P:Program) (σ:St) (ty:Nat→TypeId):List (Nat × Operand)→Option (List (Nat × List CV) × List (Nat × SV))
 | []=>some ([],[])
 | (i,x)::ps=>match rd P σ (ty i) x,partsOf P σ ty ps with
  | some (.a av),some (l,ks)=>match avCells av with
   | some xs=>some ((i,xs)::l,evk σ x++ks)
   | none=>none
  | _,_=>none
theorem partsOf_R {P:Program} {σ0 σ:St} {ty:Nat→TypeId} {Γ:Ctx} {g:G} {a:Act} {w:World} (hg:Good Γ g σ a w):∀ {ps:List (Nat × Operand)} {l:List (Nat × List CV)} {ks:List (Nat × SV)},
  partsOf P σ0 ty ps=some (l,ks)→okL ks σ.T→ps.length=l.length∧∀ (k i:Nat) (xs:List CV),l[k]?=some (i,xs)→∃ v,(ps.map fun (p:Nat × Operand)=>(p.1,a.eval p.2))[k]?=some (i,v)∧Rel (fun x u=>u.oneCell'=true∧cvR w g σ.O x u) v.cells xs
 | [],l,ks,h,_=>by simp only [partsOf,Option.some.injEq,Prod.mk.injEq] at h;obtain ⟨rfl,rfl⟩:=h;simp
 | (i,x)::ps,l,ks,h,hk=>by
  simp only [partsOf] at h
  split at h
  ·rename_i av l' ks' h1 h2
   split at h
   ·rename_i xs hxs
    cases h
    obtain ⟨hk1,hk2⟩:=okL_append.1 hk
    obtain ⟨r1,r2⟩:=partsOf_R hg h2 hk2
    refine ⟨by simp [r1],fun k j ys hy=>?_⟩
    cases k with
    | zero =>
     simp only [List.getElem?_cons_zero,Option.some.injEq,Prod.mk.injEq] at hy
     obtain ⟨rfl,rfl⟩:=hy
     refine ⟨a.eval x,rfl,?_⟩
     have hv:avR w g σ.O av (a.eval x):=rd_R h1 hk1 hg
     obtain ⟨q1,q2⟩:=avCells_R hxs hv
     exact ⟨q1,q2⟩
    | succ k=>exact r2 k j ys (by simpa using hy)
   ·cases h
  ·cases h
theorem partsOf_ok {P:Program} {σ:St} {ty:Nat→TypeId}:∀ {ps:List (Nat × Operand)} {l:List (Nat × List CV)} {ks:List (Nat × SV)},partsOf P σ ty ps=some (l,ks)→okL ks σ.T
 | [],l,ks,h=>by simp only [partsOf,Option.some.injEq,Prod.mk.injEq] at h;obtain ⟨rfl,rfl⟩:=h;trivial
 | (i,x)::ps,l,ks,h=>by
  simp only [partsOf] at h
  split at h
  ·rename_i av l' ks' h1 h2
   split at h
   ·cases h
    exact okL_append.2 ⟨evk_ok _ _,partsOf_ok h2⟩
   ·cases h
  ·cases h
def pBuild (P:Program) (σ:St) (t:TypeId) (d:Nat) (parts:Array (Nat × Operand)):PR :=
 match P.underlying t with
 | some (.struct fs)=>match zcs P t,places P fs.toList,partsOf P σ (fun i=>(fs.getD i default).type) parts.toList with
  | some ps,some pls,some (l,ks)=>match fillL (fun (i:Nat)=>pls[i]?) (ps.map zcv) l with
   | some L=>some ({ rt:=ks,wt:=[(d,.a (.agg L))] },none)
   | none=>none
  | _,_,_=>none
 | _=>none
theorem pBuild_right {P:Program} {σ:St} {o:Oper} {t:TypeId} {d:Nat} {parts:Array (Nat × Operand)} (hd:o.dst=some d) (ho:o.op=.build t parts):Right P o σ (pBuild P σ t d parts):=by
 intro f c hr _
 unfold pBuild at hr
 split at hr
 ·rename_i fs hu
  split at hr
  ·rename_i ps pls l ks hps hpl hparts
   split at hr
   ·rename_i L hL
    cases hr
    refine ⟨⟨partsOf_ok hparts,trivial⟩,sound_val hd rfl rfl fun Γ g σ' a w hf hg=>?_⟩
    obtain ⟨i,z,hi,hz,hzs,hcells⟩:=zcs_spec hps
    obtain ⟨i2,z2,hi2,hz2,hnil⟩:=zcs_nil hps
    rw [hi] at hi2;cases hi2;rw [hz] at hz2;cases hz2
    obtain ⟨r1,r2⟩:=partsOf_R hg hparts hf.1
    have hzR:Rel (fun x u=>u.oneCell'=true∧cvR w g σ'.O x u) z.cells (ps.map zcv):=by
     refine ⟨by simp [hzs],fun j x hj=>?_⟩
     rw [List.getElem?_map,Option.map_eq_some_iff] at hj
     obtain ⟨p,hp,rfl⟩:=hj
     obtain ⟨v,q1,q2⟩:=hcells w g.Im j p hp
     exact ⟨v,q1,q2.one,zcv_R q2 fun sz hsl=>by subst hsl;have:=hnil j sz hp;rw [q1] at this;exact Option.some.inj this⟩
    obtain ⟨arr',k1,k2⟩:=fill_R (vs:=parts.toList.map fun p=>(p.1,a.eval p.2)) hzR hL (by simp [r1]) (fun k i xs hk=>r2 k i xs hk)
    refine ⟨.agg arr',?_,arr',rfl,k2.1,fun j x hj=>?_⟩
    ·have hpl':(fs.mapM fun f=>do pure (f.offset,← sizeOf f.type):Sem (Array (Nat × Nat))).run P w=.ok pls.toArray w:=by
      have e:=run_places (w:=w) hpl
      rw [Array.mapM_eq_mapM_toList]
      simp only [Sem.run_map,e,Result.andThen_ok]
     have hfill:Instr.fill (pls.toArray[·]?) z.cells (parts.map fun (i,x)=>(i,a.eval x)).toList=some arr':=by
      have e0:(parts.map fun ((i,x):Nat × Operand)=>(i,a.eval x)).toList=parts.toList.map fun p=>(p.1,a.eval p.2):=by simp
      rw [e0]
      have:(fun (i:Nat)=>pls.toArray[i]?)=fun (i:Nat)=>pls[i]?:=by funext i;simp
      rw [this];exact k1
     simp only [execOp,ho,Instr.build,zeroValue,typeInfo,Sem.run_bind,run_program,Result.andThen_ok,hi,hz,Sem.run_pure,run_underlying hu,hpl']
     rw [hfill]
     rfl
    ·obtain ⟨u,q1,q2,q3⟩:=k2.2 j x hj
     exact ⟨u,q1,q2,q3⟩
   ·cases hr
  ·cases hr
 ·cases hr
end Go.XM
end
section
namespace Go.XM
open Go.RowKit
theorem sound_unit {P:Program} {o:Oper} {f:Ft} (hd:o.dst=none) (ht:f.wt=[])
  (h:∀ (Γ:Ctx) (g:G) (σ:St) (a:Act) (w:World),f.ok σ→Good Γ g σ a w→∃ w' g',(execOp a.eval o).run P w=.ok .skip w'∧Good Γ g' ⟨σ.T,upd f.wo σ.O⟩ a w'):Sound P o f:=by
 intro ro m Γ g σ a w hf hn hg next Q hK
 obtain ⟨w',g',h1,h2⟩:=h Γ g σ a w hf hg
 refine ⟨fun _ _=>trivial,?_⟩
 rw [semAt_val h1 (by simp),Oper.uponIn_skip,hd]
 refine hK _ _ g' ?_
 simp only [Ft.app,ht]
 exact h2
structure Wr (w w':World) (b:Nat) (c c':Array Value):Prop where
 old:Blk w b c
 new:Blk w' b c'
 sz:c'.size=c.size
 size:w'.heap.size=w.heap.size
 other:∀ k,k≠b→w'.heap[k]?=w.heap[k]?
 os:w'.os=w.os
 tape:w'.tape=w.tape
 out:w'.output=w.output
theorem run_storeCells {P:Program} {b off:Nat}:∀ (vs:List Value) (i:Nat) (w:World) (c:Array Value),Blk w b c→off+i+vs.length≤c.size→(∀ v∈vs,v.oneCell'=true) →
  ∃ w',(storeCells ⟨b,off,none⟩ vs i).run P w=.ok () w'∧Wr w w' b c (setsA c (off+i) vs)
 | [],i,w,c,hB,_,_=>⟨w,by simp [storeCells],hB,hB,rfl,rfl,fun _ _=>rfl,rfl,rfl,rfl⟩
 | v::vs,i,w,c,hB,hs,h1=>by
  simp only [List.length_cons] at hs
  have hcell:w.cell? ⟨b,off+i,none⟩=some c[off+i]:=by rw [hB.cell];exact Array.getElem?_eq_getElem (by omega)
  have hfr:w.frozen? ⟨b,off+i,none⟩=false:=hB.unf _ (by omega)
  have hB1:=hB.set (off+i) v
  obtain ⟨w',k1,k2⟩:=run_storeCells (P:=P) (off:=off) vs (i+1) (w.setCell ⟨b,off+i,none⟩ v) _ hB1 (by simp;omega) (fun v hv=>h1 v (List.mem_cons_of_mem _ hv))
  refine ⟨w',?_,hB,?_,?_,?_,?_,k2.os,k2.tape,k2.out⟩
  ·simp only [storeCells,Sem.run_bind,add_mk,run_store P _ _ _ _ (h1 v List.mem_cons_self),hcell,hfr,Bool.false_eq_true,if_false,Result.andThen_ok]
   exact k1
  ·have:=k2.new
   simpa [setsA,Nat.add_assoc] using this
  ·rw [size_setsA]
  ·rw [k2.size];simp
  ·intro k hk
   rw [k2.other k hk]
   exact Below.heap_setCell w ⟨b,off+i,none⟩ v k hk
theorem Wr.blk {w w':World} {b:Nat} {c c':Array Value} (h:Wr w w' b c c') {b2:Nat} {c2:Array Value} (k:Blk w b2 c2):∃ c3,Blk w' b2 c3∧c3.size=c2.size:=by
 by_cases e:b2=b
 ·subst e
  obtain rfl:=h.old.uniq k
  exact ⟨c',h.new,h.sz⟩
 ·exact ⟨c2,k.congr (h.other b2 e),rfl⟩
theorem Good.write {Γ:Ctx} {g:G} {σ:St} {a:Act} {w:World} (hg:Good Γ g σ a w) {r b:Nat} {c c':Array Value} {w':World} (hw:Wr w w' b c c') (hown:g.own b=some (.root r)) (rs:RS)
  (hk:(∃ l l',σ.O r=.box l∧rs=.box l')∨∃ sz l l',σ.O r=.row sz l∧rs=.row sz l'∧l.length≤l'.length)
  (hrs:Le w g σ.O w' g (upd [(r,rs)] σ.O)→rsR w' g (upd [(r,rs)] σ.O) r rs):Good Γ g ⟨σ.T,upd [(r,rs)] σ.O⟩ a w':=by
 have hne:∀ k,g.own k≠some (.root r)→k≠b:=fun k hk e=>hk (e ▸ hown)
 have hO:∀ k,k≠r→upd [(r,rs)] σ.O k=σ.O k:=fun k hk=>by simp [upd,hk]
 have hOr:upd [(r,rs)] σ.O r=rs:=by simp [upd]
 have hle:Le w g σ.O w' g (upd [(r,rs)] σ.O):=by
  refine ⟨fun k hk'=>⟨hk',hw.other k (hne k (by rw [(hg.im k hk').2];simp))⟩,fun k hk'=>?_,fun k sz' l' hk' hr'=>?_,fun k l' hk' hr'=>?_⟩
  ·by_cases e:k=r
   ·subst e;rw [hOr]
    rcases hk with ⟨l,l',_,rfl⟩ | ⟨sz,l,l',_,rfl,_⟩ <;> simp
   ·rw [hO k e];exact hk'
  ·by_cases e:k=r
   ·subst e
    rw [hOr] at hr'
    subst hr'
    rcases hk with ⟨l,l2,_,h⟩ | ⟨sz,l,l2,h1,h,h2⟩
    ·cases h
    ·cases h
     exact ⟨_,l,h1,rfl,h2,rfl,fun b2 _ c2 hc2=>hw.blk hc2⟩
   ·rw [hO k e] at hr'
    exact ⟨sz',l',hr',rfl,Nat.le_refl _,rfl,fun b2 _ c2 hc2=>hw.blk hc2⟩
  ·by_cases e:k=r
   ·subst e
    rw [hOr] at hr'
    subst hr'
    rcases hk with ⟨l,l2,h1,h⟩ | ⟨sz,l,l2,h1,h,h2⟩
    ·cases h;exact ⟨l,h1,rfl⟩
    ·cases h
   ·rw [hO k e] at hr'
    exact ⟨l',hr',rfl⟩
 refine hg.step hle (fun k=>?_) (fun k hk'=>⟨by rw [hw.size];exact (hg.im k hk').1,(hg.im k hk').2⟩) hw.os hw.tape hw.out (by rw [hw.size];exact Nat.le_refl _)
  (fun k _ hn=>hw.other k (hne k (hn _))) (fun k o ho=>⟨by rw [hw.size];exact hg.lt k o ho,.inr ⟨o,ho⟩⟩) (fun k hk'=>.inl hk')
 by_cases e:k=r
 ·subst e;rw [hOr];exact hrs hle
 ·rw [hO k e]
  refine hle.keep rfl (fun b2 hb2=>⟨hw.other b2 (hne b2 ?_),rfl⟩) (hg.O k)
  rcases hb2 with hb2 | ⟨i,j,hb2⟩ <;> rw [hb2] <;> simp
  exact e
def allP:List CV→Option (List SP)
 | []=>some []
 | .p x::l=>(allP l).map (x::·)
 | .nl sz::l=>(allP l).map (.sl sz []::·)
 | _::_=>none
theorem allP_spec:∀ {l:List CV} {ps:List SP},allP l=some ps→l.length=ps.length∧∀ (j:Nat) (p:SP),ps[j]?=some p→∃ x,l[j]?=some x∧(x=.p p∨∃ sz,x=.nl sz∧p=.sl sz [])
 | [],ps,h=>by simp only [allP,Option.some.injEq] at h;subst h;simp
 | x::l,ps,h=>by
  cases x with
  | p y =>
   simp only [allP,Option.map_eq_some_iff] at h
   obtain ⟨ps',h1,rfl⟩:=h
   obtain ⟨k1,k2⟩:=allP_spec h1
   refine ⟨by simp [k1],fun j p hj=>?_⟩
   cases j with
   | zero=>simp at hj;subst hj;exact ⟨_,rfl,.inl rfl⟩
   | succ j=>simpa using k2 j p (by simpa using hj)
  | nl sz =>
   simp only [allP,Option.map_eq_some_iff] at h
   obtain ⟨ps',h1,rfl⟩:=h
   obtain ⟨k1,k2⟩:=allP_spec h1
   refine ⟨by simp [k1],fun j p hj=>?_⟩
   cases j with
   | zero=>simp at hj;subst hj;exact ⟨_,rfl,.inr ⟨sz,rfl,rfl⟩⟩
   | succ j=>simpa using k2 j p (by simpa using hj)
  | _=>simp [allP] at h
theorem allP_R {w:World} {g:G} {O:Nat→RS} {l:List CV} {ps:List SP} (h:allP l=some ps) {j:Nat} {p:SP} (hj:ps[j]?=some p) {f:Nat→Option Value}
  (hl:∀ (j:Nat) (x:CV),l[j]?=some x→∃ v,f j=some v∧v.oneCell'=true∧cvR w g O x v):∃ v,f j=some v∧v.oneCell'=true∧spR w g.Im p v:=by
 obtain ⟨x,h1,h2⟩:=(allP_spec h).2 j p hj
 obtain ⟨v,a1,a2,a3⟩:=hl j x h1
 refine ⟨v,a1,a2,?_⟩
 rcases h2 with rfl | ⟨sz,rfl,rfl⟩
 ·exact a3
 ·cases a3;exact spR.nil sz none
def pStore (P:Program) (σ:St) (t:TypeId) (x y:Operand) (h:Hint):PR :=
 if hasT P t then
  match rd P σ 0 x,rd P σ t y with
  | some (.a (.c (.bx r c))),some (.a av)=>match σ.O r,avCells av with
   | .box l,some xs=>if xs.length=szT P t∧c+xs.length≤l.length then some ({ rt:=evk σ x++evk σ y,ro:=[(r,.box l)],wo:=[(r,.box (splice l c xs))] },none) else none
   | _,_=>none
  | some (.a (.c (.ad r e c))),some (.a av)=>match σ.O r,(avCells av).bind allP,h with
   | .row sz l,some xs,.rcs es=>if xs.length=szT P t∧c+xs.length≤es.length then
     some ({ rt:=evk σ x++evk σ y,ro:=[(r,.row sz l)],wo:=[(r,.row sz (l.set e (splice es c (xs.map .s))))] },some (l[e]?=some es)) else none
   | _,_,_=>none
  | _,_=>none
 else none
theorem exec_store {P:Program} {ρ:Operand→Value} {o:Oper} {t:TypeId} {x y:Operand} (h:o.op=.store t x y) (ht:hasT P t=true) {b off:Nat} (hx:ρ x=.pointer (some ⟨b,off,none⟩))
  (hs:(ρ y).cells.size=szT P t) {w w':World} (hw:(storeCells ⟨b,off,none⟩ (ρ y).cells.toList 0).run P w=.ok () w'):(execOp ρ o).run P w=.ok .skip w':=by
 simp [execOp,h,Instr.storeAt,Instr.sureAddr,hx,storeVar,run_sizeOf ht,hs,hw]
theorem cells_one {P:Prop} {arr:Array Value} {L:List CV} {R:CV→Value→Prop} (h:Rel (fun x u=>u.oneCell'=true∧R x u) arr L):∀ v∈arr.toList,v.oneCell'=true:=by
 intro v hv
 obtain ⟨i,hi,rfl⟩:=List.mem_iff_getElem.1 hv
 have hi':i<L.length:=by rw [← h.1];simpa using hi
 obtain ⟨u,h1,h2,_⟩:=h.2 i _ (List.getElem?_eq_getElem hi')
 have:arr[i]?=some arr.toList[i]:=by simp at hi ⊢
 rw [this] at h1
 cases h1
 exact h2
theorem lin_ne {i e j k sz:Nat} (h:i≠e) (hj:j<sz) (hk:k≤sz):¬ (e*sz≤i*sz+j∧i*sz+j<e*sz+k):=by
 rintro ⟨h1,h2⟩
 rcases Nat.lt_or_gt_of_ne h with h3 | h3
 ·have:(i+1)*sz≤e*sz:=Nat.mul_le_mul_right _ h3
  rw [Nat.succ_mul] at this
  omega
 ·have:(e+1)*sz≤i*sz:=Nat.mul_le_mul_right _ h3
  rw [Nat.succ_mul] at this
  omega
theorem pStore_right {P:Program} {σ:St} {o:Oper} {t:TypeId} {x y:Operand} {h:Hint} (hd:o.dst=none) (ho:o.op=.store t x y):Right P o σ (pStore P σ t x y h):=by
 intro f c hr hc
 unfold pStore at hr
 split at hr
 ·rename_i ht
  split at hr
  ·rename_i r c' av hx hy
   split at hr
   ·rename_i l xs hO hxs
    split at hr
    ·rename_i hlen
     cases hr
     refine ⟨⟨okL_append.2 ⟨evk_ok _ _,evk_ok _ _⟩,hO,trivial⟩,sound_unit hd rfl fun Γ g σ' a w hf hg=>?_⟩
     obtain ⟨hf1,hf2⟩:=okL_append.1 hf.1
     have hOr:σ'.O r=.box l:=hf.2.1
     have hv:cvR w g σ'.O (.bx r c') (a.eval x):=rd_R hx hf1 hg
     simp only [cvR,hOr] at hv
     obtain ⟨b,hb,hv⟩:=hv
     have hbox:=hg.O r
     rw [hOr] at hbox
     obtain ⟨b',cs,h1,h2,h3,h4,h5⟩:=hbox
     obtain rfl:b'=b:=by rw [hb] at h1;exact (Option.some.inj h1).symm
     have hyR:avR w g σ'.O av (a.eval y):=rd_R hy hf2 hg
     obtain ⟨q1,q2⟩:=avCells_R hxs hyR
     have hone:=cells_one (P:=True) (R:=cvR w g σ'.O) ⟨q1,q2⟩
     obtain ⟨w',k1,k2⟩:=run_storeCells (P:=P) (off:=c') (a.eval y).cells.toList 0 w cs h3 (by simp [q1,h4];exact hlen.2) hone
     refine ⟨w',g,exec_store ho ht hv (by rw [q1];exact hlen.1) k1,hg.write k2 h2 _ (.inl ⟨l,_,hOr,rfl⟩) fun hle=>?_⟩
     refine ⟨b',_,h1,h2,k2.new,by rw [k2.sz,len_splice];exact h4,fun j z hj=>?_⟩
     have hR:Rel (fun x u=>u.oneCell'=true∧cvR w g σ'.O x u) cs l:=⟨h4,h5⟩
     have hR':=hR.splice c' (vs:=(a.eval y).cells) (xs:=xs) ⟨q1,q2⟩ hlen.2
     obtain ⟨u,e1,e2,e3⟩:=hR'.2 j z hj
     exact ⟨u,by simpa using e1,e2,hle.cv e3⟩
    ·cases hr
   ·cases hr
  ·rename_i r e c' av hx hy
   split at hr
   ·rename_i sz l xs es hO hxs
    split at hr
    ·rename_i hlen
     cases hr
     have hle:l[e]?=some es:=hc
     rw [Option.bind_eq_some_iff] at hxs
     obtain ⟨cs',hcs,hps⟩:=hxs
     have hps':=(allP_spec hps).1
     refine ⟨⟨okL_append.2 ⟨evk_ok _ _,evk_ok _ _⟩,hO,trivial⟩,sound_unit hd rfl fun Γ g σ' a w hf hg=>?_⟩
     obtain ⟨hf1,hf2⟩:=okL_append.1 hf.1
     have hOr:σ'.O r=.row sz l:=hf.2.1
     have hv:cvR w g σ'.O (.ad r e c') (a.eval x):=rd_R hx hf1 hg
     simp only [cvR,hOr] at hv
     obtain ⟨b,hb,hv⟩:=hv
     have hrow:=hg.O r
     rw [hOr] at hrow
     simp only [rsR,hb] at hrow
     obtain ⟨cs,h2,h3,h4,h6,h5⟩:=hrow
     have hyR:avR w g σ'.O av (a.eval y):=rd_R hy hf2 hg
     obtain ⟨q1,q2⟩:=avCells_R hcs hyR
     have hone:=cells_one (P:=True) (R:=cvR w g σ'.O) ⟨q1,q2⟩
     have hes:es.length=sz:=h4 es (List.mem_of_getElem? hle)
     have hlt:e<l.length:=idx_lt hle
     have hxl:cs'.length=xs.length:=hps'
     have hbound:e*sz+sz≤cs.size:=by
      have:(e+1)*sz≤l.length*sz:=Nat.mul_le_mul_right _ hlt
      rw [Nat.succ_mul] at this;omega
     obtain ⟨w',k1,k2⟩:=run_storeCells (P:=P) (off:=e*sz+c') (a.eval y).cells.toList 0 w cs h3 (by
      simp only [Array.length_toList,q1,hxl];omega) hone
     refine ⟨w',g,exec_store ho ht hv (by rw [q1,hxl];exact hlen.1) k1,hg.write k2 h2 _ (.inr ⟨sz,l,_,hOr,rfl,by simp⟩) fun hle'=>?_⟩
     show match g.β r with | none=>_ | some b=>_
     rw [hb]
     refine ⟨_,h2,k2.new,?_,by rw [k2.sz];simpa using h6,fun i e' j rc hi hj=>?_⟩
     ·intro e' he'
      rcases List.mem_or_eq_of_mem_set he' with h | rfl
      ·exact h4 e' h
      ·rw [len_splice];exact hes
     ·have hvl:(a.eval y).cells.toList.length=xs.length:=by simp [q1,hxl]
      have keep:∀ (u:Value) (rc:RC),rcR w g r i j rc u→rcR w' g r i j rc u:=by
       intro u rc hu
       cases rc with
       | s y=>exact spR.mono (p:=y) hu hle'.im
       | hole=>trivial
       | o sz2 l2 =>
        rcases hu with hu | ⟨b2,cap2,c2,z1,z2,z3,z4,z5,z6,z7⟩
        ·exact .inl hu
        ·have hb2:b2≠b:=by intro e;rw [e,h2] at z3;cases z3
         exact .inr ⟨b2,cap2,c2,z1,z2,z3,z4.congr (k2.other b2 hb2),z5,z6,fun i e j p hi hj=>let ⟨u,y1,y2⟩:=z7 i e j p hi hj;⟨u,y1,y2.mono hle'.im⟩⟩
      rw [List.getElem?_set] at hi
      have hjs:j<sz:=by
       by_cases ei:e=i
       ·rw [if_pos ei,if_pos hlt] at hi
        obtain rfl:=Option.some.inj hi
        have:=idx_lt hj
        rw [len_splice] at this;omega
       ·rw [if_neg ei] at hi
        have:=idx_lt hj
        rw [h4 e' (List.mem_of_getElem? hi)] at this;exact this
      rw [Nat.add_zero,setsA_get _ _ _ _ (by rw [hvl];omega),hvl]
      by_cases ei:e=i
      ·subst ei
       rw [if_pos rfl,if_pos hlt] at hi
       obtain rfl:=Option.some.inj hi
       rw [splice_get _ _ _ _ (by simpa using hlen.2)] at hj
       simp only [List.length_map] at hj
       by_cases hin:c'≤j∧j<c'+xs.length
       ·rw [if_pos hin] at hj
        rw [if_pos (by omega)]
        rw [List.getElem?_map,Option.map_eq_some_iff] at hj
        obtain ⟨p,hp,rfl⟩:=hj
        obtain ⟨u,e1,e2,e3⟩:=allP_R hps hp q2
        refine ⟨u,?_,e2,keep u (.s p) e3⟩
        rw [show e*sz+j-(e*sz+c')=j-c' by omega]
        simpa using e1
       ·rw [if_neg hin] at hj
        rw [if_neg (by omega)]
        obtain ⟨u,e1,e2,e3⟩:=h5 e es j rc hle hj
        exact ⟨u,e1,e2,keep u rc e3⟩
      ·rw [if_neg ei] at hi
       have:=lin_ne (Ne.symm ei) hjs (k:=sz) (Nat.le_refl _)
       rw [if_neg (by omega)]
       obtain ⟨u,e1,e2,e3⟩:=h5 i e' j rc hi hj
       exact ⟨u,e1,e2,keep u rc e3⟩
    ·cases hr
   ·cases hr
  ·cases hr
 ·cases hr
end Go.XM
end
section
namespace Go.XM
open Go.RowKit
def fldOff (P:Program) (s:TypeId) (f:Nat):Option Nat:=match P.underlying s with
 | some (.struct fs)=>match fs[f]? with
  | some fl=>if hasT P fl.type && !Nat.beq (szT P fl.type) 0 then some fl.offset else none
  | none=>none
 | _=>none
theorem exec_fieldAddr {P:Program} {ρ:Operand→Value} {o:Oper} {s f off:Nat} {x:Operand} (h:o.op=.fieldAddr s x f) (hf:fldOff P s f=some off) {b c:Nat} (hx:ρ x=.pointer (some ⟨b,c,none⟩)) (w:World) :
  (execOp ρ o).run P w=.ok (.value (.pointer (some ⟨b,c+off,none⟩))) w:=by
 unfold fldOff at hf
 split at hf
 ·rename_i fs hu
  split at hf
  ·rename_i fl hfl
   split at hf
   ·rename_i hc
    cases hf
    simp only [Bool.and_eq_true,Bool.not_eq_true'] at hc
    have hz:szT P fl.type≠0:=by intro e;rw [e] at hc;simp [Nat.beq] at hc
    simp [execOp,h,Instr.fieldAt,run_underlying hu,hfl,Instr.sureAddr,hx,fieldPlace,run_sizeOf hc.1,hz,add_mk]
   ·cases hf
  ·cases hf
 ·cases hf
def pFld (P:Program) (σ:St) (s:TypeId) (f:Nat) (d:Nat) (x:Operand):PR :=
 match fldOff P s f,rd P σ 0 x with
 | some off,some (.a (.c (.bx r c)))=>match σ.O r with
  | .box l=>some ({ rt:=evk σ x,ro:=[(r,.box l)],wt:=[(d,cv (.bx r (c+off)))] },none)
  | _=>none
 | some off,some (.a (.c (.ad r e c)))=>match σ.O r with
  | .row sz l=>some ({ rt:=evk σ x,ro:=[(r,.row sz l)],wt:=[(d,cv (.ad r e (c+off)))] },none)
  | _=>none
 | some off,some (.a (.c (.ia l c)))=>some ({ rt:=evk σ x,wt:=[(d,cv (.ia l (c+off)))] },none)
 | _,_=>none
theorem pFld_right {P:Program} {σ:St} {o:Oper} {s f d:Nat} {x:Operand} (hd:o.dst=some d) (ho:o.op=.fieldAddr s x f):Right P o σ (pFld P σ s f d x):=by
 intro ft c hr _
 unfold pFld at hr
 split at hr
 ·rename_i off r c' hf hx
  split at hr
  ·rename_i l hO
   cases hr
   refine ⟨⟨evk_ok _ _,hO,trivial⟩,sound_val hd rfl rfl fun Γ g σ' a w hf' hg=>?_⟩
   have hOr:σ'.O r=.box l:=hf'.2.1
   have hv:cvR w g σ'.O (.bx r c') (a.eval x):=rd_R hx hf'.1 hg
   simp only [cvR,hOr] at hv
   obtain ⟨b,hb,hv⟩:=hv
   refine ⟨_,exec_fieldAddr ho hf hv w,?_⟩
   show cvR w g σ'.O (.bx r (c'+off)) _
   simp only [cvR,hOr]
   exact ⟨b,hb,rfl⟩
  ·cases hr
 ·rename_i off r e c' hf hx
  split at hr
  ·rename_i sz l hO
   cases hr
   refine ⟨⟨evk_ok _ _,hO,trivial⟩,sound_val hd rfl rfl fun Γ g σ' a w hf' hg=>?_⟩
   have hOr:σ'.O r=.row sz l:=hf'.2.1
   have hv:cvR w g σ'.O (.ad r e c') (a.eval x):=rd_R hx hf'.1 hg
   simp only [cvR,hOr] at hv
   obtain ⟨b,hb,hv⟩:=hv
   refine ⟨_,exec_fieldAddr ho hf hv w,?_⟩
   show cvR w g σ'.O (.ad r e (c'+off)) _
   simp only [cvR,hOr]
   exact ⟨b,hb,by rw [Nat.add_assoc]⟩
  ·cases hr
 ·rename_i off l c' hf hx
  cases hr
  refine ⟨⟨evk_ok _ _,trivial⟩,sound_val hd rfl rfl fun Γ g σ' a w hf' hg=>?_⟩
  obtain ⟨b,o2,hv,hi,us,hus⟩:cvR w g σ'.O (.ia l c') (a.eval x):=rd_R hx hf'.1 hg
  exact ⟨_,exec_fieldAddr ho hf hv w,b,o2,by rw [Nat.add_assoc],hi,us,hus⟩
 ·cases hr
def pNil (P:Program) (σ:St) (d:Nat) (x:Operand):PR :=
 match rd P σ 0 x with
 | some (.a (.c (.bx r c)))=>match σ.O r with
  | .box l=>some ({ rt:=evk σ x,ro:=[(r,.box l)],wt:=[(d,cv (.bx r c))] },none)
  | _=>none
 | some (.a (.c (.ad r e c)))=>match σ.O r with
  | .row sz l=>some ({ rt:=evk σ x,ro:=[(r,.row sz l)],wt:=[(d,cv (.ad r e c))] },none)
  | _=>none
 | some (.a (.c (.ia l c)))=>some ({ rt:=evk σ x,wt:=[(d,cv (.ia l c))] },none)
 | _=>none
theorem exec_nil {P:Program} {ρ:Operand→Value} {o:Oper} {x:Operand} (h:o.op=.nilCheck x) {p:Addr} (hx:ρ x=.pointer (some p)) (w:World):(execOp ρ o).run P w=.ok (.value (.pointer (some p))) w:=by
 simp [execOp,h,hx]
theorem pNil_right {P:Program} {σ:St} {o:Oper} {d:Nat} {x:Operand} (hd:o.dst=some d) (ho:o.op=.nilCheck x):Right P o σ (pNil P σ d x):=by
 intro ft c hr _
 unfold pNil at hr
 split at hr
 ·rename_i r c' hx
  split at hr
  ·rename_i l hO
   cases hr
   refine ⟨⟨evk_ok _ _,hO,trivial⟩,sound_val hd rfl rfl fun Γ g σ' a w hf' hg=>?_⟩
   have hOr:σ'.O r=.box l:=hf'.2.1
   have hv:cvR w g σ'.O (.bx r c') (a.eval x):=rd_R hx hf'.1 hg
   have hv':=hv
   simp only [cvR,hOr] at hv
   obtain ⟨b,hb,hv⟩:=hv
   exact ⟨_,exec_nil ho hv w,hv ▸ hv'⟩
  ·cases hr
 ·rename_i r e c' hx
  split at hr
  ·rename_i sz l hO
   cases hr
   refine ⟨⟨evk_ok _ _,hO,trivial⟩,sound_val hd rfl rfl fun Γ g σ' a w hf' hg=>?_⟩
   have hOr:σ'.O r=.row sz l:=hf'.2.1
   have hv:cvR w g σ'.O (.ad r e c') (a.eval x):=rd_R hx hf'.1 hg
   have hv':=hv
   simp only [cvR,hOr] at hv
   obtain ⟨b,hb,hv⟩:=hv
   exact ⟨_,exec_nil ho hv w,hv ▸ hv'⟩
  ·cases hr
 ·rename_i l c' hx
  cases hr
  refine ⟨⟨evk_ok _ _,trivial⟩,sound_val hd rfl rfl fun Γ g σ' a w hf' hg=>?_⟩
  have hv':cvR w g σ'.O (.ia l c') (a.eval x):=rd_R hx hf'.1 hg
  obtain ⟨b,o2,hv,hi,us,hus⟩:=hv'
  exact ⟨_,exec_nil ho hv w,b,o2,rfl,hi,us,hus⟩
 ·cases hr
def elT (P:Program) (t:TypeId):Option TypeId:=match P.underlying t with
 | some (.slice e)=>if hasT P e then some e else none
 | _=>none
theorem elT_spec {P:Program} {t e:TypeId} (h:elT P t=some e):P.underlying t=some (.slice e)∧hasT P e=true:=by
 unfold elT at h
 split at h
 ·rename_i e' hu
  split at h
  ·cases h;exact ⟨hu,‹_›⟩
  ·cases h
 ·cases h
theorem exec_indexAddr {P:Program} {ρ:Operand→Value} {o:Oper} {t e:Nat} {x y:Operand} (h:o.op=.indexAddr t x y) (ht:elT P t=some e) {b off n cap:Nat} {k:IntKind} {i:Int}
  (hx:ρ x=.slice (some ⟨b,off,none⟩) n cap) (hy:ρ y=.int k i) (h0:0≤i) (h1:i<n) (w:World) :
  (execOp ρ o).run P w=.ok (.value (.pointer (some ⟨b,off+i.toNat*szT P e,none⟩))) w:=by
 obtain ⟨hu,he⟩:=elT_spec ht
 simp [execOp,h,Instr.indexAt,asIntOf,hx,hy,run_underlying hu,run_sizeOf he,h0,h1,add_mk]
def pIdx (P:Program) (σ:St) (t:TypeId) (d:Nat) (x y:Operand) (h:Hint):PR :=
 match elT P t,rd P σ 0 y with
 | some e,some (.a (.c (.p (.v (.int _ i)))))=>match rd P σ 0 x with
  | some (.a (.c (.vw r e0 n)))=>match σ.O r with
   | .row sz l=>if szT P e=sz then some ({ rt:=evk σ x++evk σ y,ro:=[(r,.row sz l)],wt:=[(d,cv (.ad r (e0+i.toNat) 0))] },some (0≤i∧i<n)) else none
   | _=>none
  | some (.a (.c (.p (.sl sz l))))=>match h with
   | .sps es=>if szT P e=sz then some ({ rt:=evk σ x++evk σ y,wt:=[(d,cv (.ia es 0))] },some (0≤i∧l[i.toNat]?=some es)) else none
   | _=>none
  | _=>none
 | _,_=>none
theorem pIdx_right {P:Program} {σ:St} {o:Oper} {t d:Nat} {x y:Operand} {h:Hint} (hd:o.dst=some d) (ho:o.op=.indexAddr t x y):Right P o σ (pIdx P σ t d x y h):=by
 intro ft c hr hc
 unfold pIdx at hr
 split at hr
 ·rename_i e k i ht hy
  split at hr
  ·rename_i r e0 n hx
   split at hr
   ·rename_i sz l hO
    split at hr
    ·rename_i hsz
     cases hr
     obtain ⟨h0,h1⟩:0≤i∧i<n:=hc
     refine ⟨⟨okL_append.2 ⟨evk_ok _ _,evk_ok _ _⟩,hO,trivial⟩,sound_val hd rfl rfl fun Γ g σ' a w hf' hg=>?_⟩
     obtain ⟨hf1,hf2⟩:=okL_append.1 hf'.1
     have hOr:σ'.O r=.row sz l:=hf'.2.1
     have hv:cvR w g σ'.O (.vw r e0 n) (a.eval x):=rd_R hx hf1 hg
     simp only [cvR,hOr] at hv
     cases hb:g.β r with
     | none =>
      simp only [hb] at hv
      omega
     | some b =>
      simp only [hb] at hv
      obtain ⟨cap,cs,off,e1,e2,e3,e4,e5,e6⟩:=hv
      refine ⟨_,exec_indexAddr ho ht e1 (rd_pl hy hf2 hg) h0 h1 w,?_⟩
      show cvR w g σ'.O (.ad r (e0+i.toNat) 0) _
      simp only [cvR,hOr]
      refine ⟨b,hb,?_⟩
      rcases e2 with e2 | e2
      ·omega
      ·rw [e2,hsz,Nat.add_mul,Nat.add_zero]
    ·cases hr
   ·cases hr
  ·rename_i sz l hx
   split at hr
   ·rename_i es
    split at hr
    ·rename_i hsz
     cases hr
     obtain ⟨h0,h1⟩:0≤i∧l[i.toNat]?=some es:=hc
     refine ⟨⟨okL_append.2 ⟨evk_ok _ _,evk_ok _ _⟩,trivial⟩,sound_val hd rfl rfl fun Γ g σ' a w hf' hg=>?_⟩
     obtain ⟨hf1,hf2⟩:=okL_append.1 hf'.1
     have hv:spR w g.Im (.sl sz l) (a.eval x):=rd_R hx hf1 hg
     have hlt:=idx_lt h1
     generalize hu:a.eval x=u at hv
     cases hv with
     | nil=>simp at hlt
     | sl b off cap _ _ us hb hcap hz k1 k2 =>
      refine ⟨_,exec_indexAddr ho ht hu (rd_pl hy hf2 hg) h0 (by omega) w,b,off+i.toNat*szT P e,rfl,hb,us i.toNat,fun j p hp=>?_⟩
      rw [hsz]
      exact ⟨k1 _ _ j p h1 hp,k2 _ _ j p h1 hp⟩
    ·cases hr
   ·cases hr
  ·cases hr
 ·cases hr
def pLen0 (P:Program) (σ:St) (t:TypeId) (x:Operand):Option (Nat × List (Nat × RS)) :=
 match P.underlying t,rd P σ t x with
 | some (.slice _),some (.a (.c (.vw r _ n)))=>match σ.O r with
  | .row sz l=>some (n,[(r,.row sz l)])
  | _=>none
 | some (.slice _),some (.a (.c (.p (.sl _ l))))=>some (l.length,[])
 | some .string,some (.a (.c (.p (.v (.string s)))))=>some (s.size,[])
 | some (.slice _),some (.a (.c (.nl _)))=>some (0,[])
 | _,_=>none
def pLen (P:Program) (σ:St) (t:TypeId) (d:Nat) (x:Operand) (h:Option Value):PR :=
 match pLen0 P σ t x,h with
 | some (n,ro),none=>some ({ rt:=evk σ x,ro:=ro,wt:=[(d,pl (.int .i64 n))] },none)
 | some (n,ro),some v=>some ({ rt:=evk σ x,ro:=ro,wt:=[(d,pl v)] },some (.int .i64 n=v))
 | none,_=>none
theorem exec_builtin {P:Program} {ρ:Operand→Value} {o:Oper} {b:Builtin} {xs:Array Operand} {ts:Array TypeId} (h:o.op=.call ⟨.builtin b,xs,ts⟩) {w w':World} {u:Value}
  (hb:(builtin b ts o.type (xs.map fun | .const _=>true | _=>false) (xs.map ρ)).run P w=.ok (.value u) w'):(execOp ρ o).run P w=.ok (.value u) w':=by
 simp only [execOp,h,resolve,invoke,pure_bind]
 exact hb
theorem pLen0_R {P:Program} {σ:St} {o:Oper} {t n:Nat} {x:Operand} {ro:List (Nat × RS)} (ho:o.op=.call ⟨.builtin .len,#[x],#[t]⟩) (h:pLen0 P σ t x=some (n,ro)):okL ro σ.O ∧
  ∀ (Γ:Ctx) (g:G) (σ':St) (a:Act) (w:World),okL (evk σ x) σ'.T→okL ro σ'.O→Good Γ g σ' a w→(execOp a.eval o).run P w=.ok (.value (.int .i64 n)) w:=by
 unfold pLen0 at h
 split at h
 ·rename_i e r e0 n' hu hx
  split at h
  ·rename_i sz l hO
   cases h
   refine ⟨⟨hO,trivial⟩,fun Γ g σ' a w hf1 hf2 hg=>?_⟩
   have hOr:σ'.O r=.row sz l:=hf2.1
   have hv:cvR w g σ'.O (.vw r e0 n) (a.eval x):=rd_R hx hf1 hg
   obtain ⟨aa,cap,hv⟩:∃ aa cap,a.eval x=.slice aa n cap:=by
    simp only [cvR,hOr] at hv
    split at hv
    ·obtain ⟨a0,h0⟩:=hv.2.2;exact ⟨a0,0,by rw [h0,hv.2.1]⟩
    ·obtain ⟨cap,_,off,h,_⟩:=hv;exact ⟨_,cap,h⟩
   refine exec_builtin ho ?_
   simp [builtin,Builtin.len_,run_underlying hu,hv,goInt]
  ·cases h
 ·rename_i e sz l hu hx
  cases h
  refine ⟨trivial,fun Γ g σ' a w hf1 hf2 hg=>?_⟩
  have hv:spR w g.Im (.sl sz l) (a.eval x):=rd_R hx hf1 hg
  obtain ⟨aa,cap,hv⟩:∃ aa cap,a.eval x=.slice aa l.length cap:=by
   generalize a.eval x=u at hv
   cases hv with
   | nil sz a0=>exact ⟨a0,0,rfl⟩
   | sl b off cap=>exact ⟨_,cap,rfl⟩
  refine exec_builtin ho ?_
  simp [builtin,Builtin.len_,run_underlying hu,hv,goInt]
 ·rename_i s hu hx
  cases h
  refine ⟨trivial,fun Γ g σ' a w hf1 hf2 hg=>?_⟩
  have hv:=rd_pl hx hf1 hg
  refine exec_builtin ho ?_
  simp [builtin,Builtin.len_,run_underlying hu,hv,goInt]
 ·rename_i e sz hu hx
  cases h
  refine ⟨trivial,fun Γ g σ' a w hf1 hf2 hg=>?_⟩
  have hv:a.eval x=.slice none 0 0:=rd_R hx hf1 hg
  refine exec_builtin ho ?_
  simp [builtin,Builtin.len_,run_underlying hu,hv,goInt]
 ·cases h
theorem pLen_right {P:Program} {σ:St} {o:Oper} {t d:Nat} {x:Operand} {h:Option Value} (hd:o.dst=some d) (ho:o.op=.call ⟨.builtin .len,#[x],#[t]⟩):Right P o σ (pLen P σ t d x h):=by
 intro ft c hr hc
 unfold pLen at hr
 split at hr
 ·rename_i n ro hn
  cases hr
  obtain ⟨k1,k2⟩:=pLen0_R ho hn
  exact ⟨⟨evk_ok _ _,k1⟩,sound_val hd rfl rfl fun Γ g σ' a w hf hg=>⟨_,k2 Γ g σ' a w hf.1 hf.2 hg,spR.v _ rfl⟩⟩
 ·rename_i n ro v hn
  cases hr
  obtain ⟨k1,k2⟩:=pLen0_R ho hn
  obtain rfl:Value.int .i64 n=v:=hc
  exact ⟨⟨evk_ok _ _,k1⟩,sound_val hd rfl rfl fun Γ g σ' a w hf hg=>⟨_,k2 Γ g σ' a w hf.1 hf.2 hg,spR.v _ rfl⟩⟩
 ·cases hr
def pExtract (P:Program) (σ:St) (d:Nat) (x:Operand) (i:Nat):PR :=
 match rd P σ 0 x with
 | some (.tup l)=>match l[i]? with
  | some av=>some ({ rt:=evk σ x,wt:=[(d,.a av)] },none)
  | none=>none
 | _=>none
theorem pExtract_right {P:Program} {σ:St} {o:Oper} {d i:Nat} {x:Operand} (hd:o.dst=some d) (ho:o.op=.extract x i):Right P o σ (pExtract P σ d x i):=by
 intro ft c hr _
 unfold pExtract at hr
 split at hr
 ·rename_i l hx
  split at hr
  ·rename_i av hl
   cases hr
   refine ⟨⟨evk_ok _ _,trivial⟩,sound_val hd rfl rfl fun Γ g σ' a w hf' hg=>?_⟩
   obtain ⟨arr,hv,hs,hk⟩:svR w g σ'.O (.tup l) (a.eval x):=rd_R hx hf'.1 hg
   obtain ⟨u,h1,h2⟩:=hk i av hl
   exact ⟨u,by simp [execOp,ho,Instr.extract,hv,h1],h2⟩
  ·cases hr
 ·cases hr
def pField (P:Program) (σ:St) (t:TypeId) (d:Nat) (x:Operand) (f:Nat):PR :=
 match P.underlying t,rd P σ 0 x with
 | some (.struct fs),some (.a (.agg l))=>match fs[f]? with
  | some fl=>if hasT P fl.type then match ldCV P fl.type l fl.offset with
   | some sv=>some ({ rt:=evk σ x,wt:=[(d,sv)] },none)
   | none=>none else none
  | none=>none
 | _,_=>none
theorem pField_right {P:Program} {σ:St} {o:Oper} {t d f:Nat} {x:Operand} (hd:o.dst=some d) (ho:o.op=.field t x f):Right P o σ (pField P σ t d x f):=by
 intro ft c hr _
 unfold pField at hr
 split at hr
 ·rename_i fs l hu hx
  split at hr
  ·rename_i fl hfl
   split at hr
   ·rename_i ht
    split at hr
    ·rename_i sv hsv
     cases hr
     refine ⟨⟨evk_ok _ _,trivial⟩,sound_val hd rfl rfl fun Γ g σ' a w hf' hg=>?_⟩
     obtain ⟨arr,hv,hs,hk⟩:svR w g σ'.O (.a (.agg l)) (a.eval x):=rd_R hx hf'.1 hg
     unfold ldCV at hsv
     split at hsv
     ·rename_i hag
      split at hsv
      ·rename_i hn
       cases hsv
       refine ⟨.agg (arr.extract fl.offset (fl.offset+szT P fl.type)),?_,_,rfl,?_,fun j y hj=>?_⟩
       ·simp [execOp,ho,Instr.field,run_underlying hu,hfl,hv,asAgg,part,run_isAgg ht,hag,run_sizeOf ht]
       ·simp only [List.length_take,List.length_drop] at hn ⊢
        simp only [Array.size_extract,hs]
        omega
       ·have hj':=idx_lt hj
        rw [hn] at hj'
        rw [List.getElem?_take,if_pos hj',List.getElem?_drop] at hj
        obtain ⟨u,e1,e2,e3⟩:=hk _ y hj
        refine ⟨u,?_,e2,e3⟩
        have:=idx_lt hj
        rw [Array.getElem?_extract,if_pos (by rw [hs];omega)]
        exact e1
      ·cases hsv
     ·rename_i hag
      split at hsv
      ·rename_i y hy
       cases hsv
       obtain ⟨u,e1,e2,e3⟩:=hk _ y hy
       exact ⟨u,by simp [execOp,ho,Instr.field,run_underlying hu,hfl,hv,asAgg,part,run_isAgg ht,hag,e1],e3⟩
      ·cases hsv
    ·cases hr
   ·cases hr
  ·cases hr
 ·cases hr
def pUn (P:Program) (σ:St) (t:TypeId) (op:UnOp) (d:Nat) (x:Operand):PR :=
 match op,rd P σ t x with
 | .not,some (.a (.c (.p (.v (.bool b)))))=>some ({ rt:=evk σ x,wt:=[(d,pl (.bool (!b)))] },none)
 | .neg,some (.a (.c (.p (.v (.int k n)))))=>some ({ rt:=evk σ x,wt:=[(d,pl (.int k (wr k (0-n))))] },none)
 | .xor,some (.a (.c (.p (.v (.int k n)))))=>some ({ rt:=evk σ x,wt:=[(d,pl (.int k (ib .xor k (if k.signed then -1 else k.max) n)))] },none)
 | _,_=>none
theorem pUn_right {P:Program} {σ:St} {o:Oper} {t d:Nat} {op:UnOp} {x:Operand} (hd:o.dst=some d) (ho:o.op=.unOp op t x):Right P o σ (pUn P σ t op d x):=by
 intro ft c hr hc
 unfold pUn at hr
 split at hr
 all_goals cases hr
 all_goals
  rename_i hx
  refine ⟨⟨evk_ok _ _,trivial⟩,sound_val hd rfl rfl fun Γ g σ' a w hf' hg=>⟨_,?_,spR.v _ rfl⟩⟩
  have hv:=rd_pl hx hf'.1 hg
  simp [execOp,ho,Op.unary,hv,Op.intArith,Op.intBits,ib,wr_eq]
def pConv (P:Program) (σ:St) (s t:TypeId) (d:Nat) (x:Operand):PR :=
 match P.underlying s,P.underlying t,rd P σ s x with
 | some _,some (.int k),some (.a (.c (.p (.v (.int _ n)))))=>some ({ rt:=evk σ x,wt:=[(d,pl (.int k (wr k n)))] },none)
 | some .string,some .string,some (.a (.c (.p (.v (.string b)))))=>some ({ rt:=evk σ x,wt:=[(d,pl (.string b))] },none)
 | _,_,_=>none
theorem pConv_right {P:Program} {σ:St} {o:Oper} {s t d:Nat} {x:Operand} (hd:o.dst=some d) (ho:o.op=.convert s t x):Right P o σ (pConv P σ s t d x):=by
 intro ft c hr _
 unfold pConv at hr
 split at hr
 ·rename_i ds k k' n hs ht hx
  cases hr
  refine ⟨⟨evk_ok _ _,trivial⟩,sound_val hd rfl rfl fun Γ g σ' a w hf' hg=>⟨_,?_,spR.v _ rfl⟩⟩
  have hv:=rd_pl hx hf'.1 hg
  simp [execOp,ho,convert,run_underlying hs,run_underlying ht,hv,Conv.intToInt,wr_eq]
 ·rename_i b hs ht hx
  cases hr
  refine ⟨⟨evk_ok _ _,trivial⟩,sound_val hd rfl rfl fun Γ g σ' a w hf' hg=>⟨_,?_,spR.v _ rfl⟩⟩
  have hv:=rd_pl hx hf'.1 hg
  simp [execOp,ho,convert,run_underlying hs,run_underlying ht,hv]
 ·cases hr
def pPick (P:Program) (σ:St) (t:TypeId) (d:Nat) (x y z:Operand):PR :=
 match rd P σ 0 x with
 | some (.a (.c (.p (.v (.bool true)))))=>match rd P σ t y with
  | some sv=>some ({ rt:=evk σ x++evk σ y,wt:=[(d,sv)] },none)
  | none=>none
 | some (.a (.c (.p (.v (.bool false)))))=>match rd P σ t z with
  | some sv=>some ({ rt:=evk σ x++evk σ z,wt:=[(d,sv)] },none)
  | none=>none
 | _=>none
theorem pPick_right {P:Program} {σ:St} {o:Oper} {t d:Nat} {x y z:Operand} (hd:o.dst=some d) (ho:o.op=.pick x y z):Right P o σ (pPick P σ t d x y z):=by
 intro ft c hr _
 unfold pPick at hr
 split at hr
 ·rename_i hx
  split at hr
  ·rename_i sv hy
   cases hr
   refine ⟨⟨okL_append.2 ⟨evk_ok _ _,evk_ok _ _⟩,trivial⟩,sound_val hd rfl rfl fun Γ g σ' a w hf' hg=>?_⟩
   obtain ⟨hf1,hf2⟩:=okL_append.1 hf'.1
   exact ⟨_,by simp [execOp,ho,asBool,rd_pl hx hf1 hg],rd_R hy hf2 hg⟩
  ·cases hr
 ·rename_i hx
  split at hr
  ·rename_i sv hy
   cases hr
   refine ⟨⟨okL_append.2 ⟨evk_ok _ _,evk_ok _ _⟩,trivial⟩,sound_val hd rfl rfl fun Γ g σ' a w hf' hg=>?_⟩
   obtain ⟨hf1,hf2⟩:=okL_append.1 hf'.1
   exact ⟨_,by simp [execOp,ho,asBool,rd_pl hx hf1 hg],rd_R hy hf2 hg⟩
  ·cases hr
 ·cases hr
end Go.XM
end
section
namespace Go.XM
open Go.RowKit
set_option maxHeartbeats 1000000 in
theorem fit_vals {P:Program} {w:World} {t tx ty e:TypeId} {i:TypeInfo} {x:Value} {base:Option Addr} {sLen sCap m:Nat} {news:Array Value} {dx:TypeDesc}
  (ht:P.underlying t=some (.slice e)) (hi:P.info? e=some i) (hdx:P.underlying tx=some dx) (hmatch:(∃ e',dx=.slice e')∨dx=.string)
  (hl:(Builtin.lenOf x).run P w=.ok m w) (hf:∀ w':World,w'.heap=w.heap→(Builtin.firstCells i.size m x).run P w'=.ok news w') (hfit:sLen+m≤sCap) :
  (Builtin.append_ #[t,tx] ty #[.slice base sLen sCap,x]).run P w=match base with
   | some a=>((storeCells (a.add (sLen*i.size)) news.toList).run P w).andThen fun _ w'=>.ok (.slice base (sLen+m) sCap) w'
   | none=>.ok (.slice none (sLen+m) sCap) w:=by
 obtain ⟨e',rfl⟩ | rfl:=hmatch
 all_goals
  unfold Builtin.append_
  simp only [List.getElem?_toArray,List.getElem?_cons_zero,List.getElem?_cons_succ]
  simp only [Sem.run_bind,run_underlying ht,run_underlying hdx,Result.andThen_ok,sizeOf,typeInfo,run_program,hi,Sem.run_pure,Bool.false_eq_true,if_false,hl,hfit,if_true,Bool.not_false,hf w rfl]
  cases base with
  | none=>rfl
  | some a=>simp only [Sem.run_bind,Sem.run_pure]
set_option maxHeartbeats 1000000 in
theorem grow_vals {P:Program} {w:World} {t tx ty e:TypeId} {i:TypeInfo} {z x:Value} {base:Option Addr} {sLen sCap m:Nat} {old news:Array Value} {dx:TypeDesc}
  (ht:P.underlying t=some (.slice e)) (hi:P.info? e=some i) (hz:i.zero=some z) (hdx:P.underlying tx=some dx) (hmatch:(∃ e',dx=.slice e')∨dx=.string)
  (hl:(Builtin.lenOf x).run P w=.ok m w) (hf:∀ w':World,w'.heap=w.heap→(Builtin.firstCells i.size m x).run P w'=.ok news w')
  (ho:∀ w':World,w'.heap=w.heap→(Builtin.firstCells i.size sLen (.slice base sLen sCap)).run P w'=.ok old w')
  (hfit:¬ (sLen+m≤sCap)) (hb0:0<i.bytes) (hb:(sLen+m)*i.bytes≤140737488355328) :
  ∃ cap,sLen+m≤cap∧(Builtin.append_ #[t,tx] ty #[.slice base sLen sCap,x]).run P w=.ok (.slice (some ⟨w.heap.size,0,none⟩) (sLen+m) cap) (w.drew.alloc (.cells (old++news++Builtin.zeroCells z.cells (cap-(sLen+m))) e)):=by
 have h1:=growslice_fits (need:=sLen+m) (old:=sCap) (bytes:=i.bytes) (by omega) hb
 have h2:¬ (281474976710656<Builtin.nextslicecap (sLen+m) sCap*i.bytes):=by omega
 have h3:¬ (i.bytes=0):=by omega
 refine ⟨(Question.appendCap (sLen+m) sCap e).cut (w.tape w.drawn (.appendCap (sLen+m) sCap e)),by simp [Question.cut],?_⟩
 have key:∀ (w':World) (n:Nat),(askRoom n).run P w'=.ok () w':=by
  intro w' n;unfold askRoom;split <;> rfl
 obtain ⟨e',rfl⟩ | rfl:=hmatch
 all_goals
  unfold Builtin.append_
  simp only [List.getElem?_toArray,List.getElem?_cons_zero,List.getElem?_cons_succ]
  simp only [Sem.run_bind,run_underlying ht,run_underlying hdx,Result.andThen_ok,sizeOf,typeInfo,run_program,hi,Sem.run_pure,Bool.false_eq_true,if_false,hl,hfit,Bool.not_false,if_true,h3,false_or,or_false,and_false,gt_iff_lt,Nat.reducePow,h2]
  simp only [run_choose,Question.forced,Bool.false_eq_true,if_false,Result.andThen_ok,key,zeroValue,typeInfo,Sem.run_bind,run_program,hi,hz,Sem.run_pure]
  rw [show ({ heap:=w.heap,tape:=w.tape,drawn:=w.drawn+1,os:=w.os,output:=w.output }:World)=w.drew from rfl,ho w.drew rfl]
  simp only [Result.andThen_ok]
  rw [hf w.drew rfl]
  simp only [Result.andThen_ok,newRow,Sem.run_bind,run_newObj,Sem.run_pure]
  rfl
theorem zc_empty {z:Array Value} {m:Nat} (h:m*z.size=0):Builtin.zeroCells z m=#[]:=by
 apply Array.eq_empty_of_size_eq_zero
 simp [Builtin.zeroCells,h]
set_option maxHeartbeats 1000000 in
theorem fit_zeros {P:Program} {w:World} {t tx ty e:TypeId} {i:TypeInfo} {z:Value} {base:Option Addr} {sLen sCap m:Nat} {k k':IntKind}
  (ht:P.underlying t=some (.slice e)) (hi:P.info? e=some i) (hz:i.zero=some z) (hzs:z.cells.size=i.size) (hdx:P.underlying tx=some (.int k)) (hm:(m:Int)≤9223372036854775807) (hb:(m:Int)*i.bytes≤281474976710656) (hfit:sLen+m≤sCap) :
  (Builtin.append_ #[t,tx] ty #[.slice base sLen sCap,.int k' m]).run P w=match base with
   | some a=>((storeCells (a.add (sLen*i.size)) (Builtin.zeroCells z.cells m).toList).run P w).andThen fun _ w'=>.ok (.slice base (sLen+m) sCap) w'
   | none=>.ok (.slice none (sLen+m) sCap) w:=by
 have e1:IntKind.i64.wrap (m:Int)=m:=by rw [IntKind.wrap_i64];omega
 have e2:¬ (281474976710656<(m:Int)*(i.bytes:Int)):=by omega
 have e3:¬ ((m:Int)<0):=by omega
 unfold Builtin.append_
 simp only [List.getElem?_toArray,List.getElem?_cons_zero,List.getElem?_cons_succ]
 simp only [Sem.run_bind,run_underlying ht,run_underlying hdx,Result.andThen_ok,sizeOf,typeInfo,run_program,hi,Sem.run_pure,Bool.false_eq_true,if_false,hfit,if_true,Bool.not_true,asInt,asIntOf,e1,e3,gt_iff_lt,Int.reducePow,e2,Int.toNat_natCast]
 by_cases h0:m*i.size=0
 ·rw [zc_empty (by rw [hzs];exact h0)]
  simp only [h0,if_true,Sem.run_pure,Result.andThen_ok]
  cases base with
  | none=>rfl
  | some a=>simp only [Sem.run_bind,Sem.run_pure]
 ·simp only [h0,if_false,zeroValue,typeInfo,Sem.run_bind,run_program,Result.andThen_ok,hi,hz,Sem.run_pure]
  cases base with
  | none=>rfl
  | some a=>simp only [Sem.run_bind,Sem.run_pure]
set_option maxHeartbeats 1000000 in
theorem grow_zeros {P:Program} {w:World} {t tx ty e:TypeId} {i:TypeInfo} {z:Value} {base:Option Addr} {sLen sCap m:Nat} {old:Array Value} {k k':IntKind}
  (ht:P.underlying t=some (.slice e)) (hi:P.info? e=some i) (hz:i.zero=some z) (hzs:z.cells.size=i.size) (hdx:P.underlying tx=some (.int k)) (hm:(m:Int)≤9223372036854775807) (hb:(m:Int)*i.bytes≤281474976710656)
  (ho:∀ w':World,w'.heap=w.heap→(Builtin.firstCells i.size sLen (.slice base sLen sCap)).run P w'=.ok old w')
  (hfit:¬ (sLen+m≤sCap)) (hb0:0<i.bytes) (hb2:(sLen+m)*i.bytes≤140737488355328) :
  ∃ cap,sLen+m≤cap∧(Builtin.append_ #[t,tx] ty #[.slice base sLen sCap,.int k' m]).run P w=.ok (.slice (some ⟨w.heap.size,0,none⟩) (sLen+m) cap) (w.drew.alloc (.cells (old++Builtin.zeroCells z.cells m++Builtin.zeroCells z.cells (cap-(sLen+m))) e)):=by
 have e1:IntKind.i64.wrap (m:Int)=m:=by rw [IntKind.wrap_i64];omega
 have e2:¬ (281474976710656<(m:Int)*(i.bytes:Int)):=by omega
 have e3:¬ ((m:Int)<0):=by omega
 have h1:=growslice_fits (need:=sLen+m) (old:=sCap) (bytes:=i.bytes) (by omega) hb2
 have h2:¬ (281474976710656<Builtin.nextslicecap (sLen+m) sCap*i.bytes):=by omega
 have h3:¬ (i.bytes=0):=by omega
 have h4:sLen+m≤(sLen+m)*i.bytes:=Nat.le_mul_of_pos_right _ hb0
 have h5:¬ (IntKind.i64.max<((sLen+m:Nat):Int)):=by
  have:IntKind.i64.max=9223372036854775807:=by decide
  rw [this];omega
 refine ⟨(Question.appendCap (sLen+m) sCap e).cut (w.tape w.drawn (.appendCap (sLen+m) sCap e)),by simp [Question.cut],?_⟩
 have key:∀ (w':World) (n:Nat),(askRoom n).run P w'=.ok () w':=by
  intro w' n;unfold askRoom;split <;> rfl
 unfold Builtin.append_
 simp only [List.getElem?_toArray,List.getElem?_cons_zero,List.getElem?_cons_succ]
 simp only [Sem.run_bind,run_underlying ht,run_underlying hdx,Result.andThen_ok,sizeOf,typeInfo,run_program,hi,Sem.run_pure,Bool.false_eq_true,if_false,hfit,if_true,Bool.not_true,asInt,asIntOf,e1,e3,gt_iff_lt,Int.reducePow,e2,Int.toNat_natCast,h3,h5,false_and,Nat.reducePow,h2]
 simp only [run_choose,Question.forced,Bool.false_eq_true,if_false,Result.andThen_ok,key,zeroValue,typeInfo,Sem.run_bind,run_program,hi,hz,Sem.run_pure]
 rw [show ({ heap:=w.heap,tape:=w.tape,drawn:=w.drawn+1,os:=w.os,output:=w.output }:World)=w.drew from rfl,ho w.drew rfl]
 simp only [Result.andThen_ok]
 by_cases h0:m*i.size=0
 ·rw [zc_empty (m:=m) (by rw [hzs];exact h0)]
  simp only [h0,if_true,Sem.run_pure,Result.andThen_ok,newRow,Sem.run_bind,run_newObj]
  rfl
 ·simp only [h0,if_false,Sem.run_bind,run_program,Result.andThen_ok,hi,hz,Sem.run_pure,newRow,run_newObj]
  rfl
inductive Src (P:Program) (tx:TypeId) (i:TypeInfo) (z:Value) (w:World):Value→Nat→Array Value→Prop where
 | vals {dx:TypeDesc} {x:Value} {m:Nat} {news:Array Value} (hdx:P.underlying tx=some dx) (hk:(∃ e',dx=.slice e')∨dx=.string) (hl:(Builtin.lenOf x).run P w=.ok m w)
   (hf:∀ w':World,w'.heap=w.heap→(Builtin.firstCells i.size m x).run P w'=.ok news w'):Src P tx i z w x m news
 | zeros {k k':IntKind} {m:Nat} (hdx:P.underlying tx=some (.int k)) (hm:(m:Int)≤9223372036854775807) (hb:(m:Int)*i.bytes≤281474976710656):Src P tx i z w (.int k' m) m (Builtin.zeroCells z.cells m)
theorem run_fit {P:Program} {w:World} {t tx ty e:TypeId} {i:TypeInfo} {z x:Value} {base:Option Addr} {sLen sCap m:Nat} {news:Array Value}
  (ht:P.underlying t=some (.slice e)) (hi:P.info? e=some i) (hz:i.zero=some z) (hzs:z.cells.size=i.size) (hs:Src P tx i z w x m news) (hfit:sLen+m≤sCap) :
  (Builtin.append_ #[t,tx] ty #[.slice base sLen sCap,x]).run P w=match base with
   | some a=>((storeCells (a.add (sLen*i.size)) news.toList).run P w).andThen fun _ w'=>.ok (.slice base (sLen+m) sCap) w'
   | none=>.ok (.slice none (sLen+m) sCap) w:=by
 cases hs with
 | vals hdx hk hl hf=>exact fit_vals ht hi hdx hk hl hf hfit
 | zeros hdx hm hb=>exact fit_zeros ht hi hz hzs hdx hm hb hfit
theorem run_grow {P:Program} {w:World} {t tx ty e:TypeId} {i:TypeInfo} {z x:Value} {base:Option Addr} {sLen sCap m:Nat} {old news:Array Value}
  (ht:P.underlying t=some (.slice e)) (hi:P.info? e=some i) (hz:i.zero=some z) (hzs:z.cells.size=i.size) (hs:Src P tx i z w x m news)
  (ho:∀ w':World,w'.heap=w.heap→(Builtin.firstCells i.size sLen (.slice base sLen sCap)).run P w'=.ok old w')
  (hfit:¬ (sLen+m≤sCap)) (hb0:0<i.bytes) (hb:(sLen+m)*i.bytes≤140737488355328) :
  ∃ cap,sLen+m≤cap∧(Builtin.append_ #[t,tx] ty #[.slice base sLen sCap,x]).run P w=.ok (.slice (some ⟨w.heap.size,0,none⟩) (sLen+m) cap) (w.drew.alloc (.cells (old++news++Builtin.zeroCells z.cells (cap-(sLen+m))) e)):=by
 cases hs with
 | vals hdx hk hl hf=>exact grow_vals ht hi hz hdx hk hl hf ho hfit hb0 hb
 | zeros hdx hm hb1=>exact grow_zeros ht hi hz hzs hdx hm hb1 ho hfit hb0 hb
end Go.XM
end
section
namespace Go.XM
open Go.RowKit
def ren (r d:Nat):Owner→Owner
 | .root k=>if k=r then .root d else .root k
 | .cell k i j=>if k=r then .cell d i j else .cell k i j
theorem Good.rename {Γ:Ctx} {g:G} {σ:St} {a:Act} {w:World} (hg:Good Γ g σ a w) {r d sz:Nat} {l:List (List RC)} (hr:σ.O r=.row sz l) (hd:σ.O d=.fresh) :
  ∃ g':G,Good Γ g' ⟨σ.T,upd [(d,.row sz l),(r,.dead)] σ.O⟩ a w∧g'.Im=g.Im∧(∀ e n u,cvR w g σ.O (.vw r e n) u→cvR w g' (upd [(d,.row sz l),(r,.dead)] σ.O) (.vw d e n) u):=by
 have hrd:r≠d:=by intro e;rw [e,hd] at hr;cases hr
 let O':=upd [(d,RS.row sz l),(r,RS.dead)] σ.O
 have hOd:O' d=.row sz l:=by simp [O',upd]
 have hOr:O' r=.dead:=by simp [O',upd,hrd]
 have hO:∀ k,k≠d→k≠r→O' k=σ.O k:=fun k h1 h2=>by simp [O',upd,h1,h2]
 let g':G:={ β:=upF g.β d (g.β r),own:=fun b=>(g.own b).map (ren r d),Im:=g.Im }
 have hle:Le w g σ.O w g' O':=by
  refine ⟨fun b hb=>⟨hb,rfl⟩,fun k hk=>?_,fun k sz' l' hk hr'=>?_,fun k l' hk hr'=>?_⟩
  ·by_cases e1:k=d
   ·rw [e1,hOd];simp
   ·by_cases e2:k=r
    ·rw [e2,hOr];simp
    ·rw [hO k e1 e2];exact hk
  ·have hkd:k≠d:=fun e=>hk (e ▸ hd)
   by_cases e2:k=r
   ·rw [e2,hOr] at hr';cases hr'
   ·rw [hO k hkd e2] at hr'
    exact ⟨sz',l',hr',rfl,Nat.le_refl _,upF_ne hkd,fun b _ c hc=>⟨c,hc,rfl⟩⟩
  ·have hkd:k≠d:=fun e=>hk (e ▸ hd)
   by_cases e2:k=r
   ·rw [e2,hOr] at hr';cases hr'
   ·rw [hO k hkd e2] at hr'
    exact ⟨l',hr',upF_ne hkd⟩
 have hgr:=hg.O r
 rw [hr] at hgr
 refine ⟨g',hg.step hle (fun k=>?_) (fun b hb=>⟨(hg.im b hb).1,by show (g.own b).map _=none;rw [(hg.im b hb).2];rfl⟩) rfl rfl rfl (Nat.le_refl _) (fun _ _ _=>rfl) (fun b o ho=>?_) (fun b hb=>.inl hb),rfl,?_⟩
 ·show rsR w g' O' k (O' k)
  by_cases e1:k=d
  ·subst e1
   rw [hOd]
   show match g'.β k with | none=>_ | some b=>_
   simp only [rsR] at hgr
   simp only [g',upF_same]
   cases hb:g.β r with
   | none=>simp only [hb] at hgr;exact hgr
   | some b =>
    simp only [hb] at hgr ⊢
    obtain ⟨c,h2,h3,h4,h6,h5⟩:=hgr
    refine ⟨c,by rw [h2];simp [ren],h3,h4,h6,fun i e j rc hi hj=>?_⟩
    obtain ⟨u,a1,a2,a3⟩:=h5 i e j rc hi hj
    refine ⟨u,a1,a2,?_⟩
    cases rc with
    | s x=>exact a3
    | hole=>trivial
    | o sz2 l2 =>
     rcases a3 with a3 | ⟨b2,cap2,c2,z1,z2,z3,z4⟩
     ·exact .inl a3
     ·exact .inr ⟨b2,cap2,c2,z1,z2,by show (g.own b2).map _=_;rw [z3];simp [ren],z4⟩
  ·by_cases e2:k=r
   ·rw [e2,hOr];trivial
   ·rw [hO k e1 e2]
    refine hle.keep (upF_ne e1) (fun b hb=>⟨rfl,?_⟩) (hg.O k)
    show (g.own b).map _=_
    rcases hb with hb | ⟨i,j,hb⟩ <;> rw [hb] <;> simp [ren,e2]
 ·have ho':(g.own b).map (ren r d)=some o:=ho
  rw [Option.map_eq_some_iff] at ho'
  obtain ⟨o',h1,_⟩:=ho'
  exact ⟨hg.lt b o' h1,.inr ⟨o',h1⟩⟩
 ·intro e n u hu
  show cvR w g' O' (.vw d e n) u
  simp only [cvR,hr] at hu
  simp only [cvR,hOd,g',upF_same]
  exact hu
theorem Good.nilRoot {Γ:Ctx} {g:G} {σ:St} {a:Act} {w:World} (hg:Good Γ g σ a w) {d:Nat} (sz:Nat) (hd:σ.O d=.fresh) :
  ∃ g':G,Good Γ g' ⟨σ.T,upd [(d,.row sz [])] σ.O⟩ a w∧g'.Im=g.Im∧cvR w g' (upd [(d,.row sz [])] σ.O) (.vw d 0 0) (.slice none 0 0):=by
 let g':G:={ β:=upF g.β d none,own:=g.own,Im:=g.Im }
 have hO:∀ k,k≠d→upd [(d,RS.row sz [])] σ.O k=σ.O k:=fun k h1=>by simp [upd,h1]
 have hOd:upd [(d,RS.row sz [])] σ.O d=.row sz []:=by simp [upd]
 have hle:Le w g σ.O w g' (upd [(d,.row sz [])] σ.O):=by
  refine ⟨fun b hb=>⟨hb,rfl⟩,fun k hk=>?_,fun k sz' l' hk hr'=>?_,fun k l' hk hr'=>?_⟩
  ·have hkd:k≠d:=fun e=>hk (e ▸ hd)
   rw [hO k hkd];exact hk
  ·have hkd:k≠d:=fun e=>hk (e ▸ hd)
   rw [hO k hkd] at hr'
   exact ⟨sz',l',hr',rfl,Nat.le_refl _,upF_ne hkd,fun b _ c hc=>⟨c,hc,rfl⟩⟩
  ·have hkd:k≠d:=fun e=>hk (e ▸ hd)
   rw [hO k hkd] at hr'
   exact ⟨l',hr',upF_ne hkd⟩
 refine ⟨g',hg.step hle (fun k=>?_) hg.im rfl rfl rfl (Nat.le_refl _) (fun _ _ _=>rfl) (fun b o ho=>⟨hg.lt b o ho,.inr ⟨o,ho⟩⟩) (fun b hb=>.inl hb),rfl,?_⟩
 ·by_cases e1:k=d
  ·subst e1
   rw [hOd]
   show match g'.β k with | none=>_ | some b=>_
   simp [g']
  ·rw [hO k e1]
   exact hle.keep (upF_ne e1) (fun b _=>⟨rfl,rfl⟩) (hg.O k)
 ·simp [cvR,hOd,g']
def Fits (g:G) (w:World) (sz:Nat) (L:List (List RC)) (news:Array Value):Prop :=
 news.size=L.length*sz∧(∀ e∈L,e.length=sz)∧(∀ u∈news.toList,u.oneCell'=true) ∧
 ∀ (i:Nat) (e:List RC) (j:Nat) (rc:RC),L[i]?=some e→e[j]?=some rc→∃ u,news[i*sz+j]?=some u∧∀ (w':World) (g':G) (r i' j':Nat),(∀ b,g.Im b→g'.Im b∧w'.heap[b]?=w.heap[b]?)→rcR w' g' r i' j' rc u
theorem size_zc (z:Array Value) (n:Nat):(Builtin.zeroCells z n).size=n*z.size:=by simp [Builtin.zeroCells]
theorem Good.appFit {P:Program} {Γ:Ctx} {g:G} {σ:St} {a:Act} {w:World} (hg:Good Γ g σ a w) {d:Nat} {l L:List (List RC)} {t tx ty e:TypeId} {i:TypeInfo} {z x s:Value} {news:Array Value}
  (ht:P.underlying t=some (.slice e)) (hi:P.info? e=some i) (hz:i.zero=some z) (hzs:z.cells.size=i.size) (hO:σ.O d=.row i.size l) (hs:cvR w g σ.O (.vw d 0 l.length) s)
  (hsrc:Src P tx i z w x L.length news) (hfit:Fits g w i.size L news) (cap:Nat) (base:Option Addr) (hsv:s=.slice base l.length cap) (hroom:l.length+L.length≤cap) :
  ∃ u w' g',(Builtin.append_ #[t,tx] ty #[s,x]).run P w=.ok u w'∧Good Γ g' ⟨σ.T,upd [(d,.row i.size (l++L))] σ.O⟩ a w'∧cvR w' g' (upd [(d,.row i.size (l++L))] σ.O) (.vw d 0 (l.length+L.length)) u:=by
 obtain ⟨f1,f2,f3,f4⟩:=hfit
 have hOd:upd [(d,RS.row i.size (l++L))] σ.O d=.row i.size (l++L):=by simp [upd]
 have hOk:∀ k,k≠d→upd [(d,RS.row i.size (l++L))] σ.O k=σ.O k:=fun k h=>by simp [upd,h]
 have hrow:=hg.O d
 rw [hO] at hrow
 simp only [rsR] at hrow
 subst hsv
 have hrun:=run_fit (P:=P) (w:=w) (ty:=ty) (base:=base) (sLen:=l.length) (sCap:=cap) ht hi hz hzs hsrc hroom
 cases hβ:g.β d with
 | none =>
  have hs':=hs
  simp only [cvR,hO,hβ] at hs' hrow
  obtain ⟨_,h2,a0,h3⟩:=hs'
  subst hrow
  cases h3
  have hL:L=[]:=by cases L with | nil=>rfl | cons=>simp at hroom
  subst hL
  have hn0:news=#[]:=Array.eq_empty_of_size_eq_zero (by rw [f1];simp)
  subst hn0
  have hrun':(Builtin.append_ #[t,tx] ty #[Value.slice base ([]:List (List RC)).length 0,x]).run P w=.ok (.slice base 0 0) w:=by
   rw [hrun]
   cases base with
   | none=>rfl
   | some b0=>rfl
  refine ⟨_,w,g,hrun',?_,?_⟩
  ·have:upd [(d,RS.row i.size ([]++[]))] σ.O=σ.O:=by
    funext k;by_cases e:k=d
    ·subst e;simp [upd,hO]
    ·simp [upd,e]
   rw [this];exact hg
  ·have hOd':upd [(d,RS.row i.size [])] σ.O d=.row i.size []:=by simp [upd]
   simp [cvR,hOd',hβ]
 | some b =>
  have hs':=hs
  simp only [cvR,hO,hβ] at hs' hrow
  obtain ⟨cp,c,off,h1,h0,h2,h3,h4,h5⟩:=hs'
  cases h1
  obtain ⟨c',q2,q3,q4,q6,q5⟩:=hrow
  obtain rfl:=h4.uniq q3
  simp only at hrun
  have hns:news.size=L.length*i.size:=f1
  have hsz:c.size=cap*i.size:=by simpa using h5
  have hle2:l.length*i.size+L.length*i.size≤c.size:=by
   rw [hsz,← Nat.add_mul];exact Nat.mul_le_mul_right _ hroom
  have key:∃ w',(storeCells ((⟨b,off,none⟩:Addr).add (l.length*i.size)) news.toList).run P w=.ok () w'∧Wr w w' b c (setsA c (l.length*i.size) news.toList):=by
   rcases h0 with h0 | h0
   ·have hL0:L.length=0:=by omega
    have hnil:news.toList=[]:=by
     apply List.eq_nil_of_length_eq_zero
     simp [hns,hL0]
    rw [hnil]
    exact ⟨w,by simp [storeCells],⟨h4,h4,rfl,rfl,fun _ _=>rfl,rfl,rfl,rfl⟩⟩
   ·obtain ⟨w',k1,k2⟩:=run_storeCells (P:=P) (off:=l.length*i.size) news.toList 0 w c h4 (by simp [hns];omega) f3
    refine ⟨w',?_,by simpa using k2⟩
    rw [add_mk,h0,Nat.zero_mul,Nat.zero_add]
    exact k1
  obtain ⟨w',k1,k2⟩:=key
  rw [k1] at hrun
  refine ⟨_,w',g,hrun,hg.write k2 q2 _ (.inr ⟨_,l,_,hO,rfl,by simp⟩) fun hle=>?_,?_⟩
  ·show match g.β d with | none=>_ | some b=>_
   rw [hβ]
   refine ⟨_,q2,k2.new,?_,?_,fun i1 e1 j rc hi1 hj=>?_⟩
   ·intro e1 he1
    rcases List.mem_append.1 he1 with h | h
    ·exact q4 e1 h
    ·exact f2 e1 h
   ·rw [k2.sz,List.length_append,Nat.add_mul];exact hle2
   ·rw [setsA_get _ _ _ _ (by simp [hns];omega)]
    simp only [Array.length_toList,hns]
    rw [List.getElem?_append] at hi1
    split at hi1
    ·rename_i hlt
     have hjs:j<i.size:=by have:=idx_lt hj;rwa [q4 e1 (List.mem_of_getElem? hi1)] at this
     have:i1*i.size+j<l.length*i.size:=by
      have:=Nat.mul_le_mul_right i.size hlt
      rw [Nat.succ_mul] at this;omega
     rw [if_neg (by omega)]
     obtain ⟨u,a1,a2,a3⟩:=q5 i1 e1 j rc hi1 hj
     refine ⟨u,a1,a2,?_⟩
     cases rc with
     | s y=>exact spR.mono (p:=y) a3 hle.im
     | hole=>trivial
     | o sz2 l2 =>
      rcases a3 with hu | ⟨b2,cap2,c2,z1,z2,z3,z4,z5,z6,z7⟩
      ·exact .inl hu
      ·have hb2:b2≠b:=by intro e;rw [e,q2] at z3;cases z3
       exact .inr ⟨b2,cap2,c2,z1,z2,z3,z4.congr (k2.other b2 hb2),z5,z6,fun i e j p hi hj=>let ⟨u,y1,y2⟩:=z7 i e j p hi hj;⟨u,y1,y2.mono hle.im⟩⟩
    ·rename_i hge
     have hjs:j<i.size:=by have:=idx_lt hj;rwa [f2 e1 (List.mem_of_getElem? hi1)] at this
     have hlt2:=idx_lt hi1
     obtain ⟨u,a1,a2⟩:=f4 (i1-l.length) e1 j rc hi1 hj
     have e1':i1*i.size+j-l.length*i.size=(i1-l.length)*i.size+j:=by
      have:i1*i.size=l.length*i.size+(i1-l.length)*i.size:=by rw [← Nat.add_mul];congr 1;omega
      omega
     have hge':l.length*i.size≤i1*i.size:=Nat.mul_le_mul_right _ (by omega)
     have hlt3:(i1-l.length)*i.size+j<L.length*i.size:=by
      have:=Nat.mul_le_mul_right i.size hlt2
      rw [Nat.succ_mul] at this;omega
     rw [if_pos (by omega),e1']
     refine ⟨u,by simpa using a1,?_,a2 w' g d i1 j hle.im⟩
     exact f3 u (by
      have:=Array.mem_of_getElem? a1
      simpa using this)
  ·simp only [cvR,hOd,hβ]
   exact ⟨cap,_,off,rfl,h0,hroom,by simp,k2.new,by rw [k2.sz];simpa using hsz⟩
theorem row_old {P:Program} {g:G} {O:Nat→RS} {w:World} {d sz:Nat} {l:List (List RC)} {s:Value} (hO:O d=.row sz l) (hrow:rsR w g O d (.row sz l)) (hs:cvR w g O (.vw d 0 l.length) s) :
  (∃ base cap,s=.slice base l.length cap∧l.length≤cap)∧(∀ e∈l,e.length=sz)∧∃ c:Nat→Value,
   (∀ w':World,w'.heap=w.heap→(Builtin.firstCells sz l.length s).run P w'=.ok ((List.range (l.length*sz)).map c).toArray w') ∧
   ∀ (i1:Nat) (e1:List RC) (j:Nat) (rc:RC),l[i1]?=some e1→e1[j]?=some rc→(c (i1*sz+j)).oneCell'=true∧rcR w g d i1 j rc (c (i1*sz+j)):=by
 simp only [rsR] at hrow
 simp only [cvR,hO] at hs
 cases hβ:g.β d with
 | none =>
  simp only [hβ] at hs hrow
  obtain ⟨_,h2,a0,h3⟩:=hs
  subst hrow
  refine ⟨⟨a0,0,h3,by simp⟩,by simp,fun _=>undef,fun w' _=>?_,fun i1 e1 j rc h _=>by simp at h⟩
  rw [h3]
  cases a0 with
  | none=>simp [Builtin.firstCells]
  | some b0 =>
   obtain ⟨bb,bo,bf⟩:=b0
   simp [Builtin.firstCells,loadCells,loadCellsFrom]
 | some b =>
  simp only [hβ] at hs hrow
  obtain ⟨cp,c,off,h1,h0,h2,h3,h4,h5⟩:=hs
  obtain ⟨c',q2,q3,q4,q6,q5⟩:=hrow
  obtain rfl:=h4.uniq q3
  refine ⟨⟨_,cp,h1,h2⟩,q4,fun k=>(c[k]?).getD undef,fun w' hw'=>?_,fun i1 e1 j rc hi1 hj=>?_⟩
  ·rw [h1]
   simp only [Builtin.firstCells]
   refine run_loadCells fun j hj=>?_
   have hoff:off=0:=by
    rcases h0 with h0 | h0
    ·have:l.length=0:=by omega
     rw [this] at hj;simp at hj
    ·simpa using h0
   have hj2:j<c.size:=by omega
   have:w'.cell? ⟨b,off+j,none⟩=c[j]?:=by
    rw [cell_congr (w:=w) (w':=w') (by rw [hw']),hoff,Nat.zero_add];exact h4.cell j
   rw [this,Array.getElem?_eq_getElem hj2];rfl
  ·obtain ⟨u,a1,a2,a3⟩:=q5 i1 e1 j rc hi1 hj
   simp only [a1,Option.getD_some]
   exact ⟨a2,a3⟩
theorem arr_get {sz:Nat} {l L:List (List RC)} {oc:Nat→Value} {news rest:Array Value} (hl:∀ e∈l,e.length=sz) (hL:∀ e∈L,e.length=sz) (hn:news.size=L.length*sz)
  {i j:Nat} {e:List RC} {rc:RC} (hi:(l++L)[i]?=some e) (hj:e[j]?=some rc) :
  (l[i]?=some e∧(((List.range (l.length*sz)).map oc).toArray++news++rest)[i*sz+j]?=some (oc (i*sz+j))) ∨
  (L[i-l.length]?=some e∧(((List.range (l.length*sz)).map oc).toArray++news++rest)[i*sz+j]?=news[(i-l.length)*sz+j]?):=by
 have hos:(((List.range (l.length*sz)).map oc).toArray).size=l.length*sz:=by simp
 rw [List.getElem?_append] at hi
 split at hi
 ·rename_i hlt
  refine .inl ⟨hi,?_⟩
  have hjs:j<sz:=by have:=idx_lt hj;rwa [hl e (List.mem_of_getElem? hi)] at this
  have h1:i*sz+j<l.length*sz:=by
   have:=Nat.mul_le_mul_right sz hlt
   rw [Nat.succ_mul] at this;omega
  rw [Array.append_assoc,Array.getElem?_append,if_pos (by rw [hos];exact h1)]
  simp [h1]
 ·rename_i hge
  refine .inr ⟨hi,?_⟩
  have hjs:j<sz:=by have:=idx_lt hj;rwa [hL e (List.mem_of_getElem? hi)] at this
  have hlt2:=idx_lt hi
  have e1:i*sz+j-l.length*sz=(i-l.length)*sz+j:=by
   have:i*sz=l.length*sz+(i-l.length)*sz:=by rw [← Nat.add_mul];congr 1;omega
   omega
  have hge':l.length*sz≤i*sz:=Nat.mul_le_mul_right _ (by omega)
  have hlt3:(i-l.length)*sz+j<L.length*sz:=by
   have:=Nat.mul_le_mul_right sz hlt2
   rw [Nat.succ_mul] at this;omega
  rw [Array.append_assoc,Array.getElem?_append,if_neg (by rw [hos];omega),hos,e1,Array.getElem?_append,if_pos (by rw [hn];exact hlt3)]
theorem Good.appGrow {P:Program} {Γ:Ctx} {g:G} {σ:St} {a:Act} {w:World} (hg:Good Γ g σ a w) {r d:Nat} {l L:List (List RC)} {t tx ty e:TypeId} {i:TypeInfo} {z x:Value} {base:Option Addr} {cap:Nat} {news:Array Value}
  (ht:P.underlying t=some (.slice e)) (hi:P.info? e=some i) (hz:i.zero=some z) (hzs:z.cells.size=i.size) (hO:σ.O r=.row i.size l) (hd:σ.O d=.fresh) (hs:cvR w g σ.O (.vw r 0 l.length) (.slice base l.length cap))
  (hsrc:Src P tx i z w x L.length news) (hfit:Fits g w i.size L news) (hroom:¬ (l.length+L.length≤cap)) (hb0:0<i.bytes) (hb:(l.length+L.length)*i.bytes≤140737488355328) :
  ∃ u w' g',(Builtin.append_ #[t,tx] ty #[.slice base l.length cap,x]).run P w=.ok u w'∧Good Γ g' ⟨σ.T,upd [(d,.row i.size (l++L)),(r,.dead)] σ.O⟩ a w'∧cvR w' g' (upd [(d,.row i.size (l++L)),(r,.dead)] σ.O) (.vw d 0 (l.length+L.length)) u:=by
 obtain ⟨f1,f2,f3,f4⟩:=hfit
 have hrd:r≠d:=by intro e;rw [e,hd] at hO;cases hO
 have hgr:=hg.O r
 rw [hO] at hgr
 obtain ⟨-,hesz,oc,ho,horc⟩:=row_old (P:=P) hO hgr hs
 obtain ⟨cp,hcp,hrun⟩:=run_grow (P:=P) (w:=w) (ty:=ty) (base:=base) (sLen:=l.length) (sCap:=cap) ht hi hz hzs hsrc ho hroom hb0 hb
 generalize harr:((List.range (l.length*i.size)).map oc).toArray++news++Builtin.zeroCells z.cells (cp-(l.length+L.length))=arr at hrun
 let w':=w.drew.alloc (.cells arr e)
 let O':=upd [(d,RS.row i.size (l++L)),(r,RS.dead)] σ.O
 have hOd:O' d=.row i.size (l++L):=by simp [O',upd]
 have hOr:O' r=.dead:=by simp [O',upd,hrd]
 have hOk:∀ k,k≠d→k≠r→O' k=σ.O k:=fun k h1 h2=>by simp [O',upd,h1,h2]
 let g':G:={ β:=upF g.β d (some w.heap.size),own:=upF (fun b=>(g.own b).map (ren r d)) w.heap.size (some (.root d)),Im:=g.Im }
 have hB:Blk w' w.heap.size arr:=Blk.new w.drew arr e
 have hoh:∀ k,k<w.heap.size→w'.heap[k]?=w.heap[k]?:=fun k hk=>Below.heap_alloc w.drew _ k hk
 have hasz:arr.size=cp*i.size:=by
  rw [← harr]
  simp only [Array.size_append,List.size_toArray,List.length_map,List.length_range,f1,size_zc,hzs]
  rw [← Nat.add_mul,← Nat.add_mul];congr 1;omega
 have hle:Le w g σ.O w' g' O':=by
  refine ⟨fun b hb=>⟨hb,hoh b (hg.im b hb).1⟩,fun k hk=>?_,fun k sz' l' hk hr'=>?_,fun k l' hk hr'=>?_⟩
  ·by_cases e1:k=d
   ·rw [e1,hOd];simp
   ·by_cases e2:k=r
    ·rw [e2,hOr];simp
    ·rw [hOk k e1 e2];exact hk
  ·have hkd:k≠d:=fun e=>hk (e ▸ hd)
   by_cases e2:k=r
   ·rw [e2,hOr] at hr';cases hr'
   ·rw [hOk k hkd e2] at hr'
    exact ⟨sz',l',hr',rfl,Nat.le_refl _,upF_ne hkd,fun b _ c hc=>⟨c,hc.congr (hoh b hc.lt),rfl⟩⟩
  ·have hkd:k≠d:=fun e=>hk (e ▸ hd)
   by_cases e2:k=r
   ·rw [e2,hOr] at hr';cases hr'
   ·rw [hOk k hkd e2] at hr'
    exact ⟨l',hr',upF_ne hkd⟩
 have hown:∀ b,b<w.heap.size→g'.own b=(g.own b).map (ren r d):=fun b hb=>upF_ne (f:=fun b=>(g.own b).map (ren r d)) (Nat.ne_of_lt hb)
 have hrs:rsR w' g' O' d (.row i.size (l++L)):=by
  show match g'.β d with | none=>_ | some b=>_
  simp only [g',upF_same]
  refine ⟨arr,trivial,hB,?_,?_,fun i1 e1 j rc hi1 hj=>?_⟩
  ·intro e1 he1
   rcases List.mem_append.1 he1 with h | h
   ·exact hesz e1 h
   ·exact f2 e1 h
  ·rw [hasz,List.length_append];exact Nat.mul_le_mul_right _ hcp
  ·rcases arr_get (oc:=oc) (rest:=Builtin.zeroCells z.cells (cp-(l.length+L.length))) hesz f2 f1 hi1 hj with ⟨h1,h2⟩ | ⟨h1,h2⟩
   ·rw [harr] at h2
    obtain ⟨a1,a2⟩:=horc i1 e1 j rc h1 hj
    refine ⟨_,h2,a1,?_⟩
    cases rc with
    | s y=>exact spR.mono (p:=y) a2 hle.im
    | hole=>trivial
    | o sz2 l2 =>
     rcases a2 with hu | ⟨b2,cap2,c2,z1,z2,z3,z4,z5,z6,z7⟩
     ·exact .inl hu
     ·have hlt:=hg.lt b2 _ z3
      refine .inr ⟨b2,cap2,c2,z1,z2,?_,z4.congr (hoh b2 hlt),z5,z6,fun i e j p hi hj=>let ⟨u,y1,y2⟩:=z7 i e j p hi hj;⟨u,y1,y2.mono hle.im⟩⟩
      show g'.own b2=_
      rw [hown b2 hlt,z3];simp [ren]
   ·rw [harr] at h2
    obtain ⟨u,a1,a2⟩:=f4 _ e1 j rc h1 hj
    refine ⟨u,by rw [h2];exact a1,f3 u ?_,a2 w' g' d i1 j hle.im⟩
    have:=Array.mem_of_getElem? a1
    simpa using this
 refine ⟨_,w',g',hrun,hg.step hle (fun k=>?_) (fun b hb=>?_) rfl rfl rfl (by simp [w']) (fun b hb _=>hoh b hb) (fun b o ho=>?_) (fun b hb=>.inl hb),?_⟩
 ·show rsR w' g' O' k (O' k)
  by_cases e1:k=d
  ·subst e1;rw [hOd];exact hrs
  ·by_cases e2:k=r
   ·rw [e2,hOr];trivial
   ·rw [hOk k e1 e2]
    refine hle.keep (upF_ne e1) (fun b hb=>?_) (hg.O k)
    have hlt:b<w.heap.size:=by rcases hb with hb | ⟨i,j,hb⟩ <;> exact hg.lt b _ hb
    refine ⟨hoh b hlt,?_⟩
    rw [hown b hlt]
    rcases hb with hb | ⟨i,j,hb⟩ <;> rw [hb] <;> simp [ren,e2]
 ·have:=hg.im b hb
  refine ⟨by simp [w'];omega,?_⟩
  rw [hown b this.1,this.2];rfl
 ·by_cases e1:b=w.heap.size
  ·subst e1;exact ⟨by simp [w'],.inl (Nat.le_refl _)⟩
  ·have ho':(g.own b).map (ren r d)=some o:=by
    have:upF (fun b=>(g.own b).map (ren r d)) w.heap.size (some (.root d)) b=some o:=ho
    rwa [upF_ne e1] at this
   rw [Option.map_eq_some_iff] at ho'
   obtain ⟨o',h1,_⟩:=ho'
   have:=hg.lt b o' h1
   exact ⟨by simp [w'];omega,.inr ⟨o',h1⟩⟩
 ·show cvR w' g' O' (.vw d 0 (l.length+L.length)) _
  simp only [cvR,hOd,g',upF_same]
  exact ⟨cp,arr,0,rfl,.inr (by simp),hcp,by simp,hB,by simpa using hasz⟩
theorem Good.app {P:Program} {Γ:Ctx} {g:G} {σ:St} {a:Act} {w:World} (hg:Good Γ g σ a w) {r d:Nat} {l L:List (List RC)} {t tx ty e:TypeId} {i:TypeInfo} {z x s:Value} {news:Array Value}
  (ht:P.underlying t=some (.slice e)) (hi:P.info? e=some i) (hz:i.zero=some z) (hzs:z.cells.size=i.size) (hO:σ.O r=.row i.size l) (hd:σ.O d=.fresh) (hs:cvR w g σ.O (.vw r 0 l.length) s)
  (hsrc:Src P tx i z w x L.length news) (hfit:Fits g w i.size L news) (hb0:0<i.bytes) (hb:(l.length+L.length)*i.bytes≤140737488355328) :
  ∃ u w' g',(Builtin.append_ #[t,tx] ty #[s,x]).run P w=.ok u w'∧Good Γ g' ⟨σ.T,upd [(d,.row i.size (l++L)),(r,.dead)] σ.O⟩ a w'∧cvR w' g' (upd [(d,.row i.size (l++L)),(r,.dead)] σ.O) (.vw d 0 (l.length+L.length)) u:=by
 have hgr:=hg.O r
 rw [hO] at hgr
 obtain ⟨⟨base,cap,rfl,hlc⟩,-⟩:=row_old (P:=P) hO hgr hs
 by_cases hroom:l.length+L.length≤cap
 ·obtain ⟨g1,k1,k2,k3⟩:=hg.rename hO hd
  have hfit':Fits g1 w i.size L news:=by
   obtain ⟨f1,f2,f3,f4⟩:=hfit
   exact ⟨f1,f2,f3,fun i e j rc hi hj=>let ⟨u,a1,a2⟩:=f4 i e j rc hi hj;⟨u,a1,fun w' g' r i j h=>a2 w' g' r i j (fun b hb=>h b (by rw [k2];exact hb))⟩⟩
  obtain ⟨u,w',g',q1,q2,q3⟩:=k1.appFit (ty:=ty) ht hi hz hzs (by simp [upd]) (k3 _ _ _ hs) hsrc hfit' cap base rfl hroom
  refine ⟨u,w',g',q1,?_,?_⟩
  ·have:upd [(d,RS.row i.size (l++L))] (upd [(d,RS.row i.size l),(r,RS.dead)] σ.O)=upd [(d,RS.row i.size (l++L)),(r,RS.dead)] σ.O:=by
    funext k;simp only [upd];split <;> rfl
   rw [← this];exact q2
  ·have:upd [(d,RS.row i.size (l++L))] (upd [(d,RS.row i.size l),(r,RS.dead)] σ.O)=upd [(d,RS.row i.size (l++L)),(r,RS.dead)] σ.O:=by
    funext k;simp only [upd];split <;> rfl
   rw [← this];exact q3
 ·exact hg.appGrow ht hi hz hzs hO hd hs hsrc hfit hroom hb0 hb
end Go.XM
end
section
namespace Go.XM
open Go.RowKit
inductive Nh where
 | no
 | news (N:List (List SP))
 | own (b:Bool)
def srcOf (P:Program) (σ:St) (tx:TypeId) (e:TypeId) (i:TypeInfo) (x:Operand) (h:Nh):Option (List (List RC) × List (Nat × SV) × List (Nat × RS) × PC) :=
 match P.underlying tx with
 | some (.slice _)=>match rd P σ tx x with
  | some (.a (.c (.vw r e0 n)))=>match σ.O r,h with
   | .row sz l,.news N=>if sz=i.size then some (spRow N,evk σ x,[(r,.row sz l)],some ((l.drop e0).take n=spRow N)) else none
   | _,_=>none
  | some (.a (.c (.p (.sl sz N))))=>if sz=i.size then some (spRow N,evk σ x,[],none) else none
  | some (.a (.c (.nl _)))=>some ([],evk σ x,[],none)
  | some (.a (.c (.p (.v (.slice _ 0 _)))))=>some ([],evk σ x,[],none)
  | _=>none
 | some (.int _)=>match rd P σ tx x,zcs P e,h with
  | some (.a (.c (.p (.v (.int _ m))))),some ps,.own b=>if ps.length=i.size then some (List.replicate m.toNat (ps.map (zrc b)),evk σ x,[],some (0≤m∧m≤9223372036854775807∧m*i.bytes≤281474976710656)) else none
  | _,_,_=>none
 | _=>none
theorem firstCells_nil {P:Program} (sz:Nat) (w:World):(Builtin.firstCells sz 0 (.slice none 0 0)).run P w=.ok #[] w:=rfl
theorem firstCells_nil0 {P:Program} (sz:Nat) (a:Option Addr) (w:World) {cp:Nat}:(Builtin.firstCells sz 0 (.slice a 0 cp)).run P w=.ok #[] w:=by
 cases a with
 | none=>rfl
 | some b=>obtain ⟨bb,bo,bf⟩:=b;simp [Builtin.firstCells,loadCells,loadCellsFrom]
theorem srcOf_R {P:Program} {σ0 σ:St} {tx e:TypeId} {i:TypeInfo} {z:Value} {x:Operand} {h:Nh} {L:List (List RC)} {rt:List (Nat × SV)} {ro:List (Nat × RS)} {c:PC}
  (hi:P.info? e=some i) (hz:i.zero=some z) (hs:srcOf P σ0 tx e i x h=some (L,rt,ro,c)) (hc:c.holds) {Γ:Ctx} {g:G} {a:Act} {w:World} (hg:Good Γ g σ a w) (hrt:okL rt σ.T) (hro:okL ro σ.O) :
  ∃ news,Src P tx i z w (a.eval x) L.length news∧Fits g w i.size L news:=by
 unfold srcOf at hs
 split at hs
 ·rename_i e' htx
  split at hs
  ·rename_i r e0 n hx
   split at hs
   ·rename_i sz l N hO
    split at hs
    ·rename_i hsz
     cases hs
     have hN:(l.drop e0).take n=spRow N:=hc
     have hOr:σ.O r=.row sz l:=hro.1
     have hv:cvR w g σ.O (.vw r e0 n) (a.eval x):=rd_R hx hrt hg
     have hrow:=hg.O r
     rw [hOr] at hrow
     simp only [cvR,hOr] at hv
     simp only [rsR] at hrow
     have hlen:N.length=n∨(N.length<n):=by
      have:=congrArg List.length hN
      simp [spRow] at this;omega
     cases hβ:g.β r with
     | none =>
      simp only [hβ] at hv hrow
      obtain ⟨rfl,rfl,hv⟩:=hv
      have:N=[]:=by simpa [spRow] using hN.symm
      subst this
      obtain ⟨a0,hv⟩:=hv
      rw [hv]
      exact ⟨#[],.vals htx (.inl ⟨_,rfl⟩) rfl (fun w' _=>firstCells_nil0 _ _ _),by simp [spRow],by simp [spRow],by simp,fun i e j rc hi=>by simp [spRow] at hi⟩
     | some b =>
      simp only [hβ] at hv hrow
      obtain ⟨cap,cs,off,e1,e2,e3,e4,e5,e6⟩:=hv
      obtain ⟨cs',q2,q3,q4,q6,q5⟩:=hrow
      obtain rfl:=e5.uniq q3
      have hNn:N.length=n:=by
       have:=congrArg List.length hN
       simp [spRow] at this;omega
      have hcs:(e0+n)*sz≤cs.size:=by rw [e6];exact Nat.mul_le_mul_right _ (by omega)
      have hsum:(e0+n)*sz=e0*sz+n*sz:=Nat.add_mul _ _ _
      have hget:∀ (i1:Nat) (ee:List RC) (j:Nat) (rc:RC),(spRow N)[i1]?=some ee→ee[j]?=some rc→i1<n∧j<sz∧i1*sz+j<n*sz∧∃ u p,cs[e0*sz+(i1*sz+j)]?=some u∧u.oneCell'=true∧rc=.s p∧spR w g.Im p u:=by
       intro i1 ee j rc hi1 hj
       have hlt:i1<n:=by have:=idx_lt hi1;simpa [spRow,hNn] using this
       have hi1':=hi1
       rw [← hN,List.getElem?_take,if_pos hlt,List.getElem?_drop] at hi1'
       obtain ⟨u,a1,a2,a3⟩:=q5 (e0+i1) ee j rc hi1' hj
       have hjs:j<sz:=by have:=idx_lt hj;rwa [q4 ee (List.mem_of_getElem? hi1')] at this
       obtain ⟨e',p,k1,k2,rfl⟩:=spRow_get hi1 hj
       have h3:=Nat.mul_le_mul_right sz hlt
       rw [Nat.succ_mul] at h3
       refine ⟨hlt,hjs,by omega,u,p,?_,a2,rfl,a3⟩
       rw [Nat.add_mul,Nat.add_assoc] at a1;exact a1
      have hoff:n*sz≠0→off=e0*sz:=by
       intro h
       rcases e2 with e2 | e2
       ·have:n=0:=by omega
        rw [this] at h;simp at h
       ·exact e2
      have hone:∀ k,k<n*sz→∃ u,cs[e0*sz+k]?=some u:=fun k hk=>⟨_,Array.getElem?_eq_getElem (by omega)⟩
      have hone':∀ k,k<n*sz→∃ u,cs[e0*sz+k]?=some u∧u.oneCell'=true:=by
       intro k hk
       have hsz0:0<sz:=by rcases Nat.eq_zero_or_pos sz with h | h;· rw [h] at hk;simp at hk
                          ·exact h
       have hk1:k / sz<n:=(Nat.div_lt_iff_lt_mul hsz0).2 hk
       have hmem:(k / sz)<(spRow N).length:=by simp [spRow,hNn,hk1]
       obtain ⟨ee,hel⟩:∃ ee,(spRow N)[k / sz]?=some ee:=⟨_,List.getElem?_eq_getElem hmem⟩
       have hel':=hel
       rw [← hN,List.getElem?_take,if_pos hk1,List.getElem?_drop] at hel'
       have hlen2:=q4 _ (List.mem_of_getElem? hel')
       have hmod:k % sz<ee.length:=by rw [hlen2];exact Nat.mod_lt _ hsz0
       obtain ⟨_,_,_,u,p,y1,y2,_⟩:=hget _ _ _ _ hel (List.getElem?_eq_getElem hmod)
       rw [show k / sz*sz+k % sz=k by rw [Nat.mul_comm];exact Nat.div_add_mod k sz] at y1
       exact ⟨u,y1,y2⟩
      rw [e1]
      refine ⟨((List.range (n*sz)).map fun k=>(cs[e0*sz+k]?).getD undef).toArray,.vals htx (.inl ⟨_,rfl⟩) (by simp [Builtin.lenOf,spRow,hNn]) (fun w' hw'=>?_),?_,?_,?_,?_⟩
      ·simp only [Builtin.firstCells]
       rw [show (spRow N).length*i.size=n*sz by simp [spRow,hNn,hsz]]
       refine run_loadCells fun j hj=>?_
       obtain ⟨u,hu⟩:=hone j hj
       rw [cell_congr (w:=w) (w':=w') (by rw [hw']),hoff (by omega),e5.cell,hu];rfl
      ·simp [spRow,hNn,hsz]
      ·intro ee hee
       obtain ⟨k,hel⟩:=List.mem_iff_getElem?.1 hee
       have hk':k<n:=by have:=idx_lt hel;simpa [spRow,hNn] using this
       have hel':=hel
       rw [← hN,List.getElem?_take,if_pos hk',List.getElem?_drop] at hel'
       rw [← hsz];exact q4 _ (List.mem_of_getElem? hel')
      ·intro u hu
       simp only [List.mem_map,List.mem_range] at hu
       obtain ⟨k,hk,rfl⟩:=hu
       obtain ⟨u,y1,y2⟩:=hone' k hk
       rw [y1];exact y2
      ·intro i1 ee j rc hi1 hj
       obtain ⟨h1,h2,h3,u,p,y1,y2,rfl,y3⟩:=hget i1 ee j rc hi1 hj
       refine ⟨u,?_,fun w' g' r i' j' him=>spR.mono (p:=p) y3 him⟩
       rw [← hsz]
       simp [h3,y1]
    ·cases hs
   ·cases hs
  ·rename_i sz N hx
   split at hs
   ·rename_i hsz
    cases hs
    have hv:spR w g.Im (.sl sz N) (a.eval x):=rd_R hx hrt hg
    generalize hu:a.eval x=u at hv
    cases hv with
    | nil _ a0=>exact ⟨#[],.vals htx (.inl ⟨_,rfl⟩) rfl (fun w' _=>firstCells_nil0 _ _ _),by simp [spRow],by simp [spRow],by simp,fun i e j rc hi=>by simp [spRow] at hi⟩
    | sl b off cap _ _ us hb hcap hzz k1 k2 =>
     have hk:∀ k,k<N.length*sz→∃ u,w.cell? ⟨b,off+k,none⟩=some u∧u.oneCell'=true:=by
      intro k hk
      have hsz0:0<sz:=by rcases Nat.eq_zero_or_pos sz with h | h;· rw [h] at hk;simp at hk
                         ·exact h
      have hk1:k / sz<N.length:=(Nat.div_lt_iff_lt_mul hsz0).2 hk
      have hel:=List.getElem?_eq_getElem hk1
      have hl:=hzz _ (List.mem_of_getElem? hel)
      have hmod:k % sz<(N[k / sz]).length:=by rw [hl];exact Nat.mod_lt _ hsz0
      have y1:=k1 _ _ _ _ hel (List.getElem?_eq_getElem hmod)
      have y2:=k2 _ _ _ _ hel (List.getElem?_eq_getElem hmod)
      rw [Nat.add_assoc,show k / sz*sz+k % sz=k by rw [Nat.mul_comm];exact Nat.div_add_mod k sz] at y1
      exact ⟨_,y1,y2.one⟩
     refine ⟨((List.range (N.length*sz)).map fun k=>(w.cell? ⟨b,off+k,none⟩).getD undef).toArray,.vals htx (.inl ⟨_,rfl⟩) (by simp [Builtin.lenOf,spRow]) (fun w' hw'=>?_),?_,?_,?_,?_⟩
     ·simp only [Builtin.firstCells]
      rw [show (spRow N).length*i.size=N.length*sz by simp [spRow,hsz]]
      refine run_loadCells fun j hj=>?_
      obtain ⟨u,hu,_⟩:=hk j hj
      rw [cell_congr (w:=w) (w':=w') (by rw [hw']),hu];rfl
     ·simp [spRow,hsz]
     ·intro ee hee
      simp only [spRow,List.mem_map] at hee
      obtain ⟨e2,h2,rfl⟩:=hee
      simp [hzz e2 h2,hsz]
     ·intro u hu
      simp only [List.mem_map,List.mem_range] at hu
      obtain ⟨k,hk',rfl⟩:=hu
      obtain ⟨u,y1,y2⟩:=hk k hk'
      rw [y1];exact y2
     ·intro i1 ee j rc hi1 hj
      obtain ⟨e2,p,h1,h2,rfl⟩:=spRow_get hi1 hj
      have y1:=k1 _ _ _ _ h1 h2
      have y2:=k2 _ _ _ _ h1 h2
      have hlt:=idx_lt h1
      have hjs:j<sz:=by have:=idx_lt h2;rwa [hzz _ (List.mem_of_getElem? h1)] at this
      have h3:=Nat.mul_le_mul_right sz hlt
      rw [Nat.succ_mul] at h3
      rw [← hsz]
      refine ⟨us i1 j,?_,fun w' g' r i' j' him=>spR.mono (p:=p) y2 him⟩
      rw [Nat.add_assoc] at y1
      simp [show i1*sz+j<N.length*sz by omega,y1]
   ·cases hs
  ·rename_i sz hx
   cases hs
   have hv:a.eval x=.slice none 0 0:=rd_R hx hrt hg
   rw [hv]
   exact ⟨#[],.vals htx (.inl ⟨_,rfl⟩) rfl (fun w' _=>rfl),by simp,by simp,by simp,fun i e j rc hi=>by simp at hi⟩
  ·rename_i hx
   cases hs
   have hv:=rd_pl hx hrt hg
   rw [hv]
   exact ⟨#[],.vals htx (.inl ⟨_,rfl⟩) rfl (fun w' _=>firstCells_nil0 _ _ _),by simp,by simp,by simp,fun i e j rc hi=>by simp at hi⟩
  ·cases hs
 ·rename_i k htx
  split at hs
  ·rename_i k' m ps b hx hps
   split at hs
   ·rename_i hsz
    cases hs
    obtain ⟨h0,h63,hbytes⟩:0≤m∧m≤9223372036854775807∧m*i.bytes≤281474976710656:=hc
    have hv:=rd_pl hx hrt hg
    obtain ⟨i',z',hi',hz',hzs,hcells⟩:=zcs_spec hps
    obtain ⟨i2,z2,hi2,hz2,hnil⟩:=zcs_nil hps
    rw [hi] at hi' hi2;cases hi';cases hi2
    rw [hz] at hz' hz2;cases hz';cases hz2
    have hm:((m.toNat:Nat):Int)=m:=Int.toNat_of_nonneg h0
    rw [hv]
    refine ⟨Builtin.zeroCells z.cells m.toNat,?_,by simp [size_zc,hzs,hsz],?_,?_,?_⟩
    ·rw [List.length_replicate]
     have:=Src.zeros (P:=P) (tx:=tx) (i:=i) (z:=z) (w:=w) (k:=k) (k':=k') (m:=m.toNat) htx (by omega) (by rw [hm];exact hbytes)
     rwa [hm] at this
    ·intro e he
     simp [List.eq_of_mem_replicate he,hsz]
    ·intro u hu
     obtain ⟨q,hq,rfl⟩:=List.mem_iff_getElem.1 hu
     simp only [Array.length_toList,size_zc] at hq
     have hz0:0<z.cells.size:=by rcases Nat.eq_zero_or_pos z.cells.size with h | h;· rw [h] at hq;simp at hq
                                 ·exact h
     have hmod:=Nat.mod_lt q hz0
     obtain ⟨v,y1,y2⟩:=hcells w g.Im (q % z.cells.size) _ (List.getElem?_eq_getElem (by omega))
     simp only [Builtin.zeroCells,Array.getElem_toList,Array.getElem_map,Array.getElem_range]
     have:z.cells[q % z.cells.size]! = v:=by
      rw [Array.getElem?_eq_getElem hmod] at y1
      simp [hmod] at y1 ⊢;exact y1
     rw [this];exact y2.one
    ·intro i1 ee j rc hi1 hj
     have hlt:i1<m.toNat:=by have:=idx_lt hi1;simpa using this
     have he:ee=ps.map (zrc b):=List.eq_of_mem_replicate (List.mem_of_getElem? hi1)
     subst he
     rw [List.getElem?_map,Option.map_eq_some_iff] at hj
     obtain ⟨p,hp,rfl⟩:=hj
     have hjl:=idx_lt hp
     obtain ⟨v,q1,q2⟩:=hcells w g.Im j p hp
     have h3:=Nat.mul_le_mul_right i.size hlt
     rw [Nat.succ_mul] at h3
     refine ⟨v,?_,fun w' g' r i' j' him=>zrc_R (q2.mono him) fun sz hsl=>?_⟩
     ·have hk:i1*i.size+j<m.toNat*z.cells.size:=by rw [hzs,hsz];omega
      have hmod:(i1*i.size+j) % z.cells.size=j:=by
       rw [hzs,hsz,Nat.mul_comm,Nat.mul_add_mod,Nat.mod_eq_of_lt (by omega)]
      have hj':j<z.cells.size:=by omega
      rw [Array.getElem?_eq_getElem hj'] at q1
      simp [Builtin.zeroCells,hk,hmod,hj'] at q1 ⊢
      exact q1
     ·subst hsl
      have:=hnil j sz hp
      rw [q1] at this
      exact Option.some.inj this
   ·cases hs
  ·cases hs
 ·cases hs
end Go.XM
end
section
namespace Go.XM
open Go.RowKit
theorem Good.appNew {P:Program} {Γ:Ctx} {g:G} {σ:St} {a:Act} {w:World} (hg:Good Γ g σ a w) {d:Nat} {L:List (List RC)} {t tx ty e:TypeId} {i:TypeInfo} {z x:Value} {news:Array Value}
  (ht:P.underlying t=some (.slice e)) (hi:P.info? e=some i) (hz:i.zero=some z) (hzs:z.cells.size=i.size) (hd:σ.O d=.fresh)
  (hsrc:Src P tx i z w x L.length news) (hfit:Fits g w i.size L news) (hb0:0<i.bytes) (hb:L.length*i.bytes≤140737488355328) :
  ∃ u w' g',(Builtin.append_ #[t,tx] ty #[.slice none 0 0,x]).run P w=.ok u w'∧Good Γ g' ⟨σ.T,upd [(d,.row i.size L)] σ.O⟩ a w'∧cvR w' g' (upd [(d,.row i.size L)] σ.O) (.vw d 0 L.length) u:=by
 by_cases hL:L.length=0
 ·have hL':L=[]:=List.eq_nil_of_length_eq_zero hL
  subst hL'
  obtain ⟨g1,k1,k2,k3⟩:=hg.nilRoot i.size hd
  have hrun:=run_fit (P:=P) (w:=w) (ty:=ty) (base:=none) (sLen:=0) (sCap:=0) ht hi hz hzs hsrc (by simp)
  exact ⟨_,w,g1,hrun,k1,k3⟩
 ·obtain ⟨f1,f2,f3,f4⟩:=hfit
  obtain ⟨cp,hcp,hrun⟩:=run_grow (P:=P) (w:=w) (ty:=ty) (base:=none) (sLen:=0) (sCap:=0) (old:=#[]) ht hi hz hzs hsrc (fun w' _=>firstCells_nil i.size w') (by omega) hb0 (by simpa using hb)
  simp only [Nat.zero_add] at hcp hrun
  obtain ⟨g',k1,k2,k3⟩:=hg.drew.grow (d:=d) hd (#[]++news++Builtin.zeroCells z.cells (cp-L.length)) e (.row i.size L) (fun w' g' h1 h2 h3 hle=>by
   show match g'.β d with | none=>_ | some b=>_
   rw [h1]
   have h2':g'.own w.heap.size=some (.root d):=h2
   have h3':Blk w' w.heap.size (#[]++news++Builtin.zeroCells z.cells (cp-L.length)):=h3
   refine ⟨_,h2',h3',f2,by simp [f1,size_zc],fun i1 e1 j rc hi1 hj=>?_⟩
   obtain ⟨u,a1,a2⟩:=f4 i1 e1 j rc hi1 hj
   have hlt:=(Array.getElem?_eq_some_iff.1 a1).1
   refine ⟨u,by rw [Array.empty_append,Array.getElem?_append,if_pos hlt];exact a1,f3 u ?_,a2 w' g' d i1 j hle.im⟩
   have:=Array.mem_of_getElem? a1
   simpa using this)
  refine ⟨_,_,g',hrun,k1,?_⟩
  have hOd:upd [(d,RS.row i.size L)] σ.O d=.row i.size L:=by simp [upd]
  have k2':g'.β d=some w.heap.size:=k2
  simp only [cvR,hOd,k2']
  refine ⟨cp,_,0,rfl,.inr (by simp),hcp,by simp,k3,?_⟩
  simp only [Array.size_append,Array.size_empty,f1,size_zc,hzs]
  rw [Nat.zero_add,Nat.zero_add,← Nat.add_mul];congr 1;omega
def pAppend (P:Program) (σ:St) (t tx:TypeId) (d:Nat) (s x:Operand) (h:Nh):PR :=
 match elT P t with
 | some e=>match P.info? e,σ.O d with
  | some i,.fresh=>match i.zero with
   | some z=>if Nat.beq z.cells.size i.size && Nat.blt 0 i.bytes then match srcOf P σ tx e i x h with
    | some (L,rt,ro,c)=>match rd P σ t s with
     | some (.a (.c (.vw r 0 n)))=>match σ.O r with
      | .row sz l=>if sz=i.size then some ({ rt:=evk σ s++rt,ro:=(r,.row sz l)::(d,.fresh)::ro,wt:=[(d,cv (.vw d 0 (l++L).length))],wo:=[(d,.row sz (l++L)),(r,.dead)] },c.and (some (n=l.length∧(l.length+L.length)*i.bytes≤140737488355328))) else none
      | _=>none
     | some (.a (.c (.nl _)))=>some ({ rt:=evk σ s++rt,ro:=(d,.fresh)::ro,wt:=[(d,cv (.vw d 0 L.length))],wo:=[(d,.row i.size L)] },c.and (some (L.length*i.bytes≤140737488355328)))
     | _=>none
    | none=>none
    else none
   | none=>none
  | _,_=>none
 | none=>none
theorem exec_append {P:Program} {ρ:Operand→Value} {o:Oper} {t tx:TypeId} {s x:Operand} (h:o.op=.call ⟨.builtin .append,#[s,x],#[t,tx]⟩) {w w':World} {u:Value}
  (hb:(Builtin.append_ #[t,tx] o.type #[ρ s,ρ x]).run P w=.ok u w'):(execOp ρ o).run P w=.ok (.value u) w' :=
 exec_builtin h (by
  simp only [List.map_toArray,List.map_cons,List.map_nil]
  simp only [builtin,Sem.run_bind,hb,Result.andThen_ok,Sem.run_pure])
theorem srcOf_ok {P:Program} {σ:St} {tx e:TypeId} {i:TypeInfo} {x:Operand} {h:Nh} {L:List (List RC)} {rt:List (Nat × SV)} {ro:List (Nat × RS)} {c:PC} (hs:srcOf P σ tx e i x h=some (L,rt,ro,c)):okL rt σ.T∧okL ro σ.O:=by
 unfold srcOf at hs
 split at hs
 ·split at hs
  ·split at hs
   ·split at hs
    ·cases hs;exact ⟨evk_ok _ _,‹_›,trivial⟩
    ·cases hs
   ·cases hs
  ·split at hs
   ·cases hs;exact ⟨evk_ok _ _,trivial⟩
   ·cases hs
  ·cases hs;exact ⟨evk_ok _ _,trivial⟩
  ·cases hs;exact ⟨evk_ok _ _,trivial⟩
  ·cases hs
 ·split at hs
  ·split at hs
   ·cases hs;exact ⟨evk_ok _ _,trivial⟩
   ·cases hs
  ·cases hs
 ·cases hs
theorem pAppend_right {P:Program} {σ:St} {o:Oper} {t tx d:Nat} {s x:Operand} {h:Nh} (hd:o.dst=some d) (ho:o.op=.call ⟨.builtin .append,#[s,x],#[t,tx]⟩):Right P o σ (pAppend P σ t tx d s x h):=by
 intro ft c hr hc
 unfold pAppend at hr
 split at hr
 ·rename_i e het
  obtain ⟨ht,-⟩:=elT_spec het
  split at hr
  ·rename_i i hi hfr
   split at hr
   ·rename_i z hz
    split at hr
    ·rename_i hchk
     simp only [Bool.and_eq_true] at hchk
     have hzs:z.cells.size=i.size:=Nat.eq_of_beq_eq_true hchk.1
     have hb0:0<i.bytes:=by have:=hchk.2;simpa [Nat.blt_eq] using this
     split at hr
     ·rename_i L rt ro c1 hsrc
      split at hr
      ·rename_i r n hs
       split at hr
       ·rename_i sz l hO
        split at hr
        ·rename_i hsz
         cases hr
         subst hsz
         obtain ⟨hc1,rfl,hb⟩:=PC.and_holds.1 hc
         refine ⟨⟨okL_append.2 ⟨evk_ok _ _,(srcOf_ok hsrc).1⟩,hO,hfr,(srcOf_ok hsrc).2⟩,sound_step hd rfl fun Γ g σ' a w hf hg=>?_⟩
         obtain ⟨hf1,hf2⟩:=okL_append.1 hf.1
         obtain ⟨hO',hfr',hro⟩:=hf.2
         obtain ⟨news,k1,k2⟩:=srcOf_R hi hz hsrc hc1 hg hf2 hro
         have hv:cvR w g σ'.O (.vw r 0 l.length) (a.eval s):=rd_R hs hf1 hg
         obtain ⟨u,w',g',q1,q2,q3⟩:=hg.app (ty:=o.type) ht hi hz hzs hO' hfr' hv k1 k2 hb0 hb
         rw [← List.length_append] at q3
         exact ⟨u,w',g',exec_append ho q1,q2,q3⟩
        ·cases hr
       ·cases hr
      ·rename_i sz hs
       cases hr
       obtain ⟨hc1,hb⟩:=PC.and_holds.1 hc
       refine ⟨⟨okL_append.2 ⟨evk_ok _ _,(srcOf_ok hsrc).1⟩,hfr,(srcOf_ok hsrc).2⟩,sound_step hd rfl fun Γ g σ' a w hf hg=>?_⟩
       obtain ⟨hf1,hf2⟩:=okL_append.1 hf.1
       obtain ⟨hfr',hro⟩:=hf.2
       obtain ⟨news,k1,k2⟩:=srcOf_R hi hz hsrc hc1 hg hf2 hro
       have hv:a.eval s=.slice none 0 0:=rd_R hs hf1 hg
       obtain ⟨u,w',g',q1,q2,q3⟩:=hg.appNew (ty:=o.type) ht hi hz hzs hfr' k1 k2 hb0 hb
       rw [← hv] at q1
       exact ⟨u,w',g',exec_append ho q1,q2,q3⟩
      ·cases hr
     ·cases hr
    ·cases hr
   ·cases hr
  ·cases hr
 ·cases hr
def chunk {α:Type} (sz:Nat):Nat→List α→List (List α)
 | 0,_=>[]
 | n+1,L=>L.take sz::chunk sz n (L.drop sz)
theorem chunk_get {α:Type} {sz:Nat}:∀ {n:Nat} {L:List α} {i:Nat} {e:List α} {j:Nat} {x:α},(chunk sz n L)[i]?=some e→e[j]?=some x→L[i*sz+j]?=some x
 | 0,L,i,e,j,x,h,_=>by simp [chunk] at h
 | n+1,L,0,e,j,x,h,hj=>by
  simp only [chunk,List.getElem?_cons_zero,Option.some.injEq] at h
  subst h
  have hlt:j<sz:=by have:=idx_lt hj;simp at this;omega
  rw [List.getElem?_take,if_pos hlt] at hj
  simpa using hj
 | n+1,L,i+1,e,j,x,h,hj=>by
  have:=chunk_get (L:=L.drop sz) (by simpa [chunk] using h) hj
  rw [List.getElem?_drop] at this
  rw [Nat.succ_mul,Nat.add_right_comm,Nat.add_comm];exact this
theorem chunk_len {α:Type} {sz:Nat}:∀ {n:Nat} {L:List α},L.length=n*sz→(chunk sz n L).length=n∧∀ e∈chunk sz n L,e.length=sz
 | 0,_,_=>by simp [chunk]
 | n+1,L,h=>by
  rw [Nat.succ_mul] at h
  obtain ⟨k1,k2⟩:=chunk_len (n:=n) (L:=L.drop sz) (sz:=sz) (by simp;omega)
  refine ⟨by simp [chunk,k1],fun e he=>?_⟩
  simp only [chunk,List.mem_cons] at he
  rcases he with rfl | he
  ·simp;omega
  ·exact k2 e he
def partsP:List (Nat × List CV)→Option (List (Nat × List RC))
 | []=>some []
 | (i,l)::r=>match allP l,partsP r with
  | some ps,some q=>some ((i,ps.map .s)::q)
  | _,_=>none
theorem partsP_R {w:World} {g:G} {O:Nat→RS}:∀ {l:List (Nat × List CV)} {q:List (Nat × List RC)},partsP l=some q→l.length=q.length ∧
  ∀ (k i:Nat) (xs:List RC),q[k]?=some (i,xs)→∃ cs,l[k]?=some (i,cs)∧∀ arr:Array Value,Rel (fun x u=>u.oneCell'=true∧cvR w g O x u) arr cs→Rel (fun rc u=>u.oneCell'=true∧∃ p,rc=RC.s p∧spR w g.Im p u) arr xs
 | [],q,h=>by simp only [partsP,Option.some.injEq] at h;subst h;simp
 | (i,l)::r,q,h=>by
  simp only [partsP] at h
  split at h
  ·rename_i ps q' h1 h2
   cases h
   obtain ⟨k1,k2⟩:=partsP_R (w:=w) (g:=g) (O:=O) h2
   refine ⟨by simp [k1],fun k j xs hk=>?_⟩
   cases k with
   | zero =>
    simp only [List.getElem?_cons_zero,Option.some.injEq,Prod.mk.injEq] at hk
    obtain ⟨rfl,rfl⟩:=hk
    refine ⟨l,rfl,fun arr harr=>⟨by rw [harr.1,(allP_spec h1).1];simp,fun j rc hj=>?_⟩⟩
    rw [List.getElem?_map,Option.map_eq_some_iff] at hj
    obtain ⟨p,hp,rfl⟩:=hj
    obtain ⟨v,a1,a2,a3⟩:=allP_R h1 hp harr.2
    exact ⟨v,a1,a2,p,rfl,a3⟩
   | succ k=>exact k2 k j xs (by simpa using hk)
  ·cases h
def pBuildSlice (P:Program) (σ:St) (t:TypeId) (d len:Nat) (parts:Array (Nat × Operand)) (own:Bool):PR :=
 match elT P t,σ.O d with
 | some e,.fresh=>match zcs P e,P.info? e,partsOf P σ (fun _=>e) parts.toList with
  | some ps,some i,some (l,ks)=>match partsP l with
   | some q=>if i.size=ps.length∧len*i.size≤16777216 then
     match fillL (fun k=>some (k*ps.length,ps.length)) ((List.replicate len (ps.map (zrc own))).flatten) q with
     | some L=>some ({ rt:=ks,ro:=[(d,.fresh)],wt:=[(d,cv (.vw d 0 len))],wo:=[(d,.row ps.length (chunk ps.length len L))] },none)
     | none=>none
     else none
   | none=>none
  | _,_,_=>none
 | _,_=>none
theorem flat_rep {α:Type} {ps:List α} {n k:Nat} {x:α} (h:((List.replicate n ps).flatten)[k]?=some x):ps[k % ps.length]?=some x∧k<n*ps.length:=by
 induction n generalizing k with
 | zero=>simp at h
 | succ n ih =>
  rw [List.replicate_succ,List.flatten_cons,List.getElem?_append] at h
  split at h
  ·rename_i hlt
   rw [Nat.mod_eq_of_lt hlt,Nat.succ_mul]
   exact ⟨h,by omega⟩
  ·rename_i hge
   obtain ⟨h1,h2⟩:=ih h
   rw [Nat.succ_mul]
   refine ⟨?_,by omega⟩
   rw [← h1,← Nat.mod_eq_sub_mod (by omega)]
theorem fillL_len {α:Type} {pl:Nat→Option (Nat × Nat)}:∀ {ps:List (Nat × List α)} {L L':List α},fillL pl L ps=some L'→L'.length=L.length
 | [],L,L',h=>by simp only [fillL,Option.some.injEq] at h;subst h;rfl
 | (i,xs)::ps,L,L',h=>by
  simp only [fillL] at h
  split at h
  ·cases h
  ·split at h
   ·rw [fillL_len h,len_splice]
   ·cases h
theorem pBuildSlice_right {P:Program} {σ:St} {o:Oper} {t d len:Nat} {parts:Array (Nat × Operand)} {own:Bool} (hd:o.dst=some d) (ho:o.op=.buildSlice t len parts):Right P o σ (pBuildSlice P σ t d len parts own):=by
 intro ft c hr _
 unfold pBuildSlice at hr
 split at hr
 ·rename_i e het hfr
  obtain ⟨ht,hhe⟩:=elT_spec het
  split at hr
  ·rename_i ps i l ks hps hi hparts
   split at hr
   ·rename_i q hq
    split at hr
    ·rename_i hsz
     split at hr
     ·rename_i L hL
      cases hr
      refine ⟨⟨partsOf_ok hparts,hfr,trivial⟩,sound_step hd rfl fun Γ g σ' a w hf hg=>?_⟩
      have hfr':σ'.O d=.fresh:=hf.2.1
      obtain ⟨i',z,hi',hz,hzs,hcells⟩:=zcs_spec hps
      obtain ⟨i2,z2,hi2,hz2,hnil⟩:=zcs_nil hps
      rw [hi] at hi' hi2;cases hi';cases hi2
      rw [hz] at hz2;cases hz2
      let R:RC→Value→Prop:=fun rc u=>u.oneCell'=true∧∀ (w':World) (g':G) (r i j:Nat),(∀ b,g.Im b→g'.Im b∧w'.heap[b]?=w.heap[b]?)→rcR w' g' r i j rc u
      let z0:Array Value:=if len*i.size=0 then #[] else z.cells
      have hz0:(if len*i.size=0 then (pure #[]:Sem (Array Value)) else do pure (← zeroValue e).cells).run P w=.ok z0 w:=by
       by_cases h0:len*i.size=0
       ·simp [z0,h0]
       ·simp [z0,h0,zeroValue,typeInfo,hi,hz]
      have hbase:Rel R ((Array.range (len*i.size)).map (z0[· % z0.size]!)) ((List.replicate len (ps.map (zrc own))).flatten):=by
       refine ⟨by simp [hsz.1],fun k rc hk=>?_⟩
       obtain ⟨h1,h2⟩:=flat_rep hk
       rw [List.length_map] at h1 h2
       rw [List.getElem?_map,Option.map_eq_some_iff] at h1
       obtain ⟨p,hp,rfl⟩:=h1
       obtain ⟨v,y1,y2⟩:=hcells w g.Im _ p hp
       have hne:len*i.size≠0:=by rw [hsz.1];omega
       have hz0':z0=z.cells:=by simp [z0,hne]
       have hj:=idx_lt hp
       refine ⟨v,?_,y2.one,fun w' g' r i j him=>zrc_R (y2.mono him) fun sz hsl=>?_⟩
       ·rw [hz0',hsz.1]
        have hj':k % z.cells.size<z.cells.size:=by rw [hzs];exact hj
        rw [← hzs] at y1
        rw [Array.getElem?_eq_getElem hj'] at y1
        simp only [Option.some.injEq] at y1
        simp [h2,hj',y1]
       ·subst hsl
        have:=hnil _ sz hp
        rw [y1] at this
        exact Option.some.inj this
      obtain ⟨r1,r2⟩:=partsOf_R hg hparts hf.1
      obtain ⟨p1,p2⟩:=partsP_R (w:=w) (g:=g) (O:=σ'.O) hq
      obtain ⟨arr,k1,k2⟩:=fill_R (R:=R) (vs:=parts.toList.map fun p=>(p.1,a.eval p.2)) hbase hL (by simp [r1,p1]) (fun k i xs hk=>by
       obtain ⟨cs,h1,h2⟩:=p2 k i xs hk
       obtain ⟨v,h3,h4⟩:=r2 k i cs h1
       obtain ⟨h5,h6⟩:=h2 _ h4
       refine ⟨v,h3,h5,fun j x hj=>?_⟩
       obtain ⟨u,b1,b2,p,rfl,b3⟩:=h6 j x hj
       exact ⟨u,b1,b2,fun w' g' r i j him=>b3.mono him⟩)
      have hLlen:L.length=len*ps.length:=by
       rw [fillL_len hL];simp
      obtain ⟨c1,c2⟩:=chunk_len (n:=len) (sz:=ps.length) hLlen
      have hasz:arr.size=len*ps.length:=by rw [k2.1,hLlen]
      obtain ⟨g',m1,m2,m3⟩:=hg.grow hfr' arr e (.row ps.length (chunk ps.length len L)) (fun w' g' h1 h2 h3 hle=>by
       show match g'.β d with | none=>_ | some b=>_
       rw [h1]
       refine ⟨arr,h2,h3,c2,by rw [c1,hasz];exact Nat.le_refl _,fun i1 e1 j rc hi1 hj=>?_⟩
       obtain ⟨u,b1,b2,b3⟩:=k2.2 _ _ (chunk_get hi1 hj)
       exact ⟨u,b1,b2,b3 w' g' d i1 j hle.im⟩)
      refine ⟨.slice (some ⟨w.heap.size,0,none⟩) len len,_,g',?_,m1,?_⟩
      ·have e0:(parts.map fun ((i,x):Nat × Operand)=>(i,a.eval x)).toList=parts.toList.map fun p=>(p.1,a.eval p.2):=by simp
       have hplace:(fun (k:Nat)=>some (k*i.size,i.size))=fun (k:Nat)=>some (k*ps.length,ps.length):=by rw [hsz.1]
       have hbig:¬ (16777216<len*i.size):=by omega
       have hszT:szT P e=i.size:=by simp [szT,hi]
       rw [← hplace] at k1
       simp only [execOp,ho,Instr.buildSlice,Sem.run_bind,run_underlying ht,Result.andThen_ok,run_sizeOf hhe,hszT,gt_iff_lt,Nat.reducePow,hbig,if_false,e0]
       by_cases h0:len*i.size=0
       ·have hz0':z0=#[]:=by simp [z0,h0]
        rw [hz0'] at k1
        simp only [h0,if_true,Sem.run_bind,Sem.run_pure,Result.andThen_ok]
        rw [h0] at k1
        rw [k1]
        rfl
       ·have hz0':z0=z.cells:=by simp [z0,h0]
        rw [hz0'] at k1
        simp only [h0,if_false,Sem.run_bind,Sem.run_pure,Result.andThen_ok,zeroValue,typeInfo,run_program,hi,hz]
        rw [k1]
        rfl
      ·show cvR _ g' _ (.vw d 0 len) _
       have hOd:upd [(d,RS.row ps.length (chunk ps.length len L))] σ'.O d=.row ps.length (chunk ps.length len L):=by simp [upd]
       simp only [cvR,hOd,m2]
       exact ⟨len,arr,0,rfl,.inr (by simp),Nat.le_refl _,by rw [c1];simp,m3,by rw [hasz];simp⟩
     ·cases hr
    ·cases hr
   ·cases hr
  ·cases hr
 ·cases hr
end Go.XM
end
section
namespace Go.XM
open Go.RowKit
def pFill (P:Program) (σ:St) (t:TypeId) (x y:Operand) (es:List RC) (N:List (List SP)):PR :=
 if hasT P t && Nat.beq (szT P t) 1 then
  match rd P σ 0 x,rd P σ t y with
  | some (.a (.c (.ad r e c))),some (.a (.c (.vw r2 0 n)))=>match σ.O r,σ.O r2 with
   | .row sz l,.row sz2 l2=>if c<es.length∧r≠r2 then
     some ({ rt:=evk σ x++evk σ y,ro:=[(r,.row sz l),(r2,.row sz2 l2)],wo:=[(r,.row sz (l.set e (es.set c (.o sz2 N)))),(r2,.dead)] },some (l[e]?=some es∧l2=spRow N∧n=N.length)) else none
   | _,_=>none
  | _,_=>none
 else none
theorem pFill_right {P:Program} {σ:St} {o:Oper} {t:TypeId} {x y:Operand} {es:List RC} {N:List (List SP)} (hd:o.dst=none) (ho:o.op=.store t x y):Right P o σ (pFill P σ t x y es N):=by
 intro f c hr hc
 unfold pFill at hr
 split at hr
 ·rename_i ht
  simp only [Bool.and_eq_true] at ht
  obtain ⟨ht,ht1⟩:=ht
  have ht1:szT P t=1:=Nat.eq_of_beq_eq_true ht1
  split at hr
  ·rename_i r e c' r2 n hx hy
   split at hr
   ·rename_i sz l sz2 l2 hO hO2
    split at hr
    ·rename_i hcr
     obtain ⟨hce,hne⟩:=hcr
     cases hr
     obtain ⟨hle,rfl,rfl⟩:l[e]?=some es∧l2=spRow N∧n=N.length:=hc
     refine ⟨⟨okL_append.2 ⟨evk_ok _ _,evk_ok _ _⟩,hO,hO2,trivial⟩,sound_unit hd rfl fun Γ g σ' a w hf hg=>?_⟩
     obtain ⟨hf1,hf2⟩:=okL_append.1 hf.1
     have hOr:σ'.O r=.row sz l:=hf.2.1
     have hOr2:σ'.O r2=.row sz2 (spRow N):=hf.2.2.1
     have hv:cvR w g σ'.O (.ad r e c') (a.eval x):=rd_R hx hf1 hg
     simp only [cvR,hOr] at hv
     obtain ⟨b,hb,hv⟩:=hv
     have hrow:=hg.O r
     rw [hOr] at hrow
     simp only [rsR,hb] at hrow
     obtain ⟨cs,h2,h3,h4,h6,h5⟩:=hrow
     have hrow2:=hg.O r2
     rw [hOr2] at hrow2
     simp only [rsR] at hrow2
     have hyR:cvR w g σ'.O (.vw r2 0 N.length) (a.eval y):=rd_R hy hf2 hg
     have hone:=cvR.one hyR (by simp)
     have hcells:(a.eval y).cells=#[a.eval y]:=by
      generalize a.eval y=u at hone
      cases u <;> first | rfl | simp [Value.oneCell'] at hone
     generalize hu:a.eval y=u at hyR hone hcells
     have hes:es.length=sz:=h4 es (List.mem_of_getElem? hle)
     have hlt:e<l.length:=idx_lt hle
     have hbound:e*sz+sz≤cs.size:=by
      have:(e+1)*sz≤l.length*sz:=Nat.mul_le_mul_right _ hlt
      rw [Nat.succ_mul] at this;omega
     obtain ⟨w',k1,k2⟩:=run_storeCells (P:=P) (off:=e*sz+c') [u] 0 w cs h3 (by simp;omega) (by simpa using hone)
     simp only [Nat.add_zero] at k2
     let O':=upd [(r,RS.row sz (l.set e (es.set c' (.o sz2 N)))),(r2,RS.dead)] σ'.O
     have hO'r:O' r=.row sz (l.set e (es.set c' (.o sz2 N))):=by simp [O',upd]
     have hO'r2:O' r2=.dead:=by simp [O',upd,Ne.symm hne]
     have hO'k:∀ k,k≠r→k≠r2→O' k=σ'.O k:=fun k a b=>by simp [O',upd,a,b]
     let g':G:={ β:=g.β,own:=fun k=>if g.β r2=some k then some (.cell r e c') else g.own k,Im:=g.Im }
     have hown2:∀ k,g.β r2=some k→g.own k=some (.root r2):=by
      intro k hk
      rw [hk] at hrow2
      obtain ⟨_,q,_⟩:=hrow2
      exact q
     have hownne:∀ k,g.own k≠some (.root r2)→g'.own k=g.own k:=by
      intro k hk
      show (if _ then _ else _)=_
      rw [if_neg]
      exact fun h=>hk (hown2 k h)
     have hb2:g.own b≠some (.root r2):=by rw [h2];simp;exact hne
     have hle':Le w g σ'.O w' g' O':=by
      refine ⟨fun k hk'=>⟨hk',k2.other k (by intro e;rw [e] at hk';have:=(hg.im b hk').2;rw [h2] at this;cases this)⟩,fun k hk'=>?_,fun k sz' l' hk' hr'=>?_,fun k l' hk' hr'=>?_⟩
      ·by_cases e1:k=r
       ·rw [e1,hO'r];simp
       ·by_cases e2:k=r2
        ·rw [e2,hO'r2];simp
        ·rw [hO'k k e1 e2];exact hk'
      ·by_cases e1:k=r
       ·subst e1
        rw [hO'r] at hr'
        cases hr'
        exact ⟨_,l,hOr,rfl,by simp,rfl,fun b2 _ c2 hc2=>k2.blk hc2⟩
       ·by_cases e2:k=r2
        ·rw [e2,hO'r2] at hr';cases hr'
        ·rw [hO'k k e1 e2] at hr'
         exact ⟨sz',l',hr',rfl,Nat.le_refl _,rfl,fun b2 _ c2 hc2=>k2.blk hc2⟩
      ·by_cases e1:k=r
       ·rw [e1,hO'r] at hr';cases hr'
       ·by_cases e2:k=r2
        ·rw [e2,hO'r2] at hr';cases hr'
        ·rw [hO'k k e1 e2] at hr'
         exact ⟨l',hr',rfl⟩
     refine ⟨w',g',exec_store ho ht hv (by rw [hu,hcells,ht1];rfl) (by rw [hu,hcells];exact k1),hg.step hle' (fun k=>?_) (fun k hk'=>⟨by rw [k2.size];exact (hg.im k hk').1,?_⟩) k2.os k2.tape k2.out (by rw [k2.size];exact Nat.le_refl _)
      (fun k _ hn=>k2.other k (fun e=>hn (.root r) (e ▸ h2))) (fun k o ho'=>?_) (fun k hk'=>.inl hk')⟩
     ·show rsR w' g' O' k (O' k)
      by_cases e1:k=r
      ·subst e1
       rw [hO'r]
       show match g'.β k with | none=>_ | some b=>_
       have:g'.β k=some b:=hb
       rw [this]
       refine ⟨_,by rw [hownne b hb2];exact h2,k2.new,?_,by rw [k2.sz];simpa using h6,fun i e' j rc hi hj=>?_⟩
       ·intro e' he'
        rcases List.mem_or_eq_of_mem_set he' with h | rfl
        ·exact h4 e' h
        ·simpa using hes
       ·have keep:∀ (u:Value) (rc:RC),rcR w g k i j rc u→rcR w' g' k i j rc u:=by
         intro u rc hu
         cases rc with
         | s y=>exact spR.mono (p:=y) hu hle'.im
         | hole=>trivial
         | o sz3 l3 =>
          rcases hu with hu | ⟨b3,cap3,c3,z1,z2,z3,z4,z5,z6,z7⟩
          ·exact .inl hu
          ·have hb3:b3≠b:=by intro e;rw [e,h2] at z3;cases z3
           exact .inr ⟨b3,cap3,c3,z1,z2,by rw [hownne b3 (by rw [z3];simp)];exact z3,z4.congr (k2.other b3 hb3),z5,z6,fun i e j p hi hj=>let ⟨u,y1,y2⟩:=z7 i e j p hi hj;⟨u,y1,y2.mono hle'.im⟩⟩
        rw [List.getElem?_set] at hi
        have hjs:j<sz:=by
         by_cases ei:e=i
         ·rw [if_pos ei,if_pos hlt] at hi
          obtain rfl:=Option.some.inj hi
          have:=idx_lt hj
          simp only [List.length_set] at this;omega
         ·rw [if_neg ei] at hi
          have:=idx_lt hj
          rw [h4 e' (List.mem_of_getElem? hi)] at this;exact this
        rw [setsA_get _ _ _ _ (by simp;omega)]
        simp only [List.length_singleton]
        by_cases ei:e=i
        ·subst ei
         rw [if_pos rfl,if_pos hlt] at hi
         obtain rfl:=Option.some.inj hi
         rw [List.getElem?_set] at hj
         by_cases ej:c'=j
         ·subst ej
          rw [if_pos rfl,if_pos hce] at hj
          obtain rfl:=Option.some.inj hj
          rw [if_pos (by omega)]
          refine ⟨u,by simp,hone,?_⟩
          simp only [cvR,hOr2] at hyR
          cases hβ:g.β r2 with
          | none =>
           simp only [hβ] at hyR hrow2
           exact .inl ⟨by simpa [spRow] using hrow2,hyR.2.2⟩
          | some b2 =>
           simp only [hβ] at hyR hrow2
           obtain ⟨cap,c2,off,e1,e2,e3,e4,e5,e6⟩:=hyR
           obtain ⟨c3,q2,q3,q4,q6,q5⟩:=hrow2
           obtain rfl:=e5.uniq q3
           have hbb:b2≠b:=by intro e;rw [e,h2] at q2;cases q2;exact hne rfl
           ·refine .inr ⟨b2,cap,c2,⟨off,e1,e2.imp_right (by simp)⟩,e3,?_,q3.congr (k2.other b2 hbb),by simpa using e6,?_,?_⟩
            ·show (if _ then _ else _)=_
             rw [if_pos hβ]
            ·intro e he
             have:=q4 (e.map RC.s) (by simp only [spRow,List.mem_map];exact ⟨e,he,rfl⟩)
             simpa using this
            ·intro i1 e1' j1 p hi1 hj1
             obtain ⟨v,y1,y2,y3⟩:=q5 i1 (e1'.map RC.s) j1 (.s p) (by simp [spRow,hi1]) (by simp [hj1])
             exact ⟨v,y1,spR.mono (p:=p) y3 hle'.im⟩
         ·rw [if_neg ej] at hj
          rw [if_neg (by omega)]
          obtain ⟨v,y1,y2,y3⟩:=h5 e es j rc hle hj
          exact ⟨v,y1,y2,keep v rc y3⟩
        ·rw [if_neg ei] at hi
         have:=lin_ne (Ne.symm ei) hjs (k:=sz) (Nat.le_refl _)
         rw [if_neg (by omega)]
         obtain ⟨v,y1,y2,y3⟩:=h5 i e' j rc hi hj
         exact ⟨v,y1,y2,keep v rc y3⟩
      ·by_cases e2:k=r2
       ·rw [e2,hO'r2];trivial
       ·rw [hO'k k e1 e2]
        refine hle'.keep rfl (fun b3 hb3=>⟨k2.other b3 ?_,hownne b3 ?_⟩) (hg.O k)
        ·intro e3
         rcases hb3 with hb3 | ⟨i,j,hb3⟩
         ·rw [e3,h2] at hb3;cases hb3;exact e1 rfl
         ·rw [e3,h2] at hb3;cases hb3
        ·rcases hb3 with hb3 | ⟨i,j,hb3⟩
         ·rw [hb3];simp;exact e2
         ·rw [hb3];simp
     ·rw [hownne k (by rw [(hg.im k hk').2];simp)];exact (hg.im k hk').2
     ·have ho2:(if g.β r2=some k then some (Owner.cell r e c') else g.own k)=some o:=ho'
      by_cases h:g.β r2=some k
      ·exact ⟨by rw [k2.size];exact hg.lt k _ (hown2 k h),.inr ⟨_,hown2 k h⟩⟩
      ·rw [if_neg h] at ho2
       exact ⟨by rw [k2.size];exact hg.lt k o ho2,.inr ⟨o,ho2⟩⟩
    ·cases hr
   ·cases hr
  ·cases hr
 ·cases hr
end Go.XM
end
section
namespace Go.XM
open Go.RowKit
theorem run_bounds {P:Program} {w:World} (b:Bool) (len cap:Nat) (lo hi:Option Value) (l h:Nat) (hlo:(lo=none∧l=0)∨∃ k,lo=some (.int k l)) (hhi:(hi=none∧h=len)∨∃ k,hi=some (.int k h))
  (h1:l≤h) (h2:h≤(if b then cap else len)) (h3:len≤cap):(Instr.sliceBounds b len cap lo hi none).run P w=.ok (l,h,cap) w:=by
 have h2':h≤cap:=by cases b <;> simp at h2 <;> omega
 rcases hlo with ⟨rfl,rfl⟩ | ⟨k,rfl⟩ <;> rcases hhi with ⟨rfl,rfl⟩ | ⟨k',rfl⟩ <;> simp [Instr.sliceBounds,Instr.sliceBound,asIntOf,h1,h2']
def rdB (P:Program) (σ:St) (dflt:Int):Option Operand→Option (Int × List (Nat × SV))
 | none=>some (dflt,[])
 | some x=>match rd P σ 0 x with
  | some (.a (.c (.p (.v (.int _ i)))))=>some (i,evk σ x)
  | _=>none
theorem rdB_R {P:Program} {σ0 σ:St} {dflt i:Int} {x:Option Operand} {ks:List (Nat × SV)} (h:rdB P σ0 dflt x=some (i,ks)) (hk:okL ks σ.T) {Γ:Ctx} {g:G} {a:Act} {w:World} (hg:Good Γ g σ a w) :
  (x.map a.eval=none∧i=dflt)∨∃ k,x.map a.eval=some (.int k i):=by
 unfold rdB at h
 split at h
 ·cases h;exact .inl ⟨rfl,rfl⟩
 ·split at h
  ·rename_i k i' hx
   cases h
   exact .inr ⟨k,by rw [Option.map_some,rd_pl hx hk hg]⟩
  ·cases h
theorem rdB_ok {P:Program} {σ:St} {dflt i:Int} {x:Option Operand} {ks:List (Nat × SV)} (h:rdB P σ dflt x=some (i,ks)):okL ks σ.T:=by
 unfold rdB at h
 split at h
 ·cases h;trivial
 ·split at h
  ·cases h;exact evk_ok _ _
  ·cases h
def pSlice (P:Program) (σ:St) (t:TypeId) (d:Nat) (x:Operand) (lo hi:Option Operand):PR :=
 match P.underlying t,rd P σ t x,rdB P σ 0 lo with
 | some .string,some (.a (.c (.p (.v (.string s))))),some (l,k1)=>match rdB P σ s.size hi with
  | some (h,k2)=>some ({ rt:=evk σ x++(k1++k2),wt:=[(d,pl (.string (s.extract l.toNat h.toNat)))] },some (0≤l∧l≤h∧h≤s.size))
  | none=>none
 | some (.slice e),some (.a (.c (.vw r e0 n))),some (l,k1)=>match σ.O r,rdB P σ n hi with
  | .row sz ll,some (h,k2)=>if hasT P e && Nat.beq (szT P e) sz then some ({ rt:=evk σ x++(k1++k2),ro:=[(r,.row sz ll)],wt:=[(d,cv (.vw r (e0+l.toNat) (h.toNat-l.toNat)))] },some (0≤l∧l≤h∧h≤n)) else none
  | _,_=>none
 | some (.slice e),some (.a (.c (.p (.sl sz ll)))),some (l,k1)=>match rdB P σ ll.length hi with
  | some (h,k2)=>if hasT P e && Nat.beq (szT P e) sz then some ({ rt:=evk σ x++(k1++k2),wt:=[(d,cv (.p (.sl sz ((ll.drop l.toNat).take (h.toNat-l.toNat)))))] },some (0≤l∧l≤h∧h≤ll.length)) else none
  | none=>none
 | _,_,_=>none
theorem toNat_bound {v:Option Value} {dflt i:Int} {m:Nat} (h0:0≤i) (h:(v=none∧i=dflt)∨∃ k,v=some (.int k i)) (hm:dflt=m):(v=none∧i.toNat=m)∨∃ k,v=some (.int k (i.toNat:Nat)):=by
 rcases h with ⟨h,rfl⟩ | ⟨k,h⟩
 ·exact .inl ⟨h,by omega⟩
 ·exact .inr ⟨k,by rw [h,Int.toNat_of_nonneg h0]⟩
theorem pSlice_right {P:Program} {σ:St} {o:Oper} {t d:Nat} {x:Operand} {lo hi:Option Operand} (hd:o.dst=some d) (ho:o.op=.slice t x lo hi none):Right P o σ (pSlice P σ t d x lo hi):=by
 intro ft c hr hc
 unfold pSlice at hr
 split at hr
 ·rename_i s l k1 hu hx hlo
  split at hr
  ·rename_i h k2 hhi
   cases hr
   obtain ⟨h0,h1,h2⟩:0≤l∧l≤h∧h≤s.size:=hc
   refine ⟨⟨okL_append.2 ⟨evk_ok _ _,okL_append.2 ⟨rdB_ok hlo,rdB_ok hhi⟩⟩,trivial⟩,sound_val hd rfl rfl fun Γ g σ' a w hf hg=>⟨_,?_,spR.v _ rfl⟩⟩
   obtain ⟨hf1,hf2⟩:=okL_append.1 hf.1
   obtain ⟨hf2,hf3⟩:=okL_append.1 hf2
   have hv:=rd_pl hx hf1 hg
   have b1:=toNat_bound (m:=0) h0 (rdB_R hlo hf2 hg) rfl
   have b2:=toNat_bound (m:=s.size) (by omega) (rdB_R hhi hf3 hg) rfl
   have hrun:=run_bounds (P:=P) (w:=w) false s.size s.size _ _ _ _ b1 b2 (by omega) (by simp;omega) (Nat.le_refl _)
   simp only [execOp,ho,Option.map_none,Instr.sliceAt,Sem.run_bind,run_underlying hu,Result.andThen_ok,Instr.slice,hv,Option.isSome_none,Bool.false_eq_true,if_false,hrun,Sem.run_pure]
  ·cases hr
 ·rename_i e r e0 n l k1 hu hx hlo
  split at hr
  ·rename_i sz ll h k2 hO hhi
   split at hr
   ·rename_i hsz
    simp only [Bool.and_eq_true] at hsz
    obtain ⟨hte,hsz⟩:=hsz
    have hsz:szT P e=sz:=Nat.eq_of_beq_eq_true hsz
    cases hr
    obtain ⟨h0,h1,h2⟩:0≤l∧l≤h∧h≤n:=hc
    refine ⟨⟨okL_append.2 ⟨evk_ok _ _,okL_append.2 ⟨rdB_ok hlo,rdB_ok hhi⟩⟩,hO,trivial⟩,sound_val hd rfl rfl fun Γ g σ' a w hf hg=>?_⟩
    obtain ⟨hf1,hf2⟩:=okL_append.1 hf.1
    obtain ⟨hf2,hf3⟩:=okL_append.1 hf2
    have hOr:σ'.O r=.row sz ll:=hf.2.1
    have hv:cvR w g σ'.O (.vw r e0 n) (a.eval x):=rd_R hx hf1 hg
    have b1:=toNat_bound (m:=0) h0 (rdB_R hlo hf2 hg) rfl
    have b2:=toNat_bound (m:=n) (by omega) (rdB_R hhi hf3 hg) rfl
    obtain ⟨aa,cap,hval,hcap⟩:∃ aa cap,a.eval x=.slice aa n cap∧n≤cap:=by
     simp only [cvR,hOr] at hv
     split at hv
     ·obtain ⟨a0,h0'⟩:=hv.2.2;exact ⟨a0,0,by rw [h0',hv.2.1],by omega⟩
     ·obtain ⟨cap,_,off,h,_,h3,_⟩:=hv;exact ⟨_,cap,h,h3⟩
    have hrun:=run_bounds (P:=P) (w:=w) true n cap _ _ _ _ b1 b2 (by omega) (by simp;omega) hcap
    refine ⟨.slice (if cap=l.toNat then aa else aa.map (·.add (l.toNat*sz))) (h.toNat-l.toNat) (cap-l.toNat),?_,?_⟩
    ·simp only [execOp,ho,Option.map_none,Instr.sliceAt,Sem.run_bind,run_underlying hu,Result.andThen_ok,Instr.slice,hval,hrun,run_sizeOf hte,hsz,Sem.run_pure]
    ·show cvR w g σ'.O (.vw r (e0+l.toNat) (h.toNat-l.toNat)) _
     simp only [cvR,hOr] at hv ⊢
     cases hβ:g.β r with
     | none =>
      simp only [hβ] at hv ⊢
      obtain ⟨e1,e2,a0,e3⟩:=hv
      rw [e3] at hval
      cases hval
      have:l.toNat=0:=by omega
      have:h.toNat=0:=by omega
      simp [*]
     | some b =>
      simp only [hβ] at hv ⊢
      obtain ⟨cap',c,off,e1,e2,e3,e4,e5,e6⟩:=hv
      rw [e1] at hval
      cases hval
      refine ⟨cap-l.toNat,c,if cap=l.toNat then off else off+l.toNat*sz,?_,?_,by omega,by omega,e5,?_⟩
      ·split
       ·rfl
       ·simp [add_mk]
      ·by_cases hq:cap=l.toNat
       ·exact .inl (by omega)
       ·rw [if_neg hq]
        rcases e2 with e2 | e2
        ·omega
        ·exact .inr (by rw [e2,Nat.add_mul])
      ·rw [e6];congr 1;omega
   ·cases hr
  ·cases hr
 ·rename_i e sz ll l k1 hu hx hlo
  split at hr
  ·rename_i h k2 hhi
   split at hr
   ·rename_i hsz
    simp only [Bool.and_eq_true] at hsz
    obtain ⟨hte,hsz⟩:=hsz
    have hsz:szT P e=sz:=Nat.eq_of_beq_eq_true hsz
    cases hr
    obtain ⟨h0,h1,h2⟩:0≤l∧l≤h∧h≤ll.length:=hc
    refine ⟨⟨okL_append.2 ⟨evk_ok _ _,okL_append.2 ⟨rdB_ok hlo,rdB_ok hhi⟩⟩,trivial⟩,sound_val hd rfl rfl fun Γ g σ' a w hf hg=>?_⟩
    obtain ⟨hf1,hf2⟩:=okL_append.1 hf.1
    obtain ⟨hf2,hf3⟩:=okL_append.1 hf2
    have hv:spR w g.Im (.sl sz ll) (a.eval x):=rd_R hx hf1 hg
    have b1:=toNat_bound (m:=0) h0 (rdB_R hlo hf2 hg) rfl
    have b2:=toNat_bound (m:=ll.length) (by omega) (rdB_R hhi hf3 hg) rfl
    generalize hval:a.eval x=u at hv
    cases hv with
    | nil _ a0 =>
     have hrun:=run_bounds (P:=P) (w:=w) true 0 0 _ _ _ _ b1 b2 (by omega) (by simp at h2 ⊢;omega) (Nat.le_refl _)
     have e1:l.toNat=0:=by simp at h2;omega
     have e2:h.toNat=0:=by simp at h2;omega
     refine ⟨.slice a0 0 0,?_,?_⟩
     ·rw [e1,e2] at hrun
      simp only [execOp,ho,Option.map_none,Instr.sliceAt,Sem.run_bind,run_underlying hu,Result.andThen_ok,Instr.slice,hval,hrun,run_sizeOf hte,hsz,Sem.run_pure]
      simp
     ·show spR w g.Im (.sl sz _) _
      simp
      exact spR.nil sz a0
    | sl b off cap _ _ us hb hcap hzz q1 q2 =>
     have hrun:=run_bounds (P:=P) (w:=w) true ll.length cap _ _ _ _ b1 b2 (by omega) (by simp;omega) hcap
     have hlen:((ll.drop l.toNat).take (h.toNat-l.toNat)).length=h.toNat-l.toNat:=by simp;omega
     refine ⟨.slice (some ⟨b,if cap=l.toNat then off else off+l.toNat*sz,none⟩) ((ll.drop l.toNat).take (h.toNat-l.toNat)).length (cap-l.toNat),?_,?_⟩
     ·simp only [execOp,ho,Option.map_none,Instr.sliceAt,Sem.run_bind,run_underlying hu,Result.andThen_ok,Instr.slice,hval,hrun,run_sizeOf hte,hsz,Sem.run_pure,hlen]
      by_cases hq:cap=l.toNat
      ·simp [hq]
      ·simp [hq,add_mk]
     ·refine spR.sl b _ _ sz _ (fun i j=>us (l.toNat+i) j) hb (by rw [hlen];omega) (fun e he=>hzz e (List.mem_of_mem_drop (List.mem_of_mem_take he))) (fun i ee j p hi hj=>?_) (fun i ee j p hi hj=>?_)
      ·have hlt:i<h.toNat-l.toNat:=by have:=idx_lt hi;rwa [hlen] at this
       rw [List.getElem?_take,if_pos hlt,List.getElem?_drop] at hi
       have:=q1 _ _ _ _ hi hj
       rw [if_neg (by omega)]
       rw [Nat.add_mul] at this
       rw [← this];congr 2;omega
      ·have hlt:i<h.toNat-l.toNat:=by have:=idx_lt hi;rwa [hlen] at this
       rw [List.getElem?_take,if_pos hlt,List.getElem?_drop] at hi
       exact q2 _ _ _ _ hi hj
   ·cases hr
  ·cases hr
 ·cases hr
def bt (s:ByteArray) (i:Int):Int:=((s.data.toList.getD i.toNat 0).toNat:Int)
def pIndex (P:Program) (σ:St) (t:TypeId) (d:Nat) (x y:Operand):PR :=
 match P.underlying t,rd P σ t x,rd P σ 0 y with
 | some .string,some (.a (.c (.p (.v (.string s))))),some (.a (.c (.p (.v (.int _ i)))))=>some ({ rt:=evk σ x++evk σ y,wt:=[(d,pl (.int .u8 (bt s i)))] },some (0≤i∧i<s.size))
 | _,_,_=>none
theorem pIndex_right {P:Program} {σ:St} {o:Oper} {t d:Nat} {x y:Operand} (hd:o.dst=some d) (ho:o.op=.index t x y):Right P o σ (pIndex P σ t d x y):=by
 intro ft c hr hc
 unfold pIndex at hr
 split at hr
 ·rename_i s k i hu hx hy
  cases hr
  obtain ⟨h0,h1⟩:0≤i∧i<s.size:=hc
  refine ⟨⟨okL_append.2 ⟨evk_ok _ _,evk_ok _ _⟩,trivial⟩,sound_val hd rfl rfl fun Γ g σ' a w hf hg=>⟨_,?_,spR.v _ rfl⟩⟩
  obtain ⟨hf1,hf2⟩:=okL_append.1 hf.1
  have e1:=rd_pl hx hf1 hg
  have e2:=rd_pl hy hf2 hg
  have hlt:i.toNat<s.size:=by omega
  have hb:s[i.toNat]?=some s[i.toNat]:=getElem?_pos s i.toNat hlt
  have hbt:bt s i=(s[i.toNat].toNat:Int):=by
   unfold bt
   congr 2
   have hlt':i.toNat<s.data.toList.length:=by simpa using hlt
   rw [List.getD_eq_getElem?_getD,List.getElem?_eq_getElem hlt']
   rfl
  simp [execOp,ho,Instr.index,asIntOf,e1,e2,run_underlying hu,h0,hb,hbt]
 ·cases hr
def pMM (P:Program) (σ:St) (b:Builtin) (t:TypeId) (d:Nat) (x y:Operand):PR :=
 match b,rd P σ t x,rd P σ t y with
 | .min,some (.a (.c (.p (.v (.int k m))))),some (.a (.c (.p (.v (.int k' n)))))=>if k=k' then some ({ rt:=evk σ x++evk σ y,wt:=[(d,pl (.int k (if n<m then n else m)))] },none) else none
 | .max,some (.a (.c (.p (.v (.int k m))))),some (.a (.c (.p (.v (.int k' n)))))=>if k=k' then some ({ rt:=evk σ x++evk σ y,wt:=[(d,pl (.int k (if n > m then n else m)))] },none) else none
 | _,_,_=>none
theorem pMM_right {P:Program} {σ:St} {o:Oper} {b:Builtin} {t d:Nat} {x y:Operand} {ts:Array TypeId} (hd:o.dst=some d) (ho:o.op=.call ⟨.builtin b,#[x,y],ts⟩):Right P o σ (pMM P σ b t d x y):=by
 intro ft c hr hc
 unfold pMM at hr
 split at hr
 ·rename_i k m k' n hx hy
  split at hr
  ·cases hr
   refine ⟨⟨okL_append.2 ⟨evk_ok _ _,evk_ok _ _⟩,trivial⟩,sound_val hd rfl rfl fun Γ g σ' a w hf hg=>⟨_,exec_builtin ho ?_,spR.v _ rfl⟩⟩
   obtain ⟨hf1,hf2⟩:=okL_append.1 hf.1
   simp [builtin,Builtin.min_,Builtin.min2,rd_pl hx hf1 hg,rd_pl hy hf2 hg]
  ·cases hr
 ·rename_i k m k' n hx hy
  split at hr
  ·cases hr
   refine ⟨⟨okL_append.2 ⟨evk_ok _ _,evk_ok _ _⟩,trivial⟩,sound_val hd rfl rfl fun Γ g σ' a w hf hg=>⟨_,exec_builtin ho ?_,spR.v _ rfl⟩⟩
   obtain ⟨hf1,hf2⟩:=okL_append.1 hf.1
   simp [builtin,Builtin.max_,Builtin.max2,rd_pl hx hf1 hg,rd_pl hy hf2 hg]
  ·cases hr
 ·cases hr
end Go.XM
end
section
namespace Go.XM
open Go.RowKit
abbrev Nm:=List (Nat × Nat)
def look:Nm→Nat→Option Nat
 | [],_=>none
 | (k,r)::m,x=>if x=k then some r else look m x
def back:Nm→Nat→Option Nat
 | [],_=>none
 | (k,r)::m,x=>if x=r then some k else back m x
def nodup:List Nat→Bool
 | []=>true
 | x::l=>!l.elem x && nodup l
theorem look_mem {m:Nm} {k r:Nat} (h:look m k=some r):(k,r)∈m:=by
 induction m with
 | nil=>simp [look] at h
 | cons x m ih =>
  obtain ⟨a,b⟩:=x
  simp only [look] at h
  split at h
  ·cases h;rename_i e;subst e;exact List.mem_cons_self
  ·exact List.mem_cons_of_mem _ (ih h)
theorem back_mem {m:Nm} {k r:Nat} (h:back m r=some k):(k,r)∈m:=by
 induction m with
 | nil=>simp [back] at h
 | cons x m ih =>
  obtain ⟨a,b⟩:=x
  simp only [back] at h
  split at h
  ·cases h;rename_i e;subst e;exact List.mem_cons_self
  ·exact List.mem_cons_of_mem _ (ih h)
theorem back_of {m:Nm} {k r:Nat} (hn:nodup (m.map (·.2))=true) (h:(k,r)∈m):back m r=some k:=by
 induction m with
 | nil=>simp at h
 | cons x m ih =>
  obtain ⟨a,b⟩:=x
  simp only [List.map_cons,nodup,Bool.and_eq_true,Bool.not_eq_true',List.elem_eq_mem,decide_eq_false_iff_not] at hn
  simp only [back]
  rcases List.mem_cons.1 h with h | h
  ·cases h;rw [if_pos rfl]
  ·rw [if_neg,ih hn.2 h]
   intro e
   exact hn.1 (by rw [← e];exact List.mem_map.2 ⟨(k,r),h,rfl⟩)
theorem look_of {m:Nm} {k r:Nat} (hn:nodup (m.map (·.1))=true) (h:(k,r)∈m):look m k=some r:=by
 induction m with
 | nil=>simp at h
 | cons x m ih =>
  obtain ⟨a,b⟩:=x
  simp only [List.map_cons,nodup,Bool.and_eq_true,Bool.not_eq_true',List.elem_eq_mem,decide_eq_false_iff_not] at hn
  simp only [look]
  rcases List.mem_cons.1 h with h | h
  ·cases h;rw [if_pos rfl]
  ·rw [if_neg,ih hn.2 h]
   intro e
   exact hn.1 (by rw [← e];exact List.mem_map.2 ⟨(k,r),h,rfl⟩)
def trCV (m:Nm):CV→Option CV
 | .p x=>some (.p x)
 | .nl sz=>some (.nl sz)
 | .vw r e n=>(look m r).map (.vw · e n)
 | .ad r e c=>(look m r).map (.ad · e c)
 | .bx r c=>(look m r).map (.bx · c)
 | .ia l c=>some (.ia l c)
 | .li x=>some (.li x)
 | .any=>some .any
def trL (m:Nm):List CV→Option (List CV)
 | []=>some []
 | x::l=>match trCV m x,trL m l with
  | some y,some l'=>some (y::l')
  | _,_=>none
def trRS (m:Nm):RS→Option RS
 | .fresh=>none
 | .dead=>none
 | .box l=>(trL m l).map .box
 | .row sz l=>some (.row sz l)
def trAV (m:Nm):AV→Option AV
 | .c x=>(trCV m x).map .c
 | .agg l=>(trL m l).map .agg
 | .fn f l=>(trL m l).map (.fn f)
def trAL (m:Nm):List AV→Option (List AV)
 | []=>some []
 | x::l=>match trAV m x,trAL m l with
  | some y,some l'=>some (y::l')
  | _,_=>none
def trSV (m:Nm):SV→Option SV
 | .a x=>(trAV m x).map .a
 | .tup l=>(trAL m l).map .tup
theorem trL_spec {m:Nm}:∀ {l l':List CV},trL m l=some l'→l'.length=l.length∧∀ (j:Nat) (x:CV),l[j]?=some x→∃ y,l'[j]?=some y∧trCV m x=some y
 | [],l',h=>by simp only [trL,Option.some.injEq] at h;subst h;simp
 | x::l,l',h=>by
  simp only [trL] at h
  split at h
  ·rename_i y l2 h1 h2
   cases h
   obtain ⟨k1,k2⟩:=trL_spec h2
   refine ⟨by simp [k1],fun j z hj=>?_⟩
   cases j with
   | zero=>simp at hj;subst hj;exact ⟨y,rfl,h1⟩
   | succ j=>simpa using k2 j z (by simpa using hj)
  ·cases h
theorem trAL_spec {m:Nm}:∀ {l l':List AV},trAL m l=some l'→l'.length=l.length∧∀ (j:Nat) (x:AV),l[j]?=some x→∃ y,l'[j]?=some y∧trAV m x=some y
 | [],l',h=>by simp only [trAL,Option.some.injEq] at h;subst h;simp
 | x::l,l',h=>by
  simp only [trAL] at h
  split at h
  ·rename_i y l2 h1 h2
   cases h
   obtain ⟨k1,k2⟩:=trAL_spec h2
   refine ⟨by simp [k1],fun j z hj=>?_⟩
   cases j with
   | zero=>simp at hj;subst hj;exact ⟨y,rfl,h1⟩
   | succ j=>simpa using k2 j z (by simpa using hj)
  ·cases h
def bkOwner (m:Nm):Owner→Option Owner
 | .root r=>(back m r).map .root
 | .cell r i j=>(back m r).map (.cell · i j)
structure Tie (m:Nm) (w:World) (g0:G) (O0:Nat→RS) (g:G) (O:Nat→RS):Prop where
 o:∀ k r,look m k=some r→(∃ sz l,O0 k=.row sz l∧O r=.row sz l)∨∃ l l',O0 k=.box l∧O r=.box l'
 β:∀ k r,look m k=some r→g0.β k=g.β r
 im:∀ b,g.Im b→g0.Im b
theorem trRS_shape {m:Nm} {x y:RS} (h:trRS m x=some y):(∃ sz l,x=.row sz l∧y=.row sz l)∨∃ l l',x=.box l∧y=.box l':=by
 cases x with
 | fresh=>cases h
 | dead=>cases h
 | box l=>simp only [trRS,Option.map_eq_some_iff] at h;obtain ⟨l',_,rfl⟩:=h;exact .inr ⟨_,_,rfl,rfl⟩
 | row sz l=>cases h;exact .inl ⟨_,_,rfl,rfl⟩
theorem Tie.cv {m:Nm} {w:World} {g0 g:G} {O0 O:Nat→RS} (t:Tie m w g0 O0 g O) {x y:CV} {u:Value} (h:trCV m x=some y) (k:cvR w g O y u):cvR w g0 O0 x u:=by
 cases x with
 | p x=>cases h;exact spR.mono (p:=x) k fun b hb=>⟨t.im b hb,rfl⟩
 | nl sz=>cases h;exact k
 | any=>trivial
 | li x =>
  cases h
  obtain ⟨b,el,h1,h2,h3⟩:=k
  exact ⟨b,el,h1,t.im b h2,h3⟩
 | ia l c =>
  cases h
  obtain ⟨b,off,h1,h2,us,h3⟩:=k
  exact ⟨b,off,h1,t.im b h2,us,fun j p hp=>⟨(h3 j p hp).1,(h3 j p hp).2.mono fun b hb=>⟨t.im b hb,rfl⟩⟩⟩
 | vw r e n =>
  simp only [trCV,Option.map_eq_some_iff] at h
  obtain ⟨r',h1,rfl⟩:=h
  simp only [cvR] at k ⊢
  rw [t.β r r' h1]
  rcases t.o r r' h1 with ⟨sz,l,h2,h3⟩ | ⟨l,l',h2,h3⟩
  ·rw [h3] at k;rw [h2];exact k
  ·rw [h3] at k;rw [h2];exact k
 | ad r e c =>
  simp only [trCV,Option.map_eq_some_iff] at h
  obtain ⟨r',h1,rfl⟩:=h
  simp only [cvR] at k ⊢
  rw [t.β r r' h1]
  rcases t.o r r' h1 with ⟨sz,l,h2,h3⟩ | ⟨l,l',h2,h3⟩
  ·rw [h3] at k;rw [h2];exact k
  ·rw [h3] at k;rw [h2];exact k
 | bx r c =>
  simp only [trCV,Option.map_eq_some_iff] at h
  obtain ⟨r',h1,rfl⟩:=h
  simp only [cvR] at k ⊢
  rw [t.β r r' h1]
  rcases t.o r r' h1 with ⟨sz,l,h2,h3⟩ | ⟨l,l',h2,h3⟩
  ·rw [h3] at k;rw [h2];exact k
  ·rw [h3] at k;rw [h2];exact k
theorem Tie.av {m:Nm} {w:World} {g0 g:G} {O0 O:Nat→RS} (t:Tie m w g0 O0 g O) {x y:AV} {u:Value} (h:trAV m x=some y) (k:avR w g O y u):avR w g0 O0 x u:=by
 cases x with
 | c x =>
  simp only [trAV,Option.map_eq_some_iff] at h
  obtain ⟨y',h1,rfl⟩:=h
  exact t.cv h1 k
 | agg l =>
  simp only [trAV,Option.map_eq_some_iff] at h
  obtain ⟨l',h1,rfl⟩:=h
  obtain ⟨k1,k2⟩:=trL_spec h1
  obtain ⟨arr,rfl,hs,k⟩:=k
  refine ⟨arr,rfl,by rw [hs,k1],fun j x hj=>?_⟩
  obtain ⟨y,h2,h3⟩:=k2 j x hj
  obtain ⟨v,a1,a2,a3⟩:=k j y h2
  exact ⟨v,a1,a2,t.cv h3 a3⟩
 | fn f l =>
  simp only [trAV,Option.map_eq_some_iff] at h
  obtain ⟨l',h1,rfl⟩:=h
  obtain ⟨k1,k2⟩:=trL_spec h1
  obtain ⟨arr,rfl,hs,k⟩:=k
  refine ⟨arr,rfl,by rw [hs,k1],fun j x hj=>?_⟩
  obtain ⟨y,h2,h3⟩:=k2 j x hj
  obtain ⟨v,a1,a3⟩:=k j y h2
  exact ⟨v,a1,t.cv h3 a3⟩
theorem Tie.sv {m:Nm} {w:World} {g0 g:G} {O0 O:Nat→RS} (t:Tie m w g0 O0 g O) {x y:SV} {u:Value} (h:trSV m x=some y) (k:svR w g O y u):svR w g0 O0 x u:=by
 cases x with
 | a x =>
  simp only [trSV,Option.map_eq_some_iff] at h
  obtain ⟨y',h1,rfl⟩:=h
  exact t.av h1 k
 | tup l =>
  simp only [trSV,Option.map_eq_some_iff] at h
  obtain ⟨l',h1,rfl⟩:=h
  obtain ⟨k1,k2⟩:=trAL_spec h1
  obtain ⟨arr,rfl,hs,k⟩:=k
  refine ⟨arr,rfl,by rw [hs,k1],fun j x hj=>?_⟩
  obtain ⟨y,h2,h3⟩:=k2 j x hj
  obtain ⟨v,a1,a3⟩:=k j y h2
  exact ⟨v,a1,t.av h3 a3⟩
theorem Tie.rs' {m:Nm} {w:World} {g0 g:G} {O0 O:Nat→RS} (t:Tie m w g0 O0 g O) {k r:Nat} (h:look m k=some r)
  (hbx:∀ l l',O0 k=.box l→O r=.box l'→l.length=l'.length∧∀ (j:Nat) (x:CV),l[j]?=some x→∃ y,l'[j]?=some y∧∀ u,cvR w g O y u→cvR w g0 O0 x u)
  (ho:∀ b,(g.own b=some (.root r)→g0.own b=some (.root k))∧∀ i j,g.own b=some (.cell r i j)→g0.own b=some (.cell k i j)) (q:rsR w g O r (O r)):rsR w g0 O0 k (O0 k):=by
 rcases t.o k r h with ⟨sz,l,h2,h3⟩ | ⟨l,l',h2,h3⟩
 ·rw [h3] at q
  rw [h2]
  simp only [rsR] at q ⊢
  rw [t.β k r h]
  cases hβ:g.β r with
  | none=>simp only [hβ] at q;exact q
  | some b =>
   simp only [hβ] at q ⊢
   obtain ⟨c,q2,q3,q4,q6,q5⟩:=q
   refine ⟨c,(ho b).1 q2,q3,q4,q6,fun i e j rc hi hj=>?_⟩
   obtain ⟨u,a1,a2,a3⟩:=q5 i e j rc hi hj
   refine ⟨u,a1,a2,?_⟩
   cases rc with
   | s y=>exact spR.mono (p:=y) a3 fun b hb=>⟨t.im b hb,rfl⟩
   | hole=>trivial
   | o sz2 l2 =>
    rcases a3 with a3 | ⟨b2,cap2,c2,z1,z2,z3,z4,z5,z6,z7⟩
    ·exact .inl a3
    ·exact .inr ⟨b2,cap2,c2,z1,z2,(ho b2).2 i j z3,z4,z5,z6,fun i e j p hi hj=>let ⟨u,y1,y2⟩:=z7 i e j p hi hj;⟨u,y1,y2.mono fun b hb=>⟨t.im b hb,rfl⟩⟩⟩
 ·rw [h3] at q
  rw [h2]
  obtain ⟨k1,k2⟩:=hbx l l' h2 h3
  obtain ⟨b,c,q1,q2,q3,q4,q5⟩:=q
  refine ⟨b,c,by rw [t.β k r h];exact q1,(ho b).1 q2,q3,by rw [q4,k1],fun j x hj=>?_⟩
  obtain ⟨y,h5,h6⟩:=k2 j x hj
  obtain ⟨u,a1,a2,a3⟩:=q5 j y h5
  exact ⟨u,a1,a2,h6 u a3⟩
theorem Tie.rs {m:Nm} {w:World} {g0 g:G} {O0 O:Nat→RS} (t:Tie m w g0 O0 g O) {k r:Nat} (h:look m k=some r) (htr:trRS m (O0 k)=some (O r))
  (ho:∀ b,(g.own b=some (.root r)→g0.own b=some (.root k))∧∀ i j,g.own b=some (.cell r i j)→g0.own b=some (.cell k i j)) (q:rsR w g O r (O r)):rsR w g0 O0 k (O0 k):=by
 refine t.rs' h (fun l l' h1 h2=>?_) ho q
 rw [h1,h2] at htr
 simp only [trRS,Option.map_eq_some_iff,RS.box.injEq] at htr
 obtain ⟨l2,h4,rfl⟩:=htr
 obtain ⟨k1,k2⟩:=trL_spec h4
 exact ⟨k1.symm,fun j x hj=>let ⟨y,h5,h6⟩:=k2 j x hj;⟨y,h5,fun u hu=>t.cv h6 hu⟩⟩
structure Heap (w:World) (g:G) (O:Nat→RS):Prop where
 O:∀ r,rsR w g O r (O r)
 im:∀ b,g.Im b→b<w.heap.size∧g.own b=none
 lt:∀ b o,g.own b=some o→b<w.heap.size
structure Fr (w:World) (g:G) (w':World) (g':G):Prop where
 os:w'.os=w.os
 tape:w'.tape=w.tape
 out:w'.output=w.output
 size:w.heap.size≤w'.heap.size
 blk:∀ b,b<w.heap.size→g.own b=none→w'.heap[b]?=w.heap[b]?
 own:∀ b o,g'.own b=some o→w.heap.size≤b∨∃ o,g.own b=some o
 im:∀ b,g'.Im b→g.Im b∨w.heap.size≤b∨∃ o,g.own b=some o
def Ct (P:Program) (f:FuncId) (args:List SV) (O0:Nat→RS) (res:SV) (O1:Nat→RS):Prop :=
 ∀ (w:World) (g:G) (vals:Array Value),Heap w g O0→vals.size=args.length→(∀ (i:Nat) (sv:SV),args[i]?=some sv→svR w g O0 sv (vals.getD i undef)) →
  Calls P f vals w fun e w'=>∃ v g',e=.returned v∧svR w' g' O1 res v∧Heap w' g' O1∧Fr w g w' g'∧∀ k l l',O0 k=.box l→O1 k=.box l'→g'.β k=g.β k
theorem Heap.restr {w:World} {g:G} {O:Nat→RS} (h:Heap w g O) (m:Nm) (hn:nodup (m.map (·.2))=true) {O0:Nat→RS} (ho:∀ k r,look m k=some r→trRS m (O0 k)=some (O r))
  (hf:∀ k,look m k=none→O0 k=.fresh∨O0 k=.dead) (Im0:Nat→Prop) (hi1:∀ b,g.Im b→Im0 b) (hi2:∀ b,Im0 b→b<w.heap.size∧∀ o,g.own b=some o→bkOwner m o=none) :
  ∃ g0:G,g0.Im=Im0∧(∀ b,g0.own b=(g.own b).bind (bkOwner m))∧Tie m w g0 O0 g O∧Heap w g0 O0:=by
 let g0:G:={ β:=fun k=>(look m k).bind g.β,own:=fun b=>(g.own b).bind (bkOwner m),Im:=Im0 }
 have t:Tie m w g0 O0 g O:=⟨fun k r hk=>trRS_shape (ho k r hk),fun k r hk=>by simp [g0,hk],hi1⟩
 refine ⟨g0,rfl,fun _=>rfl,t,⟨fun k=>?_,fun b hb=>⟨(hi2 b hb).1,?_⟩,fun b o hb=>?_⟩⟩
 ·cases hk:look m k with
  | none=>rcases hf k hk with e | e <;> rw [e] <;> trivial
  | some r =>
   have hb:=back_of hn (look_mem hk)
   exact t.rs hk (ho k r hk) (fun b=>⟨fun h=>by simp [g0,h,bkOwner,hb],fun i j h=>by simp [g0,h,bkOwner,hb]⟩) (h.O r)
 ·show (g.own b).bind _=none
  cases ho':g.own b with
  | none=>rfl
  | some o=>exact (hi2 b hb).2 o ho'
 ·have hb':(g.own b).bind (bkOwner m)=some o:=hb
  rw [Option.bind_eq_some_iff] at hb'
  obtain ⟨o',h1,_⟩:=hb'
  exact h.lt b o' h1
theorem Good.heap {Γ:Ctx} {g:G} {σ:St} {a:Act} {w:World} (h:Good Γ g σ a w):Heap w g σ.O:=⟨h.O,h.im,h.lt⟩
end Go.XM
end
section
namespace Go.XM
open Go.RowKit
def ofL (l:List (Nat × RS)):Nat→RS:=upd l fun _=>.fresh
def nsSP:SP→Prop
 | .v _=>True
 | .sl _ _=>False
def nsRC:RC→Prop
 | .s x=>nsSP x
 | .o _ l=>∀ e∈l,∀ x∈e,nsSP x
 | .hole=>True
def nsCV:CV→Prop
 | .p x=>nsSP x
 | .ia _ _=>False
 | .li _=>False
 | _=>True
def nsAV:AV→Prop
 | .c x=>nsCV x
 | .agg l=>∀ x∈l,nsCV x
 | .fn _ l=>∀ x∈l,nsCV x
def nsSV:SV→Prop
 | .a x=>nsAV x
 | .tup l=>∀ x∈l,nsAV x
def nsRS:RS→Prop
 | .box l=>∀ x∈l,nsCV x
 | .row _ l=>∀ e∈l,∀ x∈e,nsRC x
 | _=>True
theorem nsSP_R {w:World} {Im Im':Nat→Prop} {x:SP} {u:Value} (h:nsSP x) (k:spR w Im x u):spR w Im' x u:=by
 cases x with
 | v x=>cases k;exact .v _ ‹_›
 | sl sz l=>exact h.elim
theorem nsCV_R {w:World} {g g':G} {O:Nat→RS} {x:CV} {u:Value} (hβ:g'.β=g.β) (h:nsCV x) (k:cvR w g O x u):cvR w g' O x u:=by
 cases x with
 | p x=>exact nsSP_R (x:=x) h k
 | ia l c=>exact h.elim
 | li x=>exact h.elim
 | nl sz=>exact k
 | any=>trivial
 | vw r e n=>simp only [cvR] at k ⊢;rw [hβ];exact k
 | ad r e c=>simp only [cvR] at k ⊢;rw [hβ];exact k
 | bx r c=>simp only [cvR] at k ⊢;rw [hβ];exact k
theorem nsAV_R {w:World} {g g':G} {O:Nat→RS} {x:AV} {u:Value} (hβ:g'.β=g.β) (h:nsAV x) (k:avR w g O x u):avR w g' O x u:=by
 cases x with
 | c x=>exact nsCV_R hβ h k
 | agg l=>obtain ⟨arr,rfl,hs,k⟩:=k;exact ⟨arr,rfl,hs,fun j x hj=>let ⟨v,a,b,c⟩:=k j x hj;⟨v,a,b,nsCV_R hβ (h x (List.mem_of_getElem? hj)) c⟩⟩
 | fn f l=>obtain ⟨arr,rfl,hs,k⟩:=k;exact ⟨arr,rfl,hs,fun j x hj=>let ⟨v,a,c⟩:=k j x hj;⟨v,a,nsCV_R hβ (h x (List.mem_of_getElem? hj)) c⟩⟩
theorem nsSV_R {w:World} {g g':G} {O:Nat→RS} {x:SV} {u:Value} (hβ:g'.β=g.β) (h:nsSV x) (k:svR w g O x u):svR w g' O x u:=by
 cases x with
 | a x=>exact nsAV_R hβ h k
 | tup l=>obtain ⟨arr,rfl,hs,k⟩:=k;exact ⟨arr,rfl,hs,fun j x hj=>let ⟨v,a,c⟩:=k j x hj;⟨v,a,nsAV_R hβ (h x (List.mem_of_getElem? hj)) c⟩⟩
theorem nsRS_R {w:World} {g g':G} {O:Nat→RS} {r:Nat} {x:RS} (hβ:g'.β=g.β) (ho:g'.own=g.own) (h:nsRS x) (k:rsR w g O r x):rsR w g' O r x:=by
 cases x with
 | fresh=>trivial
 | dead=>trivial
 | box l =>
  obtain ⟨b,c,q1,q2,q3,q4,q5⟩:=k
  exact ⟨b,c,by rw [hβ];exact q1,by rw [ho];exact q2,q3,q4,fun j x hj=>let ⟨u,a1,a2,a3⟩:=q5 j x hj;⟨u,a1,a2,nsCV_R hβ (h x (List.mem_of_getElem? hj)) a3⟩⟩
 | row sz l =>
  simp only [rsR] at k ⊢
  rw [hβ]
  cases hb:g.β r with
  | none=>simp only [hb] at k;exact k
  | some b =>
   simp only [hb] at k ⊢
   obtain ⟨c,q2,q3,q4,q6,q5⟩:=k
   refine ⟨c,by rw [ho];exact q2,q3,q4,q6,fun i e j rc hi hj=>?_⟩
   obtain ⟨u,a1,a2,a3⟩:=q5 i e j rc hi hj
   have hrc:=h e (List.mem_of_getElem? hi) rc (List.mem_of_getElem? hj)
   refine ⟨u,a1,a2,?_⟩
   cases rc with
   | s y=>exact nsSP_R (x:=y) hrc a3
   | hole=>trivial
   | o sz2 l2 =>
    rcases a3 with a3 | ⟨b2,cap2,c2,z1,z2,z3,z4,z5,z6,z7⟩
    ·exact .inl a3
    ·exact .inr ⟨b2,cap2,c2,z1,z2,by rw [ho];exact z3,z4,z5,z6,fun i e j p hi hj=>let ⟨u,y1,y2⟩:=z7 i e j p hi hj;⟨u,y1,nsSP_R (hrc e (List.mem_of_getElem? hi) p (List.mem_of_getElem? hj)) y2⟩⟩
def frc:RC→Option SP
 | .s x=>some x
 | .o sz l=>some (.sl sz l)
 | .hole=>none
theorem lend_R {w:World} {g:G} {O:Nat→RS} {r e n sz:Nat} {l:List (List RC)} {L:List (List SP)} {u:Value} {Im0:Nat→Prop} (hO:O r=.row sz l) (hrow:rsR w g O r (.row sz l)) (hu:cvR w g O (.vw r e n) u)
  (hL:((l.drop e).take n).map (·.map frc)=L.map (·.map some)) (him:∀ b,g.Im b→Im0 b) (hi2:∀ b,(g.own b=some (.root r)∨∃ i j,g.own b=some (.cell r i j))→Im0 b):spR w Im0 (.sl sz L) u:=by
 simp only [cvR,hO] at hu
 simp only [rsR] at hrow
 have hlen:L.length=min n (l.length-e):=by
  have:=congrArg List.length hL
  simp at this;omega
 cases hβ:g.β r with
 | none =>
  simp only [hβ] at hu hrow
  obtain ⟨rfl,rfl,a0,rfl⟩:=hu
  have:L=[]:=List.eq_nil_of_length_eq_zero (by rw [hlen];simp)
  subst this
  exact .nil sz a0
 | some b =>
  simp only [hβ] at hu hrow
  obtain ⟨cap,c,off,e1,e2,e3,e4,e5,e6⟩:=hu
  obtain ⟨c',q2,q3,q4,q6,q5⟩:=hrow
  obtain rfl:=e5.uniq q3
  have hln:L.length=n:=by rw [hlen];omega
  have hget:∀ (i:Nat) (e':List SP) (j:Nat) (p:SP),L[i]?=some e'→e'[j]?=some p→∃ ee rc,l[e+i]?=some ee∧ee[j]?=some rc∧frc rc=some p∧i<n:=by
   intro i e' j p hi hj
   have hin:i<n:=by have:=idx_lt hi;omega
   have h1:(L.map (·.map some))[i]?=some (e'.map some):=by rw [List.getElem?_map,hi];rfl
   rw [← hL,List.getElem?_map,Option.map_eq_some_iff] at h1
   obtain ⟨ee,h2,h3⟩:=h1
   rw [List.getElem?_take,if_pos hin,List.getElem?_drop] at h2
   have h4:(e'.map some)[j]?=some (some p):=by rw [List.getElem?_map,hj];rfl
   rw [← h3,List.getElem?_map,Option.map_eq_some_iff] at h4
   obtain ⟨rc,h5,h6⟩:=h4
   exact ⟨ee,rc,h2,h5,h6,hin⟩
  rw [e1,← hln]
  have hcell:∀ (i:Nat) (e':List SP) (j:Nat) (p:SP),L[i]?=some e'→e'[j]?=some p→∃ v,w.cell? ⟨b,off+i*sz+j,none⟩=some v∧spR w Im0 p v:=by
   intro i e' j p hi hj
   obtain ⟨ee,rc,h1,h2,h3,h4⟩:=hget i e' j p hi hj
   obtain ⟨v,a1,a2,a3⟩:=q5 _ ee j rc h1 h2
   have hoff:off=e*sz:=by
    rcases e2 with e2 | e2
    ·omega
    ·exact e2
   refine ⟨v,?_,?_⟩
   ·rw [e5.cell,hoff,← Nat.add_mul];exact a1
   ·cases rc with
    | s x=>cases h3;exact spR.mono a3 fun b hb=>⟨him b hb,rfl⟩
    | hole=>cases h3
    | o sz2 l2 =>
     cases h3
     rcases a3 with ⟨rfl,a0,rfl⟩ | ⟨b2,cap2,c2,⟨off2,z1,z0⟩,z2,z3,z4,z5,z6,z7⟩
     ·exact .nil _ a0
     ·rw [z1]
      have hz:∀ (i:Nat) (e:List SP) (j:Nat) (p:SP),l2[i]?=some e→e[j]?=some p→∃ v,w.cell? ⟨b2,off2+i*sz2+j,none⟩=some v∧spR w Im0 p v:=by
       intro i e j p hi1 hj1
       obtain ⟨v,y1,y2⟩:=z7 i e j p hi1 hj1
       have hlt:=idx_lt hi1
       have:off2=0:=by rcases z0 with z0 | z0 <;> omega
       exact ⟨v,by rw [z4.cell,this,Nat.zero_add];exact y1,y2.mono fun b hb=>⟨him b hb,rfl⟩⟩
      refine .sl b2 off2 cap2 sz2 l2 (fun i j=>(w.cell? ⟨b2,off2+i*sz2+j,none⟩).getD undef) (hi2 b2 (.inr ⟨_,_,z3⟩)) z2 z6 (fun i e j p hi hj=>?_) (fun i e j p hi hj=>?_)
      ·obtain ⟨v,y1,_⟩:=hz i e j p hi hj;rw [y1];rfl
      ·obtain ⟨v,y1,y2⟩:=hz i e j p hi hj;simp only [y1,Option.getD_some];exact y2
  refine .sl b off cap sz L (fun i j=>(w.cell? ⟨b,off+i*sz+j,none⟩).getD undef) (hi2 b (.inl q2)) (by omega) (fun e' he'=>?_) (fun i e' j p hi hj=>?_) (fun i e' j p hi hj=>?_)
  ·obtain ⟨i,hi'⟩:=List.mem_iff_getElem?.1 he'
   have hin:i<n:=by have:=idx_lt hi';omega
   have h1:(L.map (·.map some))[i]?=some (e'.map some):=by rw [List.getElem?_map,hi'];rfl
   rw [← hL,List.getElem?_map,Option.map_eq_some_iff] at h1
   obtain ⟨ee,h2,h3⟩:=h1
   rw [List.getElem?_take,if_pos hin,List.getElem?_drop] at h2
   have:=congrArg List.length h3
   simp at this
   rw [← this];exact q4 ee (List.mem_of_getElem? h2)
  ·obtain ⟨v,y1,_⟩:=hcell i e' j p hi hj;rw [y1];rfl
  ·obtain ⟨v,y1,y2⟩:=hcell i e' j p hi hj;simp only [y1,Option.getD_some];exact y2
end Go.XM
end
section
namespace Go.XM
open Go.RowKit
def swp (m:Nm):Nm:=m.map fun x=>(x.2,x.1)
theorem look_swp (m:Nm) (r:Nat):look (swp m) r=back m r:=by
 induction m with
 | nil=>rfl
 | cons x m ih=>obtain ⟨a,b⟩:=x;simp only [swp,List.map_cons,look,back];rw [← ih];rfl
theorem trCV_swp {m:Nm} (hn:nodup (m.map (·.2))=true) {x y:CV} (h:trCV m x=some y):trCV (swp m) y=some x:=by
 cases x with
 | p x=>cases h;rfl
 | nl x=>cases h;rfl
 | ia l c=>cases h;rfl
 | li x=>cases h;rfl
 | any=>cases h;rfl
 | vw r e n=>simp only [trCV,Option.map_eq_some_iff] at h;obtain ⟨r',h1,rfl⟩:=h;simp [trCV,look_swp,back_of hn (look_mem h1)]
 | ad r e n=>simp only [trCV,Option.map_eq_some_iff] at h;obtain ⟨r',h1,rfl⟩:=h;simp [trCV,look_swp,back_of hn (look_mem h1)]
 | bx r n=>simp only [trCV,Option.map_eq_some_iff] at h;obtain ⟨r',h1,rfl⟩:=h;simp [trCV,look_swp,back_of hn (look_mem h1)]
theorem trL_swp {m:Nm} (hn:nodup (m.map (·.2))=true):∀ {l l':List CV},trL m l=some l'→trL (swp m) l'=some l
 | [],l',h=>by simp only [trL,Option.some.injEq] at h;subst h;rfl
 | x::l,l',h=>by
  simp only [trL] at h
  split at h
  ·rename_i y l2 h1 h2
   cases h
   simp only [trL,trCV_swp hn h1,trL_swp hn h2]
  ·cases h
theorem trAV_swp {m:Nm} (hn:nodup (m.map (·.2))=true) {x y:AV} (h:trAV m x=some y):trAV (swp m) y=some x:=by
 cases x with
 | c x=>simp only [trAV,Option.map_eq_some_iff] at h;obtain ⟨r',h1,rfl⟩:=h;simp [trAV,trCV_swp hn h1]
 | agg l=>simp only [trAV,Option.map_eq_some_iff] at h;obtain ⟨r',h1,rfl⟩:=h;simp [trAV,trL_swp hn h1]
 | fn f l=>simp only [trAV,Option.map_eq_some_iff] at h;obtain ⟨r',h1,rfl⟩:=h;simp [trAV,trL_swp hn h1]
theorem trAL_swp {m:Nm} (hn:nodup (m.map (·.2))=true):∀ {l l':List AV},trAL m l=some l'→trAL (swp m) l'=some l
 | [],l',h=>by simp only [trAL,Option.some.injEq] at h;subst h;rfl
 | x::l,l',h=>by
  simp only [trAL] at h
  split at h
  ·rename_i y l2 h1 h2
   cases h
   simp only [trAL,trAV_swp hn h1,trAL_swp hn h2]
  ·cases h
theorem trSV_swp {m:Nm} (hn:nodup (m.map (·.2))=true) {x y:SV} (h:trSV m x=some y):trSV (swp m) y=some x:=by
 cases x with
 | a x=>simp only [trSV,Option.map_eq_some_iff] at h;obtain ⟨r',h1,rfl⟩:=h;simp [trSV,trAV_swp hn h1]
 | tup l=>simp only [trSV,Option.map_eq_some_iff] at h;obtain ⟨r',h1,rfl⟩:=h;simp [trSV,trAL_swp hn h1]
theorem trRS_swp {m:Nm} (hn:nodup (m.map (·.2))=true) {x y:RS} (h:trRS m x=some y):trRS (swp m) y=some x:=by
 cases x with
 | fresh=>cases h
 | dead=>cases h
 | box l=>simp only [trRS,Option.map_eq_some_iff] at h;obtain ⟨r',h1,rfl⟩:=h;simp [trRS,trL_swp hn h1]
 | row sz l=>cases h;rfl
def amCV (m:Nm) (lent:List Nat) (O:Nat→RS):CV→CV→Prop
 | .any,_=>True
 | .p (.sl sz L),.vw r e n=>lent.elem r=true∧match O r with
  | .row sz' l=>sz=sz'∧((l.drop e).take n).map (·.map frc)=L.map (·.map some)
  | _=>False
 | .p x,.nl sz=>x=.sl sz []
 | x,y=>trCV m x=some y
def amL (m:Nm) (lent:List Nat) (O:Nat→RS):List CV→List CV→Prop
 | [],[]=>True
 | x::l,y::l'=>amCV m lent O x y∧amL m lent O l l'
 | _,_=>False
def amAV (m:Nm) (lent:List Nat) (O:Nat→RS):AV→AV→Prop
 | .c x,.c y=>amCV m lent O x y
 | .agg l,.agg l'=>amL m lent O l l'
 | .fn f l,.fn f' l'=>f=f'∧trL m l=some l'
 | _,_=>False
def amSV (m:Nm) (lent:List Nat) (O:Nat→RS):SV→SV→Prop
 | .a x,.a y=>amAV m lent O x y
 | _,_=>False
def amS (m:Nm) (lent:List Nat) (O:Nat→RS):List SV→List SV→Prop
 | [],[]=>True
 | x::l,y::l'=>amSV m lent O x y∧amS m lent O l l'
 | _,_=>False
structure CallH where
 svs:List SV
 O0:List (Nat × RS)
 m1:Nm
 lent:List Nat
 res:SV
 O1:List (Nat × RS)
 m2:Nm
def rdAll (P:Program) (σ:St):List Operand→List TypeId→Option (List SV × List (Nat × SV))
 | [],_=>some ([],[])
 | x::xs,ts=>match rd P σ (ts.headD 0) x,rdAll P σ xs ts.tail with
  | some sv,some (l,ks)=>some (sv::l,evk σ x++ks)
  | _,_=>none
theorem rdAll_R {P:Program} {σ0 σ:St} {Γ:Ctx} {g:G} {a:Act} {w:World} (hg:Good Γ g σ a w):∀ {xs:List Operand} {ts:List TypeId} {l:List SV} {ks:List (Nat × SV)},rdAll P σ0 xs ts=some (l,ks)→okL ks σ.T →
  xs.length=l.length∧∀ (i:Nat) (sv:SV),l[i]?=some sv→∃ x,xs[i]?=some x∧svR w g σ.O sv (a.eval x)
 | [],ts,l,ks,h,_=>by simp only [rdAll,Option.some.injEq,Prod.mk.injEq] at h;obtain ⟨rfl,rfl⟩:=h;simp
 | x::xs,ts,l,ks,h,hk=>by
  simp only [rdAll] at h
  split at h
  ·rename_i sv l' ks' h1 h2
   cases h
   obtain ⟨hk1,hk2⟩:=okL_append.1 hk
   obtain ⟨r1,r2⟩:=rdAll_R hg h2 hk2
   refine ⟨by simp [r1],fun i sv hi=>?_⟩
   cases i with
   | zero=>simp at hi;subst hi;exact ⟨x,rfl,rd_R h1 hk1 hg⟩
   | succ i=>simpa using r2 i sv (by simpa using hi)
  ·cases h
theorem rdAll_ok {P:Program} {σ:St}:∀ {xs:List Operand} {ts:List TypeId} {l:List SV} {ks:List (Nat × SV)},rdAll P σ xs ts=some (l,ks)→okL ks σ.T
 | [],ts,l,ks,h=>by simp only [rdAll,Option.some.injEq,Prod.mk.injEq] at h;obtain ⟨rfl,rfl⟩:=h;trivial
 | x::xs,ts,l,ks,h=>by
  simp only [rdAll] at h
  split at h
  ·cases h;exact okL_append.2 ⟨evk_ok _ _,rdAll_ok ‹_›⟩
  ·cases h
def isBox:RS→Bool
 | .box _=>true
 | _=>false
def live:RS→Bool
 | .box _=>true
 | .row _ _=>true
 | _=>false
def isFresh:RS→Bool
 | .fresh=>true
 | _=>false
def hand (O:Nat→RS) (O0:Nat→RS):Nm→Nm→Prop
 | _,[]=>True
 | m,(k,r)::l=>trRS m (O0 k)=some (O r)∧hand O O0 m l
theorem hand_spec {O O0:Nat→RS} {m:Nm}:∀ {l:Nm},hand O O0 m l→∀ k r,(k,r)∈l→trRS m (O0 k)=some (O r)
 | [],_,k,r,h=>by simp at h
 | (a,b)::l,h,k,r,hm=>by
  rcases List.mem_cons.1 hm with e | e
  ·cases e;exact h.1
  ·exact hand_spec h.2 k r e
def memNm (x:Nat × Nat):Nm→Bool
 | []=>false
 | y::m=>(Nat.beq x.1 y.1 && Nat.beq x.2 y.2) || memNm x m
theorem memNm_spec {x:Nat × Nat}:∀ {m:Nm},memNm x m=true→x∈m
 | [],h=>by simp [memNm] at h
 | y::m,h=>by
  simp only [memNm,Bool.or_eq_true,Bool.and_eq_true] at h
  rcases h with h | h
  ·have:x=y:=Prod.ext (Nat.eq_of_beq_eq_true h.1) (Nat.eq_of_beq_eq_true h.2)
   exact this ▸ List.mem_cons_self
  ·exact List.mem_cons_of_mem _ (memNm_spec h)
def namesOk (O:Nat→RS) (H:CallH):Bool :=
 nodup (H.m1.map (·.1)) && nodup (H.m1.map (·.2)) && nodup (H.m2.map (·.1)) && nodup (H.m2.map (·.2)) &&
 (H.O0.all fun x=>(H.m1.map (·.1)).elem x.1) && (H.lent.all fun r=>!(H.m1.map (·.2)).elem r) &&
 (H.O1.all fun x=>!live x.2 || (H.m2.map (·.1)).elem x.1) &&
 (H.m2.all fun x=>(memNm x H.m1 && isBox (ofL H.O0 x.1) && isBox (ofL H.O1 x.1)) || (isFresh (O x.2) && !(H.m1.map (·.2)).elem x.2))
def woOf (H:CallH):List (Nat × RS) :=
 H.m2.map (fun x=>(x.2,(trRS H.m2 (ofL H.O1 x.1)).getD .dead))++H.m1.map (fun x=>(x.2,RS.dead))
def trAll (H:CallH):Nm→Bool
 | []=>true
 | (k,_)::l=>(trRS H.m2 (ofL H.O1 k)).isSome && trAll H l
def nsAll (H:CallH):Nm→Prop
 | []=>True
 | (k,_)::l=>nsRS (ofL H.O1 k)∧nsAll H l
def fnOk (P:Program) (f:FuncId):Bool:=match P.funcs[f]? with
 | some fn=>!(fn.name == "runtime.NumGoroutine") && fn.body.isSome
 | none=>false
def roOf (O:Nat→RS) (H:CallH):List (Nat × RS):=(H.m1.map fun x=>(x.2,O x.2))++((H.lent.map fun r=>(r,O r))++H.m2.map fun x=>(x.2,O x.2))
def calleeOf (σ:St):Operand→Option (FuncId × List SV × List (Nat × SV))
 | .func f=>some (f,[],[])
 | .tmp i=>match σ.T i with
  | .a (.fn f l)=>some (f,l.map (fun c=>.a (.c c)),[(i,σ.T i)])
  | _=>none
 | _=>none
def pCall (P:Program) (σ:St) (fo:Operand) (d:Nat) (xs:Array Operand) (ts:Array TypeId) (H:CallH):PR :=
 match rdAll P σ xs.toList ts.toList,calleeOf σ fo,trSV H.m2 H.res with
 | some (l,ks),some (f,ex,k2),some res'=>if fnOk P f && namesOk σ.O H && trAll H H.m2 then
   some ({ rt:=ks++k2,ro:=roOf σ.O H,wt:=[(d,res')],wo:=woOf H },
    some (Ct P f H.svs (ofL H.O0) H.res (ofL H.O1)∧amS H.m1 H.lent σ.O H.svs (l++ex)∧hand σ.O (ofL H.O0) H.m1 H.m1∧(H.lent=[]∨nsSV H.res∧nsAll H H.m2))) else none
 | _,_,_=>none
theorem calleeOf_ok {σ:St} {fo:Operand} {f:FuncId} {ex:List SV} {k2:List (Nat × SV)} (h:calleeOf σ fo=some (f,ex,k2)):okL k2 σ.T:=by
 unfold calleeOf at h
 split at h
 ·cases h;trivial
 ·split at h
  ·cases h;exact ⟨rfl,trivial⟩
  ·cases h
 ·cases h
theorem calleeOf_R {σ σ':St} {fo:Operand} {f:FuncId} {ex:List SV} {k2:List (Nat × SV)} (h:calleeOf σ fo=some (f,ex,k2)) (hk:okL k2 σ'.T) {Γ:Ctx} {g:G} {a:Act} {w:World} (hg:Good Γ g σ' a w) :
  ∃ arr:Array Value,a.eval fo=.func (.func f) #[] arr∧arr.size=ex.length∧∀ (i:Nat) (sv:SV),ex[i]?=some sv→∃ x,arr[i]?=some x∧svR w g σ'.O sv x:=by
 unfold calleeOf at h
 split at h
 ·cases h;exact ⟨#[],rfl,rfl,fun i sv h=>by simp at h⟩
 ·rename_i i
  split at h
  ·rename_i f' l hT
   cases h
   have hT':σ'.T i=.a (.fn f l):=by have:=hk.1;rw [this,hT]
   have hv:=hg.T i
   rw [hT'] at hv
   obtain ⟨arr,e,hs,k⟩:=hv
   refine ⟨arr,e,by simpa using hs,fun j sv hj=>?_⟩
   rw [List.getElem?_map,Option.map_eq_some_iff] at hj
   obtain ⟨cv,h1,rfl⟩:=hj
   exact k j cv h1
  ·cases h
 ·cases h
theorem exec_call {P:Program} {ρ:Operand→Value} {o:Oper} {fo:Operand} {f:FuncId} {arr:Array Value} {xs:Array Operand} {ts:Array TypeId} (h:o.op=.call ⟨.value fo,xs,ts⟩) (hρ:ρ fo=.func (.func f) #[] arr) (hf:fnOk P f=true) (w:World) :
  (execOp ρ o).run P w=.ok (.enter f (xs.map ρ++arr)) w:=by
 unfold fnOk at hf
 split at hf
 ·rename_i fn hfn
  simp only [Bool.and_eq_true,Bool.not_eq_true',Option.isSome_iff_exists] at hf
  obtain ⟨h1,c,h2⟩:=hf
  have h1':fn.name≠"runtime.NumGoroutine":=by simpa using h1
  simp [execOp,h,resolve,hρ,Deferred.ofValue,invoke,callFunc,hfn,h1',h2]
 ·cases hf
end Go.XM
end
section
namespace Go.XM
open Go.RowKit
theorem upd_mem {α:Type} {l:List (Nat × α)} {f:Nat→α} {k:Nat} {x:α} (h:(k,x)∈l) (hu:∀ y,(k,y)∈l→y=x):upd l f k=x:=by
 induction l with
 | nil=>simp at h
 | cons y l ih =>
  obtain ⟨a,b⟩:=y
  simp only [upd]
  by_cases e:k=a
  ·subst e;rw [if_pos rfl];exact hu b List.mem_cons_self
  ·rw [if_neg e]
   rcases List.mem_cons.1 h with h | h
   ·cases h;exact absurd rfl e
   ·exact ih h fun y hy=>hu y (List.mem_cons_of_mem _ hy)
theorem upd_append_in {α:Type} {l m:List (Nat × α)} {f:Nat→α} {k:Nat} (h:k∈keys l):upd (l++m) f k=upd l f k:=by
 induction l with
 | nil=>simp [keys] at h
 | cons y l ih =>
  obtain ⟨a,b⟩:=y
  simp only [List.cons_append,upd]
  by_cases e:k=a
  ·rw [if_pos e,if_pos e]
  ·rw [if_neg e,if_neg e]
   exact ih (by simpa [keys,e] using h)
theorem upd_append_out {α:Type} {l m:List (Nat × α)} {f:Nat→α} {k:Nat} (h:k ∉ keys l):upd (l++m) f k=upd m f k:=by
 induction l with
 | nil=>rfl
 | cons y l ih =>
  obtain ⟨a,b⟩:=y
  simp only [keys,List.map_cons,List.mem_cons,not_or] at h
  simp only [List.cons_append,upd]
  rw [if_neg h.1]
  exact ih h.2
theorem nodup_eq {m:Nm} {k k' r:Nat} (hn:nodup (m.map (·.2))=true) (h:(k,r)∈m) (h':(k',r)∈m):k=k':=by
 have h1:=back_of hn h
 have h2:=back_of hn h'
 rw [h1] at h2
 exact Option.some.inj h2
theorem trRS_live {m:Nm} {x y:RS} (h:trRS m x=some y):y≠.fresh:=by
 intro e
 subst e
 cases x with
 | fresh=>cases h
 | dead=>cases h
 | box l=>simp only [trRS,Option.map_eq_some_iff] at h;obtain ⟨_,_,h⟩:=h;cases h
 | row sz l=>cases h
theorem woOf_spec {H:CallH} {O:Nat→RS} (hn:nodup (H.m2.map (·.2))=true) :
  (∀ k r,(k,r)∈H.m2→upd (woOf H) O r=(trRS H.m2 (ofL H.O1 k)).getD .dead) ∧
  (∀ r,r ∉ H.m2.map (·.2)→r∈H.m1.map (·.2)→upd (woOf H) O r=.dead) ∧
  (∀ r,r ∉ H.m2.map (·.2)→r ∉ H.m1.map (·.2)→upd (woOf H) O r=O r):=by
 have hk:keys (H.m2.map fun x=>(x.2,(trRS H.m2 (ofL H.O1 x.1)).getD RS.dead))=H.m2.map (·.2):=by simp [keys]
 have hk1:keys (H.m1.map fun x=>(x.2,RS.dead))=H.m1.map (·.2):=by simp [keys]
 refine ⟨fun k r h=>?_,fun r h2 h1=>?_,fun r h2 h1=>?_⟩
 ·unfold woOf
  rw [upd_append_in (by rw [hk];exact List.mem_map.2 ⟨_,h,rfl⟩)]
  refine upd_mem (List.mem_map.2 ⟨_,h,rfl⟩) fun y hy=>?_
  obtain ⟨⟨k',r'⟩,hx,he⟩:=List.mem_map.1 hy
  simp only [Prod.mk.injEq] at he
  obtain ⟨rfl,rfl⟩:=he
  rw [nodup_eq hn hx h]
 ·unfold woOf
  rw [upd_append_out (by rw [hk];exact h2)]
  obtain ⟨x,hx,rfl⟩:=List.mem_map.1 h1
  refine upd_mem (List.mem_map.2 ⟨_,hx,rfl⟩) fun y hy=>?_
  obtain ⟨x',hx',he⟩:=List.mem_map.1 hy
  simp only [Prod.mk.injEq] at he
  exact he.2.symm
 ·unfold woOf
  rw [upd_append_out (by rw [hk];exact h2),upd_out (by rw [hk1];exact h1)]
theorem amCV_R {m:Nm} {lent:List Nat} {O O0:Nat→RS} {x y:CV} (h:amCV m lent O x y) {w:World} {g g0:G} (t:Tie m w g0 O0 g O) (hO:∀ r,rsR w g O r (O r))
  (hl:∀ r,lent.elem r=true→∀ b,(g.own b=some (.root r)∨∃ i j,g.own b=some (.cell r i j))→g0.Im b) {u:Value} (hu:cvR w g O y u):cvR w g0 O0 x u:=by
 unfold amCV at h
 split at h
 ·trivial
 ·rename_i sz L r e n
  obtain ⟨h1,h2⟩:=h
  split at h2
  ·rename_i sz' l hr
   obtain ⟨rfl,h3⟩:=h2
   have hrow:=hO r
   rw [hr] at hrow
   exact lend_R hr hrow hu h3 t.im (hl r h1)
  ·exact h2.elim
 ·rename_i x sz
  subst h
  have:u=.slice none 0 0:=hu
  subst this
  exact spR.nil sz none
 ·exact t.cv h hu
theorem amL_R {m:Nm} {lent:List Nat} {O O0:Nat→RS} {w:World} {g g0:G} (t:Tie m w g0 O0 g O) (hO:∀ r,rsR w g O r (O r))
  (hl:∀ r,lent.elem r=true→∀ b,(g.own b=some (.root r)∨∃ i j,g.own b=some (.cell r i j))→g0.Im b):∀ {l l':List CV},amL m lent O l l'→l.length=l'.length∧∀ (j:Nat) (x:CV),l[j]?=some x→∃ y,l'[j]?=some y∧∀ u,cvR w g O y u→cvR w g0 O0 x u
 | [],[],_=>by simp
 | x::l,y::l',h=>by
  obtain ⟨k1,k2⟩:=amL_R t hO hl h.2
  refine ⟨by simp [k1],fun j z hj=>?_⟩
  cases j with
  | zero=>simp at hj;subst hj;exact ⟨y,rfl,fun u hu=>amCV_R h.1 t hO hl hu⟩
  | succ j=>simpa using k2 j z (by simpa using hj)
 | [],_::_,h=>h.elim
 | _::_,[],h=>h.elim
theorem amAV_R {m:Nm} {lent:List Nat} {O O0:Nat→RS} {x y:AV} (h:amAV m lent O x y) {w:World} {g g0:G} (t:Tie m w g0 O0 g O) (hO:∀ r,rsR w g O r (O r))
  (hl:∀ r,lent.elem r=true→∀ b,(g.own b=some (.root r)∨∃ i j,g.own b=some (.cell r i j))→g0.Im b) {u:Value} (hu:avR w g O y u):avR w g0 O0 x u:=by
 cases x <;> cases y <;> simp only [amAV] at h
 ·exact amCV_R h t hO hl hu
 ·obtain ⟨k1,k2⟩:=amL_R t hO hl h
  obtain ⟨arr,rfl,hs,hk⟩:=hu
  refine ⟨arr,rfl,by rw [hs,k1],fun j x hj=>?_⟩
  obtain ⟨y,h1,h2⟩:=k2 j x hj
  obtain ⟨v,a1,a2,a3⟩:=hk j y h1
  exact ⟨v,a1,a2,h2 v a3⟩
 ·obtain ⟨rfl,h⟩:=h
  exact t.av (by simp [trAV,h]) hu
theorem amS_R {m:Nm} {lent:List Nat} {O O0:Nat→RS} {w:World} {g g0:G} (t:Tie m w g0 O0 g O) (hO:∀ r,rsR w g O r (O r))
  (hl:∀ r,lent.elem r=true→∀ b,(g.own b=some (.root r)∨∃ i j,g.own b=some (.cell r i j))→g0.Im b):∀ {l l':List SV},amS m lent O l l'→l.length=l'.length∧∀ (j:Nat) (x:SV),l[j]?=some x→∃ y,l'[j]?=some y∧∀ u,svR w g O y u→svR w g0 O0 x u
 | [],[],_=>by simp
 | x::l,y::l',h=>by
  obtain ⟨k1,k2⟩:=amS_R t hO hl h.2
  refine ⟨by simp [k1],fun j z hj=>?_⟩
  cases j with
  | zero =>
   simp at hj;subst hj
   refine ⟨y,rfl,fun u hu=>?_⟩
   have h1:=h.1
   cases x <;> cases y <;> simp only [amSV] at h1
   exact amAV_R h1 t hO hl hu
  | succ j=>simpa using k2 j z (by simpa using hj)
 | [],_::_,h=>h.elim
 | _::_,[],h=>h.elim
theorem nsAll_spec {H:CallH}:∀ {l:Nm},nsAll H l→∀ k r,(k,r)∈l→nsRS (ofL H.O1 k)
 | [],_,k,r,h=>by simp at h
 | (a,b)::l,h,k,r,hm=>by
  rcases List.mem_cons.1 hm with e | e
  ·cases e;exact h.1
  ·exact nsAll_spec h.2 k r e
theorem trAll_spec {H:CallH}:∀ {l:Nm},trAll H l=true→∀ k r,(k,r)∈l→∃ x,trRS H.m2 (ofL H.O1 k)=some x
 | [],_,k,r,h=>by simp at h
 | (a,b)::l,h,k,r,hm=>by
  simp only [trAll,Bool.and_eq_true,Option.isSome_iff_exists] at h
  rcases List.mem_cons.1 hm with e | e
  ·cases e;exact h.1
  ·exact trAll_spec h.2 k r e
theorem Good.call {P:Program} {Γ:Ctx} {g:G} {σ:St} {a:Act} {w:World} (hg:Good Γ g σ a w) {f:FuncId} {H:CallH} {l:List SV} {vals:Array Value} {res':SV}
  (hct:Ct P f H.svs (ofL H.O0) H.res (ofL H.O1)) (hnm:namesOk σ.O H=true) (htr:trAll H H.m2=true) (ham:amS H.m1 H.lent σ.O H.svs l) (hhand:hand σ.O (ofL H.O0) H.m1 H.m1)
  (hns:H.lent=[]∨nsSV H.res∧nsAll H H.m2) (hres:trSV H.m2 H.res=some res') (hvs:vals.size=l.length) (hv:∀ (i:Nat) (sv:SV),l[i]?=some sv→svR w g σ.O sv (vals.getD i undef)) :
  Calls P f vals w fun e w'=>∃ v g',e=.returned v∧Good Γ g' ⟨σ.T,upd (woOf H) σ.O⟩ a w'∧svR w' g' (upd (woOf H) σ.O) res' v:=by
 simp only [namesOk,Bool.and_eq_true,List.all_eq_true] at hnm
 obtain ⟨⟨⟨⟨⟨⟨⟨n1,n2⟩,n3⟩,n4⟩,n5⟩,n6⟩,n7⟩,n8⟩:=hnm
 have hO0:∀ k,look H.m1 k=none→ofL H.O0 k=.fresh:=by
  intro k hk
  have:k ∉ keys H.O0:=by
   intro hmem
   obtain ⟨x,hx,rfl⟩:=List.mem_map.1 hmem
   have:=n5 x hx
   simp only [List.elem_eq_mem,decide_eq_true_eq] at this
   obtain ⟨y,hy,he⟩:=List.mem_map.1 this
   have h1:=look_of n1 (show (y.1,y.2)∈H.m1 from hy)
   rw [he] at h1;rw [hk] at h1;cases h1
  exact upd_out this
 have hlent:∀ r,H.lent.elem r=true→back H.m1 r=none:=by
  intro r hr
  have hr':r∈H.lent:=by simpa using hr
  have:=n6 r hr'
  cases hb:back H.m1 r with
  | none=>rfl
  | some k =>
   exfalso
   have hm:=back_mem hb
   simp only [Bool.not_eq_true',List.elem_eq_mem,decide_eq_false_iff_not] at this
   exact this (List.mem_map.2 ⟨_,hm,rfl⟩)
 obtain ⟨g0,e1,e2,t0,hp0⟩:=hg.heap.restr H.m1 n2 (O0:=ofL H.O0) (fun k r hk=>hand_spec hhand k r (look_mem hk)) (fun k hk=>.inl (hO0 k hk))
  (fun b=>g.Im b∨∃ r,H.lent.elem r=true∧(g.own b=some (.root r)∨∃ i j,g.own b=some (.cell r i j))) (fun b hb=>.inl hb) (fun b hb=>by
   rcases hb with hb | ⟨r,hr,hb⟩
   ·exact ⟨(hg.im b hb).1,fun o ho=>by rw [(hg.im b hb).2] at ho;cases ho⟩
   ·rcases hb with hb | ⟨i,j,hb⟩
    ·exact ⟨hg.lt b _ hb,fun o ho=>by rw [hb] at ho;cases ho;simp [bkOwner,hlent r hr]⟩
    ·exact ⟨hg.lt b _ hb,fun o ho=>by rw [hb] at ho;cases ho;simp [bkOwner,hlent r hr]⟩)
 obtain ⟨q1,q2⟩:=amS_R t0 hg.O (fun r hr b hb=>by rw [e1];exact .inr ⟨r,hr,hb⟩) ham
 refine (hct w g0 vals hp0 (by rw [hvs,q1]) (fun i sv hi=>?_)).mono ?_
 ·obtain ⟨y,h1,h2⟩:=q2 i sv hi
  exact h2 _ (hv i y h1)
 rintro e w' ⟨v,g1,rfl,hres1,hp1,fr,hbx⟩
 let sh:Bool:=H.lent.isEmpty
 let gn:G:=⟨fun r=>(match back H.m2 r with | some k=>g1.β k | none=>g.β r),
  fun b=>(match g1.own b with | some o=>bkOwner (swp H.m2) o | none=>if (g0.own b).isSome then none else g.own b),
  fun b=>g.Im b∨(sh=true∧g1.Im b)⟩
 let O':=upd (woOf H) σ.O
 obtain ⟨w1,w2,w3⟩:=woOf_spec (O:=σ.O) n4
 have hm2:∀ k r,(k,r)∈H.m2→((k,r)∈H.m1∧(∃ l0,ofL H.O0 k=.box l0)∧∃ l1,ofL H.O1 k=.box l1)∨(σ.O r=.fresh∧r ∉ H.m1.map (·.2)):=by
  intro k r h
  have:=n8 _ h
  simp only [Bool.or_eq_true,Bool.and_eq_true] at this
  rcases this with ⟨⟨h1,h2⟩,h3⟩ | ⟨h1,h2⟩
  ·refine .inl ⟨memNm_spec h1,?_,?_⟩
   ·cases hx:ofL H.O0 k <;> rw [hx] at h2 <;> first | exact ⟨_,rfl⟩ | cases h2
   ·cases hx:ofL H.O1 k <;> rw [hx] at h3 <;> first | exact ⟨_,rfl⟩ | cases h3
  ·refine .inr ⟨?_,by simpa using h2⟩
   cases hx:σ.O r <;> rw [hx] at h1 <;> first | rfl | cases h1
 have hback:∀ r,back H.m2 r=none↔r ∉ H.m2.map (·.2):=by
  intro r
  constructor
  ·intro h hm
   obtain ⟨x,hx,rfl⟩:=List.mem_map.1 hm
   rw [back_of n4 (show (x.1,x.2)∈H.m2 from hx)] at h;cases h
  ·intro h
   cases hb:back H.m2 r with
   | none=>rfl
   | some k=>exact absurd (List.mem_map.2 ⟨_,back_mem hb,rfl⟩) h
 have hg0own:∀ b,g.own b=none→g0.own b=none:=by intro b hb;rw [e2,hb];rfl
 have hheap:∀ b,b<w.heap.size→g0.own b=none→w'.heap[b]?=w.heap[b]?:=fr.blk
 have hunt:∀ r b,r ∉ H.m1.map (·.2)→(g.own b=some (.root r)∨∃ i j,g.own b=some (.cell r i j))→g0.own b=none∧b<w.heap.size∧g1.own b=none:=by
  intro r b hr hb
  have hbr:back H.m1 r=none:=by
   cases hq:back H.m1 r with
   | none=>rfl
   | some k=>exact absurd (List.mem_map.2 ⟨_,back_mem hq,rfl⟩) hr
  have h0:g0.own b=none:=by
   rw [e2]
   rcases hb with hb | ⟨i,j,hb⟩ <;> rw [hb] <;> simp [bkOwner,hbr]
  have hlt:b<w.heap.size:=by rcases hb with hb | ⟨i,j,hb⟩ <;> exact hg.lt b _ hb
  refine ⟨h0,hlt,?_⟩
  cases hq:g1.own b with
  | none=>rfl
  | some o =>
   rcases fr.own b o hq with h | ⟨o',h⟩
   ·omega
   ·rw [h0] at h;cases h
 have hle:Le w g σ.O w' gn O':=by
  refine ⟨fun b hb=>⟨.inl hb,hheap b (hg.im b hb).1 (hg0own b (hg.im b hb).2)⟩,fun r hr=>?_,fun r sz' l' hr hr'=>?_,fun r l' hr hr'=>?_⟩
  ·show O' r≠.fresh
   by_cases h2:r∈H.m2.map (·.2)
   ·obtain ⟨x,hx,rfl⟩:=List.mem_map.1 h2
    show upd (woOf H) σ.O x.2≠_
    rw [w1 x.1 x.2 hx]
    obtain ⟨y,hy⟩:=trAll_spec htr x.1 x.2 hx
    rw [hy];exact trRS_live hy
   ·by_cases h1:r∈H.m1.map (·.2)
    ·show upd (woOf H) σ.O r≠_
     rw [w2 r h2 h1];simp
    ·show upd (woOf H) σ.O r≠_
     rw [w3 r h2 h1];exact hr
  ·have hr':upd (woOf H) σ.O r=.row sz' l':=hr'
   by_cases h2:r∈H.m2.map (·.2)
   ·obtain ⟨x,hx,rfl⟩:=List.mem_map.1 h2
    rw [w1 x.1 x.2 hx] at hr'
    rcases hm2 x.1 x.2 hx with ⟨_,_,l1,h4⟩ | ⟨h3,_⟩
    ·rw [h4] at hr'
     simp only [trRS] at hr'
     cases hq:trL H.m2 l1 <;> rw [hq] at hr' <;> cases hr'
    ·exact absurd h3 hr
   ·by_cases h1:r∈H.m1.map (·.2)
    ·rw [w2 r h2 h1] at hr';cases hr'
    ·rw [w3 r h2 h1] at hr'
     refine ⟨sz',l',hr',rfl,Nat.le_refl _,by show (match back H.m2 r with | some k=>_ | none=>_)=_;rw [(hback r).2 h2],fun b hb c hc=>?_⟩
     have hrow:=hg.O r
     rw [hr'] at hrow
     simp only [rsR,hb] at hrow
     obtain ⟨_,ho,_⟩:=hrow
     obtain ⟨h0,hlt,_⟩:=hunt r b h1 (.inl ho)
     exact ⟨c,hc.congr (hheap b hlt h0),rfl⟩
  ·have hr':upd (woOf H) σ.O r=.box l':=hr'
   by_cases h2:r∈H.m2.map (·.2)
   ·obtain ⟨x,hx,rfl⟩:=List.mem_map.1 h2
    rcases hm2 x.1 x.2 hx with ⟨h3,⟨l0,h5⟩,l1,h4⟩ | ⟨h3,_⟩
    ·have hlk:=look_of n1 (show (x.1,x.2)∈H.m1 from h3)
     obtain ⟨l2,hy2⟩:∃ l2,σ.O x.2=.box l2:=by
      rcases t0.o _ _ hlk with ⟨sz,l,q1,_⟩ | ⟨l,l',_,q2⟩
      ·rw [h5] at q1;cases q1
      ·exact ⟨l',q2⟩
     refine ⟨l2,hy2,?_⟩
     show (match back H.m2 x.2 with | some k=>_ | none=>_)=_
     rw [back_of n4 (show (x.1,x.2)∈H.m2 from hx)]
     show g1.β x.1=_
     rw [hbx x.1 l0 l1 h5 h4]
     exact t0.β _ _ hlk
    ·exact absurd h3 hr
   ·by_cases h1:r∈H.m1.map (·.2)
    ·rw [w2 r h2 h1] at hr';cases hr'
    ·rw [w3 r h2 h1] at hr'
     exact ⟨l',hr',by show (match back H.m2 r with | some k=>_ | none=>_)=_;rw [(hback r).2 h2]⟩
 let g1s:G:={ β:=g1.β,own:=g1.own,Im:=fun b=>sh=true∧g1.Im b }
 have hshr:sh=true∨(nsSV H.res∧nsAll H H.m2):=by
  rcases hns with h | h
  ·left;simp [sh,h]
  ·exact .inr h
 have hO1:∀ k r,(k,r)∈H.m2→rsR w' g1s (ofL H.O1) k (ofL H.O1 k):=by
  intro k r hm
  rcases hshr with h | h
  ·have:g1s=g1:=by simp [g1s,h]
   rw [this];exact hp1.O k
  ·exact nsRS_R (g:=g1) rfl rfl (nsAll_spec h.2 k r hm) (hp1.O k)
 have hres2:svR w' g1s (ofL H.O1) H.res v:=by
  rcases hshr with h | h
  ·have:g1s=g1:=by simp [g1s,h]
   rw [this];exact hres1
  ·exact nsSV_R (g:=g1) rfl h.1 hres1
 have tie:Tie (swp H.m2) w' gn O' g1s (ofL H.O1):=by
  refine ⟨fun r k hk=>?_,fun r k hk=>?_,fun b hb=>.inr hb⟩
  ·rw [look_swp] at hk
   have hm:=back_mem hk
   obtain ⟨x,hx⟩:=trAll_spec htr k r hm
   refine trRS_shape (m:=swp H.m2) (x:=O' r) (y:=ofL H.O1 k) ?_
   show trRS (swp H.m2) (upd (woOf H) σ.O r)=_
   rw [w1 k r hm,hx]
   exact trRS_swp n4 hx
  ·rw [look_swp] at hk
   show (match back H.m2 r with | some k=>_ | none=>_)=_
   rw [hk]
 refine ⟨v,gn,rfl,hg.step hle (fun r=>?_) (fun b hb=>?_) fr.os fr.tape fr.out fr.size (fun b hb hn=>hheap b hb (hg0own b (by cases hq:g.own b with | none=>rfl | some o=>exact absurd hq (hn o)))) (fun b o ho=>?_) (fun b hb=>?_),?_⟩
 ·show rsR w' gn O' r (O' r)
  by_cases h2:r∈H.m2.map (·.2)
  ·obtain ⟨⟨k,r⟩,hx,rfl⟩:=List.mem_map.1 h2
   refine tie.rs (k:=r) (r:=k) (by rw [look_swp];exact back_of n4 hx) (by
    obtain ⟨x,hx'⟩:=trAll_spec htr k r hx
    show trRS (swp H.m2) (upd (woOf H) σ.O r)=_
    rw [w1 k r hx,hx']
    exact trRS_swp n4 hx') (fun b=>⟨fun hb=>?_,fun i j hb=>?_⟩) (hO1 k r hx)
   ·have hb:g1.own b=some (.root k):=hb
    show (match g1.own b with | some o=>_ | none=>_)=_
    rw [hb]
    show (back (swp H.m2) k).map _=_
    have:back (swp H.m2) k=some r:=by
     refine back_of (m:=swp H.m2) ?_ (List.mem_map.2 ⟨_,hx,rfl⟩)
     simpa [swp,Function.comp_def] using n3
    rw [this];rfl
   ·have hb:g1.own b=some (.cell k i j):=hb
    show (match g1.own b with | some o=>_ | none=>_)=_
    rw [hb]
    show (back (swp H.m2) k).map _=_
    have:back (swp H.m2) k=some r:=by
     refine back_of (m:=swp H.m2) ?_ (List.mem_map.2 ⟨_,hx,rfl⟩)
     simpa [swp,Function.comp_def] using n3
    rw [this];rfl
  ·by_cases h1:r∈H.m1.map (·.2)
   ·show rsR w' gn O' r (upd (woOf H) σ.O r)
    rw [w2 r h2 h1];trivial
   ·show rsR w' gn O' r (upd (woOf H) σ.O r)
    rw [w3 r h2 h1]
    refine hle.keep (by show (match back H.m2 r with | some k=>_ | none=>_)=_;rw [(hback r).2 h2]) (fun b hb=>?_) (hg.O r)
    obtain ⟨h0,hlt,h3⟩:=hunt r b h1 hb
    refine ⟨hheap b hlt h0,?_⟩
    show (match g1.own b with | some o=>_ | none=>_)=_
    rw [h3,h0];rfl
 ·have hb:g.Im b∨(sh=true∧g1.Im b):=hb
  have hsz:=fr.size
  rcases hb with hb | ⟨hs,hb⟩
  ·obtain ⟨h1,h2⟩:=hg.im b hb
   refine ⟨by omega,?_⟩
   have h3:=hg0own b h2
   show (match g1.own b with | some o=>_ | none=>_)=_
   cases hq:g1.own b with
   | none=>simp [h3,h2]
   | some o =>
    exfalso
    rcases fr.own b o hq with h | ⟨o',h⟩
    ·omega
    ·rw [h3] at h;cases h
  ·obtain ⟨h1,h2⟩:=hp1.im b hb
   refine ⟨h1,?_⟩
   show (match g1.own b with | some o=>_ | none=>_)=_
   rw [h2]
   show (if (g0.own b).isSome then none else g.own b)=none
   by_cases hq:(g0.own b).isSome=true
   ·rw [if_pos hq]
   ·rw [if_neg hq]
    rcases fr.im b hb with h | h | ⟨o,h⟩
    ·rw [e1] at h
     rcases h with h | ⟨r,hr,_⟩
     ·exact (hg.im b h).2
     ·have:H.lent=[]:=by simpa [sh] using hs
      rw [this] at hr;simp at hr
    ·cases ho:g.own b with
     | none=>rfl
     | some o=>have:=hg.lt b o ho;omega
    ·rw [h] at hq;simp at hq
 ·have ho:(match g1.own b with | some o=>bkOwner (swp H.m2) o | none=>if (g0.own b).isSome then none else g.own b)=some o:=ho
  have hsz:=fr.size
  cases hq:g1.own b with
  | some o1 =>
   refine ⟨hp1.lt b o1 hq,?_⟩
   rcases fr.own b o1 hq with h | ⟨o',h⟩
   ·exact .inl h
   ·right
    rw [e2,Option.bind_eq_some_iff] at h
    obtain ⟨o2,h,_⟩:=h
    exact ⟨o2,h⟩
  | none =>
   rw [hq] at ho
   simp only at ho
   split at ho
   ·cases ho
   ·have:=hg.lt b o ho
    exact ⟨by omega,.inr ⟨o,ho⟩⟩
 ·have hb:g.Im b∨(sh=true∧g1.Im b):=hb
  rcases hb with hb | ⟨hs,hb⟩
  ·exact .inl hb
  ·rcases fr.im b hb with h | h | ⟨o,h⟩
   ·rw [e1] at h
    rcases h with h | ⟨r,hr,h⟩
    ·exact .inl h
    ·right;right
     rcases h with h | ⟨i,j,h⟩ <;> exact ⟨_,h⟩
   ·exact .inr (.inl h)
   ·right;right
    rw [e2,Option.bind_eq_some_iff] at h
    obtain ⟨o2,h,_⟩:=h
    exact ⟨o2,h⟩
 ·exact tie.sv (trSV_swp n4 hres) hres2
end Go.XM
end
