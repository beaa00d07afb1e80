import Derived.Test.YtocbppcndoeicaaGreatMsT1
import Derived.Laws.IdiomCopy
import Derived.Shelf.Strings.Repeat
set_option linter.all false
section
namespace Go.XM
open Go.RowKit
abbrev i64:Ty:=.int .i64
theorem rowArg {w:World} {g:G} {O:Nat→RS} {r:Nat} {xs:List Int} {u:Value} (hO:O r=.row 1 (rowR false i64 xs)) (hrs:rsR w g O r (O r)) (hu:cvR w g O (.vw r 0 xs.length) u) :
  (xs=[]∧∃ a,u=.slice a 0 0)∨∃ b c,u=.slice (some ⟨b,0,none⟩) xs.length c.size∧g.own b=some (.root r)∧Blk w b c∧xs.length≤c.size∧∀ (i:Nat) (x:Int),xs[i]?=some x→c[i]?=some (.int .i64 x):=by
 rw [hO] at hrs
 simp only [cvR,hO] at hu
 simp only [rsR] at hrs
 cases hβ:g.β r with
 | none =>
  simp only [hβ] at hu hrs
  obtain ⟨_,h2,a,h3⟩:=hu
  have:xs=[]:=List.eq_nil_of_length_eq_zero h2
  subst this
  exact .inl ⟨rfl,a,h3⟩
 | some b =>
  simp only [hβ] at hu hrs
  obtain ⟨cap,c,off,h1,h0,h2,h3,h4,h5⟩:=hu
  obtain ⟨c',q2,q3,q4,q6,q5⟩:=hrs
  obtain rfl:=h4.uniq q3
  have hs:c.size=cap:=by simpa using h5
  by_cases hc:cap=0
  ·subst hc
   have:xs=[]:=List.eq_nil_of_length_eq_zero (by omega)
   subst this
   exact .inl ⟨rfl,_,h1⟩
  ·have hoff:off=0:=by rcases h0 with h | h <;> omega
   subst hoff
   refine .inr ⟨b,c,by rw [hs];exact h1,q2,q3,by omega,fun i x hi=>?_⟩
   obtain ⟨v,a1,a2,a3⟩:=q5 i [.s (.v (.int .i64 x))] 0 (.s (.v (.int .i64 x))) (by simp [rowR,hi,elR,Ty.enc]) rfl
   have a3:spR w g.Im (.v (.int .i64 x)) v:=a3
   cases a3
   simpa using a1
def oneO (r:List Int):Nat→RS:=ofL [(2000000,.row 1 (rowR false i64 r))]
theorem oneO_at (r:List Int):oneO r 2000000=.row 1 (rowR false i64 r):=rfl
theorem oneO_ne (r:List Int) {k:Nat} (h:k≠2000000):oneO r k=.fresh:=by simp [oneO,ofL,upd,h]
theorem rowPost {w w':World} {g:G} {r:List Int} {b:Nat} {c:Array Value} (hos:w'.os=w.os) (ht:w'.tape=w.tape) (hout:w'.output=w.output) (hs:w.heap.size≤w'.heap.size)
  (hk:∀ k,k<w.heap.size→g.own k=none→w'.heap[k]?=w.heap[k]?) (hb:w.heap.size≤b∨∃ o,g.own b=some o) (hB:Blk w' b c) (hl:r.length≤c.size)
  (hc:∀ (i:Nat) (x:Int),r[i]?=some x→c[i]?=some (.int .i64 x)) (him:∀ b,g.Im b→b<w.heap.size∧g.own b=none) :
  ∃ g',svR w' g' (oneO r) (cv (.vw 2000000 0 r.length)) (.slice (some ⟨b,0,none⟩) r.length c.size)∧Heap w' g' (oneO r)∧Fr w g w' g':=by
 let g':G:={ β:=fun k=>if k=2000000 then some b else none,own:=fun k=>if k=b then some (.root 2000000) else none,Im:=g.Im }
 have hne:∀ k,g.Im k→k≠b:=by
  rintro k hi rfl
  rcases hb with h | ⟨o,h⟩
  ·have:=(him k hi).1;omega
  ·rw [(him k hi).2] at h;cases h
 refine ⟨g',?_,⟨fun k=>?_,fun k hi=>⟨?_,?_⟩,fun k o ho=>?_⟩,⟨hos,ht,hout,hs,hk,fun k o ho=>?_,fun k hi=>.inl hi⟩⟩
 ·show cvR w' g' (oneO r) (.vw 2000000 0 r.length) _
  simp only [cvR,oneO_at]
  show ∃ cap cc off,_
  exact ⟨c.size,c,0,rfl,.inr (by simp),hl,by simp,hB,by simp⟩
 ·by_cases e:k=2000000
  ·subst e
   rw [oneO_at]
   show ∃ cc,_
   refine ⟨c,by show (if b=b then _ else _)=_;rw [if_pos rfl],hB,?_,by simpa using hl,fun i e j rc hi hj=>?_⟩
   ·intro e he
    obtain ⟨y,_,rfl⟩:=List.mem_map.1 he
    rfl
   ·rw [rowR,List.getElem?_map,Option.map_eq_some_iff] at hi
    obtain ⟨x,hx,rfl⟩:=hi
    have hj0:j=0:=by
     have:=idx_lt hj
     simp only [elR,Ty.enc,List.map_cons,List.map_nil,List.length_singleton] at this
     omega
    subst hj0
    have hrc:rc=.s (.v (.int .i64 x)):=by
     have:some (RC.s (.v (.int .i64 x)))=some rc:=hj
     exact (Option.some.inj this).symm
    subst hrc
    exact ⟨.int .i64 x,by simpa using hc i x hx,rfl,spR.v _ rfl⟩
  ·rw [oneO_ne r e];trivial
 ·have:=(him k hi).1;omega
 ·show (if k=b then _ else _)=_
  rw [if_neg (hne k hi)]
 ·have ho:(if k=b then some (Owner.root 2000000) else none)=some o:=ho
  split at ho
  ·rename_i e;subst e;exact hB.lt
  ·cases ho
 ·have ho:(if k=b then some (Owner.root 2000000) else none)=some o:=ho
  split at ho
  ·rename_i e;subst e;exact hb
  ·cases ho
theorem Blk.sets {b:Nat}:∀ (vs:List Value) (o:Nat) (w:World) {c:Array Value},Blk w b c→Blk (w.setCells b o vs) b (setsA c o vs)
 | [],o,w,c,h=>h
 | v::vs,o,w,c,h=>Blk.sets vs (o+1) _ (h.set o v)
theorem sets_other {b:Nat}:∀ (vs:List Value) (o:Nat) (w:World) (k:Nat),k≠b→(w.setCells b o vs).heap[k]?=w.heap[k]?
 | [],o,w,k,_=>rfl
 | v::vs,o,w,k,h=>(sets_other vs (o+1) _ k h).trans (Below.heap_setCell w ⟨b,o,none⟩ v k h)
theorem sets_same {b:Nat}:∀ (vs:List Value) (o:Nat) (w:World),(w.setCells b o vs).os=w.os∧(w.setCells b o vs).tape=w.tape∧(w.setCells b o vs).output=w.output∧(w.setCells b o vs).heap.size=w.heap.size
 | [],o,w=>⟨rfl,rfl,rfl,rfl⟩
 | v::vs,o,w=>by
  obtain ⟨h1,h2,h3,h4⟩:=sets_same vs (o+1) (w.setCell ⟨b,o,none⟩ v)
  exact ⟨h1,h2,h3,h4.trans (by simp)⟩
end Go.XM
end
section
namespace Go.XM
open Go.RowKit Go.Proofs Go.Shelf
abbrev sgRep:Sig:=⟨[(.one,.str),(.one,i64)],[],[(.one,.str)],[]⟩
def repF (s:ByteArray) (c:Int):Option ByteArray :=
 if (0:Int)≤c∧c≤9223372036854775807∧s.size*c.toNat≤140737488355328 then some ⟨(Lib.repeatL s.data.toList c.toNat).toArray⟩ else none
set_option maxHeartbeats 1000000 in
theorem ct_repeat {P:Program} {ρ:Ren} (L:Lays.n105 P ρ) (X:Builder.Extra P ρ):CtX P (ρ.f 105) sgRep (fun x=>repF x.1 x.2):=by
 intro v ⟨s,c⟩ r hr
 simp only [repF] at hr
 split at hr
 ·rename_i hg0
  obtain ⟨hc0,hc,hbig⟩:=hg0
  cases hr
  intro w g vals hH hsz hv
  obtain ⟨n,rfl⟩:=Int.eq_ofNat_of_zero_le hc0
  have hargs:sgRep.svs (s,(n:Int))=[cv (.p (.v (.string s))),cv (.p (.v (.int .i64 n)))]:=rfl
  rw [hargs] at hsz hv
  have h0:=hv 0 _ rfl
  have h1:=hv 1 _ rfl
  obtain ⟨v0,v1,rfl⟩:∃ v0 v1,vals=#[v0,v1]:=by
   cases vals with
   | mk l=>match l,hsz with
    | [a,b],_=>exact ⟨a,b,rfl⟩
  have z0:spR w g.Im (.v (.string s)) v0:=h0
  have z1:spR w g.Im (.v (.int .i64 n)) v1:=h1
  cases z0
  cases z1
  have him:=hH.im
  simp only [Int.toNat_natCast] at hbig ⊢
  refine (Any.strings_Repeat L X s n w (by omega) hbig).mono ?_
  rintro e w' ⟨rfl,hB⟩
  let g':G:={ β:=fun _=>none,own:=fun _=>none,Im:=g.Im }
  refine ⟨_,g',rfl,?_,⟨fun k=>?_,fun k hi=>⟨?_,?_⟩,fun k o ho=>?_⟩,⟨hB.os,hB.tape,hB.output,hB.size,fun k hk _=>hB.block k hk,fun k o ho=>?_,fun k hi=>.inl hi⟩,?_⟩
  ·exact spR.v _ rfl
  ·trivial
  ·have:=(him k hi).1;have:=hB.size;omega
  ·rfl
  ·cases ho
  ·cases ho
  ·intro k l l' _ h;cases h
 ·cases hr
end Go.XM
end
