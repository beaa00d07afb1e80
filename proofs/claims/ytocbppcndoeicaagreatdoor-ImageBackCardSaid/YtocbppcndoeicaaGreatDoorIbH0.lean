import Derived.Test.YtocbppcndoeicaaGreatDoorMsR0
import Derived.Laws.IdiomCopy
import Derived.Shelf.Slices.Delete
import Derived.Shelf.Slices.In.SortNone
import Derived.Shelf.Sort.Plain
import Derived.Shelf.Strings.Repeat
import Derived.Shelf.Strings.Trim
import Derived.Sort.Grow
set_option linter.all false
section
namespace Go.XM
open Go.RowKit
abbrev i64:Ty:=.int .i64
theorem rowArg {w:World} {g:G} {O:Nat→RS} {r:Nat} {xs:List Int} {u:Value} (hO:O r=.row 1 (rowR false i64 xs)) (hrs:rsR w g O r (O r)) (hu:cvR w g O (.vw r 0 xs.length) u) :
  (xs=[]∧∃ a,u=.slice a 0 0)∨∃ b c,u=.slice (some ⟨b,0,none⟩) xs.length c.size∧g.own b=some (.root r)∧Blk w b c∧xs.length≤c.size∧∀ (i:Nat) (x:Int),xs[i]?=some x→c[i]?=some (.int .i64 x):=by
 rw [hO] at hrs
 simp only [cvR,hO] at hu
 simp only [rsR] at hrs
 cases hβ:g.β r with
 | none =>
  simp only [hβ] at hu hrs
  obtain ⟨_,h2,a,h3⟩:=hu
  have:xs=[]:=List.eq_nil_of_length_eq_zero h2
  subst this
  exact .inl ⟨rfl,a,h3⟩
 | some b =>
  simp only [hβ] at hu hrs
  obtain ⟨cap,c,off,h1,h0,h2,h3,h4,h5⟩:=hu
  obtain ⟨c',q2,q3,q4,q6,q5⟩:=hrs
  obtain rfl:=h4.uniq q3
  have hs:c.size=cap:=by simpa using h5
  by_cases hc:cap=0
  ·subst hc
   have:xs=[]:=List.eq_nil_of_length_eq_zero (by omega)
   subst this
   exact .inl ⟨rfl,_,h1⟩
  ·have hoff:off=0:=by rcases h0 with h | h <;> omega
   subst hoff
   refine .inr ⟨b,c,by rw [hs];exact h1,q2,q3,by omega,fun i x hi=>?_⟩
   obtain ⟨v,a1,a2,a3⟩:=q5 i [.s (.v (.int .i64 x))] 0 (.s (.v (.int .i64 x))) (by simp [rowR,hi,elR,Ty.enc]) rfl
   have a3:spR w g.Im (.v (.int .i64 x)) v:=a3
   cases a3
   simpa using a1
def oneO (r:List Int):Nat→RS:=ofL [(2000000,.row 1 (rowR false i64 r))]
theorem oneO_at (r:List Int):oneO r 2000000=.row 1 (rowR false i64 r):=rfl
theorem oneO_ne (r:List Int) {k:Nat} (h:k≠2000000):oneO r k=.fresh:=by simp [oneO,ofL,upd,h]
theorem rowPost {w w':World} {g:G} {r:List Int} {b:Nat} {c:Array Value} (hos:w'.os=w.os) (ht:w'.tape=w.tape) (hout:w'.output=w.output) (hs:w.heap.size≤w'.heap.size)
  (hk:∀ k,k<w.heap.size→g.own k=none→w'.heap[k]?=w.heap[k]?) (hb:w.heap.size≤b∨∃ o,g.own b=some o) (hB:Blk w' b c) (hl:r.length≤c.size)
  (hc:∀ (i:Nat) (x:Int),r[i]?=some x→c[i]?=some (.int .i64 x)) (him:∀ b,g.Im b→b<w.heap.size∧g.own b=none) :
  ∃ g',svR w' g' (oneO r) (cv (.vw 2000000 0 r.length)) (.slice (some ⟨b,0,none⟩) r.length c.size)∧Heap w' g' (oneO r)∧Fr w g w' g':=by
 let g':G:={ β:=fun k=>if k=2000000 then some b else none,own:=fun k=>if k=b then some (.root 2000000) else none,Im:=g.Im }
 have hne:∀ k,g.Im k→k≠b:=by
  rintro k hi rfl
  rcases hb with h | ⟨o,h⟩
  ·have:=(him k hi).1;omega
  ·rw [(him k hi).2] at h;cases h
 refine ⟨g',?_,⟨fun k=>?_,fun k hi=>⟨?_,?_⟩,fun k o ho=>?_⟩,⟨hos,ht,hout,hs,hk,fun k o ho=>?_,fun k hi=>.inl hi⟩⟩
 ·show cvR w' g' (oneO r) (.vw 2000000 0 r.length) _
  simp only [cvR,oneO_at]
  show ∃ cap cc off,_
  exact ⟨c.size,c,0,rfl,.inr (by simp),hl,by simp,hB,by simp⟩
 ·by_cases e:k=2000000
  ·subst e
   rw [oneO_at]
   show ∃ cc,_
   refine ⟨c,by show (if b=b then _ else _)=_;rw [if_pos rfl],hB,?_,by simpa using hl,fun i e j rc hi hj=>?_⟩
   ·intro e he
    obtain ⟨y,_,rfl⟩:=List.mem_map.1 he
    rfl
   ·rw [rowR,List.getElem?_map,Option.map_eq_some_iff] at hi
    obtain ⟨x,hx,rfl⟩:=hi
    have hj0:j=0:=by
     have:=idx_lt hj
     simp only [elR,Ty.enc,List.map_cons,List.map_nil,List.length_singleton] at this
     omega
    subst hj0
    have hrc:rc=.s (.v (.int .i64 x)):=by
     have:some (RC.s (.v (.int .i64 x)))=some rc:=hj
     exact (Option.some.inj this).symm
    subst hrc
    exact ⟨.int .i64 x,by simpa using hc i x hx,rfl,spR.v _ rfl⟩
  ·rw [oneO_ne r e];trivial
 ·have:=(him k hi).1;omega
 ·show (if k=b then _ else _)=_
  rw [if_neg (hne k hi)]
 ·have ho:(if k=b then some (Owner.root 2000000) else none)=some o:=ho
  split at ho
  ·rename_i e;subst e;exact hB.lt
  ·cases ho
 ·have ho:(if k=b then some (Owner.root 2000000) else none)=some o:=ho
  split at ho
  ·rename_i e;subst e;exact hb
  ·cases ho
theorem Blk.sets {b:Nat}:∀ (vs:List Value) (o:Nat) (w:World) {c:Array Value},Blk w b c→Blk (w.setCells b o vs) b (setsA c o vs)
 | [],o,w,c,h=>h
 | v::vs,o,w,c,h=>Blk.sets vs (o+1) _ (h.set o v)
theorem sets_other {b:Nat}:∀ (vs:List Value) (o:Nat) (w:World) (k:Nat),k≠b→(w.setCells b o vs).heap[k]?=w.heap[k]?
 | [],o,w,k,_=>rfl
 | v::vs,o,w,k,h=>(sets_other vs (o+1) _ k h).trans (Below.heap_setCell w ⟨b,o,none⟩ v k h)
theorem sets_same {b:Nat}:∀ (vs:List Value) (o:Nat) (w:World),(w.setCells b o vs).os=w.os∧(w.setCells b o vs).tape=w.tape∧(w.setCells b o vs).output=w.output∧(w.setCells b o vs).heap.size=w.heap.size
 | [],o,w=>⟨rfl,rfl,rfl,rfl⟩
 | v::vs,o,w=>by
  obtain ⟨h1,h2,h3,h4⟩:=sets_same vs (o+1) (w.setCell ⟨b,o,none⟩ v)
  exact ⟨h1,h2,h3,h4.trans (by simp)⟩
end Go.XM
end
section
namespace Go.XM
open Go.RowKit Go.Proofs Go.Shelf
abbrev sgRep:Sig:=⟨[(.one,.str),(.one,i64)],[],[(.one,.str)],[]⟩
def repF (s:ByteArray) (c:Int):Option ByteArray :=
 if (0:Int)≤c∧c≤9223372036854775807∧s.size*c.toNat≤140737488355328 then some ⟨(Lib.repeatL s.data.toList c.toNat).toArray⟩ else none
set_option maxHeartbeats 1000000 in
theorem ct_repeat {P:Program} {ρ:Ren} (L:Lays.n105 P ρ) (X:Builder.Extra P ρ):CtX P (ρ.f 105) sgRep (fun x=>repF x.1 x.2):=by
 intro v ⟨s,c⟩ r hr
 simp only [repF] at hr
 split at hr
 ·rename_i hg0
  obtain ⟨hc0,hc,hbig⟩:=hg0
  cases hr
  intro w g vals hH hsz hv
  obtain ⟨n,rfl⟩:=Int.eq_ofNat_of_zero_le hc0
  have hargs:sgRep.svs (s,(n:Int))=[cv (.p (.v (.string s))),cv (.p (.v (.int .i64 n)))]:=rfl
  rw [hargs] at hsz hv
  have h0:=hv 0 _ rfl
  have h1:=hv 1 _ rfl
  obtain ⟨v0,v1,rfl⟩:∃ v0 v1,vals=#[v0,v1]:=by
   cases vals with
   | mk l=>match l,hsz with
    | [a,b],_=>exact ⟨a,b,rfl⟩
  have z0:spR w g.Im (.v (.string s)) v0:=h0
  have z1:spR w g.Im (.v (.int .i64 n)) v1:=h1
  cases z0
  cases z1
  have him:=hH.im
  simp only [Int.toNat_natCast] at hbig ⊢
  refine (Any.strings_Repeat L X s n w (by omega) hbig).mono ?_
  rintro e w' ⟨rfl,hB⟩
  let g':G:={ β:=fun _=>none,own:=fun _=>none,Im:=g.Im }
  refine ⟨_,g',rfl,?_,⟨fun k=>?_,fun k hi=>⟨?_,?_⟩,fun k o ho=>?_⟩,⟨hB.os,hB.tape,hB.output,hB.size,fun k hk _=>hB.block k hk,fun k o ho=>?_,fun k hi=>.inl hi⟩,?_⟩
  ·exact spR.v _ rfl
  ·trivial
  ·have:=(him k hi).1;have:=hB.size;omega
  ·rfl
  ·cases ho
  ·cases ho
  ·intro k l l' _ h;cases h
 ·cases hr
end Go.XM
end
section
namespace Go.Proofs
open Go.Shelf Go.RowKit Go.Lib Go.Sort
variable {P:Program} {ρ:Ren}
set_option maxHeartbeats 4000000 in
set_option maxRecDepth 1000000 in
theorem Any.del_int_arr (L:Lays2.n23 P ρ) (blk off cap i j:Nat) (d:Array Int) (w:World) (hH:Holds encI w blk off d) (hcap:d.size≤cap) (hm:d.size≤9223372036854775807) (hij:i≤j) (hj:j≤d.size) :
  Calls P (ρ.f 23) #[.slice (some ⟨blk,off,none⟩) d.size cap,.int .i64 i,.int .i64 j] w fun e w'=>e=.returned (.slice (some ⟨blk,off,none⟩) (d.size-(j-i)) cap)∧∃ q,w'=putRow encI (Sort.ahead w q) blk off (d.toList.take i++d.toList.drop j++List.replicate (j-i) 0).toArray:=by
 have mixed:=L.mixed;have t0:=L.t0;have a0:=L.a0;have z0:=L.z0;have v0:=L.v0;have t3:=L.t3;have a3:=L.a3;have z3:=L.z3;have v3:=L.v3;have t4:=L.t4;have a4:=L.a4;have z4:=L.z4;have v4:=L.v4;have t22:=L.t22;have a22:=L.a22;have z22:=L.z22;have v22:=L.v22
 obtain ⟨i0,hi0,hz0,hz1,hz2⟩:=info_parts L.i3
 by_cases heq:i=j
 ·subst heq
  have h0:Calls P (ρ.f 23) #[.slice (some ⟨blk,off,none⟩) d.size cap,.int .i64 i,.int .i64 i] w fun e w'=>e=.returned (.slice (some ⟨blk,off,none⟩) d.size cap)∧w'=w:=by
   clear hH
   go_enter L.f23,Body2.n23_ntmps ρ
   go_wp2
   all_goals (go_ret;exact ⟨rfl,rfl⟩)
  refine h0.mono ?_
  rintro e w' ⟨rfl,rfl⟩
  have e:(d.toList.take i++d.toList.drop i++List.replicate (i-i) 0).toArray=d:=by simp
  refine ⟨by rw [Nat.sub_self,Nat.sub_zero],0,?_⟩
  rw [e]
  exact (putRow_self encI (Sort.ahead w' 0) blk off d hH).symm
 ·have hlt:i<j:=by omega
  obtain ⟨news,hnews⟩:∃ news,news=(d.toList.drop j).map encI:=⟨_,rfl⟩
  have hlen:news.length=d.size-j:=by rw [hnews];simp
  have hget:∀ t,t<d.size-j→news[t]?=some (encI d[j+t]!):=by
   intro t ht
   rw [hnews,List.getElem?_map,List.getElem?_drop,Array.getElem?_toList,getElem!_pos d (j+t) (by omega),Array.getElem?_eq_getElem (by omega)]
   rfl
  obtain ⟨A,hA,hsrc⟩:∃ A:Addr,(if cap=j then some (⟨blk,off,none⟩:Addr) else some ⟨blk,off+j,none⟩)=some A∧Hid (∀ t u,news[t]?=some u→w.drew.cell? (A.add t)=some u):=by
   by_cases h:cap=j
   ·refine ⟨⟨blk,off,none⟩,by simp [h],fun t u hu=>?_⟩
    have h0:news.length=0:=by rw [hlen];omega
    rw [List.length_eq_zero_iff.1 h0] at hu
    simp at hu
   ·refine ⟨⟨blk,off+j,none⟩,by simp [h],fun t u hu=>?_⟩
    have ht:t<d.size-j:=by
     have:=(List.getElem?_eq_some_iff.1 hu).1
     rwa [hlen] at this
    rw [hget t ht] at hu
    rw [Addr.add_lit,show off+j+t=off+(j+t) by omega]
    exact (hH (j+t) (by omega)).1.trans hu
  have s1:Hid (news.length=(d.size-j)*1):=by rw [Nat.mul_one];exact hlen
  have s2:Hid (∀ u∈news,u.oneCell'=true):=by
   intro u hu
   rw [hnews] at hu
   obtain ⟨x,_,rfl⟩:=List.mem_map.1 hu
   rfl
  have s3:Hid (∀ t,t<news.length→(w.drew.cell? ⟨blk,off+i*1+t,none⟩).isSome=true∧w.drew.frozen? ⟨blk,off+i*1+t,none⟩=false):=by
   intro t ht
   rw [hlen] at ht
   rw [Nat.mul_one,Nat.add_assoc]
   exact ⟨by show (w.cell? _).isSome=true;rw [(hH (i+t) (by omega)).1];rfl,(hH (i+t) (by omega)).2⟩
  obtain ⟨W1,hW1⟩:∃ W1,W1=w.drew.setCells blk (off+i*1) news:=⟨_,rfl⟩
  have hW1':W1=putRow encI (Sort.ahead w 1) blk off (lay d i (d.toList.drop j)):=by
   rw [hW1,hnews,Nat.mul_one,← putRow_setCells encI (Sort.ahead w 1) blk off _ d i (by simp;omega),putRow_self encI (Sort.ahead w 1) blk off d (holds_ahead encI w 1 blk off d hH)]
   rfl
  have hH1:Holds encI W1 blk off (lay d i (d.toList.drop j)):=by rw [hW1'];exact holds_putRow encI _ blk off d _ (holds_ahead encI w 1 blk off d hH) (lay_size _ _ _)
  have hcl:∀ ty,(Builtin.clear_ #[ρ.t 22] ty #[.slice (some ⟨blk,off+(i+(d.size-j)),none⟩) (d.size-(i+(d.size-j))) (cap-(i+(d.size-j)))]).run P W1=.ok (.tuple #[]) (W1.setCells blk (off+(i+(d.size-j))) (List.replicate (d.size-(i+(d.size-j))) (encI 0))) :=
   fun ty=>Lib.run_clear_slice W1 _ _ ty _ t22 v3 rfl rfl blk (off+(i+(d.size-j))) _ _ (by omega) (fun t ht=>by rw [show off+(i+(d.size-j))+t=off+(i+(d.size-j)+t) by omega,(hH1 _ (by rw [lay_size];omega)).1];rfl) (fun t ht=>by rw [show off+(i+(d.size-j))+t=off+(i+(d.size-j)+t) by omega];exact (hH1 _ (by rw [lay_size];omega)).2)
  have X:Aside (W1=putRow encI (Sort.ahead w 1) blk off (lay d i (d.toList.drop j))):=hW1'
  have hW:Hid (W1=w.drew.setCells blk (off+i*1) news):=hW1
  have hic:i≤cap:=by omega
  have hjc:j≤cap:=by omega
  clear hW1 hW1' hH1 hH hget hnews hlen
  go_enter L.f23,Body2.n23_ntmps ρ
  go_wp2_with fail
  go_region_law_o (refine step_append_room rfl (.tmp 22) (.tmp 25) (ρ.t 22) rfl (ρ.t 3) i0 1 t22 hi0 hz1 blk off i cap (by simp [Act.eval,Act.put]) A (d.size-j) (cap-j) news (by simp [Act.eval,Act.put]) s1.out hsrc.out s2.out (by omega) s3.out ?_;rw [← hW.out])
  go_wp2
  go_ret
  refine ⟨by rw [show d.size-(j-i)=i+(d.size-j) by omega];rfl,1,?_⟩
  rw [← delete_arr d i j 0 hij hj,← putRow_setCells encI _ blk off _ _ (i+(d.size-j)) (by rw [lay_size];simp;omega),← X.out,List.map_replicate,show d.size-(i+(d.size-j))=j-i by omega]
theorem Any.del_int (L:Lays2.n23 P ρ) (blk off cap i j:Nat) (zs:List Int) (w:World) (hH:Holds (Value.int .i64) w blk off zs.toArray) (hcap:zs.length≤cap) (hm:zs.length≤9223372036854775807) (hij:i≤j) (hj:j≤zs.length) :
  Calls P (ρ.f 23) #[.slice (some ⟨blk,off,none⟩) zs.length cap,.int .i64 i,.int .i64 j] w fun e w'=>e=.returned (.slice (some ⟨blk,off,none⟩) (zs.length-(j-i)) cap)∧∃ q,w'=putRow (Value.int .i64) (Sort.ahead w q) blk off (zs.take i++zs.drop j++List.replicate (j-i) 0).toArray:=by
 have h:=Any.del_int_arr L blk off cap i j zs.toArray w hH (by simpa using hcap) (by simpa using hm) hij (by simpa using hj)
 simpa using h
end Go.Proofs
end
section
namespace Go.XM
open Go.RowKit Go.Proofs Go.Shelf Go.Sort
theorem holds_of {w:World} {b:Nat} {c:Array Value} {xs:List Int} (hB:Blk w b c) (hle:xs.length≤c.size) (hcs:∀ (i:Nat) (x:Int),xs[i]?=some x→c[i]?=some (.int .i64 x)):Holds (Value.int .i64) w b 0 xs.toArray:=by
 intro j hj
 have hj':j<xs.length:=by simpa using hj
 have h1:xs[j]?=some (xs.toArray[j]!):=by
  rw [getElem!_pos xs.toArray j hj];simp [hj']
 refine ⟨?_,?_⟩
 ·rw [Nat.zero_add,hB.cell];exact hcs j _ h1
 ·rw [Nat.zero_add];exact hB.unf j (by omega)
theorem put_blk {w:World} {b q:Nat} {c:Array Value} {d:List Int} (os:Array Obj) (hB:Blk w b c):∃ c',Blk (grow (putRow (Value.int .i64) (Sort.ahead w q) b 0 d.toArray) os) b c'∧c'.size=c.size∧∀ (i:Nat) (x:Int),i<c.size→d[i]?=some x→c'[i]?=some (.int .i64 x):=by
 obtain ⟨el,fr,h,hf⟩:=hB
 have hlt:b<w.heap.size:=(Array.getElem?_eq_some_iff.1 h).1
 have hs:(putCells (Value.int .i64) 0 d.toArray c).size=c.size:=by simp [putCells]
 refine ⟨putCells (Value.int .i64) 0 d.toArray c,⟨el,fr,?_,fun k hk=>hf k (by rw [← hs];exact hk)⟩,hs,fun i x hi hx=>?_⟩
 ·have h2:(putRow (Value.int .i64) (Sort.ahead w q) b 0 d.toArray).heap[b]?=some (.cells (putCells (Value.int .i64) 0 d.toArray c) el fr):=by
   simp [putRow,mapBlock,Sort.ahead,Array.getElem?_modify,h,onCells]
  show ((putRow (Value.int .i64) (Sort.ahead w q) b 0 d.toArray).heap++os)[b]?=_
  rw [Array.getElem?_append_left (by simpa [putRow,mapBlock,Sort.ahead] using hlt)]
  exact h2
 ·have hlt2:=idx_lt hx
  have hd:d.toArray[i]! = x:=by
   rw [getElem!_pos d.toArray i (by simpa using hlt2)]
   have:=List.getElem?_eq_getElem hlt2
   rw [hx] at this
   simpa using (Option.some.inj this).symm
  simp [putCells,hi,hlt2]
  rw [List.getElem?_eq_getElem hlt2] at hx
  simpa using hx
theorem put_other {w:World} {b q:Nat} {d:Array Int} {os:Array Obj} {k:Nat} (hk:k<w.heap.size) (hn:k≠b):(grow (putRow (Value.int .i64) (Sort.ahead w q) b 0 d) os).heap[k]?=w.heap[k]?:=by
 show ((putRow (Value.int .i64) (Sort.ahead w q) b 0 d).heap++os)[k]?=_
 rw [Array.getElem?_append_left (by simpa [putRow,mapBlock,Sort.ahead] using hk)]
 simp [putRow,mapBlock,Sort.ahead,Array.getElem?_modify,Ne.symm hn]
abbrev sgDel:Sig:=⟨[(.one,.sl i64),(.one,i64),(.one,i64)],[.o],[(.one,.sl i64)],[.o]⟩
def delF (xs:List Int) (i j:Int):Option (List Int) :=
 if ((0:Int)≤i∧i≤j∧j≤((xs.length:Nat):Int))∧0<xs.length∧xs.length*8≤140737488355328 then some (xs.take i.toNat++xs.drop j.toNat) else none
set_option maxHeartbeats 1000000 in
theorem ct_delete {P:Program} {ρ:Ren} (L:Lays2.n23 P ρ):CtX P (ρ.f 23) sgDel (fun x=>delF x.1 x.2.1 x.2.2):=by
 intro v ⟨xs,i,j⟩ r hr
 simp only [delF] at hr
 split at hr
 ·rename_i hg0
  obtain ⟨⟨hi0,hij,hj1⟩,hne,hbig⟩:=hg0
  cases hr
  intro w g vals hH hsz hv
  obtain ⟨n,rfl⟩:=Int.eq_ofNat_of_zero_le hi0
  obtain ⟨m,rfl⟩:=Int.eq_ofNat_of_zero_le (show (0:Int)≤j by omega)
  have hij:n≤m:=by omega
  have hj1:m≤xs.length:=by omega
  have hargs:sgDel.svs (xs,(n:Int),(m:Int))=[cv (.vw 1000000 0 xs.length),cv (.p (.v (.int .i64 n))),cv (.p (.v (.int .i64 m)))]:=rfl
  have hO:ofL (sgDel.o0 (xs,(n:Int),(m:Int))) 1000000=.row 1 (rowR false i64 xs):=rfl
  have hres:∀ r:List Int,sgDel.res v r=cv (.vw 2000000 0 r.length):=fun r=>rfl
  have hO1:∀ r:List Int,ofL (sgDel.o1 v r)=oneO r:=fun r=>rfl
  rw [hargs] at hsz hv
  have h0:=hv 0 _ rfl
  have h1:=hv 1 _ rfl
  have h2:=hv 2 _ rfl
  obtain ⟨v0,v1,v2,rfl⟩:∃ v0 v1 v2,vals=#[v0,v1,v2]:=by
   cases vals with
   | mk l=>match l,hsz with
    | [a,b,c],_=>exact ⟨a,b,c,rfl⟩
  have z0:cvR w g (ofL (sgDel.o0 (xs,(n:Int),(m:Int)))) (.vw 1000000 0 xs.length) v0:=h0
  have z1:spR w g.Im (.v (.int .i64 n)) v1:=h1
  have z2:spR w g.Im (.v (.int .i64 m)) v2:=h2
  clear h0 h1 h2 hv hsz
  cases z1
  cases z2
  rw [hres,hO1]
  simp only [Int.toNat_natCast]
  have him:=hH.im
  rcases rowArg hO (hH.O 1000000) z0 with ⟨hx0,_⟩ | ⟨b,c,rfl,hown,hB,hle,hcs⟩
  ·rw [hx0] at hne;cases hne
  ·have hlen0:(xs:List Int).length=xs.length:=rfl
   have main:∀ (ys:List Int),ys=xs→∀ (D:List Int),D=ys.take n++ys.drop m++List.replicate (m-n) 0→∀ q,∃ g',svR (putRow (Value.int .i64) (Sort.ahead w q) b 0 D.toArray) g' (oneO (ys.take n++ys.drop m)) (cv (.vw 2000000 0 (ys.take n++ys.drop m).length)) (.slice (some ⟨b,0,none⟩) (ys.length-(m-n)) c.size)∧Heap (putRow (Value.int .i64) (Sort.ahead w q) b 0 D.toArray) g' (oneO (ys.take n++ys.drop m))∧Fr w g (putRow (Value.int .i64) (Sort.ahead w q) b 0 D.toArray) g':=by
    intro ys hys D hD q
    have hl:ys.length=xs.length:=by rw [hys]
    have hj1:m≤ys.length:=by rw [hl];exact hj1
    have hle:ys.length≤c.size:=by rw [hl];exact hle
    clear hys hcs z0 hargs hO hH
    have hg:∀ w:World,grow w #[]=w:=fun w=>by simp [grow]
    obtain ⟨c',k1,k2,k3⟩:=put_blk (q:=q) (d:=D) #[] hB
    rw [hg] at k1
    have hlen:(ys.take n++ys.drop m).length=ys.length-(m-n):=by simp;omega
    have hsz2:(putRow (Value.int .i64) (Sort.ahead w q) b 0 D.toArray).heap.size=w.heap.size:=by simp [putRow,mapBlock,Sort.ahead]
    obtain ⟨g',q1,q2,q3⟩:=rowPost (w:=w) (w':=putRow (Value.int .i64) (Sort.ahead w q) b 0 D.toArray) (g:=g) (r:=ys.take n++ys.drop m) (b:=b) (c:=c') rfl rfl rfl (by rw [hsz2];exact Nat.le_refl _)
     (fun k hk hn=>by
      have:=put_other (q:=q) (d:=D.toArray) (os:=#[]) hk (show k≠b by rintro rfl;rw [hown] at hn;cases hn)
      rwa [hg] at this) (.inr ⟨_,hown⟩) k1 (by rw [hlen,k2];omega) (fun t x ht=>k3 t x (by have:=idx_lt ht;rw [hlen] at this;omega) (by rw [hD,List.getElem?_append_left (idx_lt ht)];exact ht)) him
    exact ⟨g',by rw [hlen,k2] at q1;rw [hlen];exact q1,q2,q3⟩
   refine (Any.del_int L b 0 c.size n m xs w (holds_of hB hle hcs) hle (by omega) hij hj1).mono ?_
   rintro e w' ⟨rfl,q,rfl⟩
   obtain ⟨g',q1,q2,q3⟩:=main xs rfl _ rfl q
   refine ⟨_,g',rfl,q1,q2,q3,?_⟩
   intro k l l' _ h
   by_cases e:k=2000000
   ·subst e;rw [oneO_at] at h;cases h
   ·rw [oneO_ne _ e] at h;cases h
 ·cases hr
end Go.XM
end
section
namespace Go.XM
open Go.RowKit Go.Proofs Go.Shelf Go.Sort
abbrev sortF (xs:List Int):List Int:=xs.mergeSort fun x y=>decide (x≤y)
theorem ct_sort {P:Program} {ρ:Ren} (L:Lays.n189 P ρ) (zs:List Int) (hl:zs.length<4611686018427387904):CtN P (ρ.f 189) zs (sortF zs):=by
 have hlen:(sortF zs).length=zs.length:=List.length_mergeSort zs
 refine ⟨hlen,fun w b c hB hle hcs=>?_,fun e w a cap=>?_⟩
 ·refine (Any.slices_Sort_int L b 0 c.size zs w (holds_of hB hle hcs) hB.lt hl).mono ?_
  rintro e w' ⟨rfl,q,os,rfl⟩
  obtain ⟨c',k1,k2,k3⟩:=put_blk (q:=q) (d:=sortF zs) os hB
  refine ⟨rfl,c',⟨hB,k1,k2,?_,fun k hk hn=>put_other hk hn,rfl,rfl,rfl⟩,fun i x hi=>k3 i x (by have:=idx_lt hi;omega) hi⟩
  simp [grow,putRow,mapBlock,Sort.ahead]
 ·subst e
  exact Any.slices_Sort_int_none L a cap w
def insI (x:Int):List Int→List Int
 | []=>[x]
 | y::l=>if x≤y then x::y::l else y::insI x l
def sortI:List Int→List Int
 | []=>[]
 | x::l=>insI x (sortI l)
theorem insI_perm (x:Int):∀ l:List Int,(insI x l).Perm (x::l)
 | []=>List.Perm.refl _
 | y::l=>by
  unfold insI
  split
  ·exact List.Perm.refl _
  ·exact ((insI_perm x l).cons y).trans (List.Perm.swap x y l)
theorem sortI_perm:∀ l:List Int,(sortI l).Perm l
 | []=>List.Perm.refl _
 | x::l=>(insI_perm x _).trans ((sortI_perm l).cons x)
theorem insI_le (x:Int):∀ l:List Int,l.Pairwise (·≤·)→(insI x l).Pairwise (·≤·)
 | [],_=>List.pairwise_singleton _ _
 | y::l,h=>by
  obtain ⟨h1,h2⟩:=List.pairwise_cons.1 h
  unfold insI
  split
  ·rename_i c
   refine List.pairwise_cons.2 ⟨fun z hz=>?_,h⟩
   rcases List.mem_cons.1 hz with rfl | hz
   ·exact c
   ·have:=h1 z hz;omega
  ·rename_i c
   refine List.pairwise_cons.2 ⟨fun z hz=>?_,insI_le x l h2⟩
   rcases List.mem_cons.1 ((insI_perm x l).mem_iff.1 hz) with rfl | hz
   ·omega
   ·exact h1 z hz
theorem sortI_le:∀ l:List Int,(sortI l).Pairwise (·≤·)
 | []=>List.Pairwise.nil
 | x::l=>insI_le x _ (sortI_le l)
theorem sortI_eq:sortI=sortF:=funext fun l=>by
 refine List.Perm.eq_of_pairwise (le:=(·≤·)) (fun a b _ _ h1 h2=>by omega) (sortI_le l) ?_ ((sortI_perm l).trans (List.mergeSort_perm l _).symm)
 have:=List.pairwise_mergeSort (le:=fun (x y:Int)=>decide (x≤y)) (fun a b c h1 h2=>by simp at *;omega) (fun a b=>by simp;omega) l
 exact this.imp fun h=>by simpa using h
theorem ct_sortI {P:Program} {ρ:Ren} (L:Lays.n189 P ρ) (zs:List Int) (hl:zs.length<4611686018427387904):CtN P (ρ.f 189) zs (sortI zs):=by
 rw [sortI_eq];exact ct_sort L zs hl
end Go.XM
end
section
namespace Go.XM
open Go.RowKit Go.Proofs Go.Shelf
abbrev sgTrim:Sig:=⟨[(.one,.str),(.one,.str)],[],[(.one,.str)],[]⟩
def trimF (s t:ByteArray):Option ByteArray:=match t.data.toList with
 | [c]=>if c.toNat<128∧s.size≤9223372036854775807 then some ⟨(Lib.trimB s.data.toList c).toArray⟩ else none
 | _=>none
set_option maxHeartbeats 1000000 in
theorem ct_trim {P:Program} {ρ:Ren} (L:Lays.n160 P ρ):CtX P (ρ.f 160) sgTrim (fun x=>trimF x.1 x.2):=by
 intro v ⟨s,t⟩ r hr
 obtain ⟨c,rfl,hc,hs,hr⟩:∃ c:UInt8,t=(⟨#[c]⟩:ByteArray)∧c.toNat<128∧s.size≤9223372036854775807∧(⟨(Lib.trimB s.data.toList c).toArray⟩:ByteArray)=r:=by
  obtain ⟨⟨l⟩⟩:=t
  simp only [trimF] at hr
  match l,hr with
  | [c],hr =>
   simp only at hr
   split at hr
   ·rename_i h
    exact ⟨c,rfl,h.1,h.2,Option.some.inj hr⟩
   ·cases hr
  | [],hr=>cases hr
  | _::_::_,hr=>cases hr
 subst hr
 intro w g vals hH hsz hv
 have hargs:sgTrim.svs (s,(⟨#[c]⟩:ByteArray))=[cv (.p (.v (.string s))),cv (.p (.v (.string (⟨#[c]⟩:ByteArray))))]:=rfl
 rw [hargs] at hsz hv
 have h0:=hv 0 _ rfl
 have h1:=hv 1 _ rfl
 obtain ⟨v0,v1,rfl⟩:∃ v0 v1,vals=#[v0,v1]:=by
  cases vals with
  | mk l=>match l,hsz with
   | [a,b],_=>exact ⟨a,b,rfl⟩
 have z0:spR w g.Im (.v (.string s)) v0:=h0
 have z1:spR w g.Im (.v (.string (⟨#[c]⟩:ByteArray))) v1:=h1
 cases z0
 cases z1
 have him:=hH.im
 refine (Any.strings_Trim_one L s c hc w hs).mono ?_
 rintro e w' ⟨rfl,hw⟩
 have hB:w'.os=w.os∧w'.tape=w.tape∧w'.output=w.output∧w'.heap=w.heap:=by
  rcases hw with rfl | rfl
  ·exact ⟨rfl,rfl,rfl,rfl⟩
  ·exact ⟨rfl,rfl,rfl,rfl⟩
 obtain ⟨b1,b2,b3,b4⟩:=hB
 let g':G:={ β:=fun _=>none,own:=fun _=>none,Im:=g.Im }
 refine ⟨_,g',rfl,?_,⟨fun k=>?_,fun k hi=>⟨?_,?_⟩,fun k o ho=>?_⟩,⟨b1,b2,b3,by rw [b4];exact Nat.le_refl _,fun k hk _=>by rw [b4],fun k o ho=>?_,fun k hi=>.inl hi⟩,?_⟩
 ·exact spR.v _ rfl
 ·trivial
 ·have:=(him k hi).1;rw [b4];exact this
 ·rfl
 ·cases ho
 ·cases ho
 ·intro k l l' _ h;cases h
end Go.XM
end
