import Derived.Test.YtocbppcndoeicaaGreatDoorIbP0
import Derived.Laws.BitsLemmas
import Derived.Lib.Strings
import Derived.Lib.TrimByte
set_option linter.all false
section
section
namespace Go.XL
open Go.XM
theorem least (Q:Nat→Prop):∀ m,(∀ i,i<m→Q i)∨∃ n,n<m∧¬ Q n∧∀ i,i<n→Q i:=by
 intro m
 induction m with
 | zero=>exact .inl fun i hi=>by omega
 | succ m ih =>
  rcases ih with h | ⟨n,h1,h2,h3⟩
  ·by_cases q:Q m
   ·exact .inl fun i hi=>by
     by_cases e:i=m
     ·subst e;exact q
     ·exact h i (by omega)
   ·exact .inr ⟨m,by omega,q,h⟩
  ·exact .inr ⟨n,by omega,h2,h3⟩
def far1 (u:Nat) (p:List Int × List Int) (w:Int):List Int × List Int:=if p.2.getD w.toNat 0<0 then (p.1++[w],p.2.set w.toNat (p.2.getD u 0+1)) else p
structure FInv (N:Nat) (out:List (List Int)) (a u i j:Nat) (p:List Int × List Int):Prop where
 bin:Bin N out a u j p.2 (p.1.drop (i+1))
 len:p.1.length+unv p.2≤N
 at_:i+1≤p.1.length
theorem FInv.step {N:Nat} {out:List (List Int)} {a u i j:Nat} {p:List Int × List Int} (hg:Good N out) (h:FInv N out a u i j p) (hu:u<N) (hj:j<(out.getD u []).length):FInv N out a u i (j+1) (far1 u p ((out.getD u []).getD j 0)):=by
 obtain ⟨he,hwN,hwe⟩:=edge_of hg hu hj
 have hl:=h.bin.half.len
 unfold far1
 by_cases hw:p.2.getD ((out.getD u []).getD j 0).toNat 0<0
 ·rw [if_pos hw]
  have hv:=unv_set p.2 _ (p.2.getD u 0+1) (by omega) hw (by have:=h.bin.vis;omega)
  have h1:=h.at_
  have h2:=h.len
  refine ⟨?_,by simp only [List.length_append,List.length_singleton];omega,by simp only [List.length_append,List.length_singleton];omega⟩
  show Bin N out a u (j+1) _ ((p.1++[_]).drop (i+1))
  rw [List.drop_append_of_le_length h1]
  exact h.bin.put hg hu hj hw
 ·rw [if_neg hw]
  exact ⟨h.bin.keep (by omega),h.len,h.at_⟩
theorem FInv.run {N:Nat} {out:List (List Int)} {a u i:Nat} (hg:Good N out) (hu:u<N):∀ j,j≤(out.getD u []).length→∀ p,FInv N out a u i j p→FInv N out a u i (out.getD u []).length (((out.getD u []).drop j).foldl (far1 u) p):=by
 refine upto ?_ ?_
 ·intro p h;simpa using h
 ·intro j hj ih p h
  rw [drop_getD (d:=0) hj,List.foldl_cons]
  exact ih _ (h.step hg hu hj)
theorem svis4 {g:Aa} {N:Nat} (hg:Good N g.Out) {a u i:Nat} (hu:u<N) (x:Ac) (hx:x.Kind=4∧x.A=(a:Int)∧x.Move=false):∀ j,j≤(g.Out.getD u []).length→∀ p,FInv N g.Out a u i j p →
  E1 (fun K k=>Bq.l2 K x k (u:Int) (g.Out.getD u []) (((g.Out.getD u []).length:Nat):Int) (j:Int) ((i+1:Nat):Int) p.1 p.2) ((4,(a:Int),((i+1:Nat):Int),false,(((g.Out.getD u []).drop j).foldl (far1 u) p).1,(((g.Out.getD u []).drop j).foldl (far1 u) p).2):Ac):=by
 have hN:=hg.le
 have hr:=hg.rlen u
 refine upto ?_ ?_
 ·intro p h
  refine step1 (fun _ _ _ _ _=>Bq.l2.eq_2 ..) ?_
  refine negD (by omega) (nowE ?_)
  rw [hx.1,hx.2.1,hx.2.2];simp
 ·intro j hj ih p h
  obtain ⟨he,hwN,hwe⟩:=edge_of hg hu hj
  have hl:=h.bin.half.len
  have hlt:=h.bin.half.lt hu
  have hv:=h.bin.vis
  have hlen:=h.len
  have:=ih _ (h.step hg hu hj)
  rw [drop_getD (d:=0) hj,List.foldl_cons]
  refine step1 (fun _ _ _ _ _=>Bq.l2.eq_2 ..) ?_
  rw [rdN,rdN,rdI,w1 (by omega),w64 (by omega) (by omega)]
  refine posD (by omega) (pos (by omega) (pos (by omega) ?_))
  by_cases hw:p.2.getD ((g.Out.getD u []).getD j 0).toNat 0<0
  ·refine posD hw (pos (by omega) (pos (by simp;omega) (pos (by omega) ?_)))
   unfold far1 at this ⊢
   rw [if_pos hw] at this ⊢
   exact this
  ·refine negD hw ?_
   unfold far1 at this ⊢
   rw [if_neg hw] at this ⊢
   exact this
theorem rvis4 {g:Aa} {N:Nat} (hg:Good N g.Out) {a u i:Nat} (hu:u<N) (x:Ac) (hx:x.Kind=4∧x.A=(a:Int)∧x.Move=false):∀ j,j≤(g.Out.getD u []).length→∀ p,FInv N g.Out a u i j p →
  E1 (fun K k=>Ab.l3 K x g k (u:Int) (j:Int) ((i+1:Nat):Int) p.1 p.2 0 0 0) ((4,(a:Int),((i+1:Nat):Int),false,(((g.Out.getD u []).drop j).foldl (far1 u) p).1,(((g.Out.getD u []).drop j).foldl (far1 u) p).2):Ac):=by
 have hN:=hg.le
 have hlen:=hg.len
 have hr:=hg.rlen u
 refine upto ?_ ?_
 ·intro p h
  refine step1 (fun _ _ _ _ _=>Ab.l3.eq_2 ..) ?_
  refine pos (by omega) ?_
  rw [rd1N]
  refine negD (by omega) (nowE ?_)
  rw [hx.1,hx.2.1,hx.2.2];simp
 ·intro j hj ih p h
  obtain ⟨he,hwN,hwe⟩:=edge_of hg hu hj
  have hl:=h.bin.half.len
  have hlt:=h.bin.half.lt hu
  have hv:=h.bin.vis
  have hlen2:=h.len
  have:=ih _ (h.step hg hu hj)
  rw [drop_getD (d:=0) hj,List.foldl_cons]
  refine step1 (fun _ _ _ _ _=>Ab.l3.eq_2 ..) ?_
  refine pos (by omega) ?_
  rw [rd1N,rdN,rdN,rdI,w1 (by omega),w64 (by omega) (by omega)]
  refine posD (by omega) (pos (by omega) (pos (by omega) (pos (by omega) ?_)))
  by_cases hw:p.2.getD ((g.Out.getD u []).getD j 0).toNat 0<0
  ·refine posD hw (pos (by omega) (pos (by omega) (pos (by simp;omega) ?_)))
   unfold far1 at this ⊢
   rw [if_pos hw] at this ⊢
   exact this
  ·refine negD hw ?_
   unfold far1 at this ⊢
   rw [if_neg hw] at this ⊢
   exact this
structure FSt (N:Nat) (out:List (List Int)) (a i:Nat) (p:List Int × List Int):Prop where
 bfs:Bfs N out a p.2 (p.1.drop i)
 len:p.1.length+unv p.2≤N
def v4 (out:List (List Int)) (i:Nat) (p:List Int × List Int):List Int × List Int:=(out.getD (p.1.getD i 0).toNat []).foldl (far1 (p.1.getD i 0).toNat) p
def s4 (N:Nat) (out:List (List Int)) (a:Nat):Nat→List Int × List Int
 | 0=>([(a:Int)],(List.replicate N (-1)).set a 0)
 | i+1=>v4 out i (s4 N out a i)
theorem FSt.inv {N:Nat} {out:List (List Int)} {a i:Nat} {p:List Int × List Int} (h:FSt N out a i p) (hi:i<p.1.length):(p.1.getD i 0).toNat<N∧(((p.1.getD i 0).toNat:Nat):Int)=p.1.getD i 0∧FInv N out a (p.1.getD i 0).toNat i 0 p:=by
 have hd:=drop_getD (d:=(0:Int)) hi
 have hb:=h.bfs
 rw [hd] at hb
 generalize p.1.getD i 0=x at *
 obtain ⟨hx0,hx1,hx2⟩:=hb.qin x (by simp)
 have hsr:=List.pairwise_cons.1 hb.srt
 have e:((x.toNat:Nat):Int)=x:=by omega
 refine ⟨by omega,e,⟨⟨hb.half,fun y hy=>hb.qin y (by simp [hy]),hx2,fun u hu h0 hn hne w hw hE=>hb.clos u hu h0 (by simp only [List.mem_cons,not_or];exact ⟨by omega,hn⟩) w hw hE,fun j hj=>by omega,fun v hv=>by simpa using hb.cap x (by simp) v hv,fun y hy=>by simpa using hsr.1 y hy,hsr.2⟩,h.len,by omega⟩⟩
theorem FSt.next {N:Nat} {out:List (List Int)} {a i:Nat} {p:List Int × List Int} (hg:Good N out) (h:FSt N out a i p) (hi:i<p.1.length):FSt N out a (i+1) (v4 out i p):=by
 obtain ⟨hu,_,hF⟩:=h.inv hi
 have:=FInv.run hg hu 0 (by omega) p hF
 rw [List.drop_zero] at this
 exact ⟨this.bin.out (Nat.le_refl _),this.len⟩
theorem FSt.init {N:Nat} {out:List (List Int)} {a:Nat} (ha:a<N):FSt N out a 0 (s4 N out a 0):=by
 have hi:=Half.init (out:=out) ha
 have hGi:∀ v,v<N→((List.replicate N (-1:Int)).set a 0).getD v 0=if v=a then 0 else -1:=fun v hv=>by
  rw [getD_set _ _ _ _ (by simpa using ha)]
  split
  ·rfl
  ·simp [List.getD_eq_getElem?_getD,List.getElem?_replicate,hv]
 refine ⟨⟨hi,fun x hx=>?_,fun u hu h0 hn=>?_,fun x hx v hv=>?_,List.pairwise_singleton _ _⟩,?_⟩
 ·obtain rfl:=List.mem_singleton.1 hx
  show _∧_∧0≤((List.replicate N (-1:Int)).set a 0).getD ((a:Int)).toNat 0
  rw [Int.toNat_natCast,hi.src];omega
 ·have h0:0≤((List.replicate N (-1:Int)).set a 0).getD u 0:=h0
  rw [hGi u hu] at h0
  split at h0
  ·rename_i e;exact absurd (show (u:Int)∈[(a:Int)] by simp [e]) hn
  ·omega
 ·obtain rfl:=List.mem_singleton.1 hx
  show ((List.replicate N (-1:Int)).set a 0).getD v 0≤((List.replicate N (-1:Int)).set a 0).getD ((a:Int)).toNat 0+1
  rw [Int.toNat_natCast,hi.src,hGi v hv]
  split <;> omega
 ·have:=unv_set (List.replicate N (-1:Int)) a 0 (by simpa using ha) (by simp [List.getD_eq_getElem?_getD,List.getElem?_replicate,ha]) (by omega)
  have h2:=unv_le (List.replicate N (-1:Int))
  rw [List.length_replicate] at h2
  show 1+unv ((List.replicate N (-1:Int)).set a 0)≤N
  omega
theorem ends4:Ends 4:=by
 intro g a hg hc
 obtain ⟨en,hG⟩:=hg.good
 have ha:=(code_rng hc).2 (.inr (.inr rfl))
 have hs:=hg.sm
 generalize g.N.toNat=N at *
 have hN:=hG.le
 have hlen:=hG.len
 obtain ⟨a,rfl⟩:∃ m:Nat,a=m:=⟨a.toNat,by omega⟩
 have haN:a<N:=by omega
 have hinv:∀ m,(∀ i,i<m→i<(s4 N g.Out a i).1.length)→FSt N g.Out a m (s4 N g.Out a m):=by
  intro m
  induction m with
  | zero=>intro _;exact FSt.init haN
  | succ m ih=>intro h;exact (ih fun i hi=>h i (by omega)).next hG (h m (by omega))
 obtain ⟨n,hnN,hn1,hn2⟩:∃ n,n≤N∧¬ n<(s4 N g.Out a n).1.length∧∀ i,i<n→i<(s4 N g.Out a i).1.length:=by
  rcases least (fun i=>i<(s4 N g.Out a i).1.length) (N+1) with h | ⟨n,h1,h2,h3⟩
  ·have:=(hinv N fun i hi=>h i (by omega)).len
   have:=h N (by omega)
   omega
  ·exact ⟨n,by omega,h2,h3⟩
 have hI:∀ i,i≤n→FSt N g.Out a i (s4 N g.Out a i):=fun i hi=>hinv i fun m hm=>hn2 m (by omega)
 have hL:∀ i,i≤n→(s4 N g.Out a i).1.length≤16∧(s4 N g.Out a i).2.length≤16:=fun i hi=>by
  have:=(hI i hi).len
  have:=(hI i hi).bfs.half.len
  omega
 refine ⟨n,fun i=>(4,a,i,false,(s4 N g.Out a i).1,(s4 N g.Out a i).2),tr_of hg en hN hs hc ?_ (by omega) (fun i _=>⟨rfl,by simp [a0]⟩) (fun i hi=>⟨Nat.le_trans (hL i hi).1 (by omega),Nat.le_trans (hL i hi).2 (by omega)⟩) (fun i hi=>?_) (fun i hi=>?_) ?_⟩
 ·simp [job0,a0,out0,s4]
 ·show decide ((i:Int)≥_)=false
  have:=hn2 i hi
  exact decide_eq_false (by simp only [pList];omega)
 ·have hlt:=hn2 i hi
  obtain ⟨hu,hue,hF⟩:=(hI i (by omega)).inv hlt
  have hll:=hL i (by omega)
  have hsm:JSm ((4,(a:Int),(i:Int),false,(s4 N g.Out a i).1,(s4 N g.Out a i).2):Ac):=⟨Nat.le_trans hll.1 (by omega),Nat.le_trans hll.2 (by omega)⟩
  constructor
  ·have h1:=svis4 hG hu ((4,(a:Int),(i:Int),false,(s4 N g.Out a i).1,(s4 N g.Out a i).2):Ac) ⟨rfl,rfl,rfl⟩ 0 (by omega) _ hF
   rw [List.drop_zero] at h1
   unfold Bq
   simp only [pKind,pA,pAt,pMove,pList,pOut]
   refine negE (by decide) (negE (by decide) (negE (by decide) (negE (by decide) (posE rfl (pos (by omega) ?_)))))
   simp only [rdN,at1 i (by omega)]
   rw [← hue]
   simp only [rd1N]
   exact pos (by omega) h1.e1
  ·have h1:=rvis4 hG hu ((4,(a:Int),(i:Int),false,(s4 N g.Out a i).1,(s4 N g.Out a i).2):Ac) ⟨rfl,rfl,rfl⟩ 0 (by omega) _ hF
   rw [List.drop_zero] at h1
   unfold Ab
   refine bnd (copyjob_ev _ hsm) ?_
   simp only [pKind,pA,pAt,pMove,pList,pOut]
   refine negE (by decide) (negE (by decide) (negE (by decide) (negE (by decide) (posE rfl (pos (by omega) ?_)))))
   simp only [rdN,at1 i (by omega)]
   rw [← hue]
   exact h1.e1
 ·show decide ((n:Int)≥_)=true
  exact decide_eq_true (by simp only [pList];omega)
end Go.XL
end
end
section
section
namespace Go.XL
open Go.XM
theorem set_self (l:List Int) (i:Nat) (h:i<l.length):l.set i (l.getD i 0)=l:=by
 rw [getD_lt h];simp
theorem mn_eq (a b:Int):(if b<a then b else a)=mn a b:=rfl
def prt1 (u:Nat) (p:Bool × List Int) (w:Int):Bool × List Int:=(p.1 || (p.2.getD u 0 != p.2.getD w.toNat 0),(p.2.set u (mn (p.2.getD u 0) (p.2.getD w.toNat 0))).set w.toNat (mn (p.2.getD u 0) (p.2.getD w.toNat 0)))
structure PInv (N:Nat) (out:List (List Int)) (l0:List Int) (u j:Nat) (p:Bool × List Int):Prop where
 swp:Swp N out l0 u j p.2
 id:p.1=false→p.2=l0
 ev:p.1=false→∀ v w,v<u→v<N→w<N→Edge out v w→p.2.getD v 0=p.2.getD w 0
 evj:p.1=false→∀ i,i<j→i<(out.getD u []).length→p.2.getD u 0=p.2.getD ((out.getD u []).getD i 0).toNat 0
 no:PartOf N out l0→p.1=false
theorem PInv.step {N:Nat} {out:List (List Int)} {l0:List Int} {u j:Nat} {p:Bool × List Int} (hg:Good N out) (h:PInv N out l0 u j p) (hu:u<N) (hj:j<(out.getD u []).length):PInv N out l0 u (j+1) (prt1 u p ((out.getD u []).getD j 0)):=by
 obtain ⟨he,hwN,hwe⟩:=edge_of hg hu hj
 have hl:=h.swp.half.len
 have hput:=h.swp.put hg hu hj
 obtain ⟨mv,l⟩:=p
 dsimp only at hl hput
 have key:(mv || (l.getD u 0 != l.getD ((out.getD u []).getD j 0).toNat 0))=false→mv=false∧l.getD u 0=l.getD ((out.getD u []).getD j 0).toNat 0∧(l.set u (mn (l.getD u 0) (l.getD ((out.getD u []).getD j 0).toNat 0))).set ((out.getD u []).getD j 0).toNat (mn (l.getD u 0) (l.getD ((out.getD u []).getD j 0).toNat 0))=l:=by
  intro hm
  rw [Bool.or_eq_false_iff] at hm
  have e:l.getD u 0=l.getD ((out.getD u []).getD j 0).toNat 0:=by
   have h3:=hm.2
   simp only [bne_eq_false_iff_eq] at h3
   exact h3
  refine ⟨hm.1,e,?_⟩
  have em:mn (l.getD u 0) (l.getD ((out.getD u []).getD j 0).toNat 0)=l.getD u 0:=by
   unfold mn;split <;> omega
  rw [em,set_self l u (by omega),e,set_self l _ (by omega)]
 refine ⟨hput,fun hm=>?_,fun hm=>?_,fun hm=>?_,fun hp=>?_⟩
 ·obtain ⟨h1,h2,h3⟩:=key hm
  exact h3.trans (h.id h1)
 ·obtain ⟨h1,h2,h3⟩:=key hm
  show ∀ v w,_→_→_→_→List.getD (List.set _ _ _) _ _=List.getD (List.set _ _ _) _ _
  rw [h3]
  exact h.ev h1
 ·obtain ⟨h1,h2,h3⟩:=key hm
  show ∀ i,_→_→List.getD (List.set _ _ _) _ _=List.getD (List.set _ _ _) _ _
  rw [h3]
  intro i hi hi2
  by_cases e:i=j
  ·rw [e];exact h2
  ·exact h.evj h1 i (by omega) hi2
 ·have h1:mv=false:=h.no hp
  have h2:l=l0:=h.id h1
  have h3:=hp.edge u _ hu hwN he
  show (mv || (l.getD u 0 != l.getD ((out.getD u []).getD j 0).toNat 0))=false
  rw [h1,h2,h3]
  simp
theorem PInv.run {N:Nat} {out:List (List Int)} {l0:List Int} {u:Nat} (hg:Good N out) (hu:u<N):∀ j,j≤(out.getD u []).length→∀ p,PInv N out l0 u j p→PInv N out l0 u (out.getD u []).length (((out.getD u []).drop j).foldl (prt1 u) p):=by
 refine upto ?_ ?_
 ·intro p h;simpa using h
 ·intro j hj ih p h
  rw [drop_getD (d:=0) hj,List.foldl_cons]
  exact ih _ (h.step hg hu hj)
theorem PInv.next {N:Nat} {out:List (List Int)} {l0:List Int} {u:Nat} {p:Bool × List Int} (h:PInv N out l0 u (out.getD u []).length p):PInv N out l0 (u+1) 0 p :=
 ⟨h.swp.next (Nat.le_refl _),h.id,fun hm v w h1 h2 h3 hE=>by
  by_cases e:v=u
  ·subst e
   obtain ⟨i,hi,ei⟩:=edge_at hE
   have:=h.evj hm i hi hi
   rwa [ei,Int.toNat_natCast] at this
  ·exact h.ev hm v w (by omega) h2 h3 hE,fun hm i hi=>by omega,h.no⟩
def pend (N u:Nat) (p:Bool × List Int):Nat × Bool × List Int:=if u+1=N then (if p.1 then (0,false,p.2) else (N,false,p.2)) else (u+1,p.1,p.2)
def pjob (s:Nat × Bool × List Int):Ac:=(5,0,(s.1:Int),s.2.1,[],s.2.2)
theorem svis5 {g:Aa} {N:Nat} (en:g.N=(N:Int)) (hg:Good N g.Out) {l0:List Int} {u:Nat} (hu:u<N) (x:Ac) (hx:x.Kind=5∧x.A=0∧x.At=(u:Int)∧x.List_=[]):∀ j,j≤(g.Out.getD u []).length→∀ p,PInv N g.Out l0 u j p →
  E1 (fun K k=>Cj.l1 K g x k (g.Out.getD u []) (((g.Out.getD u []).length:Nat):Int) (j:Int) p.1 p.2) (pjob (pend N u (((g.Out.getD u []).drop j).foldl (prt1 u) p))):=by
 have hN:=hg.le
 have hr:=hg.rlen u
 refine upto ?_ ?_
 ·intro p h
  rw [List.drop_length]
  simp only [List.foldl_nil]
  refine step1 (fun _ _ _ _ _=>Cj.l1.eq_2 ..) ?_
  refine negD (by omega) ?_
  rw [hx.2.2.1,w1 (by omega),en]
  unfold Cj.j3
  rw [hx.1,hx.2.1,hx.2.2.2]
  unfold pend pjob
  by_cases e:u+1=N
  ·rw [if_pos e]
   refine posE (by omega) ?_
   cases hm:p.1 with
   | true=>exact pos rfl (nowE rfl)
   | false=>exact neg (by decide) (nowE (by rw [e];rfl))
  ·rw [if_neg e]
   exact negE (by omega) (neg (by decide) (nowE rfl))
 ·intro j hj ih p h
  obtain ⟨he,hwN,hwe⟩:=edge_of hg hu hj
  have hl:=h.swp.half.len
  have:=ih _ (h.step hg hu hj)
  rw [drop_getD (d:=0) hj,List.foldl_cons]
  refine step1 (fun _ _ _ _ _=>Cj.l1.eq_2 ..) ?_
  unfold Cj.j2
  rw [hx.2.2.1,rdN,rdN,rdI,w1 (by omega),Int.toNat_natCast,mn_eq]
  refine posD (by omega) (pos (by omega) (pos (by omega) (pos (by omega) ?_)))
  unfold prt1 at this ⊢
  cases hm:p.1 with
  | true =>
   rw [hm] at this
   exact pos rfl (pos (by omega) (pos (by rw [List.length_set];omega) this))
  | false =>
   rw [hm] at this
   exact neg (by decide) (pos (by omega) (pos (by omega) (pos (by omega) (pos (by rw [List.length_set];omega) this))))
theorem rvis5 {g:Aa} {N:Nat} (en:g.N=(N:Int)) (hg:Good N g.Out) {l0:List Int} {u:Nat} (hu:u<N) (x:Ac) (hx:x.Kind=5∧x.A=0∧x.At=(u:Int)∧x.List_=[]):∀ j,j≤(g.Out.getD u []).length→∀ p,PInv N g.Out l0 u j p →
  E1 (fun K k=>Ab.l4 K x g k (j:Int) ((u+1:Nat):Int) p.1 p.2 0 0 0) (pjob (pend N u (((g.Out.getD u []).drop j).foldl (prt1 u) p))):=by
 have hN:=hg.le
 have hlen:=hg.len
 have hr:=hg.rlen u
 refine upto ?_ ?_
 ·intro p h
  rw [List.drop_length]
  simp only [List.foldl_nil]
  refine step1 (fun _ _ _ _ _=>Ab.l4.eq_2 ..) ?_
  rw [hx.2.2.1,rd1N]
  refine pos (by omega) (negD (by omega) ?_)
  rw [hx.1,hx.2.1,hx.2.2.2]
  unfold pend pjob
  by_cases e:u+1=N
  ·rw [if_pos e]
   refine posD (by omega) ?_
   cases hm:p.1 with
   | true=>exact pos rfl (nowE rfl)
   | false=>exact neg (by decide) (nowE (by rw [e];rfl))
  ·rw [if_neg e]
   exact negD (by omega) (nowE rfl)
 ·intro j hj ih p h
  obtain ⟨he,hwN,hwe⟩:=edge_of hg hu hj
  have hl:=h.swp.half.len
  have:=ih _ (h.step hg hu hj)
  rw [drop_getD (d:=0) hj,List.foldl_cons]
  refine step1 (fun _ _ _ _ _=>Ab.l4.eq_2 ..) ?_
  unfold Ab.j5
  rw [hx.2.2.1,rd1N,rdN,rdN,rdI,w1 (by omega),Int.toNat_natCast,mn_eq]
  refine pos (by omega) (posD (by omega) (pos (by omega) (pos (by omega) ?_)))
  unfold prt1 at this ⊢
  cases hm:p.1 with
  | true =>
   rw [hm] at this
   exact pos rfl (pos (by omega) (pos (by omega) (pos (by omega) (pos (by rw [List.length_set];omega) this))))
  | false =>
   rw [hm] at this
   exact neg (by decide) (pos (by omega) (pos (by omega) (pos (by omega) (pos (by omega) (pos (by omega) (pos (by rw [List.length_set];omega) this))))))
def PSt (N:Nat) (out:List (List Int)) (i:Nat) (s:Nat × Bool × List Int):Prop :=
 (s.1<N∧∃ t l0,i=t*N+s.1∧t≤N∧PHalf N out l0∧Settled N out l0 t∧PInv N out l0 s.1 0 s.2)∨(¬ s.1<N∧PartOf N out s.2.2)
def v5 (N:Nat) (out:List (List Int)) (s:Nat × Bool × List Int):Nat × Bool × List Int:=pend N s.1 ((out.getD s.1 []).foldl (prt1 s.1) s.2)
def s5 (N:Nat) (out:List (List Int)):Nat→Nat × Bool × List Int
 | 0=>(0,false,upN N)
 | i+1=>v5 N out (s5 N out i)
theorem PInv.beg {N:Nat} {out:List (List Int)} {l0:List Int} (h:PHalf N out l0):PInv N out l0 0 0 (false,l0) :=
 ⟨⟨h,fun v hv=>Int.le_refl _,fun u w h1=>by omega,fun j h1=>by omega⟩,fun _=>rfl,fun _ v w h1=>by omega,fun _ i h1=>by omega,fun _=>rfl⟩
theorem PSt.next {N:Nat} {out:List (List Int)} (hg:Good N out) {i:Nat} {s:Nat × Bool × List Int} (h:PSt N out i s) (hs:s.1<N):PSt N out (i+1) (v5 N out s):=by
 rcases h with ⟨_,t,l0,h1,h2,h3,h4,h5⟩ | ⟨h,_⟩
 ·have hr:=PInv.run hg hs 0 (by omega) s.2 h5
  rw [List.drop_zero] at hr
  have hn:=hr.next
  unfold v5
  generalize (out.getD s.1 []).foldl (prt1 s.1) s.2=p at *
  unfold pend
  by_cases e:s.1+1=N
  ·rw [if_pos e]
   cases hm:p.1 with
   | true =>
    left
    rw [e] at hn
    have hdone:=hn.swp.done h3 h4
    have htN:t<N:=by
     apply Classical.byContradiction
     intro q
     have ht:t=N:=by omega
     rw [ht] at h4
     have:=hn.no (settled_part h3 h4.all)
     rw [hm] at this
     cases this
    refine ⟨by show 0<N;omega,t+1,p.2,?_,htN,hn.swp.half,hdone,PInv.beg hn.swp.half⟩
    show i+1=(t+1)*N+0
    rw [Nat.add_mul];omega
   | false =>
    right
    rw [e] at hn
    refine ⟨by show ¬ N<N;omega,hn.swp.half,fun u w hu hw hE=>?_⟩
    exact hn.ev hm u w hu hu hw hE
  ·rw [if_neg e]
   left
   exact ⟨by show s.1+1<N;omega,t,l0,by show i+1=t*N+(s.1+1);omega,h2,h3,h4,hn⟩
 ·exact absurd hs h
theorem ends5:Ends 5:=by
 intro g a hg hc
 obtain ⟨en,hG⟩:=hg.good
 have hs:=hg.sm
 generalize g.N.toNat=N at *
 have hN:=hG.le
 have hlen:=hG.len
 have h0:PHalf N g.Out (upN N):=PHalf.init (upN_length N) (fun j hj=>upN_getD hj)
 have hz:PSt N g.Out 0 (s5 N g.Out 0):=by
  by_cases e:0<N
  ·exact .inl ⟨e,0,upN N,by show 0=0*N+0;omega,by omega,h0,.inr ⟨[],List.nodup_nil,by simp,by simp⟩,PInv.beg h0⟩
  ·exact .inr ⟨e,h0,fun u w hu=>by omega⟩
 have hinv:∀ m,(∀ i,i<m→(s5 N g.Out i).1<N)→PSt N g.Out m (s5 N g.Out m):=by
  intro m
  induction m with
  | zero=>intro _;exact hz
  | succ m ih=>intro h;exact (ih fun i hi=>h i (by omega)).next hG (h m (by omega))
 have hNN:(N+1)*N≤272:=by
  have:=Nat.mul_le_mul (show N+1≤17 by omega) hN
  omega
 obtain ⟨n,hnN,hn1,hn2⟩:∃ n,n≤272∧¬ (s5 N g.Out n).1<N∧∀ i,i<n→(s5 N g.Out i).1<N:=by
  rcases least (fun i=>(s5 N g.Out i).1<N) ((N+1)*N+1) with h | ⟨n,h1,h2,h3⟩
  ·have h1:=h ((N+1)*N) (by omega)
   rcases hinv ((N+1)*N) (fun i hi=>h i (by omega)) with ⟨_,t,l0,a1,a2,_⟩ | ⟨a1,_⟩
   ·have:=Nat.mul_le_mul_right N a2
    have:=Nat.add_mul N 1 N
    omega
   ·exact absurd h1 a1
  ·exact ⟨n,by omega,h2,h3⟩
 have hI:∀ i,i≤n→PSt N g.Out i (s5 N g.Out i):=fun i hi=>hinv i fun m hm=>hn2 m (by omega)
 have hL:∀ i,i≤n→(s5 N g.Out i).2.2.length≤16:=fun i hi=>by
  rcases hI i hi with ⟨_,t,l0,_,_,_,_,h⟩ | ⟨_,h⟩
  ·have:=h.swp.half.len;omega
  ·have:=h.half.len;omega
 refine ⟨n,fun i=>pjob (s5 N g.Out i),tr_of hg en hN hs hc ?_ (by omega) (fun i _=>⟨rfl,by simp [a0,pjob]⟩) (fun i hi=>⟨Nat.zero_le _,Nat.le_trans (hL i hi) (by omega)⟩) (fun i hi=>?_) (fun i hi=>?_) ?_⟩
 ·simp [job0,a0,out0,s5,pjob]
 ·show decide (((s5 N g.Out i).1:Int)≥g.N)=false
  have:=hn2 i hi
  exact decide_eq_false (by omega)
 ·have hlt:=hn2 i hi
  have hll:=hL i (by omega)
  rcases hI i (by omega) with ⟨_,t,l0,_,_,_,_,hF⟩ | ⟨h,_⟩
  ·have hsm:JSm (pjob (s5 N g.Out i)):=⟨Nat.zero_le _,Nat.le_trans hll (by omega)⟩
   show Vis g (pjob (s5 N g.Out i)) (pjob (v5 N g.Out (s5 N g.Out i)))
   constructor
   ·have h1:=svis5 en hG hlt (pjob (s5 N g.Out i)) ⟨rfl,rfl,rfl,rfl⟩ 0 (by omega) _ hF
    rw [List.drop_zero] at h1
    unfold Bq
    refine posE rfl (tail ?_)
    unfold Cj
    refine pos (by show (0:Int)≤((s5 N g.Out i).1:Int)∧((s5 N g.Out i).1:Int)<_;omega) ?_
    have e:nth g.Out (pjob (s5 N g.Out i)).At=g.Out.getD (s5 N g.Out i).1 []:=rd1N g.Out _
    rw [e]
    exact h1.e1
   ·have h1:=rvis5 en hG hlt (pjob (s5 N g.Out i)) ⟨rfl,rfl,rfl,rfl⟩ 0 (by omega) _ hF
    rw [List.drop_zero] at h1
    unfold Ab
    refine bnd (copyjob_ev _ hsm) ?_
    refine negE (by show ¬ (5:Int)=1;decide) (negE (by show ¬ (5:Int)=2;decide) (negE (by show ¬ (5:Int)=3;decide) (negE (by show ¬ (5:Int)=6;decide) (negE (by show ¬ (5:Int)=4;decide) ?_))))
    have e:wr .i64 ((pjob (s5 N g.Out i)).At+1)=(((s5 N g.Out i).1+1:Nat):Int):=at1 _ (by omega)
    rw [e]
    exact h1.e1
  ·exact absurd hlt h
 ·show decide (((s5 N g.Out n).1:Int)≥g.N)=true
  exact decide_eq_true (by omega)
end Go.XL
end
end
section
section
namespace Go.XL
open Go.XM
abbrev zj:Ac:=((0,0,0,false,([]:List Int),([]:List Int)):Ac)
theorem ends_any {n kind a:Int} (h:code n kind a=0):Ends kind:=by
 obtain ⟨h1,_⟩:=code_rng h
 have:kind=1∨kind=2∨kind=3∨kind=4∨kind=5∨kind=6:=by omega
 rcases this with rfl | rfl | rfl | rfl | rfl | rfl
 ·exact ends1
 ·exact ends2
 ·exact ends3
 ·exact ends4
 ·exact ends5
 ·exact ends6
theorem sbeg_bad (g:Aa) (kind a:Int) (hs:GSm g) (c:Int) (hc:(if GraphP g then code g.N kind a else 1)=c) (h0:c≠0):E0 (fun K=>Ff K g kind a) (zj,c):=by
 have:=asked_ev g kind a hs
 rw [hc] at this
 unfold Ff
 exact bnd this (posN h0 (now _))
theorem may_bad (g:Aa) (j:Ac) (hs:GSm g) (h0:(if GraphP g then code g.N j.Kind j.A else 1)≠0):E0 (fun K=>Dc K g j) false:=by
 unfold Dc
 exact bnd (sbeg_bad g j.Kind j.A hs _ rfl h0) (posN h0 (now _))
section
variable {g:Aa} {kind a:Int} {n:Nat} {tr:Nat→Ac}
end
section
variable {g:Aa} {j:Ac} {n:Nat} {tr:Nat→Ac}
theorem Tr.mayNo (h:Tr g j.Kind j.A n tr) (hj:∀ i,i≤n→tr i≠j):E0 (fun K=>Dc K g j) false:=by
 have key:∀ i,i≤n→E1 (fun K k=>Dc.l1 K g j k (tr i).Kind (tr i).A (tr i).At (tr i).Move (tr i).List_ (tr i).Out) false:=by
  refine upto ?_ ?_
  ·refine step1 (fun _ _ _ _ _=>Dc.l1.eq_2 ..) ?_
   simp only [eta,over_eq,h.fin]
   exact bnd (jsame_ev _ _ (h.sm n (Nat.le_refl _))) (negD (hj n (Nat.le_refl _)) (bnd (now _) (pos rfl (now _))))
  ·intro i hi ih
   refine step1 (fun _ _ _ _ _=>Dc.l1.eq_2 ..) ?_
   simp only [eta,over_eq,h.go i hi]
   exact bnd (jsame_ev _ _ (h.sm i (by omega))) (negD (hj i (by omega)) (bnd (now _) (neg (by decide) (bnd (h.vis i hi).1 ih))))
 unfold Dc
 exact bnd h.beg (negN rfl (key 0 (by omega)).e1)
theorem Tr.jobNo (h:Tr g j.Kind j.A n tr) (hg:GraphP g) (hc:code g.N j.Kind j.A=0) (hj:∀ i,i≤n→tr i≠j):E0 (fun K=>Bb K g j) false:=by
 have key:∀ i,i≤n→E1 (fun K k=>Bb.l1 K g j k (tr i).Kind (tr i).A (tr i).At (tr i).Move (tr i).List_ (tr i).Out) false:=by
  refine upto ?_ ?_
  ·refine step1 (fun _ _ _ _ _=>Bb.l1.eq_2 ..) ?_
   simp only [eta,ended_eq,h.fin]
   exact bnd (eqjob_ev _ _ (h.sm n (Nat.le_refl _))) (posM (hj n (Nat.le_refl _)) (bnd (now _) (pos rfl (now _))))
  ·intro i hi ih
   refine step1 (fun _ _ _ _ _=>Bb.l1.eq_2 ..) ?_
   simp only [eta,ended_eq,h.go i hi]
   exact bnd (eqjob_ev _ _ (h.sm i (by omega))) (posM (hj i (by omega)) (bnd (now _) (neg (by decide) (bnd (h.vis i hi).2 ih))))
 have h0:=bnd (f:=fun K _ _ _ _ (r29:Ac)=>Bb.l1 K g j K r29.Kind r29.A r29.At r29.Move r29.List_ r29.Out) h.ref (key 0 (by omega)).e1
 unfold Bb
 simp only [may10_eq _ g j.Kind j.A hg.1 hg.2.1,hc,named10_eq]
 refine bnd (now _) (negN rfl (bnd (now _) ?_))
 by_cases hn:j.Kind=1∨j.Kind=2∨j.Kind=4
 ·exact negM hn h0
 ·refine posM hn ?_
  by_cases hA:j.A=0
  ·exact negN hA h0
  ·exact posN hA (now _)
theorem Tr.jobYes (h:Tr g j.Kind j.A n tr) (hg:GraphP g) (hc:code g.N j.Kind j.A=0) (i:Nat) (hi:i≤n) (hj:tr i=j):E0 (fun K=>Bb K g j) true:=by
 have key:∀ m,m≤i→E1 (fun K k=>Bb.l1 K g j k (tr m).Kind (tr m).A (tr m).At (tr m).Move (tr m).List_ (tr m).Out) true:=by
  refine upto ?_ ?_
  ·refine step1 (fun _ _ _ _ _=>Bb.l1.eq_2 ..) ?_
   exact bnd (eqjob_ev (tr i) j (h.sm i hi)) (negM hj (now _))
  ·intro m hm ih
   refine step1 (fun _ _ _ _ _=>Bb.l1.eq_2 ..) ?_
   simp only [eta,ended_eq,h.go m (by omega)]
   refine bnd (eqjob_ev _ _ (h.sm m (by omega))) ?_
   by_cases e:tr m=j
   ·exact negM e (now _)
   ·exact posM e (bnd (now _) (neg (by decide) (bnd (h.vis m (by omega)).2 ih)))
 have h0:=bnd (f:=fun K _ _ _ _ (r29:Ac)=>Bb.l1 K g j K r29.Kind r29.A r29.At r29.Move r29.List_ r29.Out) h.ref (key 0 (by omega)).e1
 unfold Bb
 simp only [may10_eq _ g j.Kind j.A hg.1 hg.2.1,hc,named10_eq]
 refine bnd (now _) (negN rfl (bnd (now _) ?_))
 by_cases hn:j.Kind=1∨j.Kind=2∨j.Kind=4
 ·exact negM hn h0
 ·refine posM hn (negN ?_ h0)
  rw [← hj,(h.kd i hi).2]
  exact h.un hn
end
theorem jobBad {g:Aa} {j:Ac} (hg:GraphP g) (hc:code g.N j.Kind j.A≠0):E0 (fun K=>Bb K g j) false:=by
 unfold Bb
 simp only [may10_eq _ g j.Kind j.A hg.1 hg.2.1]
 exact bnd (now _) (posN hc (now _))
end Go.XL
end
end
section
section
namespace Go.XL
open Go.XM
theorem beq_str (a b:ByteArray):(a.toList == b.toList)=decide (a=b):=by
 rw [Lib.toList_data,Lib.toList_data]
 by_cases h:a=b
 ·rw [h];simp
 ·rw [decide_eq_false h]
  have:¬ a.data.toList=b.data.toList:=fun e=>h (ByteArray.ext (by
   rw [← Array.toArray_toList (xs:=a.data),← Array.toArray_toList (xs:=b.data),e]))
  simpa using this
theorem sz_data (s:ByteArray):s.size=s.data.toList.length:=by show s.data.size=_;rw [Array.length_toList]
theorem str_ext {a b:ByteArray} (h:a.data.toList=b.data.toList):a=b:=ByteArray.ext (by
   rw [← Array.toArray_toList (xs:=a.data),← Array.toArray_toList (xs:=b.data),h])
theorem bytesL_len (s:ByteArray):(bytesL s).length=s.size:=by rw [sz_data];simp [bytesL]
theorem bytesL_bytesOf {l:List Int} (h:∀ x∈l,0≤x∧x≤255):bytesL (bytesOf l)=l:=by
 unfold bytesL
 rw [bytesOf_data,List.map_map]
 conv=>rhs;rw [← List.map_id l]
 refine List.map_congr_left fun x hx=>?_
 have:=h x hx
 simp only [Function.comp,id]
 simp
 omega
theorem bytesOf_bytesL (s:ByteArray):bytesOf (bytesL s)=s:=by
 apply str_ext
 rw [bytesOf_data];unfold bytesL
 rw [List.map_map]
 conv=>rhs;rw [← List.map_id s.data.toList]
 refine List.map_congr_left fun x _=>?_
 simp
theorem bytesL_rng (s:ByteArray):∀ x∈bytesL s,0≤x∧x≤255:=by
 intro x hx
 obtain ⟨b,_,rfl⟩:=List.mem_map.1 hx
 have:=b.toNat_lt
 omega
theorem bytesL_inj {a b:ByteArray} (h:bytesL a=bytesL b):a=b:=by rw [← bytesOf_bytesL a,h,bytesOf_bytesL]
theorem bytesL_app (a b:ByteArray):bytesL (a++b)=bytesL a++bytesL b:=by unfold bytesL;rw [ByteArray.data_append];simp
theorem bytesL_ext (s:ByteArray) (i j:Nat):bytesL (s.extract i j)=((bytesL s).take j).drop i:=by
 unfold bytesL;rw [ByteArray.data_extract,Array.toList_extract,List.extract_eq_drop_take]
 rw [← List.map_take,← List.map_drop,List.drop_take]
theorem bt_get (s:ByteArray) (i:Nat):bt s (i:Int)=(bytesL s).getD i 0:=by
 unfold bt bytesL
 rw [Int.toNat_natCast,List.getD_eq_getElem?_getD,List.getD_eq_getElem?_getD,List.getElem?_map]
 cases s.data.toList[i]? <;> rfl
def adl:List Int→Int × Int→Int × Int
 | [],p=>p
 | c::cs,p=>adl cs ((p.1+c) % 65521,(p.2+(p.1+c) % 65521) % 65521)
def chkL (l:List Int):Int:=(adl l (1,0)).2*65536+(adl l (1,0)).1
def chk (s:ByteArray):Int:=chkL (bytesL s)
def G2 (p:Int × Int):Prop:=0≤p.1∧p.1<65521∧0≤p.2∧p.2<65521
theorem wu32 {x:Int} (h0:0≤x) (h1:x<4294967296):wr .u32 x=x:=by
 show IntKind.wrap .u32 _=_
 unfold IntKind.wrap
 simp only [IntKind.bits,IntKind.signed]
 simp
 omega
theorem wu8 (x:Int):wr .u8 x=x % 256:=by
 show IntKind.wrap .u8 _=_
 unfold IntKind.wrap
 simp only [IntKind.bits,IntKind.signed]
 simp
theorem or16 {b a:Nat} (hb:b<65536) (ha:a<65536):ib .or .u32 ((b*65536:Nat):Int) (a:Int)=((b*65536+a:Nat):Int):=by
 have h1:(b*65536) ||| a=b*65536+a:=by
  have:=Nat.two_pow_add_eq_or_of_lt (i:=16) (by omega:a<2 ^ 16) b
  rw [Nat.mul_comm b]
  exact this.symm
 have h2:(BitVec.ofInt 32 ((b*65536:Nat):Int) ||| BitVec.ofInt 32 (a:Int)).toNat=b*65536+a:=by
  rw [BitVec.toNat_or]
  simp only [BitVec.ofInt_natCast,BitVec.toNat_ofNat]
  rw [Nat.mod_eq_of_lt (by omega),Nat.mod_eq_of_lt (by omega),h1]
 show IntKind.wrap .u32 ((BitVec.ofInt 32 ((b*65536:Nat):Int) ||| BitVec.ofInt 32 (a:Int)).toNat:Int)=_
 rw [h2]
 exact wu32 (by omega) (by omega)
theorem tmE {x m:Int} (h:0≤x):x.tmod m=x % m:=Int.tmod_eq_emod_of_nonneg h
theorem sof_ev (s:ByteArray) (hs:s.size≤4611686018427387903):E0 (fun K=>Ey K s) (chk s):=by
 have hl:=bytesL_len s
 have key:∀ i,i≤s.size→∀ a b:Int,G2 (a,b)→E1 (fun K k=>Ey.l1 K s k a b (s.size:Int) (i:Int)) ((adl ((bytesL s).drop i) (a,b)).2*65536+(adl ((bytesL s).drop i) (a,b)).1):=by
  refine upto ?_ ?_
  ·intro a b ⟨a0,a1,b0,b1⟩
   rw [List.drop_eq_nil_of_le (by omega)]
   simp only at a0 a1 b0 b1
   refine step1 (fun _ _ _ _ _=>Ey.l1.eq_2 ..) ?_
   refine negD (by omega) (pos (by decide) (nowE ?_))
   rw [show (2:Int) ^ min ((16:Int)).toNat 32=65536 from rfl,wu32 (by omega) (by omega)]
   obtain ⟨a,rfl⟩:=Int.eq_ofNat_of_zero_le a0
   obtain ⟨b,rfl⟩:=Int.eq_ofNat_of_zero_le b0
   have:=or16 (b:=b) (a:=a) (by omega) (by omega)
   rw [Int.natCast_mul] at this
   exact this.trans (by simp only [adl];omega)
  ·intro i hi ih a b ⟨a0,a1,b0,b1⟩
   simp only at a0 a1 b0 b1
   refine step1 (fun _ _ _ _ _=>Ey.l1.eq_2 ..) ?_
   have hi':i<(bytesL s).length:=by omega
   obtain ⟨c0,c1⟩:=bytesL_rng s _ (getD_mem (d:=0) hi')
   rw [drop_getD (d:=0) hi',adl]
   refine posD (by omega) (pos (by omega) (pos (by decide) (pos (by decide) ?_)))
   rw [bt_get,wu32 c0 (by omega),wu32 (x:=a+_) (by omega) (by omega),tmE (by omega)]
   have m0:=Int.emod_nonneg (a+(bytesL s).getD i 0) (show (65521:Int)≠0 by decide)
   have m1:=Int.emod_lt_of_pos (a+(bytesL s).getD i 0) (show (0:Int)<65521 by decide)
   rw [wu32 (by omega) (by omega),tmE (by omega),w1 (by omega)]
   exact ih _ _ ⟨m0,m1,Int.emod_nonneg _ (by decide),Int.emod_lt_of_pos _ (by decide)⟩
 exact (key 0 (by omega) 1 0 (by unfold G2;decide)).e1
def nulls (n:Nat):ByteArray:=⟨(List.replicate n 0).toArray⟩
theorem nulls_size (n:Nat):(nulls n).size=n:=by unfold nulls;show (List.replicate n 0).toArray.size=n;simp
theorem repeat_eq (K n:Nat) (h:n≤1000):Et K (⟨#[0]⟩:ByteArray) (n:Int)=some (nulls n):=by
 have hr:∀ m,Lib.repeatL [0] m=List.replicate m (0:UInt8):=fun m=>by
  induction m with
  | zero=>rfl
  | succ m ih=>rw [Lib.repeatL,ih];rfl
 unfold Et repF
 rw [Int.toNat_natCast,if_pos ⟨by omega,by omega,by show 1*n≤_;omega⟩]
 show some (⟨(Lib.repeatL [0] n).toArray⟩:ByteArray)=_
 rw [hr];rfl
theorem bytesOf_zero (n:Nat):bytesOf (List.replicate n 0)=nulls n:=by
 apply str_ext
 rw [bytesOf_data];simp [nulls]
def room (s:ByteArray):ByteArray:=s.extract 0 (min s.size 60)++nulls (60-min s.size 60)
theorem room_size (s:ByteArray):(room s).size=60:=by
 unfold room
 rw [ByteArray.size_append,ByteArray.size_extract,nulls_size]
 omega
def fourL (v:Int):List Int:=[(v / 16777216) % 256,(v / 65536) % 256,(v / 256) % 256,v % 256]
def four (v:Int):ByteArray:=bytesOf (fourL v)
theorem four_size (v:Int):(four v).size=4:=by unfold four;rw [bytesOf_size];rfl
theorem four_L (v:Int):bytesL (four v)=fourL v:=bytesL_bytesOf (by
 intro x hx
 simp only [fourL,List.mem_cons,List.not_mem_nil,or_false] at hx
 rcases hx with rfl | rfl | rfl | rfl <;> omega)
theorem fdE {x:Int} {n:Int} (hn:0<n):x.fdiv n=x / n:=Int.fdiv_eq_ediv_of_nonneg x (by omega)
theorem check_ev (s:ByteArray) (hs:s.size≤4611686018427387903):E0 (fun K=>F7 K s) (four (chk s)):=by
 refine bnd (sof_ev s hs) (pos (by decide) (pos (by decide) (pos (by decide) (nowE ?_))))
 rw [show (2:Int) ^ min ((24:Int)).toNat 32=16777216 from rfl,show (2:Int) ^ min ((16:Int)).toNat 32=65536 from rfl,show (2:Int) ^ min ((8:Int)).toNat 32=256 from rfl,fdE (by decide),fdE (by decide),fdE (by decide),wu8,wu8,wu8,wu8]
 rfl
def addP (s:ByteArray):ByteArray:=room s++four (chk (room s))
theorem addP_size (s:ByteArray):(addP s).size=64:=by unfold addP;rw [ByteArray.size_append,room_size,four_size]
theorem add_ev (s:ByteArray) (hs:s.size≤4611686018427387903):E0 (fun K=>Gr K s) (addP s):=by
 have hrs:=room_size s
 have hfs:=four_size (chk (room s))
 have hex:(s.extract 0 (min s.size 60)).size=min s.size 60:=by rw [ByteArray.size_extract];omega
 have hmn:(if (60:Int)<((s.size:Nat):Int) then (60:Int) else ((s.size:Nat):Int))=((min s.size 60:Nat):Int):=by split <;> omega
 unfold Gr
 rw [hmn,Int.toNat_natCast,show ((0:Int)).toNat=0 from rfl,hex,w64 (by omega) (by omega),show (60:Int)-((min s.size 60:Nat):Int)=((60-min s.size 60:Nat):Int) by omega]
 refine pos (by omega) (bnd (congr (fun K _ _ _ _=>repeat_eq K _ (by omega)) (now _)) (pos (by rw [nulls_size];omega) ?_))
 refine bnd (check_ev (room s) (by omega)) (pos ?_ (now _))
 show (((room s).size+(four (chk (room s))).size:Nat):Int)≤_
 omega
def okB (s:ByteArray):Prop:=s.size=64∧four (chk (s.extract 0 60))=s.extract 60 64
instance (s:ByteArray):Decidable (okB s):=by unfold okB;infer_instance
def takeP (s:ByteArray):ByteArray × Bool:=if okB s then (s.extract 0 60,true) else (ByteArray.empty,false)
theorem ext_size {s:ByteArray} (h:s.size=64):(s.extract 0 60).size=60:=by rw [ByteArray.size_extract];omega
theorem take_ev (s:ByteArray):E0 (fun K=>Gj K s) (takeP s):=by
 unfold takeP
 by_cases h:s.size=64
 ·refine negN (by omega) (pos (by omega) (bnd (check_ev _ (by rw [show ((60:Int)).toNat=60 from rfl,show ((0:Int)).toNat=0 from rfl,ext_size h];omega)) (pos (by omega) ?_)))
  rw [show (((s.size:Nat):Int)).toNat=64 by omega,show ((60:Int)).toNat=60 from rfl,show ((0:Int)).toNat=0 from rfl,beq_str]
  by_cases c:four (chk (s.extract 0 60))=s.extract 60 64
  ·rw [if_pos (show okB s from ⟨h,c⟩)];exact negM c (pos (by omega) (now _))
  ·rw [if_neg (fun z:okB s=>c z.2)];exact posM c (now _)
 ·rw [if_neg (fun z:okB s=>h z.1)];exact posN (by omega) (now _)
end Go.XL
end
end
section
section
namespace Go.XL
open Go.XM
theorem strN {α:Type} {a b:ByteArray} {f g:Nat→Nat→Nat→Nat→Nat→Option α} {r:α} (h:a=b) (k:Ev g r):Ev (fun x y z u v=>if (!(a.toList == b.toList))=true then f x y z u v else g x y z u v) r:=neg (by rw [h];simp) k
theorem addP_ok (s:ByteArray):okB (addP s):=by
 have h1:=room_size s
 have h2:=four_size (chk (room s))
 refine ⟨addP_size s,?_⟩
 unfold addP
 rw [ByteArray.extract_append_eq_left h1.symm,ByteArray.extract_append_eq_right h1.symm (by rw [h1,h2])]
theorem addP_head (s:ByteArray):(addP s).extract 0 60=room s:=ByteArray.extract_append_eq_left (room_size s).symm
end Go.XL
end
end
section
section
namespace Go.XL
open Go.XM
theorem eql_gen {α:Type} [Inhabited α] [DecidableEq α] {xs ys:List α} (hl:xs.length≤17592186044416) (c:Int→Bool) (hc:∀ i,c i=!decide (nth xs i=nth ys i)) (F:Nat→Nat→Int→Option Bool)
  (hF:∀ K k i,F K (k+1) i=if decide (i<((xs.length:Nat):Int))=true then if (0:Int)≤i∧i<((xs.length:Nat):Int) then if (0:Int)≤i∧i<((ys.length:Nat):Int) then if c i=true then some false else F K k (wr .i64 (i+1)) else none else none else some true)
  (f:Nat→Option Bool) (hf:∀ K,f K=if (((xs.length:Nat):Int) != ((ys.length:Nat):Int))=true then some false else F K K (0:Int)):E0 f (decide (xs=ys)):=by
 refine congr (fun K _ _ _ _=>hf K) ?_
 by_cases he:xs.length=ys.length
 ·refine negN (by rw [he]) ?_
  have key:∀ i,i≤xs.length→xs.take i=ys.take i→E1 (fun K k=>F K k (i:Int)) (decide (xs=ys)):=by
   refine upto ?_ ?_
   ·intro h
    rw [List.take_length,he,List.take_length] at h
    refine step1 (fun _ _ _ _ _=>hF _ _ _) (negD (by omega) (nowE ?_))
    simp [h]
   ·intro i hi ih h
    refine step1 (fun _ _ _ _ _=>hF _ _ _) (posD (by omega) (pos (by omega) (pos (by omega) ?_)))
    rw [hc,nthN,nthN]
    by_cases e:xs.getD i default=ys.getD i default
    ·refine negM e ?_
     rw [w1 (by omega)]
     exact ih (by rw [take_getD (d:=default) hi,take_getD (d:=default) (by omega),h,e])
    ·refine posM e (nowE ?_)
     exact (decide_eq_false (fun z=>e (by rw [z]))).symm
  exact (key 0 (by omega) (by simp)).e1
 ·refine posN (by omega) (nowE ?_)
  exact (decide_eq_false (fun z=>he (by rw [z]))).symm
theorem copy_gen {α:Type} [Inhabited α] {xs:List α} (c:Nat) (h8:8≤c) (hc:xs.length*c≤140737488355328) (F:Nat→Nat→Int→List α→Option (List α))
  (hF:∀ K k i m,F K (k+1) i m=if decide (i<((xs.length:Nat):Int))=true then if (0:Int)≤i∧i<((xs.length:Nat):Int) then if (m.length+([nth xs i]:List α).length)*c≤140737488355328 then F K k (wr .i64 (i+1)) (m++[nth xs i]) else none else none else some m)
  (f:Nat→Option (List α)) (hf:∀ K,f K=F K K (0:Int) []):E0 f xs:=by
 refine congr (fun K _ _ _ _=>hf K) ?_
 have hl:xs.length≤17592186044416:=by
  have:=Nat.mul_le_mul_left xs.length h8
  omega
 have key:∀ i,i≤xs.length→E1 (fun K k=>F K k (i:Int) (xs.take i)) xs:=by
  refine upto ?_ ?_
  ·refine step1 (fun _ _ _ _ _=>hF _ _ _ _) (negD (by omega) (nowE ?_))
   simp
  ·intro i hi ih
   refine step1 (fun _ _ _ _ _=>hF _ _ _ _) (posD (by omega) (pos (by omega) (pos ?_ ?_)))
   ·refine Nat.le_trans (Nat.mul_le_mul_right c ?_) hc
    simp;omega
   ·rw [nthN,w1 (by omega),← take_getD hi];exact ih
 exact (key 0 (by omega)).e1
theorem baq (a b:ByteArray):(a == b)=decide (a=b):=by
 obtain ⟨a⟩:=a;obtain ⟨b⟩:=b
 show (a == b)=_
 by_cases h:a=b
 ·subst h;simp
 ·have:¬ (ByteArray.mk a=ByteArray.mk b):=fun z=>h (by injection z)
  rw [decide_eq_false this]
  simpa using h
end Go.XL
end
end
section
section
namespace Go.XL
open Go.XM
theorem zerosB (K n:Nat) (h:n≤140737488355328):Em K (n:Int)=some (nulls n):=by
 unfold Em
 rw [if_pos ⟨rfl,by omega,by omega,by omega⟩,Int.toNat_natCast,bytesOf_zero]
theorem orN {a c t:Nat} (hc:c<2 ^ t) (h:a*2 ^ t+c<9223372036854775808):ib .or .i64 ((a*2 ^ t:Nat):Int) (c:Int)=((a*2 ^ t+c:Nat):Int):=by
 have h1:(a*2 ^ t) ||| c=a*2 ^ t+c:=by
  have:=Nat.two_pow_add_eq_or_of_lt hc a
  rw [Nat.mul_comm a]
  exact this.symm
 have h2:(BitVec.ofInt 64 ((a*2 ^ t:Nat):Int) ||| BitVec.ofInt 64 (c:Int)).toNat=a*2 ^ t+c:=by
  rw [BitVec.toNat_or]
  simp only [BitVec.ofInt_natCast,BitVec.toNat_ofNat]
  rw [Nat.mod_eq_of_lt (by omega),Nat.mod_eq_of_lt (by omega),h1]
 show IntKind.wrap .i64 ((BitVec.ofInt 64 ((a*2 ^ t:Nat):Int) ||| BitVec.ofInt 64 (c:Int)).toNat:Int)=_
 rw [h2,wr_eq]
 exact w64 (by omega) (by omega)
def numL (l:List Int):Int:=l.getD 0 0*16777216+l.getD 1 0*65536+l.getD 2 0*256+l.getD 3 0
def num4 (s:ByteArray):Int:=numL (bytesL s)
theorem byte_nat (s:ByteArray) (i:Nat):∃ a:Nat,(bytesL s).getD i 0=(a:Int)∧a<256:=by
 by_cases h:i<(bytesL s).length
 ·have:=bytesL_rng s _ (getD_mem (d:=0) h)
  exact ⟨((bytesL s).getD i 0).toNat,by omega,by omega⟩
 ·exact ⟨0,by rw [List.getD_eq_getElem?_getD,List.getElem?_eq_none (by omega)];rfl,by decide⟩
theorem num4_rng (s:ByteArray):0≤num4 s∧num4 s<4294967296:=by
 obtain ⟨a,ea,ha⟩:=byte_nat s 0
 obtain ⟨b,eb,hb⟩:=byte_nat s 1
 obtain ⟨c,ec,hc⟩:=byte_nat s 2
 obtain ⟨d,ed,hd⟩:=byte_nat s 3
 unfold num4 numL
 rw [ea,eb,ec,ed];omega
abbrev Rd:=Ag
theorem rd_ev (s:ByteArray) (b:Bool) (h:s.size≤4611686018427387903):E0 (fun K=>Rd K ((s,b):Am)) (if b=true∨s.size<4 then (0,(s,true)) else (num4 s,(s.extract 4 s.size,false))):=by
 show E0 (fun K=>Ag K ((s,b):Am)) _
 unfold Ag
 cases b with
 | true=>rw [if_pos (.inl rfl)];exact pos rfl (now _)
 | false =>
  refine negB rfl ?_
  show Ev (fun K _ _ _ _=>if decide (((s.size:Nat):Int)<4)=true then _ else _) _
  by_cases c:s.size<4
  ·rw [if_pos (.inr c)];exact posD (by omega) (now _)
  ·rw [if_neg (fun z=>z.elim (fun z=>by cases z) c)]
   refine negD (by omega) (pos ⟨by omega,by omega,by show (4:Int)≤((s.size:Nat):Int);omega⟩ ?_)
   obtain ⟨x0,ea,ha⟩:=byte_nat s 0
   obtain ⟨x1,eb,hb⟩:=byte_nat s 1
   obtain ⟨x2,ec,hc⟩:=byte_nat s 2
   obtain ⟨x3,ed,hd⟩:=byte_nat s 3
   have hl:=bytesL_len s
   have hL:bytesL (s.extract ((0:Int)).toNat ((4:Int)).toNat)=[(x0:Int),x1,x2,x3]:=by
    rw [bytesL_ext]
    show ((bytesL s).take 4).drop 0=_
    match e:bytesL s,hl with
    | p::q::r::t::l,_ =>
     rw [e] at ea eb ec ed
     simp only [List.getD_cons_zero,List.getD_cons_succ] at ea eb ec ed
     rw [ea,eb,ec,ed];rfl
    | [],z=>simp at z;omega
    | [_],z=>simp at z;omega
    | [_,_],z=>simp at z;omega
    | [_,_,_],z=>simp at z;omega
   rw [show Am.S (s,false)=s from rfl,hL]
   have st:∀ n c:Nat,n<4294967296→c<256→ib .or .i64 (wr .i64 ((n:Int)*2 ^ min ((8:Int)).toNat 64)) (wr .i64 (c:Int))=((n*256+c:Nat):Int):=by
    intro n c hn hc
    rw [show (2:Int) ^ min ((8:Int)).toNat 64=256 from rfl,w64 (by omega) (by omega),w64 (by omega) (by omega),show (n:Int)*256=((n*2 ^ 8:Nat):Int) by omega]
    exact orN (t:=8) (by omega) (by omega)
   have hlen:((([(x0:Int),x1,x2,x3]).length:Nat):Int)=4:=rfl
   rw [hlen]
   have go:∀ (i n c:Nat) (m:Nat) (r:Int × Am),i<4→nth [(x0:Int),x1,x2,x3] (i:Int)=(c:Int)→n<4294967296→c<256→m=n*256+c →
     E1 (fun K k=>Ag.l1 K ((s,false):Am) k (m:Int) 4 ((i+1:Nat):Int) [(x0:Int),x1,x2,x3]) r→E1 (fun K k=>Ag.l1 K ((s,false):Am) k (n:Int) 4 (i:Int) [(x0:Int),x1,x2,x3]) r:=by
    intro i n c m r hi hn1 hn2 hn3 hm hk
    refine step1 (fun _ _ _ _ _=>Ag.l1.eq_2 ..) (posD (by omega) (pos (by rw [hlen];omega) (pos (by decide) ?_)))
    rw [hn1,st n c hn2 hn3,← hm,w1 (by omega)]
    exact hk
   have last:E1 (fun K k=>Ag.l1 K ((s,false):Am) k (((x0*256+x1)*256+x2)*256+x3:Nat) 4 ((4:Nat):Int) [(x0:Int),x1,x2,x3]) (num4 s,(s.extract 4 s.size,false)):=by
    refine step1 (fun _ _ _ _ _=>Ag.l1.eq_2 ..) (negD (by omega) (pos ⟨by omega,by show (4:Int)≤((s.size:Nat):Int);omega,by omega⟩ (nowE ?_)))
    unfold num4 numL
    rw [ea,eb,ec,ed]
    show ((_,(s.extract 4 (((s.size:Nat):Int)).toNat,false)):Int × Am)=_
    rw [Int.toNat_natCast,show ((((x0*256+x1)*256+x2)*256+x3:Nat):Int)=(x0:Int)*16777216+x1*65536+x2*256+x3 by omega]
   exact ((go 0 0 x0 x0 _ (by omega) rfl (by omega) ha (by omega) (go 1 x0 x1 (x0*256+x1) _ (by omega) rfl (by omega) hb rfl (go 2 (x0*256+x1) x2 ((x0*256+x1)*256+x2) _ (by omega) rfl (by omega) hc rfl (go 3 ((x0*256+x1)*256+x2) x3 _ _ (by omega) rfl (by omega) hd rfl last))))).e1
end Go.XL
end
end
section
section
namespace Go.XL
open Go.XM
def chunk (s:ByteArray) (i:Nat):ByteArray:=s.extract (60*i) (min (60*i+60) s.size)
def partsP (s:ByteArray):List ByteArray:=(List.range ((s.size+59) / 60)).map fun i=>addP (chunk s i)
theorem partsP_len (s:ByteArray):(partsP s).length=(s.size+59) / 60:=by simp [partsP]
theorem partsP_take {s:ByteArray} {i:Nat} (h:i<(s.size+59) / 60):(partsP s).take (i+1)=(partsP s).take i++[addP (chunk s i)]:=by
 have e:(partsP s).getD i ByteArray.empty=addP (chunk s i):=by
  unfold partsP
  rw [List.getD_eq_getElem?_getD,List.getElem?_map,List.getElem?_range h];rfl
 rw [take_getD (d:=ByteArray.empty) (by rw [partsP_len];exact h),e]
theorem chunk_size (s:ByteArray) (i:Nat):(chunk s i).size≤60:=by unfold chunk;rw [ByteArray.size_extract];omega
theorem ext_ext (s:ByteArray) {i j k l:Nat}:(s.extract i j).extract k l=s.extract (i+k) (min (i+l) j):=ByteArray.extract_extract
theorem parts_gen {F:Nat→Nat→ByteArray→List ByteArray→Option (List ByteArray)} {A:Nat→ByteArray→Option ByteArray} {c:ByteArray→Bool} (s:ByteArray) (hs:s.size≤140737488351232) (hA:∀ t:ByteArray,t.size≤60→E0 (fun K=>A K t) (addP t))
  (hc:∀ t,c t=decide (t.size≠0))
  (hF:∀ K k t l,F K (k+1) t l=if c t=true then
   if (0:Int)≤(0:Int)∧(0:Int)≤(if (60:Int)<((t.size:Nat):Int) then (60:Int) else ((t.size:Nat):Int))∧(if (60:Int)<((t.size:Nat):Int) then (60:Int) else ((t.size:Nat):Int))≤((t.size:Nat):Int) then
   (A K (t.extract (0:Int).toNat (if (60:Int)<((t.size:Nat):Int) then (60:Int) else ((t.size:Nat):Int)).toNat)).bind fun r =>
   if (l.length+([r]:List ByteArray).length)*16≤140737488355328 then
   if (0:Int)≤(if (60:Int)<((t.size:Nat):Int) then (60:Int) else ((t.size:Nat):Int))∧(if (60:Int)<((t.size:Nat):Int) then (60:Int) else ((t.size:Nat):Int))≤((t.size:Nat):Int)∧((t.size:Nat):Int)≤((t.size:Nat):Int) then
   F K k (t.extract (if (60:Int)<((t.size:Nat):Int) then (60:Int) else ((t.size:Nat):Int)).toNat ((t.size:Nat):Int).toNat) (l++[r])
   else none else none else none else some l):E0 (fun K=>F K K s []) (partsP s):=by
 have key:∀ i,i≤(s.size+59) / 60→E1 (fun K k=>F K k (s.extract (60*i) s.size) ((partsP s).take i)) (partsP s):=by
  refine upto ?_ ?_
  ·refine step1 (fun _ _ _ _ _=>hF _ _ _ _) ?_
   rw [hc]
   refine negD ?_ (nowE (by rw [← partsP_len s,List.take_length]))
   rw [ByteArray.size_extract];omega
  ·intro i hi ih
   refine step1 (fun _ _ _ _ _=>hF _ _ _ _) ?_
   generalize ht:s.extract (60*i) s.size=t
   have hts:t.size=s.size-60*i:=by rw [← ht,ByteArray.size_extract];omega
   have hm:(if (60:Int)<((t.size:Nat):Int) then (60:Int) else ((t.size:Nat):Int))=((min t.size 60:Nat):Int):=by split <;> omega
   rw [hc,hm,Int.toNat_natCast,Int.toNat_natCast,show ((0:Int)).toNat=0 from rfl]
   have e1:t.extract 0 (min t.size 60)=chunk s i:=by
    have h:=ext_ext s (i:=60*i) (j:=s.size) (k:=0) (l:=min t.size 60)
    rw [ht] at h
    rw [h,Nat.add_zero,show min (60*i+min t.size 60) s.size=min (60*i+60) s.size by omega];rfl
   have e2:t.extract (min t.size 60) t.size=s.extract (60*(i+1)) s.size:=by
    by_cases h:60≤t.size
    ·have h1:=ext_ext s (i:=60*i) (j:=s.size) (k:=min t.size 60) (l:=t.size)
     rw [ht] at h1
     rw [h1,show 60*i+min t.size 60=60*(i+1) by omega,show min (60*i+t.size) s.size=s.size by omega]
    ·have z:∀ {a b:ByteArray},a.size=0→b.size=0→a=b:=fun h1 h2=>by
      rw [ByteArray.size_eq_zero_iff.1 h1,ByteArray.size_eq_zero_iff.1 h2]
     exact z (by rw [ByteArray.size_extract];omega) (by rw [ByteArray.size_extract];omega)
   rw [e1,e2]
   refine posD (by omega) (pos (by omega) (bnd (hA _ (chunk_size s i)) (pos ?_ (pos (by omega) ?_))))
   ·have:((partsP s).take i).length≤s.size / 60+1:=by rw [List.length_take,partsP_len];omega
    show (_+1)*16≤_
    omega
   ·rw [← partsP_take hi];exact ih
 have:=(key 0 (by omega)).e1
 rwa [Nat.mul_zero,List.take_zero,ByteArray.extract_zero_size] at this
theorem parts_ev (s:ByteArray) (hs:s.size≤140737488351232):E0 (fun K=>D5 K s) (partsP s) :=
 parts_gen (F:=D5.l1) (A:=Gr) (c:=fun t=>!(t.toList == ByteArray.empty.toList)) s hs (fun t ht=>add_ev t (by omega)) (fun t=>by
  rw [beq_str,← decide_not]
  exact decide_eq_decide.2 ⟨fun h z=>h (ByteArray.size_eq_zero_iff.1 z),fun h z=>h (by rw [z];rfl)⟩) (fun _ _ _ _=>D5.l1.eq_2 ..)
def wholeP:List ByteArray→Option ByteArray
 | []=>some ByteArray.empty
 | x::l=>if okB x then (wholeP l).map (x.extract 0 60++·) else none
theorem whole_gen {R:Type} {F:Nat→Nat→ByteArray→Int→Option R} {T:Nat→ByteArray→Option (ByteArray × Bool)} {g:Option ByteArray→R} (l:List ByteArray) (hl:l.length≤17592186044416) (hT:∀ t,E0 (fun K=>T K t) (takeP t))
  (hF:∀ K k s t,F K (k+1) s t=if decide (t<((l.length:Nat):Int))=true then
   if (0:Int)≤t∧t<((l.length:Nat):Int) then
   (T K (nth l t)).bind fun r =>
   if (!r.2)=true then some (g none) else if ((s.size+r.1.size:Nat):Int)≤9223372036854775807 then F K k (s++r.1) (wr .i64 (t+1)) else none
   else none else some (g (some s))):E0 (fun K=>F K K ByteArray.empty 0) (g (wholeP l)):=by
 have key:∀ i,i≤l.length→∀ s:ByteArray,s.size=60*i→E1 (fun K k=>F K k s (i:Int)) (g ((wholeP (l.drop i)).map (s++·))):=by
  refine upto ?_ ?_
  ·intro s hs
   refine step1 (fun _ _ _ _ _=>hF _ _ _ _) (negD (by omega) (nowE ?_))
   rw [List.drop_length,wholeP]
   show _=g (some (s++ByteArray.empty))
   rw [ByteArray.append_empty]
  ·intro i hi ih s hs
   refine step1 (fun _ _ _ _ _=>hF _ _ _ _) (posD (by omega) (pos (by omega) (bnd (hT _) ?_)))
   rw [nthN,drop_getD (d:=default) hi,wholeP]
   unfold takeP
   by_cases c:okB (l.getD i default)
   ·rw [if_pos c,if_pos c]
    have h60:=ext_size c.1
    refine neg (fun z=>by cases z) (pos ?_ ?_)
    ·show ((s.size+((l.getD i default).extract 0 60).size:Nat):Int)≤_
     rw [h60];omega
    ·rw [w1 (by omega),Option.map_map]
     have:=ih (s++(l.getD i default).extract 0 60) (by rw [ByteArray.size_append,h60];omega)
     refine ofEq this ?_
     congr 1
     congr 1
     funext x
     simp [Function.comp,ByteArray.append_assoc]
   ·rw [if_neg c,if_neg c]
    exact pos rfl (now _)
 have:=(key 0 (by omega) ByteArray.empty rfl).e1
 refine ofEq this ?_
 rw [List.drop_zero]
 congr 1
 cases wholeP l with
 | none=>rfl
 | some x=>simp
def wP (x:Option ByteArray):ByteArray × Int:=match x with | some s=>(s,0) | none=>(ByteArray.empty,9)
theorem whole_ev (l:List ByteArray) (hl:l.length≤17592186044416):E0 (fun K=>Du K l) (wP (wholeP l)) :=
 whole_gen (F:=fun K k s t=>Du.l1 K l k s ((l.length:Nat):Int) t) (T:=Gj) (g:=wP) l hl take_ev (fun _ _ _ _=>Du.l1.eq_2 ..)
theorem numbers_ev (s:ByteArray) (l:List Int) (hs:s.size≤70368744177664) (hl:l.length≤1000000):E0 (fun K=>Cr K s l) (bytesOf (bytesL s++l.flatMap fourL)):=by
 have hb:=bytesL_len s
 have hf:∀ m:List Int,(m.flatMap fourL).length=4*m.length:=fun m=>by induction m with | nil=>rfl | cons a m ih=>rw [List.flatMap_cons,List.length_append,ih];show 4+_=4*(m.length+1);omega
 have key:∀ i,i≤l.length→E1 (fun K k=>Cr.l1 K l k ((l.length:Nat):Int) (i:Int) (bytesL s++(l.take i).flatMap fourL)) (bytesOf (bytesL s++l.flatMap fourL)):=by
  refine upto ?_ ?_
  ·refine step1 (fun _ _ _ _ _=>Cr.l1.eq_2 ..) (negD (by omega) (nowE ?_))
   rw [List.take_length]
  ·intro i hi ih
   refine step1 (fun _ _ _ _ _=>Cr.l1.eq_2 ..) (posD (by omega) (pos (by omega) (pos (by decide) (pos (by decide) (pos (by decide) (pos ?_ ?_))))))
   ·rw [List.length_append,hf,List.length_take]
    show (_+4)*1≤_
    omega
   ·rw [w1 (by omega),nthN,show (2:Int) ^ min ((24:Int)).toNat 64=16777216 from rfl,show (2:Int) ^ min ((16:Int)).toNat 64=65536 from rfl,show (2:Int) ^ min ((8:Int)).toNat 64=256 from rfl,fdE (by decide),fdE (by decide),fdE (by decide),wu8,wu8,wu8,wu8,List.append_assoc]
    rw [take_getD (d:=default) hi,List.flatMap_append] at ih
    exact ih
 have:=(key 0 (by omega)).e1
 rwa [List.take_zero,List.flatMap_nil,List.append_nil] at this
theorem data_ev (b:Ap) (hs:b.Data.size≤140737488351232):E0 (fun K=>Gs K b) (four b.N++b.Data):=by
 have h:=numbers_ev ByteArray.empty [b.N] (by decide) (by show 1≤_;decide)
 have e:bytesOf (bytesL ByteArray.empty++[b.N].flatMap fourL)=four b.N:=by
  rw [show bytesL ByteArray.empty=[] from rfl,List.nil_append,List.flatMap_cons,List.flatMap_nil,List.append_nil];rfl
 rw [e] at h
 exact bnd h (pos (by rw [four_size];omega) (now _))
theorem object_ev (b:Ap) (hs:b.Data.size≤1000000):E0 (fun K=>Gb K b) (if MayB b then (four b.N++b.Data,0) else (ByteArray.empty,1)):=by
 refine bnd (congr (fun K _ _ _ _=>bMay_eq hs K) (now _)) ?_
 by_cases c:MayB b
 ·rw [if_pos c];exact negM c (bnd (data_ev b (by omega)) (now _))
 ·rw [if_neg c];exact posM c (now _)
theorem num4_four {v:Int} (h:0≤v∧v<4294967296) (t:ByteArray):num4 (four v++t)=v:=by
 unfold num4 numL
 rw [bytesL_app,four_L]
 show (v / 16777216 % 256)*16777216+(v / 65536 % 256)*65536+(v / 256 % 256)*256+v % 256=v
 omega
end Go.XL
end
end
section
section
namespace Go.XL
open Go.XM
theorem dropWhile_nil (c:UInt8):∀ l:List UInt8,l.dropWhile (· == c)=[]↔∀ x∈l,x=c
 | []=>by simp
 | a::l=>by
  rw [List.dropWhile_cons]
  by_cases h:a=c
  ·rw [if_pos (by simpa using h),dropWhile_nil c l]
   simp [h]
  ·rw [if_neg (by simpa using h)]
   simp [h]
theorem trim_nil (c:UInt8) (l:List UInt8):Lib.trimB l c=[]↔∀ x∈l,x=c:=by
 unfold Lib.trimB Lib.trimLeftB Lib.trimRightB
 rw [dropWhile_nil]
 constructor
 ·intro h
  have h0:l.reverse.dropWhile (· == c)=[]:=by
   cases e:l.reverse.dropWhile (· == c) with
   | nil=>rfl
   | cons a r =>
    exfalso
    have h1:=h a (by rw [List.mem_reverse,e];exact List.mem_cons_self)
    have h2:=List.head?_dropWhile_not (· == c) l.reverse
    rw [e] at h2
    simp [h1] at h2
  exact fun x hx=>(dropWhile_nil c _).1 h0 x (List.mem_reverse.2 hx)
 ·intro h x hx
  have:l.reverse.dropWhile (· == c)=[]:=(dropWhile_nil c _).2 fun x hx=>h x (List.mem_reverse.1 hx)
  rw [this] at hx
  cases hx
theorem nulls_iff (s:ByteArray):s=nulls s.size↔∀ x∈s.data.toList,x=0:=by
 constructor
 ·intro h x hx
  rw [h] at hx
  simp only [nulls] at hx
  exact (List.mem_replicate.1 hx).2
 ·intro h
  apply str_ext
  show _=List.replicate s.size 0
  rw [sz_data]
  exact List.eq_replicate_iff.2 ⟨rfl,h⟩
theorem trim_eq (K:Nat) (s:ByteArray) (hs:s.size≤9223372036854775807):∃ r,Fp K s (⟨#[0]⟩:ByteArray)=some r∧(r=ByteArray.empty↔s=nulls s.size):=by
 refine ⟨⟨(Lib.trimB s.data.toList 0).toArray⟩,?_,?_⟩
 ·show trimF s _=_
  unfold trimF
  show (if (0:UInt8).toNat<128∧s.size≤9223372036854775807 then _ else _)=_
  rw [if_pos ⟨by decide,hs⟩]
 ·rw [nulls_iff,← trim_nil]
  constructor
  ·intro h
   have:=congrArg (fun b:ByteArray=>b.data.toList) h
   simpa using this
  ·intro h;rw [h];rfl
abbrev z0b:Ap:=((ByteArray.empty,0):Ap)
def tkO (s:ByteArray) (n:Int):Option Ap :=
 if (0≤n∧n≤6000)∧4+(n.toNat+7) / 8≤s.size∧num4 s=n∧MayB ((s.extract 4 (4+(n.toNat+7) / 8),n):Ap)∧s.extract (4+(n.toNat+7) / 8) s.size=nulls (s.size-(4+(n.toNat+7) / 8)) then
  some ((s.extract 4 (4+(n.toNat+7) / 8),n):Ap) else none
def tO (x:Option Ap):Ap × Int:=match x with | some b=>(b,0) | none=>(z0b,9)
theorem blank_ev (n:Int) (h:0≤n∧n≤6000) (K:Nat):Fu K n=some ((nulls ((n.toNat+7) / 8),n):Ap):=by
 unfold Fu
 obtain ⟨m,rfl⟩:=Int.eq_ofNat_of_zero_le h.1
 rw [if_pos (by decide),w64 (i:=(m:Int)+8) (by omega) (by omega),w64 (i:=(m:Int)+8-1) (by omega) (by omega),show (m:Int)+8-1=((m+7:Nat):Int) by omega,show (8:Int)=((8:Nat):Int) from rfl,tdivN,w64 (by omega) (by omega),Int.toNat_natCast,repeat_eq K _ (by omega)]
 rfl
theorem takeO_ev (s:ByteArray) (n:Int) (hs:s.size≤140737488351232):E0 (fun K=>Ez K s n) (tO (tkO s n)):=by
 unfold Ez
 refine bnd (rd_ev s false (by omega)) ?_
 by_cases c0:s.size<4
 ·rw [if_pos (.inr c0),show tkO s n=none from if_neg (fun z=>by have:=z.2.1;omega)]
  exact pos rfl (now _)
 rw [if_neg (fun z=>z.elim (fun z=>by cases z) c0)]
 refine neg (fun z=>by cases z) ?_
 show Ev (fun K _ _ _ _=>if (num4 s != n)=true then _ else _) _
 by_cases c1:num4 s=n
 case neg =>
  rw [show tkO s n=none from if_neg (fun z=>c1 z.2.2.1)]
  exact posN c1 (now _)
 refine negN c1 ?_
 have hr:=num4_rng s
 by_cases c2:n > 6000
 ·rw [show tkO s n=none from if_neg (fun z=>by have:=z.1;omega)]
  exact posD c2 (now _)
 have hn:0≤n∧n≤6000:=by omega
 refine negD c2 (bnd (congr (fun K _ _ _ _=>blank_ev n hn K) (now _)) ?_)
 show Ev (fun K _ _ _ _=>if decide ((((s.extract 4 s.size).size:Nat):Int)<(((nulls ((n.toNat+7) / 8)).size:Nat):Int))=true then _ else _) _
 generalize hz:(n.toNat+7) / 8=z
 have hz':z≤751:=by omega
 have e1:(s.extract 4 s.size).size=s.size-4:=by rw [ByteArray.size_extract];omega
 have e2:(nulls z).size=z:=nulls_size z
 by_cases c3:s.size-4<z
 ·rw [show tkO s n=none from if_neg (fun y=>by have:=y.2.1;omega)]
  exact posD (by rw [e1,e2];omega) (now _)
 refine negD (by rw [e1,e2];omega) (pos ⟨by omega,by omega,by show (((nulls z).size:Nat):Int)≤(((s.extract 4 s.size).size:Nat):Int);rw [e1,e2];omega⟩ ?_)
 show Ev (fun K _ _ _ _=>(Fg K (((s.extract 4 s.size).extract 0 ((((nulls z).size:Nat):Int)).toNat,n):Ap)).bind _) _
 have e3:(s.extract 4 s.size).extract 0 ((((nulls z).size:Nat):Int)).toNat=s.extract 4 (4+z):=by
  rw [Int.toNat_natCast,e2,ext_ext,show min (4+z) s.size=4+z by omega]
 rw [e3]
 have hb:(s.extract 4 (4+z)).size≤1000000:=by rw [ByteArray.size_extract];omega
 refine bnd (congr (fun K _ _ _ _=>bMay_eq (b:=(s.extract 4 (4+z),n)) hb K) (now _)) ?_
 by_cases c4:MayB ((s.extract 4 (4+z),n):Ap)
 case neg =>
  rw [show tkO s n=none from if_neg (fun y=>c4 (by have:=y.2.2.2.1;rwa [hz] at this))]
  exact posM c4 (now _)
 refine negM c4 (pos ⟨by omega,by show (((nulls z).size:Nat):Int)≤(((s.extract 4 s.size).size:Nat):Int);rw [e1,e2];omega,by omega⟩ ?_)
 have e4:(s.extract 4 s.size).extract ((((nulls z).size:Nat):Int)).toNat ((((s.extract 4 s.size).size:Nat):Int)).toNat=s.extract (4+z) s.size:=by
  rw [Int.toNat_natCast,Int.toNat_natCast,e2,e1,ext_ext,show min (4+(s.size-4)) s.size=s.size by omega]
 show Ev (fun K _ _ _ _=>(Fp K ((s.extract 4 s.size).extract ((((nulls z).size:Nat):Int)).toNat ((((s.extract 4 s.size).size:Nat):Int)).toNat) _).bind _) _
 rw [e4]
 have e5:(s.extract (4+z) s.size).size=s.size-(4+z):=by rw [ByteArray.size_extract];omega
 obtain ⟨r,r1,r2⟩:=trim_eq 0 (s.extract (4+z) s.size) (by omega)
 refine bnd (congr (fun K _ _ _ _=>(r1:Fp K _ _=_)) (now _)) ?_
 rw [e5] at r2
 rw [beq_str]
 by_cases c5:r=ByteArray.empty
 ·refine negM c5 (nowE ?_)
  show ((((s.extract 4 s.size).extract 0 ((((nulls z).size:Nat):Int)).toNat,n):Ap),(0:Int))=_
  rw [e3]
  unfold tkO
  rw [hz,if_pos ⟨hn,by omega,c1,c4,r2.1 c5⟩];rfl
 ·refine posM c5 (nowE ?_)
  rw [show tkO s n=none from if_neg (fun y=>c5 (r2.2 (by have:=y.2.2.2.2;rwa [hz] at this)))];rfl
end Go.XL
end
end
section
section
namespace Go.XL
open Go.XM
theorem okB_map (s:ByteArray) (i:Nat):okB (addP (chunk s i)):=addP_ok _
theorem nulls_zero:nulls 0=ByteArray.empty:=rfl
theorem room_short {s:ByteArray} (h:s.size≤60):room s=s++nulls (60-s.size):=by
 unfold room
 rw [show min s.size 60=s.size by omega,ByteArray.extract_zero_size]
theorem emp {s:ByteArray} (h:s.size=0):s=ByteArray.empty:=ByteArray.size_eq_zero_iff.1 h
theorem whole_parts (s:ByteArray):wholeP (partsP s)=some (s++nulls (60*((s.size+59) / 60)-s.size)):=by
 have hl:=partsP_len s
 generalize hN:(s.size+59) / 60=N at *
 have key:∀ i,i≤N→wholeP ((partsP s).drop i)=some (s.extract (60*i) s.size++nulls (if i<N then 60*N-s.size else 0)):=by
  refine upto ?_ ?_
  ·rw [List.drop_eq_nil_of_le (by omega),if_neg (by omega),wholeP,nulls_zero,ByteArray.append_empty,emp (s:=s.extract (60*N) s.size) (by rw [ByteArray.size_extract];omega)]
  ·intro i hi ih
   have hd:(partsP s).getD i default=addP (chunk s i):=by
    unfold partsP
    rw [List.getD_eq_getElem?_getD,List.getElem?_map,List.getElem?_range (by omega)];rfl
   rw [drop_getD (d:=default) (by omega),hd,wholeP,if_pos (okB_map s i),addP_head,ih,if_pos hi]
   show some (room (chunk s i)++_)=_
   rw [room_short (chunk_size s i)]
   have hcs:(chunk s i).size=min (60*i+60) s.size-60*i:=by unfold chunk;rw [ByteArray.size_extract];omega
   by_cases c:i+1<N
   ·rw [if_pos c,show 60-(chunk s i).size=0 by omega,nulls_zero,ByteArray.append_empty,← ByteArray.append_assoc]
    congr 2
    unfold chunk
    rw [show min (60*i+60) s.size=60*(i+1) by omega]
    exact (ByteArray.extract_eq_extract_append_extract _ (by omega) (by omega)).symm
   ·rw [if_neg c,nulls_zero,ByteArray.append_empty,emp (s:=s.extract (60*(i+1)) s.size) (by rw [ByteArray.size_extract];omega),ByteArray.append_empty]
    unfold chunk at hcs ⊢
    rw [show min (60*i+60) s.size=s.size by omega] at hcs ⊢
    rw [show 60-(s.extract (60*i) s.size).size=60*N-s.size by omega]
 have:=key 0 (by omega)
 rw [List.drop_zero,Nat.mul_zero,ByteArray.extract_zero_size] at this
 rw [this]
 by_cases c:0<N
 ·rw [if_pos c]
 ·rw [if_neg c,show 60*N-s.size=0 by omega]
theorem tkO_data {b:Ap} (h:MayB b) (p:Nat) (n:Int):tkO (four b.N++b.Data++nulls p) n=if n=b.N then some b else none:=by
 obtain ⟨h0,h1,h2,h3⟩:=h
 have hf:=four_size b.N
 have hn:num4 (four b.N++b.Data++nulls p)=b.N:=by rw [ByteArray.append_assoc];exact num4_four (by omega) _
 have hs:(four b.N++b.Data++nulls p).size=4+b.Data.size+p:=by rw [ByteArray.size_append,ByteArray.size_append,hf,nulls_size]
 unfold tkO
 by_cases c:n=b.N
 ·subst c
  have e1:(four b.N++b.Data++nulls p).extract 4 (4+(b.N.toNat+7) / 8)=b.Data:=by
   rw [← h2,ByteArray.append_assoc,ByteArray.extract_append,emp (s:=(four b.N).extract 4 (4+b.Data.size)) (by rw [ByteArray.size_extract,hf];omega),ByteArray.empty_append,hf]
   show (b.Data++nulls p).extract 0 (4+b.Data.size-4)=_
   exact ByteArray.extract_append_eq_left (by omega)
  have e2:(four b.N++b.Data++nulls p).extract (4+(b.N.toNat+7) / 8) (four b.N++b.Data++nulls p).size=nulls p:=by
   rw [← h2]
   exact ByteArray.extract_append_eq_right (by rw [ByteArray.size_append,hf]) (by rw [ByteArray.size_append (a:=four b.N++b.Data),ByteArray.size_append,hf])
  rw [e1,e2,hs,if_pos rfl,if_pos ⟨⟨h0,h1⟩,by omega,hn,⟨h0,h1,h2,h3⟩,by rw [show 4+b.Data.size+p-(4+(b.N.toNat+7) / 8)=p by omega]⟩]
 ·rw [if_neg c,if_neg (fun z=>c (by rw [← z.2.2.1];exact hn))]
end Go.XL
end
end
section
section
namespace Go.XL
open Go.XM
abbrev F5 (α:Type):=Nat→Nat→Nat→Nat→Nat→Option α
def EP (g:F5 Bool) (P:Prop):Prop:=(P→Ev g true)∧(¬ P→Ev g false)
section
variable {g f:F5 Bool} {P Q:Prop}
theorem EP.yes (h:P) (k:Ev g true):EP g P:=⟨fun _=>k,fun z=>absurd h z⟩
theorem EP.no (h:¬ P) (k:Ev g false):EP g P:=⟨fun z=>absurd z h,fun _=>k⟩
theorem EP.iff (h:EP g P) (e:P↔Q):EP g Q:=⟨fun z=>h.1 (e.2 z),fun z=>h.2 fun y=>z (e.1 y)⟩
theorem EP.dec [Decidable P] (h:Ev g (decide P)):EP g P:=⟨fun z=>by rwa [decide_eq_true z] at h,fun z=>by rwa [decide_eq_false z] at h⟩
theorem EP.bnd {k:Nat→Nat→Nat→Nat→Nat→Bool→Option Bool} (h:EP g P) (ht:P→EP (fun a b c d e=>k a b c d e true) Q) (hf:¬ P→EP (fun a b c d e=>k a b c d e false) Q):EP (fun a b c d e=>(g a b c d e).bind (k a b c d e)) Q:=by
 by_cases p:P
 ·exact ⟨fun q=>Go.XL.bnd (h.1 p) ((ht p).1 q),fun q=>Go.XL.bnd (h.1 p) ((ht p).2 q)⟩
 ·exact ⟨fun q=>Go.XL.bnd (h.2 p) ((hf p).1 q),fun q=>Go.XL.bnd (h.2 p) ((hf p).2 q)⟩
theorem EP.with {α:Type} {h:F5 α} {r:α} {k:Nat→Nat→Nat→Nat→Nat→α→Option Bool} (e:Ev h r) (q:EP (fun a b c d e=>k a b c d e r) Q):EP (fun a b c d e=>(h a b c d e).bind (k a b c d e)) Q :=
 ⟨fun p=>Go.XL.bnd e (q.1 p),fun p=>Go.XL.bnd e (q.2 p)⟩
theorem EP.tail (h:EP g P):EP (fun a b c d e=>(g a b c d e).bind fun r=>some r) P:=h.bnd (fun p=>.yes p (now _)) (fun p=>.no p (now _))
theorem EP.congr (e:∀ a b c d k,f a b c d k=g a b c d k) (h:EP g P):EP f P:=⟨fun p=>Go.XL.congr e (h.1 p),fun p=>Go.XL.congr e (h.2 p)⟩
theorem EP.pos {c:Prop} [Decidable c] (h:c) (k:EP f P):EP (fun x y z u v=>if c then f x y z u v else g x y z u v) P:=⟨fun p=>Go.XL.pos h (k.1 p),fun p=>Go.XL.pos h (k.2 p)⟩
theorem EP.neg {c:Prop} [Decidable c] (h:¬ c) (k:EP g P):EP (fun x y z u v=>if c then f x y z u v else g x y z u v) P:=⟨fun p=>Go.XL.neg h (k.1 p),fun p=>Go.XL.neg h (k.2 p)⟩
theorem EP.ite {c:Prop} [Decidable c] (h:c→EP f P) (k:¬ c→EP g P):EP (fun x y z u v=>if c then f x y z u v else g x y z u v) P:=by
 by_cases p:c
 ·exact .pos p (h p)
 ·exact .neg p (k p)
theorem EP.iteD {c:Prop} [Decidable c] (h:c→EP f P) (k:¬ c→EP g P):EP (fun x y z u v=>if decide c=true then f x y z u v else g x y z u v) P :=
 .ite (fun z=>h (of_decide_eq_true z)) (fun z=>k (fun y=>z (decide_eq_true y)))
theorem EP.iteE {p q:Int} (h:p=q→EP f P) (k:p≠q→EP g P):EP (fun x y z u v=>if (p == q)=true then f x y z u v else g x y z u v) P :=
 .ite (fun z=>h (by simpa using z)) (fun z=>k (by simpa using z))
theorem EP.iteN {p q:Int} (h:p≠q→EP f P) (k:p=q→EP g P):EP (fun x y z u v=>if (p != q)=true then f x y z u v else g x y z u v) P :=
 .ite (fun z=>h (by simpa using z)) (fun z=>k (by simpa using z))
theorem EP.iteB {b:Bool} (h:b=true→EP f P) (k:b=false→EP g P):EP (fun x y z u v=>if b=true then f x y z u v else g x y z u v) P :=
 .ite h (fun z=>k (by simpa using z))
theorem EP.iteM {b:Bool} (h:b=false→EP f P) (k:b=true→EP g P):EP (fun x y z u v=>if (!b)=true then f x y z u v else g x y z u v) P :=
 .ite (fun z=>h (by simpa using z)) (fun z=>k (by simpa using z))
theorem EP.step1 (e:∀ x y z u v,f x (y+1) z u v=g x y z u v) (h:EP g P):EP f P:=⟨fun p=>Go.XL.step1 e (h.1 p),fun p=>Go.XL.step1 e (h.2 p)⟩
theorem EP.step2 (e:∀ x y z u v,f x y (z+1) u v=g x y z u v) (h:EP g P):EP f P:=⟨fun p=>Go.XL.step2 e (h.1 p),fun p=>Go.XL.step2 e (h.2 p)⟩
theorem EP.e1 (h:EP g P):EP (fun x y z u v=>g x x z u v) P:=⟨fun p=>(h.1 p).e1,fun p=>(h.2 p).e1⟩
theorem EP.e2 (h:EP g P):EP (fun x y z u v=>g x y x u v) P:=⟨fun p=>(h.1 p).e2,fun p=>(h.2 p).e2⟩
theorem EP.both (h:EP g P) (k:EP f P):∃ b:Bool,Ev g b∧Ev f b∧(b=true↔P):=by
 by_cases p:P
 ·exact ⟨true,h.1 p,k.1 p,by simp [p]⟩
 ·exact ⟨false,h.2 p,k.2 p,by simp [p]⟩
theorem EP.get (h:EP g P):∃ b:Bool,Ev g b∧(b=true↔P):=by
 obtain ⟨b,h1,_,h2⟩:=h.both h
 exact ⟨b,h1,h2⟩
end
abbrev EP0 (g:Nat→Option Bool) (P:Prop):Prop:=EP (fun K _ _ _ _=>g K) P
abbrev EP1 (g:Nat→Nat→Option Bool) (P:Prop):Prop:=EP (fun K a _ _ _=>g K a) P
def From (P:Nat→Prop) (n i:Nat):Prop:=∀ j,i≤j→j<n→P j
theorem From.done {P:Nat→Prop} {n:Nat}:From P n n:=fun j h k=>by omega
theorem From.next {P:Nat→Prop} {n i:Nat} (h:P i):From P n (i+1)↔From P n i :=
 ⟨fun z j a b=>(Nat.lt_or_ge i j).elim (fun c=>z j c b) (fun c=>by rw [show j=i by omega];exact h),fun z j a b=>z j (by omega) b⟩
theorem From.no {P:Nat→Prop} {n i:Nat} (hi:i<n) (h:¬ P i):¬ From P n i:=fun z=>h (z i (Nat.le_refl _) hi)
theorem From.all {P:Nat→Prop} {n:Nat}:From P n 0↔∀ j,j<n→P j:=⟨fun z j h=>z j (by omega) h,fun z j _ h=>z j h⟩
abbrev rAt (l:List Ao) (i:Nat):Int:=(l.getD i default).At
abbrev rLen (l:List Ao) (i:Nat):Int:=(l.getD i default).Len
theorem rAtE (l:List Ao) (i:Nat):(nth l (i:Int)).At=rAt l i:=by rw [nthN]
theorem rLenE (l:List Ao) (i:Nat):(nth l (i:Int)).Len=rLen l i:=by rw [nthN]
def RunP (l:List Ao) (b:Int) (i:Nat):Prop:=0≤rAt l i∧1≤rLen l i∧rLen l i≤b-rAt l i∧∀ k,k<i→rAt l k+rLen l k≤rAt l i∨rAt l i+rLen l i≤rAt l k
def PlacesP (l:List Ao) (b:Int):Prop:=(1≤b∧b≤100)∧l.length≤13∧∀ i,i<l.length→RunP l b i
def RSm (l:List Ao):Prop:=∀ i,i<l.length→rLen l i≤1000000000∧-9223372036854775808≤rAt l i∧rAt l i≤9223372036854775807
def Mk (l:List Ao) (n i:Nat) (t:List Bool):Prop:=t.length=n∧∀ j,j<n→(t.getD j false=true↔∃ k,k<i∧rAt l k≤(j:Int)∧(j:Int)<rAt l k+rLen l k)
def TkP (g:F5 (List Bool × Bool)) (l:List Ao) (n:Nat) (P:Prop):Prop:=∃ r:List Bool × Bool,Ev g r∧(r.2=true↔P)∧(P→Mk l n l.length r.1)
theorem within_eq' (K:Nat) (b:Int):Fx K b=some (decide (1≤b∧b≤100)):=by
 unfold Fx
 by_cases h:b≥1
 ·rw [if_pos (decide_eq_true h)];congr 1;exact decide_eq_decide.2 ⟨fun k=>⟨h,k⟩,fun k=>k.2⟩
 ·rw [if_neg (by simpa using h),decide_eq_false (fun k=>h k.1)]
theorem tk_l2 {go:Nat→Nat→Int→Int→List Bool→Option (List Bool × Bool)} {l:List Ao} {b:Int} {n i:Nat} {Q:Prop} {T:Int} (hn:n≤1000) (hb:b=(n:Int)) (hi:i<l.length) (h0:0≤rAt l i) (h1:1≤rLen l i) (h2:rLen l i≤b-rAt l i)
  (hgo:∀ t,Mk l n (i+1) t→(∀ k,k<i→rAt l k+rLen l k≤rAt l i∨rAt l i+rLen l i≤rAt l k)→TkP (fun K a _ _ _=>go K a T ((i+1:Nat):Int) t) l n Q)
  (hq:(¬ ∀ k,k<i→rAt l k+rLen l k≤rAt l i∨rAt l i+rLen l i≤rAt l k)→¬ Q) (hr:∀ k,k<i→1≤rLen l k) (hi1:i<1000000) :
  ∀ d j:Nat,(j:Int)+d=rAt l i+rLen l i→rAt l i≤(j:Int)→∀ t:List Bool,t.length=n→(∀ q,q<n→(t.getD q false=true↔(∃ k,k<i∧rAt l k≤(q:Int)∧(q:Int)<rAt l k+rLen l k)∨(rAt l i≤(q:Int)∧(q:Int)<(j:Int)))) →
   (∀ q:Nat,rAt l i≤(q:Int)→(q:Int)<(j:Int)→∀ k,k<i→¬ (rAt l k≤(q:Int)∧(q:Int)<rAt l k+rLen l k)) →
   TkP (fun K a b' _ _=>Cc.l2 K (go K a) T (i:Int) l b b' (j:Int) t (rAt l i) (rLen l i)) l n Q:=by
 intro d
 induction d with
 | zero =>
  intro j hj hj2 t ht hm hf
  have hap:∀ k,k<i→rAt l k+rLen l k≤rAt l i∨rAt l i+rLen l i≤rAt l k:=by
   intro k hk
   have hk1:=hr k hk
   by_cases c:rAt l k+rLen l k≤rAt l i∨rAt l i+rLen l i≤rAt l k
   ·exact c
   ·exfalso
    by_cases c2:rAt l k≤rAt l i
    ·exact hf (rAt l i).toNat (by omega) (by omega) k hk (by omega)
    ·exact hf (rAt l k).toNat (by omega) (by omega) k hk (by omega)
  obtain ⟨r,r1,r2⟩:=hgo t ⟨ht,fun q hq=>(hm q hq).trans ⟨fun z=>z.elim (fun ⟨k,a,b⟩=>⟨k,by omega,b⟩) (fun z=>⟨i,by omega,by omega⟩),fun ⟨k,a,b⟩=>by
   by_cases e:k=i
   ·subst e;exact .inr ⟨b.1,by omega⟩
   ·exact .inl ⟨k,by omega,b⟩⟩⟩ hap
  refine ⟨r,step2 (fun _ _ _ _ _=>Cc.l2.eq_2 ..) ?_,r2⟩
  rw [w64 (i:=rAt l i+rLen l i) (by omega) (by omega),w1 (i:=i) (by omega)]
  exact negD (by omega) r1
 | succ d ih =>
  intro j hj hj2 t ht hm hf
  by_cases c:t.getD j false=true
  ·obtain ⟨k,k1,k2⟩:=((hm j (by omega)).1 c).elim id (fun z=>by omega)
   have hnq:=hq fun z=>by have:=z k k1;omega
   refine ⟨([],false),step2 (fun _ _ _ _ _=>Cc.l2.eq_2 ..) ?_,by simp [hnq],fun z=>absurd z hnq⟩
   rw [w64 (i:=rAt l i+rLen l i) (by omega) (by omega)]
   refine posD (by omega) (pos (by omega) (pos ?_ (now _)))
   rw [nthN];exact c
  ·have hsj:∀ q,(t.set j true).getD q false=if q=j then true else t.getD q false:=fun q=>getD_set _ _ _ _ (by omega)
   obtain ⟨r,r1,r2⟩:=ih (j+1) (by omega) (by omega) (t.set j true) (by rw [List.length_set];exact ht) (fun q hq=>by
    rw [hsj]
    by_cases e:q=j
    ·subst e;simp only [if_true,true_iff]
     exact .inr ⟨by omega,by omega⟩
    ·rw [if_neg e]
     exact (hm q hq).trans ⟨fun z=>z.elim .inl (fun y=>.inr ⟨y.1,by omega⟩),fun z=>z.elim .inl (fun y=>.inr ⟨y.1,by omega⟩)⟩)
    (fun q a b k hk z=>by
     by_cases e:q=j
     ·subst e;exact c ((hm q (by omega)).2 (.inl ⟨k,hk,z⟩))
     ·exact hf q a (by omega) k hk z)
   refine ⟨r,step2 (fun _ _ _ _ _=>Cc.l2.eq_2 ..) ?_,r2⟩
   rw [w64 (i:=rAt l i+rLen l i) (by omega) (by omega)]
   refine posD (by omega) (pos (by omega) (neg (by rw [nthN];exact c) (pos (by omega) ?_)))
   rw [w1 (by omega),Int.toNat_natCast];exact r1
theorem taken_ev (l:List Ao) (b:Int) (hs:RSm l) (hl:l.length≤17592186044416):TkP (fun K _ _ _ _=>Cc K l b) l b.toNat (PlacesP l b):=by
 by_cases hb:1≤b∧b≤100
 case neg=>exact ⟨([],false),bnd (congr (fun K _ _ _ _=>within_eq' K b) (now _)) (posM hb (now _)),by simp [PlacesP,hb],fun z=>absurd z.1 hb⟩
 by_cases hn:l.length≤13
 case neg=>exact ⟨([],false),bnd (congr (fun K _ _ _ _=>within_eq' K b) (now _)) (negM hb (posD (by omega) (now _))),by simp [PlacesP,hn],fun z=>absurd z.2.1 hn⟩
 have key:∀ i,i≤l.length→(∀ k,k<i→1≤rLen l k)→∀ t,Mk l b.toNat i t→TkP (fun K a _ _ _=>Cc.l1 K l b a ((l.length:Nat):Int) (i:Int) t) l b.toNat (From (RunP l b) l.length i):=by
  refine upto ?_ ?_
  ·intro _ t ht
   exact ⟨(t,true),step1 (fun _ _ _ _ _=>Cc.l1.eq_2 ..) (negD (by omega) (now _)),by simp [From.done],fun _=>ht⟩
  ·intro i hi ih hr t ht
   have bad:¬ RunP l b i→∀ {g:F5 (List Bool × Bool)},Ev g ([],false)→TkP g l b.toNat (From (RunP l b) l.length i):=fun h g hg=>⟨_,hg,by simp [From.no hi h],fun z=>absurd z (From.no hi h)⟩
   have hsi:=hs i hi
   by_cases c1:rLen l i<1
   ·refine bad (fun z=>by have:=z.2.1;omega) (step1 (fun _ _ _ _ _=>Cc.l1.eq_2 ..) ?_)
    simp only [rAtE,rLenE];exact posD (by omega) (pos (by omega) (posD c1 (now _)))
   by_cases c2:rAt l i<0
   ·refine bad (fun z=>by have:=z.1;omega) (step1 (fun _ _ _ _ _=>Cc.l1.eq_2 ..) ?_)
    simp only [rAtE,rLenE];exact posD (by omega) (pos (by omega) (negD c1 (posD c2 (now _))))
   by_cases c3:rAt l i≥b
   ·refine bad (fun z=>by have:=z.2.2.1;omega) (step1 (fun _ _ _ _ _=>Cc.l1.eq_2 ..) ?_)
    simp only [rAtE,rLenE];exact posD (by omega) (pos (by omega) (negD c1 (negD c2 (posD c3 (now _)))))
   have e1:wr .i64 (b-rAt l i)=b-rAt l i:=w64 (by omega) (by omega)
   by_cases c4:rLen l i > b-rAt l i
   ·refine bad (fun z=>by have:=z.2.2.1;omega) (step1 (fun _ _ _ _ _=>Cc.l1.eq_2 ..) ?_)
    simp only [rAtE,rLenE];exact posD (by omega) (pos (by omega) (negD c1 (negD c2 (negD c3 (by rw [e1];exact posD c4 (now _))))))
   have hr':∀ k,k<i+1→1≤rLen l k:=fun k hk=>by
    by_cases e:k=i
    ·subst e;omega
    ·exact hr k (by omega)
   obtain ⟨r,r1,r2,r3⟩:=tk_l2 (b:=b) (go:=fun K a=>Cc.l1 K l b a) (T:=((l.length:Nat):Int)) (Q:=From (RunP l b) l.length i) (n:=b.toNat) (by omega) (by omega) hi (by omega) (by omega) (by omega)
    (fun t' ht' hap=>by
     obtain ⟨r,q1,q2,q3⟩:=ih hr' t' ht'
     have hR:RunP l b i:=⟨by omega,by omega,by omega,hap⟩
     exact ⟨r,q1,q2.trans (From.next hR),fun z=>q3 ((From.next hR).2 z)⟩)
    (fun z=>From.no hi fun y=>z y.2.2.2) hr (by omega) (rLen l i).toNat (rAt l i).toNat (by omega) (by omega) t ht.1 (fun q hq=>(ht.2 q hq).trans ⟨.inl,fun z=>z.elim id (fun y=>by omega)⟩) (fun q a b'=>by omega)
   refine ⟨r,step1 (fun _ _ _ _ _=>Cc.l1.eq_2 ..) ?_,r2,r3⟩
   simp only [rAtE,rLenE]
   refine posD (by omega) (pos (by omega) (negD c1 (negD c2 (negD c3 ?_))))
   rw [e1]
   refine negD c4 ?_
   have:=r1.e2
   rw [show (((rAt l i).toNat:Nat):Int)=rAt l i by omega] at this
   exact this
 obtain ⟨r,r1,r2,r3⟩:=key 0 (by omega) (fun k hk=>by omega) (List.replicate b.toNat false) ⟨by simp,fun j hj=>by
  rw [List.getD_eq_getElem?_getD,List.getElem?_replicate,if_pos hj]
  exact ⟨fun z=>by simp at z,fun ⟨k,z,_⟩=>by omega⟩⟩
 have hP:From (RunP l b) l.length 0↔PlacesP l b:=From.all.trans ⟨fun z=>⟨hb,hn,z⟩,fun z=>z.2.2⟩
 refine ⟨r,bnd (congr (fun K _ _ _ _=>within_eq' K b) (now _)) (negM hb (negD (by omega) (pos ⟨rfl,by omega,by omega,by omega⟩ r1.e1))),r2.trans hP,fun z=>r3 (hP.2 z)⟩
theorem smay_ev (l:List Ao) (b:Int) (hs:RSm l) (hl:l.length≤17592186044416):EP0 (fun K=>Gf K l b) (PlacesP l b):=by
 obtain ⟨r,r1,r2,_⟩:=taken_ev l b hs hl
 exact ⟨fun z=>bnd r1 (nowE (r2.2 z)),fun z=>bnd r1 (nowE (by cases h:r.2 with | false=>rfl | true=>exact absurd (r2.1 h) z))⟩
end Go.XL
end
end
section
section
namespace Go.XL
open Go.XM
theorem loop_map {β:Type} {n:Nat} {f:Nat→β} {G:Nat→List β→F5 (List β)} (h0:∀ acc,Ev (G n acc) acc) (h1:∀ i acc r,i<n→acc.length=i→Ev (G (i+1) (acc++[f i])) r→Ev (G i acc) r):Ev (G 0 []) ((List.range n).map f):=by
 have key:∀ i,i≤n→Ev (G i ((List.range i).map f)) ((List.range n).map f):=by
  refine upto (h0 _) ?_
  intro i hi ih
  refine h1 i _ _ hi (by simp) ?_
  rw [List.range_succ,List.map_append] at ih
  exact ih
 exact key 0 (by omega)
theorem range_map {α β:Type} (xs:List α) (d:α) (g:α→β):(List.range xs.length).map (fun i=>g (xs.getD i d))=xs.map g:=by
 apply List.ext_getElem
 ·simp
 ·intro i h1 h2
  simp only [List.length_map,List.length_range] at h1
  simp [List.getD_eq_getElem?_getD,List.getElem?_eq_getElem h1]
def objP (v:Ak):Al:=(v.ID,v.Base,v.Data)
def objsP (s:Ai):List Al:=s.Versions.map objP
def needZ (b:Ap):Int:=(((b.Data.size+63) / 60:Nat):Int)
def runP (v:Ak):Ao:=(v.At,needZ v.Data)
def runsP (s:Ai):List Ao:=s.Versions.map runP
def VSm (v:Ak):Prop:=v.Data.Data.size≤10000∧-9223372036854775808≤v.At∧v.At≤9223372036854775807
def SSm (s:Ai):Prop:=s.Versions.length≤2000∧(∀ v∈s.Versions,VSm v)∧s.Sessions.length≤2000∧∀ x∈s.Sessions,GSm x.Stage∧JSm x.Job
variable {s:Ai}
abbrev vAt (s:Ai) (i:Nat):Ak:=s.Versions.getD i default
theorem nthV (s:Ai) (i:Nat):nth s.Versions (i:Int)=vAt s i:=nthN _ _
theorem vsm (h:SSm s) {i:Nat} (hi:i<s.Versions.length):VSm (vAt s i):=h.2.1 _ (getD_mem hi)
theorem objsP_len:(objsP s).length=s.Versions.length:=by simp [objsP]
theorem runsP_len:(runsP s).length=s.Versions.length:=by simp [runsP]
theorem objsP_at {i:Nat} (h:i<s.Versions.length):(objsP s).getD i default=objP (vAt s i):=by
 unfold objsP vAt
 rw [List.getD_eq_getElem?_getD,List.getD_eq_getElem?_getD,List.getElem?_map,List.getElem?_eq_getElem h];rfl
theorem runsP_at {i:Nat} (h:i<s.Versions.length):(runsP s).getD i default=runP (vAt s i):=by
 unfold runsP vAt
 rw [List.getD_eq_getElem?_getD,List.getD_eq_getElem?_getD,List.getElem?_map,List.getElem?_eq_getElem h];rfl
theorem objsP_sm (h:SSm s):(objsP s).length≤1000000∧∀ o∈objsP s,o.Data.Data.size≤1000000:=by
 refine ⟨by rw [objsP_len];have:=h.1;omega,fun o ho=>?_⟩
 obtain ⟨v,hv,rfl⟩:=List.mem_map.1 ho
 have:=(h.2.1 v hv).1
 show v.Data.Data.size≤_
 omega
theorem runsP_sm (h:SSm s):RSm (runsP s):=by
 intro i hi
 rw [runsP_len] at hi
 have hv:=vsm h hi
 unfold rLen rAt
 rw [runsP_at hi]
 refine ⟨?_,hv.2.1,hv.2.2⟩
 show (((vAt s i).Data.Data.size+63) / 60:Nat)≤(1000000000:Int)
 have:=hv.1
 omega
theorem list_ev (h:SSm s):E0 (fun K=>D6 K s) (objsP s):=by
 have hn:=h.1
 have:=loop_map (n:=s.Versions.length) (f:=fun i=>objP (vAt s i)) (G:=fun i acc K a _ _ _=>D6.l1 K s a ((s.Versions.length:Nat):Int) (i:Int) acc)
  (fun acc=>step1 (fun _ _ _ _ _=>D6.l1.eq_2 ..) (negD (by omega) (now _)))
  (fun i acc r hi hl k=>by
   refine step1 (fun _ _ _ _ _=>D6.l1.eq_2 ..) (posD (by omega) (pos (by omega) (pos (by show (_+1)*40≤_;omega) ?_)))
   rw [nthV,w1 (by omega)];exact k)
 exact ofEq this.e1 (range_map s.Versions default objP)
theorem need_w {z:Nat} (h:z≤1000000):wr .i64 ((wr .i64 ((wr .i64 ((wr .i64 (4+((z:Nat):Int)))+60))-1)).tdiv 60)=(((z+63) / 60:Nat):Int):=by
 rw [w64 (i:=4+(z:Int)) (by omega) (by omega),w64 (i:=4+(z:Int)+60) (by omega) (by omega),w64 (i:=4+(z:Int)+60-1) (by omega) (by omega),show 4+(z:Int)+60-1=((z+63:Nat):Int) by omega,show (60:Int)=((60:Nat):Int) from rfl,tdivN,w64 (by omega) (by omega)]
theorem blocks_eq {b:Ap} (h:b.Data.size≤1000000) (K:Nat):Fw K b=some (needZ b):=by
 unfold Fw
 rw [if_pos (by decide),need_w h];rfl
theorem places_ev (h:SSm s):E0 (fun K=>Dn K s) (runsP s):=by
 have hn:=h.1
 have:=loop_map (n:=s.Versions.length) (f:=fun i=>runP (vAt s i)) (G:=fun i acc K a _ _ _=>Dn.l1 K s a ((s.Versions.length:Nat):Int) (i:Int) acc)
  (fun acc=>step1 (fun _ _ _ _ _=>Dn.l1.eq_2 ..) (negD (by omega) (now _)))
  (fun i acc r hi hl k=>by
   have hv:=(vsm h hi).1
   refine step1 (fun _ _ _ _ _=>Dn.l1.eq_2 ..) (posD (by omega) (pos (by omega) ?_))
   rw [nthV]
   refine bnd (congr (fun K _ _ _ _=>blocks_eq (by omega) K) (now _)) (pos (by show (_+1)*16≤_;omega) ?_)
   rw [w1 (by omega)];exact k)
 exact ofEq this.e1 (range_map s.Versions default runP)
theorem objsP_drop {i:Nat} (h:i<s.Versions.length):(objsP s).drop i=objP (vAt s i)::(objsP s).drop (i+1):=by
 rw [drop_getD (d:=default) (by rw [objsP_len];exact h),objsP_at h]
theorem place_ev (h:SSm s) (id:Int):E0 (fun K=>Gv K s id) (ix (objsP s) id):=by
 have hn:=h.1
 have key:∀ i,i≤s.Versions.length→E1 (fun K k=>Ae.l1 K s.Versions k ((s.Versions.length:Nat):Int) (i:Int) id) (ixo id ((objsP s).drop i) i,id):=by
  refine upto ?_ ?_
  ·refine step1 (fun _ _ _ _ _=>Ae.l1.eq_2 ..) ?_
   rw [List.drop_eq_nil_of_le (by rw [objsP_len];omega)]
   exact negD (by omega) (now _)
  ·intro i hi ih
   refine step1 (fun _ _ _ _ _=>Ae.l1.eq_2 ..) ?_
   refine posD (by omega) (pos (by omega) (bnd (now _) ?_))
   rw [objsP_drop hi,ixo]
   by_cases e:(vAt s i).ID=id
   ·rw [if_pos (show (objP (vAt s i)).ID=id from e)]
    refine pos ?_ (now _)
    rw [nthV];simp only [e,beq_self_eq_true]
   ·rw [if_neg (show ¬ (objP (vAt s i)).ID=id from e)]
    refine neg ?_ ?_
    ·rw [nthV];simpa using e
    ·rw [w1 (by omega)];exact ih
 exact bnd (key 0 (by omega)).e1 (now _)
def lastP (s:Ai):Int:=if s.Versions.length=0 then 0 else (vAt s (s.Versions.length-1)).ID
theorem last_ev (h:SSm s):E0 (fun K=>Gw K s) (lastP s):=by
 have hn:=h.1
 unfold Gw lastP
 by_cases c:s.Versions.length=0
 ·rw [if_pos c];exact posE (by omega) (now _)
 ·rw [if_neg c,w64 (by omega) (by omega),show ((s.Versions.length:Nat):Int)-1=((s.Versions.length-1:Nat):Int) by omega,nthV]
  exact negE (by omega) (pos (by omega) (now _))
def VerP (s:Ai) (i:Nat):Prop:=0≤(vAt s i).Parent∧(vAt s i).Parent<(vAt s i).ID∧¬ ((vAt s i).Tag=true∧(vAt s i).Gone=true)∧¬ ((vAt s i).Gone=true∧i+1=s.Versions.length)
def WordsP (s:Ai):Prop:=(1≤s.Keep∧s.Keep≤8)∧(1≤s.Blocks∧s.Blocks≤100)∧(∀ i,i<s.Versions.length→VerP s i)∧ObjsP (objsP s)
theorem marks_ep {P:Prop} {g:F5 Bool} {i:Nat} {t g':Bool} (hn:s.Versions.length≤2000) (hi:i<s.Versions.length) (h1:t=true→g'=true→¬ P) (h2:g'=true→i+1=s.Versions.length→¬ P) (hg:¬ (t=true∧g'=true)→¬ (g'=true∧i+1=s.Versions.length)→EP g P) :
  EP (fun x y z u v=>if t=true then if g'=true then some false else if g'=true then if ((i:Int) == (wr .i64 (((s.Versions.length:Nat):Int)-1)))=true then some false else g x y z u v else g x y z u v else if g'=true then if ((i:Int) == (wr .i64 (((s.Versions.length:Nat):Int)-1)))=true then some false else g x y z u v else g x y z u v) P:=by
 rw [w64 (by omega) (by omega)]
 refine EP.iteB (fun a=>EP.iteB (fun b=>.no (h1 a b) (now _)) fun b=>EP.iteB (fun c=>by rw [b] at c;cases c) fun _=>hg (by simp [b]) (by simp [b])) fun a=>?_
 exact EP.iteB (fun b=>EP.iteE (fun c=>.no (h2 b (by omega)) (now _)) fun c=>hg (by simp [a]) (fun z=>c (by omega))) fun b=>hg (by simp [a]) (by simp [b])
theorem words_ep (h:SSm s):EP0 (fun K=>Dj K s) (WordsP s):=by
 have hn:=h.1
 obtain ⟨o1,o2⟩:=objsP_sm h
 refine EP.iteD (fun c=>.no (fun z=>by have:=z.1.1;omega) (now _)) fun c1=>EP.iteD (fun c=>.no (fun z=>by have:=z.1.2;omega) (now _)) fun c2=>?_
 refine EP.iteD (fun c=>.no (fun z=>by have:=z.2.1.1;omega) (now _)) fun c3=>EP.iteD (fun c=>.no (fun z=>by have:=z.2.1.2;omega) (now _)) fun c4=>?_
 suffices key:∀ i,i≤s.Versions.length→EP1 (fun K a=>Dj.l1 K s a ((s.Versions.length:Nat):Int) (i:Int)) (From (VerP s) s.Versions.length i∧ObjsP (objsP s)) from
  (key 0 (by omega)).e1.iff ⟨fun z=>⟨by omega,by omega,From.all.1 z.1,z.2⟩,fun z=>⟨From.all.2 z.2.2.1,z.2.2.2⟩⟩
 refine upto ?_ ?_
 ·exact EP.step1 (fun _ _ _ _ _=>Dj.l1.eq_2 ..) (.neg (by simp) ((EP.with (list_ev h) (EP.tail (EP.dec (cmay_ev o1 o2)))).iff ⟨fun z=>⟨From.done,z⟩,fun z=>z.2⟩))
 ·intro i hi ih
  refine EP.step1 (fun _ _ _ _ _=>Dj.l1.eq_2 ..) (.pos (by simpa using hi) (.pos (by omega) ?_))
  rw [nthV,w1 (by omega)]
  refine EP.iteD (fun c=>.no (fun z=>From.no hi (fun y=>by have:=y.1;omega) z.1) (now _)) fun c5=>?_
  refine EP.iteD (fun c=>.no (fun z=>From.no hi (fun y=>by have:=y.2.1;omega) z.1) (now _)) fun c6=>?_
  refine marks_ep hn hi (fun a b z=>From.no hi (fun y=>y.2.2.1 ⟨a,b⟩) z.1) (fun a b z=>From.no hi (fun y=>y.2.2.2 ⟨a,b⟩) z.1) fun a b=>?_
  have hV:VerP s i:=⟨by omega,by omega,a,b⟩
  exact ih.iff ⟨fun z=>⟨(From.next hV).1 z.1,z.2⟩,fun z=>⟨(From.next hV).2 z.1,z.2⟩⟩
end Go.XL
end
end
section
section
namespace Go.XL
open Go.XM
def JobM (g:Aa) (j:Ac):Prop:=E0 (fun K=>Dc K g j) true
theorem job_both {g:Aa} {j:Ac} (hg:GraphP g):∃ b:Bool,E0 (fun K=>Dc K g j) b∧E0 (fun K=>Bb K g j) b:=by
 by_cases hc:code g.N j.Kind j.A=0
 ·obtain ⟨n,tr,hT⟩:=ends_any hc g j.A hg hc
  by_cases hx:∃ i,i≤n∧tr i=j
  ·obtain ⟨i,hi,hj⟩:=hx
   have:=hT.may i hi
   rw [hj] at this
   exact ⟨true,this,hT.jobYes hg hc i hi hj⟩
  ·have hx:∀ i,i≤n→tr i≠j:=fun i hi e=>hx ⟨i,hi,e⟩
   exact ⟨false,hT.mayNo hx,hT.jobNo hg hc hx⟩
 ·exact ⟨false,may_bad g j hg.sm (by rw [if_pos hg];exact hc),jobBad hg hc⟩
theorem job_ep {g:Aa} {j:Ac} (hg:GraphP g):EP0 (fun K=>Dc K g j) (JobM g j):=by
 obtain ⟨b,h1,_⟩:=job_both (j:=j) hg
 cases b with
 | true=>exact .yes h1 h1
 | false=>exact .no (fun z=>by have:=Ev.uniq h1 z;cases this) h1
theorem idle_ep {j:Ac} (h:JSm j):EP0 (fun K=>Gq K j) (j=zj):=by
 have e:=jeq j zj
 unfold Gq
 refine EP.iteE (fun a=>?_) fun a=>.no (fun z=>a (e.1 z).1) (now _)
 refine EP.iteE (fun b=>?_) fun b=>.no (fun z=>b (e.1 z).2.1) (now _)
 refine EP.iteE (fun c=>?_) fun c=>.no (fun z=>c (e.1 z).2.2.1) (now _)
 refine EP.iteM (fun d=>?_) fun d=>.no (fun z=>by rw [z] at d;cases d) (now _)
 obtain ⟨h1,h2⟩:=h
 rw [w64 (by omega) (by omega)]
 refine EP.dec (nowE ?_)
 rw [Bool.eq_iff_iff,beq_iff_eq,decide_eq_true_iff,e]
 exact ⟨fun z=>⟨a,b,c,d,List.eq_nil_of_length_eq_zero (by omega),List.eq_nil_of_length_eq_zero (by omega)⟩,fun z=>by rw [z.2.2.2.2.1,z.2.2.2.2.2];rfl⟩
theorem geq (g:Aa):g=G0↔g.N=0∧g.Out=[]:=by
 obtain ⟨n,o⟩:=g
 simp only [Prod.mk.injEq]
theorem none_ep (g:Aa):EP0 (fun K=>Gp K g) (g=G0):=by
 unfold Gp
 refine EP.iteE (fun a=>.dec (nowE ?_)) fun a=>.no (fun z=>a ((geq g).1 z).1) (now _)
 rw [Bool.eq_iff_iff,beq_iff_eq,decide_eq_true_iff,geq]
 exact ⟨fun z=>⟨a,List.eq_nil_of_length_eq_zero (by omega)⟩,fun z=>by rw [z.2];rfl⟩
abbrev zs:Aq:=((false,0,false,0,((0,([]:List (List Int))):Aa),((0,0,0,false,([]:List Int),([]:List Int)):Ac)):Aq)
theorem seq (x:Aq):x=zs↔x.Open=false∧x.Pin=0∧x.On=false∧x.From=0∧x.Stage=G0∧x.Job=zj:=by
 obtain ⟨a,b,c,d,e,f⟩:=x
 simp only [Prod.mk.injEq]
variable {s:Ai} {x:Aq}
def JP (s:Ai) (x:Aq):Prop:=x.Job=zj∨x.Pin≠0∧JobM (resP (objsP s) x.Pin).1 x.Job∧ov (resP (objsP s) x.Pin).1 x.Job=false
def StgP (s:Ai) (x:Aq):Prop:=(x.On=true∧(0≤x.From∧x.From≤lastP s)∧GraphP x.Stage)∨(x.On=false∧x.From=0∧x.Stage=G0)
def SessP (s:Ai) (x:Aq):Prop:=x=zs∨x.Open=true∧(x.Pin≠0→0≤ix (objsP s) x.Pin)∧StgP s x∧JP s x
def ResOk (s:Ai):Prop:=∀ i,i<s.Versions.length→(resP (objsP s) (vAt s i).ID).2=0
theorem pin_G (ho:ObjsP (objsP s)) (hr:ResOk s) {id:Int} (h:0≤ix (objsP s) id):GraphP (resP (objsP s) id).1:=by
 rcases ix_spec (objsP s) id with ⟨e,_⟩ | ⟨j,_,hj,e⟩
 ·omega
 ·rw [objsP_len] at hj
  rw [objsP_at hj] at e
  refine resP_G ho ?_
  have:=hr j hj
  rwa [show (vAt s j).ID=id from e] at this
theorem of_ep {P:Prop} (h:SSm s) (ho:ObjsP (objsP s)) {id:Int} (hid:id≠0) {k:Nat→Nat→Nat→Nat→Nat→Aa→Option Bool} (q:EP (fun a b c d e=>k a b c d e (resP (objsP s) id).1) P):EP (fun a b c d e=>(Hd a s id).bind (k a b c d e)) P :=
 EP.with (negE hid (bnd (list_ev h) (bnd (cof_ev ho id) (now _)))) q
theorem sess_j3 (h:SSm s) (ho:ObjsP (objsP s)) (hr:ResOk s) (hx:JSm x.Job) (hp:x.Pin≠0→0≤ix (objsP s) x.Pin):EP0 (fun K=>Bl.j3 K s x false) (JP s x):=by
 unfold Bl.j3
 refine EP.neg (fun z=>by cases z) (EP.bnd (idle_ep hx) (fun z=>.pos rfl (.yes (.inl z) (now _))) fun z=>.neg (fun z=>by cases z) ?_)
 refine EP.iteE (fun a=>.no (fun y=>y.elim z (fun y=>y.1 a)) (now _)) fun a=>of_ep h ho a ?_
 refine EP.bnd (job_ep (pin_G ho hr (hp a))) (fun b=>.pos rfl ?_) fun b=>.neg (fun z=>by cases z) (.no (fun y=>y.elim z (fun y=>b y.2.1)) (now _))
 simp only [over_eq]
 refine EP.with (now _) ?_
 cases c:ov (resP (objsP s) x.Pin).1 x.Job with
 | true=>exact .no (fun y=>y.elim z (fun y=>by rw [c] at y;cases y.2.2)) (now _)
 | false=>exact .yes (.inr ⟨a,b,c⟩) (now _)
theorem sess_j2 (h:SSm s) (ho:ObjsP (objsP s)) (hr:ResOk s) (hx:GSm x.Stage∧JSm x.Job) (hp:x.Pin≠0→0≤ix (objsP s) x.Pin):EP0 (fun K=>Bl.j1 K s x false) (StgP s x∧JP s x):=by
 have j3:=sess_j3 h ho hr hx.2 hp
 have j3n:EP0 (fun K=>Bl.j3 K s x true) False:=.no id (now _)
 have j2n:EP0 (fun K=>Bl.j2 K s x true) False:=.no id (now _)
 unfold Bl.j1
 refine EP.neg (fun z=>by cases z) (EP.iteB (fun a=>?_) fun a=>?_)
 ·have j2:StgP s x→EP0 (fun K=>Bl.j2 K s x false) (StgP s x∧JP s x):=fun z =>
   EP.neg (fun z=>by cases z) (EP.iteM (fun b=>by rw [a] at b;cases b) fun _=>j3.iff ⟨fun y=>⟨z,y⟩,fun y=>y.2⟩)
  have no:¬ ((0≤x.From∧x.From≤lastP s)∧GraphP x.Stage)→EP0 (fun K=>Bl.j2 K s x true) (StgP s x∧JP s x):=fun z =>
   j2n.iff ⟨False.elim,fun y=>y.1.elim (fun y=>z y.2) (fun y=>by rw [a] at y;cases y.1)⟩
  refine EP.iteD (fun b=>no fun z=>by omega) fun b=>EP.with (last_ev h) (EP.iteD (fun c=>no fun z=>by omega) fun c=>?_)
  exact EP.bnd (EP.dec (gmayG_ev _ hx.1)) (fun d=>j2 (.inl ⟨a,⟨by omega,by omega⟩,d⟩)) fun d=>no fun z=>d z.2
 ·refine EP.neg (fun z=>by cases z) (EP.iteM (fun _=>?_) fun b=>by rw [a] at b;cases b)
  have no:¬ (x.From=0∧x.Stage=G0)→EP0 (fun K=>Bl.j3 K s x true) (StgP s x∧JP s x):=fun z =>
   j3n.iff ⟨False.elim,fun y=>y.1.elim (fun y=>by rw [a] at y;cases y.1) (fun y=>z y.2)⟩
  refine EP.iteN (fun b=>no fun z=>b z.1) fun b=>EP.bnd (none_ep _) (fun c=>?_) fun c=>no fun z=>c z.2
  exact j3.iff ⟨fun y=>⟨.inr ⟨a,b,c⟩,y⟩,fun y=>y.2⟩
theorem sess_ep (h:SSm s) (ho:ObjsP (objsP s)) (hr:ResOk s) (hx:GSm x.Stage∧JSm x.Job):EP0 (fun K=>Bl K s x) (SessP s x):=by
 have e:=seq x
 unfold Bl
 refine EP.iteM (fun a=>?_) fun a=>?_
 ·have no:x≠zs→¬ SessP s x:=fun z y=>y.elim z (fun y=>by rw [a] at y;cases y.1)
  refine EP.iteE (fun b=>?_) fun b=>.no (no fun z=>b (e.1 z).2.1) (now _)
  refine EP.iteM (fun c=>?_) fun c=>.no (no fun z=>by rw [z] at c;cases c) (now _)
  refine EP.iteE (fun d=>?_) fun d=>.no (no fun z=>d (e.1 z).2.2.2.1) (now _)
  refine EP.bnd (none_ep _) (fun f=>.pos rfl ?_) fun f=>.neg (fun z=>by cases z) (.no (no fun z=>f (e.1 z).2.2.2.2.1) (now _))
  exact (EP.tail (idle_ep hx.2)).iff ⟨fun z=>.inl (e.2 ⟨a,b,c,d,f,z⟩),fun z=>z.elim (fun z=>(e.1 z).2.2.2.2.2) (fun z=>by rw [a] at z;cases z.1)⟩
 ·have no:¬ x=zs:=fun z=>by rw [z] at a;cases a
  have yes:(x.Pin≠0→0≤ix (objsP s) x.Pin)→EP0 (fun K=>Bl.j1 K s x false) (SessP s x):=fun hp =>
   (sess_j2 h ho hr hx hp).iff ⟨fun z=>.inr ⟨a,hp,z⟩,fun z=>(z.resolve_left no).2.2⟩
  refine EP.iteN (fun b=>EP.with (place_ev h _) ?_) fun b=>yes fun z=>absurd b z
  by_cases c:ix (objsP s) x.Pin<0
  ·rw [decide_eq_true c]
   exact .no (fun z=>by have:=(z.resolve_left no).2.1 b;omega) (now _)
  ·rw [decide_eq_false c]
   exact yes fun _=>by omega
def MostP (s:Ai):Prop:=WordsP s∧s.Sessions.length=3∧ResOk s∧∀ i,i<3→SessP s (s.Sessions.getD i default)
def StateP (s:Ai):Prop:=MostP s∧PlacesP (runsP s) s.Blocks
theorem ssm (h:SSm s) {i:Nat} (hi:i<s.Sessions.length):GSm (s.Sessions.getD i default).Stage∧JSm (s.Sessions.getD i default).Job:=h.2.2.2 _ (getD_mem hi)
theorem contS_ev (h:SSm s) (ho:ObjsP (objsP s)) (hr:ResOk s) (h3:s.Sessions.length=3):∃ b:Bool,E0 (fun K=>Bw K s.Sessions s) (b,s)∧(b=false↔∀ i,i<3→SessP s (s.Sessions.getD i default)):=by
 suffices key:∀ i,i≤s.Sessions.length→∃ r:Int,E1 (fun K k=>Ad.l1 K s.Sessions k ((s.Sessions.length:Nat):Int) (i:Int) s.Keep s.Blocks s.Versions s.Sessions) (r,s)∧(r<0↔From (fun i=>SessP s (s.Sessions.getD i default)) s.Sessions.length i) by
  obtain ⟨r,r1,r2⟩:=key 0 (by omega)
  refine ⟨decide (r≥0),bnd r1.e1 (now _),?_⟩
  rw [decide_eq_false_iff_not,From.all,h3] at *
  exact ⟨fun z=>r2.1 (by omega),fun z=>by have:=r2.2 z;omega⟩
 refine upto ?_ ?_
 ·exact ⟨-1,step1 (fun _ _ _ _ _=>Ad.l1.eq_2 ..) (negD (by omega) (now _)),by simp [From.done]⟩
 ·intro i hi ⟨r,r1,r2⟩
  obtain ⟨b,b1,b2⟩:=(sess_ep h ho hr (ssm h hi)).get
  have e:(nth s.Sessions (i:Int))=s.Sessions.getD i default:=nthN _ _
  cases b with
  | false =>
   refine ⟨(i:Int),step1 (fun _ _ _ _ _=>Ad.l1.eq_2 ..) (posD (by omega) (pos (by omega) ?_)),⟨fun z=>by omega,fun z=>absurd z (From.no (P:=fun i=>SessP s (s.Sessions.getD i default)) hi (fun z=>by have:=b2.2 z;cases this))⟩⟩
   rw [e]
   exact bnd (bnd b1 (now _)) (pos rfl (now _))
  | true =>
   refine ⟨r,step1 (fun _ _ _ _ _=>Ad.l1.eq_2 ..) (posD (by omega) (pos (by omega) ?_)),r2.trans (From.next (P:=fun i=>SessP s (s.Sessions.getD i default)) (b2.1 rfl))⟩
   rw [e,w1 (by omega)]
   exact bnd (bnd b1 (now _)) (neg (fun z=>by cases z) r1)
theorem most_ep (h:SSm s):EP0 (fun K=>En K s) (MostP s):=by
 have hn:=h.1
 refine EP.bnd (words_ep h) (fun w=>.neg (fun z=>by cases z) ?_) fun w=>.pos rfl (.no (fun z=>w z.1) (now _))
 refine EP.iteN (fun c=>.no (fun z=>c (by rw [z.2.1];rfl)) (now _)) fun c=>EP.with (list_ev h) ?_
 have h3:s.Sessions.length=3:=by omega
 have ho:=w.2.2.2
 have hl:=objsP_len (s:=s)
 suffices key:∀ i,i≤s.Versions.length→(∀ k,k<i→(resP (objsP s) (vAt s k).ID).2=0)→EP1 (fun K a=>En.l1 K (objsP s) s a (((objsP s).length:Nat):Int) (i:Int)) (From (fun k=>(resP (objsP s) (vAt s k).ID).2=0) s.Versions.length i∧∀ i,i<3→SessP s (s.Sessions.getD i default)) from
  (key 0 (by omega) (fun k hk=>by omega)).e1.iff ⟨fun z=>⟨w,h3,From.all.1 z.1,z.2⟩,fun z=>⟨From.all.2 z.2.2.1,z.2.2.2⟩⟩
 refine upto ?_ ?_
 ·intro hr
  refine EP.step1 (fun _ _ _ _ _=>En.l1.eq_2 ..) (.neg (by rw [hl];simp) ?_)
  obtain ⟨b,b1,b2⟩:=contS_ev h ho hr h3
  refine EP.with b1 ?_
  cases b with
  | true=>exact .no (fun z=>by have:=b2.2 z.2;cases this) (now _)
  | false=>exact .yes ⟨From.done,b2.1 rfl⟩ (now _)
 ·intro i hi ih hr
  refine EP.step1 (fun _ _ _ _ _=>En.l1.eq_2 ..) (.pos (by rw [hl];simpa using hi) (.pos (by omega) ?_))
  rw [nthN,objsP_at hi,w1 (by omega)]
  refine EP.with (cof_ev ho _) (EP.iteN (fun c=>.no (fun z=>From.no (P:=fun k=>(resP (objsP s) (vAt s k).ID).2=0) hi c z.1) (now _)) fun c=>?_)
  have c':(resP (objsP s) (vAt s i).ID).2=0:=c
  exact (ih fun k hk=>by
   by_cases e:k=i
   ·subst e;exact c'
   ·exact hr k (by omega)).iff ⟨fun z=>⟨(From.next (P:=fun k=>(resP (objsP s) (vAt s k).ID).2=0) c').1 z.1,z.2⟩,fun z=>⟨(From.next (P:=fun k=>(resP (objsP s) (vAt s k).ID).2=0) c').2 z.1,z.2⟩⟩
theorem may_ep (h:SSm s):EP0 (fun K=>G9 K s) (StateP s):=by
 have hn:=h.1
 refine EP.bnd (most_ep h) (fun w=>.pos rfl (EP.with (places_ev h) ?_)) fun w=>.neg (fun z=>by cases z) (.no (fun z=>w z.1) (now _))
 exact (EP.tail (smay_ev _ _ (runsP_sm h) (by rw [runsP_len];omega))).iff ⟨fun z=>⟨w,z⟩,fun z=>z.2⟩
end Go.XL
end
end
section
section
namespace Go.XL
open Go.XM
def dec1:DecidableEq (Int × Bool × Bool):=inferInstance
def dec2:DecidableEq (Int × Ap × Int × Bool × Bool):=@instDecidableEqProd _ _ _ (@instDecidableEqProd _ _ _ dec1)
instance decV:DecidableEq Ak:=@instDecidableEqProd _ _ _ (@instDecidableEqProd _ _ _ dec2)
def decJ:DecidableEq Ac:=@instDecidableEqProd _ _ _ (@instDecidableEqProd _ _ _ (@instDecidableEqProd _ _ _ (@instDecidableEqProd _ _ _ inferInstance)))
instance decS:DecidableEq Aq:=@instDecidableEqProd _ _ _ (@instDecidableEqProd _ _ _ (@instDecidableEqProd _ _ _ (@instDecidableEqProd _ _ _ (@instDecidableEqProd _ _ _ decJ))))
instance decT:DecidableEq Ai:=@instDecidableEqProd _ _ _ (@instDecidableEqProd _ _ _ inferInstance)
def SFit (s:Ai):Prop:=s.Versions.length≤2199023255488∧(∀ v∈s.Versions,v.Data.Data.size≤140737488351232∧-9223372036854775808≤v.At∧v.At≤9223372036854775807)∧s.Sessions.length≤2199023255488 ∧
 ∀ x∈s.Sessions,(x.Stage.Out.length≤17592186044416∧∀ y∈x.Stage.Out,y.length≤17592186044416)∧x.Job.List_.length≤17592186044416∧x.Job.Out.length≤17592186044416
theorem sweight_ev (s:Ai) (h:SFit s):∃ r:Int,E0 (fun K=>Aj K s) r∧0≤r∧r≤140737488355328∧(r≤2000→SSm s):=by
 obtain ⟨h1,h2,h3,h4⟩:=h
 have bnd2:∀ t:Nat,t≤s.Sessions.length→∀ n:Int,0≤n→n≤105553116266496→∃ r:Int,E1 (fun K a=>Aj.l2 K s a n (t:Int)) r∧n≤r∧r≤140737488355328∧(r≤2000→∀ i,i<s.Sessions.length→t≤i→GSm (s.Sessions.getD i default).Stage∧JSm (s.Sessions.getD i default).Job):=by
  refine upto ?_ ?_
  ·intro n n0 n1
   exact ⟨n,step1 (fun _ _ _ _ _=>Aj.l2.eq_2 ..) (negD (by omega) (now _)),by omega,by omega,fun _ i a b=>by omega⟩
  ·intro t ht ih n n0 n1
   by_cases c:n<1048576
   ·obtain ⟨⟨g1,g2⟩,g3,g4⟩:=h4 _ (getD_mem (d:=default) ht)
    obtain ⟨r,r1,r2,r3,r4⟩:=lists_ev (s.Sessions.getD t default).Stage.Out g1 g2
    have ej:wr .i64 ((((s.Sessions.getD t default).Job.List_.length:Nat):Int)+(((s.Sessions.getD t default).Job.Out.length:Nat):Int))=(((s.Sessions.getD t default).Job.List_.length+(s.Sessions.getD t default).Job.Out.length:Nat):Int):=by rw [w64 (by omega) (by omega)];omega
    obtain ⟨q,q1,q2,q3,q4⟩:=ih (n+r+(((s.Sessions.getD t default).Job.List_.length+(s.Sessions.getD t default).Job.Out.length:Nat):Int)) (by omega) (by omega)
    refine ⟨q,step1 (fun _ _ _ _ _=>Aj.l2.eq_2 ..) (posD (by omega) (posD c (pos (by omega) ?_))),by omega,q3,fun z i a b=>?_⟩
    ·rw [show nth s.Sessions (t:Int)=s.Sessions.getD t default from nthN _ _]
     refine bnd r1 (pos (by omega) (bnd (nowE ej) ?_))
     rw [w64 (i:=n+r) (by omega) (by omega),w64 (i:=n+r+_) (by omega) (by omega),w1 (by omega)]
     exact q1
    ·by_cases e:i=t
     ·subst e
      have:=r4 (by omega)
      exact ⟨by unfold GSm;omega,by omega,by omega⟩
     ·exact q4 z i a (by omega)
   ·exact ⟨n,step1 (fun _ _ _ _ _=>Aj.l2.eq_2 ..) (posD (by omega) (negD c (now _))),by omega,by omega,fun z=>by omega⟩
 have bnd1:∀ t:Nat,t≤s.Versions.length→∀ n:Int,0≤n→n≤70368744177664→∃ r:Int,E1 (fun K a=>Aj.l1 K s a n (t:Int)) r∧n≤r∧r≤140737488355328∧(r≤2000→(∀ i,i<s.Versions.length→t≤i→(vAt s i).Data.Data.size≤10000)∧∀ i,i<s.Sessions.length→GSm (s.Sessions.getD i default).Stage∧JSm (s.Sessions.getD i default).Job):=by
  refine upto ?_ ?_
  ·intro n n0 n1
   obtain ⟨r,r1,r2,r3,r4⟩:=bnd2 0 (by omega) n n0 (by omega)
   exact ⟨r,step1 (fun _ _ _ _ _=>Aj.l1.eq_2 ..) (negD (by omega) r1.e1),r2,r3,fun z=>⟨fun i a b=>by omega,fun i hi=>r4 z i hi (by omega)⟩⟩
  ·intro t ht ih n n0 n1
   by_cases c:n<1048576
   ·have hv:(vAt s t).Data.Data.size≤140737488351232:=(h2 _ (getD_mem (d:=default) ht)).1
    have es:wr .i64 ((((vAt s t).Data.Data.size:Nat):Int).tdiv 4)=(((vAt s t).Data.Data.size / 4:Nat):Int):=by rw [show (4:Int)=((4:Nat):Int) from rfl,tdivN,w64 (by omega) (by omega)]
    obtain ⟨r,r1,r2,r3,r4⟩:=ih (n+(((vAt s t).Data.Data.size / 4:Nat):Int)) (by omega) (by omega)
    refine ⟨r,step1 (fun _ _ _ _ _=>Aj.l1.eq_2 ..) (posD (by omega) (posD c (pos (by omega) (pos (by decide) ?_)))),by omega,r3,fun z=>⟨fun i a b=>?_,(r4 z).2⟩⟩
    ·rw [nthV,es,w64 (i:=n+_) (by omega) (by omega),w1 (by omega)];exact r1
    ·by_cases e:i=t
     ·subst e;omega
     ·exact (r4 z).1 i a (by omega)
   ·obtain ⟨r,r1,r2,r3,r4⟩:=bnd2 0 (by omega) n n0 (by omega)
    exact ⟨r,step1 (fun _ _ _ _ _=>Aj.l1.eq_2 ..) (posD (by omega) (negD c r1.e1)),r2,r3,fun z=>by omega⟩
 have e0:wr .i64 (((s.Versions.length:Nat):Int)+((s.Sessions.length:Nat):Int))=((s.Versions.length+s.Sessions.length:Nat):Int):=by rw [w64 (by omega) (by omega)];omega
 obtain ⟨r,r1,r2,r3,r4⟩:=bnd1 0 (by omega) ((s.Versions.length+s.Sessions.length:Nat):Int) (by omega) (by omega)
 refine ⟨r,?_,by omega,r3,fun z=>⟨by omega,fun v hv=>?_,by omega,fun x hx=>?_⟩⟩
 ·show E0 (fun K=>Aj.l1 K s K (wr .i64 (((s.Versions.length:Nat):Int)+((s.Sessions.length:Nat):Int))) 0) r
  rw [e0];exact r1.e1
 ·obtain ⟨i,hi,rfl⟩:=List.mem_iff_getElem.1 hv
  have h5:=(r4 z).1 i hi (by omega)
  unfold vAt at h5
  rw [getD_lt hi] at h5
  exact ⟨by omega,(h2 _ (List.getElem_mem hi)).2⟩
 ·obtain ⟨i,hi,rfl⟩:=List.mem_iff_getElem.1 hx
  have h5:=(r4 z).2 i hi
  rwa [getD_lt hi] at h5
def Fit14 (x:C8):Prop:=x.S.length≤17592186044416∧(∀ s∈x.S,SFit s)∧x.O.L.length≤17592186044416∧(∀ l∈x.O.L,l.length≤17592186044416∧∀ o∈l,o.Data.Data.size≤140737488351232)∧x.O.N.length≤17592186044416 ∧
 x.O.G.G.length≤17592186044416∧(∀ g∈x.O.G.G,Gfit g)∧x.O.G.A.length≤17592186044416
theorem heavy14_ev (x:C8) (h:Fit14 x):∃ b:Bool,E0 (fun K=>Bz K x) b∧(b=false→x.S.length≤1500∧∀ s∈x.S,SSm s):=by
 obtain ⟨h1,h2,h3,h4,h5,h6,h7,h8⟩:=h
 obtain ⟨b9,e9,_⟩:=heavy9_ev x.O h3 h4 h5 h6 h7 h8
 have fin:∀ n:Int,∃ b:Bool,Ev (fun K _ _ _ _=>if decide (n > 1500)=true then some true else (Bd K x.O).bind fun r32=>some r32) b∧(b=false→n≤1500):=by
  intro n
  by_cases c:n > 1500
  ·exact ⟨true,posD c (now _),fun z=>by cases z⟩
  ·exact ⟨b9,negD c (bnd e9 (now _)),fun _=>by omega⟩
 have key:∀ t:Nat,t≤x.S.length→∀ n:Int,0≤n→n≤281474976710656→∃ b:Bool,E1 (fun K a=>Bz.l1 K x a n (t:Int)) b∧(b=false→n≤1500∧∀ i,i<x.S.length→t≤i→SSm (x.S.getD i default)):=by
  refine upto ?_ ?_
  ·intro n n0 n1
   obtain ⟨b,b1,b2⟩:=fin n
   exact ⟨b,step1 (fun _ _ _ _ _=>Bz.l1.eq_2 ..) (negD (by omega) b1),fun z=>⟨b2 z,fun i a c=>by omega⟩⟩
  ·intro t ht ih n n0 n1
   by_cases c:n<1048576
   ·obtain ⟨r,r1,r2,r3,r4⟩:=sweight_ev _ (h2 _ (getD_mem (d:=default) ht))
    obtain ⟨b,b1,b2⟩:=ih (n+r) (by omega) (by omega)
    refine ⟨b,step1 (fun _ _ _ _ _=>Bz.l1.eq_2 ..) (posD (by omega) (posD c (pos (by omega) ?_))),fun z=>⟨by have:=(b2 z).1;omega,fun i a d=>?_⟩⟩
    ·rw [show nth x.S (t:Int)=x.S.getD t default from nthN _ _]
     refine bnd r1 ?_
     rw [w64 (i:=n+r) (by omega) (by omega),w1 (by omega)];exact b1
    ·by_cases e:i=t
     ·subst e;exact r4 (by have:=(b2 z).1;omega)
     ·exact (b2 z).2 i a (by omega)
   ·obtain ⟨b,b1,b2⟩:=fin n
    exact ⟨b,step1 (fun _ _ _ _ _=>Bz.l1.eq_2 ..) (posD (by omega) (negD c b1)),fun z=>by have:=b2 z;omega⟩
 obtain ⟨b,b1,b2⟩:=key 0 (by omega) ((x.S.length:Nat):Int) (by omega) (by omega)
 refine ⟨b,b1.e1,fun z=>⟨by have:=(b2 z).1;omega,fun s hs=>?_⟩⟩
 obtain ⟨i,hi,rfl⟩:=List.mem_iff_getElem.1 hs
 have:=(b2 z).2 i hi (by omega)
 rwa [getD_lt hi] at this
variable {s:Ai}
theorem copyV_ev (l:List Ak) (h:l.length*64≤140737488355328):E0 (fun K=>Bf K l) l :=
 copy_gen 64 (by decide) h (fun K k i m=>Bf.l1 K l k i m) (fun _ _ _ _=>Bf.l1.eq_2 ..) _ (fun _=>rfl)
theorem copyS_ev (h:SSm s):E0 (fun K=>Dp K s) s:=by
 have hn:=h.2.2.1
 refine bnd (copyV_ev _ (by have:=h.1;omega)) ?_
 have key:∀ i,i≤s.Sessions.length→E1 (fun K k=>Bg.l1 K s.Sessions k (i:Int) (s.Sessions.take i)) s.Sessions:=by
  refine upto ?_ ?_
  ·refine step1 (fun _ _ _ _ _=>Bg.l1.eq_2 ..) (negD (by omega) (nowE ?_))
   rw [List.take_length]
  ·intro i hi ih
   obtain ⟨g1,g2⟩:=ssm h hi
   refine step1 (fun _ _ _ _ _=>Bg.l1.eq_2 ..) (posD (by omega) (pos (by omega) ?_))
   rw [nthN,w1 (by omega)]
   rw [take_getD (d:=default) hi] at ih
   refine bnd (bnd (copyG_ev _ g1) (bnd (copyjob_ev _ g2) (now _))) (pos ?_ ih)
   rw [List.length_take]
   show (_+1)*144≤_;omega
 exact bnd (key 0 (by omega)).e1 (now _)
theorem dec_ver (a b:Ak):((a.ID == b.ID) && ((a.Parent == b.Parent) && ((a.Base == b.Base) && (((a.Data.Data == b.Data.Data) && ((a.Data.N == b.Data.N) && true)) && ((a.At == b.At) && ((a.Tag == b.Tag) && ((a.Gone == b.Gone) && true)))))))=decide (a=b):=by
 obtain ⟨a1,a2,a3,⟨a4,a5⟩,a6,a7,a8⟩:=a;obtain ⟨b1,b2,b3,⟨b4,b5⟩,b6,b7,b8⟩:=b
 show ((a1 == b1) && ((a2 == b2) && ((a3 == b3) && (((a4 == b4) && ((a5 == b5) && true)) && ((a6 == b6) && ((a7 == b7) && ((a8 == b8) && true)))))))=_
 rw [baq,Bool.eq_iff_iff]
 simp only [Bool.and_eq_true,beq_iff_eq,decide_eq_true_eq,Prod.mk.injEq,and_true,and_assoc]
theorem eqV_ev (xs ys:List Ak) (h:xs.length≤17592186044416):E0 (fun K=>Bp K xs ys) (decide (xs=ys)) :=
 eql_gen h _ (fun i=>congrArg (! ·) (dec_ver (nth xs i) (nth ys i))) (fun K k i=>Bp.l1 K xs ys k i) (fun _ _ _=>Bp.l1.eq_2 ..) _ (fun _=>rfl)
theorem eqSess_ev (l:List Aq) (hn:l.length≤2000) (h:∀ x∈l,GSm x.Stage∧JSm x.Job):E0 (fun K=>Be K l l) true:=by
 refine negN rfl ?_
 have key:∀ i,i≤l.length→E1 (fun K k=>Be.l1 K l l k (i:Int)) true:=by
  refine upto ?_ ?_
  ·exact step1 (fun _ _ _ _ _=>Be.l1.eq_2 ..) (negD (by omega) (now _))
  ·intro i hi ih
   obtain ⟨g1,g2⟩:=h _ (getD_mem (d:=default) hi)
   refine step1 (fun _ _ _ _ _=>Be.l1.eq_2 ..) (posD (by omega) (pos (by omega) (pos (by omega) ?_)))
   rw [nthN,w1 (by omega)]
   refine bnd (a:=true) ?_ (neg (fun z=>by cases z) ih)
   unfold Eg
   refine pos (by simp) (posE rfl (pos (by simp) (posE rfl (bnd (eqG_ev _ g1) (pos rfl ?_)))))
   exact tail (ofEq (eqjob_ev _ _ g2) (decide_eq_true rfl))
 exact (key 0 (by omega)).e1
theorem eqS_ev (a b:Ai) (ha:SSm a) (e:a.Sessions=b.Sessions):E0 (fun K=>Dl K a b) (decide (a=b)):=by
 obtain ⟨a1,a2,a3,a4⟩:=a
 obtain ⟨b1,b2,b3,b4⟩:=b
 have e:a4=b4:=e
 subst e
 have hn:a3.length≤2000:=ha.1
 have no:∀ {q:Prop},¬ q→(((a1,a2,a3,a4):Ai)=(b1,b2,b3,a4)→q)→false=decide (((a1,a2,a3,a4):Ai)=(b1,b2,b3,a4)):=fun x y=>(decide_eq_false fun z=>x (y z)).symm
 unfold Dl
 show Ev (fun K _ _ _ _=>if (a1 == b1)=true then if (a2 == b2)=true then (Bp K a3 b3).bind fun r22=>if r22=true then (Be K a4 a4).bind fun r29=>some r29 else some false else some false else some false) _
 by_cases c1:a1=b1
 ·refine posE c1 ?_
  by_cases c2:a2=b2
  ·refine posE c2 (bnd (eqV_ev _ _ (by omega)) ?_)
   by_cases c3:a3=b3
   ·refine posD c3 (bnd (eqSess_ev a4 ha.2.2.1 ha.2.2.2) (nowE ?_))
    subst c1;subst c2;subst c3
    exact (decide_eq_true rfl).symm
   ·exact negD c3 (nowE (no c3 fun z=>by cases z;rfl))
  ·exact negE c2 (nowE (no c2 fun z=>by cases z;rfl))
 ·exact negE c1 (nowE (no c1 fun z=>by cases z;rfl))
end Go.XL
end
end
section
section
namespace Go.XL
open Go.XM
def wAt (b:ByteArray) (p:Nat):Int:=num4 (b.extract p b.size)
theorem wAt_rng (b:ByteArray) (p:Nat):0≤wAt b p∧wAt b p<4294967296:=num4_rng _
theorem ext_tail (b:ByteArray) (p q:Nat):(b.extract p b.size).extract q (b.extract p b.size).size=b.extract (p+q) b.size:=by
 rw [ext_ext,ByteArray.size_extract]
 by_cases h:p≤b.size
 ·rw [show min (p+(min b.size b.size-p)) b.size=b.size by omega]
 ·rw [emp (s:=b.extract (p+q) _) (by rw [ByteArray.size_extract];omega),emp (s:=b.extract (p+q) b.size) (by rw [ByteArray.size_extract];omega)]
theorem tail_size (b:ByteArray) (p:Nat):(b.extract p b.size).size=b.size-p:=by rw [ByteArray.size_extract];omega
def bareP (n:Int):Ap:=(nulls ((n.toNat+7) / 8),n)
def verAt (b:ByteArray) (p:Nat):Ak:=(wAt b p,wAt b (p+4),wAt b (p+8),bareP (wAt b (p+12)),wAt b (p+16),wAt b (p+20) == 1,wAt b (p+20) == 2)
abbrev zst:Ai:=((0,0,([]:List Ak),([]:List Aq)):Ai)
abbrev noS:List Aq:=List.replicate 3 zs
def versAt (b:ByteArray) (n:Nat):List Ak:=(List.range n).map fun i=>verAt b (16+24*i)
def stAt (b:ByteArray):Ai:=(wAt b 4,wAt b 8,versAt b (wAt b 12).toNat,noS)
abbrev HERB:ByteArray:=⟨#[72,69,82,66]⟩
def ImgP (b:ByteArray):Prop:=16≤b.size∧b.extract 0 4=HERB∧wAt b 12≤12∧b.size=16+24*(wAt b 12).toNat∧(∀ i,i<(wAt b 12).toNat→wAt b (16+24*i+12)≤6000∧wAt b (16+24*i+20)≤2)∧WordsP (stAt b)∧PlacesP (runsP (stAt b)) (wAt b 8)
def ES (g:F5 (Ai × Bool)) (P:Prop) (x:Ai):Prop:=(P→Ev g (x,true))∧(¬ P→Ev g (zst,false))
theorem ES.no {g:F5 (Ai × Bool)} {P:Prop} {x:Ai} (h:¬ P) (k:Ev g (zst,false)):ES g P x:=⟨fun z=>absurd z h,fun _=>k⟩
theorem ES.map {g f:F5 (Ai × Bool)} {P:Prop} {x:Ai} (h:∀ r,Ev g r→Ev f r) (k:ES g P x):ES f P x:=⟨fun z=>h _ (k.1 z),fun z=>h _ (k.2 z)⟩
def rdr (r:Am):Int × Am:=if r.2=true∨r.1.size<4 then (0,(r.1,true)) else (num4 r.1,(r.1.extract 4 r.1.size,false))
theorem rdr_ev (r:Am) (h:r.1.size≤4611686018427387903):E0 (fun K=>Ag K r) (rdr r):=rd_ev r.1 r.2 h
theorem rdr_size (r:Am) (h:r.1.size≤4611686018427387903):(rdr r).2.1.size≤4611686018427387903:=by
 unfold rdr
 split
 ·exact h
 ·show (r.1.extract 4 r.1.size).size≤_
  rw [ByteArray.size_extract];omega
theorem rdr_bad {r:Am} (h:r.2=true):rdr r=(0,(r.1,true)):=by unfold rdr;rw [if_pos (.inl h)]
theorem rdr_short {r:Am} (h:r.1.size<4):rdr r=(0,(r.1,true)):=by unfold rdr;rw [if_pos (.inr h)]
theorem rdr_at {b:ByteArray} {p:Nat} (h:p+4≤b.size):rdr ((b.extract p b.size,false):Am)=(wAt b p,(b.extract (p+4) b.size,false)):=by
 unfold rdr
 have hs:=tail_size b p
 rw [if_neg (fun z=>z.elim (fun z=>by cases z) (fun z=>by rw [hs] at z;omega))]
 show (num4 (b.extract p b.size),((b.extract p b.size).extract 4 (b.extract p b.size).size,false))=_
 rw [ext_tail];rfl
theorem rdr_end {b:ByteArray} {p:Nat} (h:b.size<p+4):(rdr ((b.extract p b.size,false):Am)).2.2=true:=by
 rw [rdr_short (by show (b.extract p b.size).size<4;rw [tail_size];omega)]
theorem rdr_endE {q:Int × Am} {b:ByteArray} {p:Nat} (e:q=rdr ((b.extract p b.size,false):Am)) (h:b.size<p+4):q.2.2=true:=by rw [e];exact rdr_end h
theorem rdr_atE {q:Int × Am} {b:ByteArray} {p:Nat} (e:q=rdr ((b.extract p b.size,false):Am)) (h:p+4≤b.size):q=(wAt b p,(b.extract (p+4) b.size,false)):=by rw [e];exact rdr_at h
theorem version_ok {b:ByteArray} {p:Nat} (hs:b.size≤4611686018427387903) (h:p+24≤b.size) (h1:wAt b (p+12)≤6000) (h2:wAt b (p+20)≤2) :
  E0 (fun K=>De K ((b.extract p b.size,false):Am)) (verAt b p,((b.extract (p+24) b.size,false):Am)):=by
 have hz:∀ q,(b.extract q b.size).size≤4611686018427387903:=fun q=>by rw [tail_size];omega
 have r:∀ q,q+4≤b.size→E0 (fun K=>Ag K ((b.extract q b.size,false):Am)) (wAt b q,((b.extract (q+4) b.size,false):Am)):=fun q hq=>ofEq (rdr_ev _ (hz q)) (rdr_at hq)
 refine bnd (r p (by omega)) (bnd (r (p+4) (by omega)) (bnd (r (p+8) (by omega)) (bnd (r (p+12) (by omega)) (neg (fun z=>by cases z) (negD (by omega) ?_)))))
 refine bnd (congr (fun K _ _ _ _=>blank_ev _ ⟨(wAt_rng b (p+12)).1,h1⟩ K) (now _)) (bnd (r (p+16) (by omega)) (bnd (r (p+20) (by omega)) (neg (fun z=>by cases z) (nowE ?_))))
 show (verAt b p,((b.extract (p+24) b.size,decide (wAt b (p+20) > 2)):Am))=_
 rw [decide_eq_false (by omega)]
theorem version_of {r q1 q2 q3 q4 q5 q6:Int × Am} (h1:E0 (fun K=>Ag K r.2) q1) (h2:E0 (fun K=>Ag K q1.2) q2) (h3:E0 (fun K=>Ag K q2.2) q3) (h4:E0 (fun K=>Ag K q3.2) q4)
  (h5:E0 (fun K=>Ag K q4.2) q5) (h6:E0 (fun K=>Ag K q5.2) q6) (h:q4.2.2=true∨q4.2.2=false∧(q4.1 > 6000∨(0≤q4.1∧q4.1≤6000)∧(q6.2.2=true∨q6.2.2=false∧q6.1 > 2))) :
  ∃ (v:Ak) (S:ByteArray),(S=q4.2.1∨S=q6.2.1)∧E0 (fun K=>De K r.2) (v,((S,true):Am)):=by
 rcases h with h | ⟨h,k⟩
 ·exact ⟨_,_,.inl rfl,bnd h1 (bnd h2 (bnd h3 (bnd h4 (pos h (now _)))))⟩
 rcases k with k | ⟨k,m⟩
 ·exact ⟨_,_,.inl rfl,bnd h1 (bnd h2 (bnd h3 (bnd h4 (negB h (posD k (now _))))))⟩
 rcases m with m | ⟨m,o⟩
 ·exact ⟨_,_,.inr rfl,bnd h1 (bnd h2 (bnd h3 (bnd h4 (negB h (negD (by omega) (bnd (congr (fun K _ _ _ _=>blank_ev _ k K) (now _)) (bnd h5 (bnd h6 (pos m (now _))))))))))⟩
 ·refine ⟨(q1.1,q2.1,q3.1,bareP q4.1,q5.1,q6.1 == 1,q6.1 == 2),_,.inr rfl,bnd h1 (bnd h2 (bnd h3 (bnd h4 (negB h (negD (by omega) (bnd (congr (fun K _ _ _ _=>blank_ev _ k K) (now _)) (bnd h5 (bnd h6 (negB m (nowE ?_))))))))))⟩
  rw [decide_eq_true o];rfl
theorem version_bad {r:Am} (hs:r.1.size≤4611686018427387903) (h:r.2=true∨∃ b p,r=((b:ByteArray).extract p b.size,false)∧¬ (p+24≤b.size∧wAt b (p+12)≤6000∧wAt b (p+20)≤2)) :
  ∃ (v:Ak) (S:ByteArray),S.size≤4611686018427387903∧E0 (fun K=>De K r) (v,((S,true):Am)):=by
 have st:∀ q:Am,q.1.size≤4611686018427387903→∃ t:Int × Am,t=rdr q∧E0 (fun K=>Ag K q) t∧t.2.1.size≤4611686018427387903∧(q.2=true→t.2.2=true):=fun q hq=>⟨_,rfl,rdr_ev _ hq,rdr_size _ hq,fun z=>by rw [rdr_bad z]⟩
 obtain ⟨q1,e1,h1,s1,t1⟩:=st r hs
 obtain ⟨q2,e2,h2,s2,t2⟩:=st q1.2 s1
 obtain ⟨q3,e3,h3,s3,t3⟩:=st q2.2 s2
 obtain ⟨q4,e4,h4,s4,t4⟩:=st q3.2 s3
 obtain ⟨q5,e5,h5,s5,t5⟩:=st q4.2 s4
 obtain ⟨q6,e6,h6,s6,t6⟩:=st q5.2 s5
 have fin:(q4.2.2=true∨q4.2.2=false∧(q4.1 > 6000∨(0≤q4.1∧q4.1≤6000)∧(q6.2.2=true∨q6.2.2=false∧q6.1 > 2)))→∃ (v:Ak) (S:ByteArray),S.size≤4611686018427387903∧E0 (fun K=>De K r) (v,((S,true):Am)):=fun z=>by
  obtain ⟨v,S,k1,k2⟩:=version_of (r:=(0,r)) h1 h2 h3 h4 h5 h6 z
  exact ⟨v,S,k1.elim (fun y=>y ▸ s4) (fun y=>y ▸ s6),k2⟩
 rcases h with h | ⟨b,p,rfl,h⟩
 ·exact fin (.inl (t4 (t3 (t2 (t1 h)))))
 ·clear st h1 h2 h3 h4 h5 h6 s1 s2 s3 s4 s5 s6
  by_cases c1:b.size<p+4
  ·exact fin (.inl (t4 (t3 (t2 (rdr_endE e1 c1)))))
  have f1:=rdr_atE e1 (by omega)
  rw [f1] at e2
  by_cases c2:b.size<p+8
  ·exact fin (.inl (t4 (t3 (rdr_endE (p:=p+4) e2 (by omega)))))
  have f2:=rdr_atE (p:=p+4) e2 (by omega)
  rw [f2] at e3
  by_cases c3:b.size<p+12
  ·exact fin (.inl (t4 (rdr_endE (p:=p+4+4) e3 (by omega))))
  have f3:=rdr_atE (p:=p+4+4) e3 (by omega)
  rw [f3] at e4
  by_cases c4:b.size<p+16
  ·exact fin (.inl (rdr_endE (p:=p+4+4+4) e4 (by omega)))
  have f4:=rdr_atE (p:=p+4+4+4) e4 (by omega)
  rw [f4] at e5
  have hr:=wAt_rng b (p+4+4+4)
  have g1:q4.2.2=false:=by rw [f4]
  have g2:q4.1=wAt b (p+4+4+4):=by rw [f4]
  refine fin (.inr ⟨g1,?_⟩)
  rw [g2]
  by_cases c5:wAt b (p+4+4+4) > 6000
  ·exact .inl c5
  refine .inr ⟨⟨hr.1,by omega⟩,?_⟩
  by_cases c6:b.size<p+20
  ·exact .inl (t6 (rdr_endE (p:=p+4+4+4+4) e5 (by omega)))
  have f5:=rdr_atE (p:=p+4+4+4+4) e5 (by omega)
  rw [f5] at e6
  by_cases c7:b.size<p+24
  ·exact .inl (rdr_endE (p:=p+4+4+4+4+4) e6 (by omega))
  have f6:=rdr_atE (p:=p+4+4+4+4+4) e6 (by omega)
  refine .inr ⟨by rw [f6],?_⟩
  have g3:q6.1=wAt b (p+20):=by rw [f6]
  have c5':¬ wAt b (p+12) > 6000:=c5
  rw [g3];omega
theorem versAt_len (b:ByteArray) (n:Nat):(versAt b n).length=n:=by simp [versAt]
theorem versAt_succ (b:ByteArray) (n:Nat):versAt b (n+1)=versAt b n++[verAt b (16+24*n)]:=by simp [versAt,List.range_succ]
theorem stAt_sm {b:ByteArray} (hn:wAt b 12≤12) (hf:∀ i,i<(wAt b 12).toNat→wAt b (16+24*i+12)≤6000):SSm (stAt b):=by
 refine ⟨?_,fun v hv=>?_,by show (noS).length≤_;decide,fun x hx=>?_⟩
 ·show (versAt b _).length≤_
  rw [versAt_len];omega
 ·obtain ⟨i,hi,rfl⟩:=List.mem_map.1 hv
  have h1:=hf i (List.mem_range.1 hi)
  have h2:=wAt_rng b (16+24*i+12)
  have h3:=wAt_rng b (16+24*i+16)
  refine ⟨?_,?_,?_⟩
  ·show (nulls (((wAt b (16+24*i+12)).toNat+7) / 8)).size≤_
   rw [nulls_size];omega
  ·show _≤wAt b (16+24*i+16);omega
  ·show wAt b (16+24*i+16)≤_;omega
 ·rw [(List.mem_replicate.1 hx).2]
  exact ⟨by unfold GSm;exact Nat.zero_le _,Nat.zero_le _,Nat.zero_le _⟩
theorem readBad {r16 r18 r22:Int × Am} {n:Nat} (h22:r22.1=(n:Int)) (hn:n≤12):∀ i:Nat,i≤n→∀ (S:ByteArray) (l:List Ak) (ss:List Aq),S.size≤4611686018427387903→l.length=i →
  E1 (fun K k=>Da.l1 K r16 r18 r22 k (i:Int) 0 0 S true l ss) (zst,false):=by
 refine upto ?_ ?_
 ·intro S l ss _ _
  exact step1 (fun _ _ _ _ _=>Da.l1.eq_2 ..) (negD (by rw [h22];omega) (pos rfl (now _)))
 ·intro i hi ih S l ss hS hl
  obtain ⟨v,S',h1,h2⟩:=version_bad (r:=(S,true)) hS (.inl rfl)
  refine step1 (fun _ _ _ _ _=>Da.l1.eq_2 ..) (posD (by rw [h22];omega) (bnd h2 (pos (by show (_+1)*64≤_;omega) ?_)))
  rw [w1 (by omega)]
  exact ih S' _ ss h1 (by simp [hl])
theorem read_es (b:ByteArray) (hs:b.size≤140737488351232):ES (fun K _ _ _ _=>Da K b) (ImgP b) (stAt b):=by
 have hp:∀ K,Ew K b HERB=some (decide (4≤b.size∧b.extract 0 4=HERB)):=by
  intro K
  unfold Ew Di
  show (if decide (((b.size:Nat):Int)≥4)=true then _ else _:Option Bool).bind _=_
  by_cases c:4≤b.size
  ·rw [if_pos (decide_eq_true (by omega)),if_pos ⟨by omega,by show (0:Int)≤4;decide,by show (4:Int)≤((b.size:Nat):Int);omega⟩]
   show some ((b.extract 0 4).toList == HERB.toList)=_
   rw [beq_str];congr 1;exact decide_eq_decide.2 ⟨fun z=>⟨c,z⟩,fun z=>z.2⟩
  ·rw [if_neg (by simp;omega),decide_eq_false (fun z=>c z.1)];rfl
 by_cases c0:4≤b.size∧b.extract 0 4=HERB
 case neg=>exact ES.no (fun z=>c0 ⟨by have:=z.1;omega,z.2.1⟩) (bnd (congr (fun K _ _ _ _=>hp K) (now _)) (posM c0 (now _)))
 have e0:(b.extract ((4:Int)).toNat (((b.size:Nat):Int)).toNat,false)=((b.extract 4 b.size,false):Am):=by rw [Int.toNat_natCast];rfl
 have head:∀ {r:Ai × Bool},(16≤b.size→Ev (fun K _ _ _ _=>if decide (wAt b 12 > 12)=true then some (zst,false) else Da.l1 K (wAt b 4,((b.extract 8 b.size,false):Am)) (wAt b 8,((b.extract 12 b.size,false):Am)) (wAt b 12,((b.extract 16 b.size,false):Am)) K 0 0 0 (b.extract 16 b.size) false [] noS) r) →
   (b.size<16→r=(zst,false))→E0 (fun K=>Da K b) r:=by
  intro r h1 h2
  have hz:∀ q,(b.extract q b.size).size≤4611686018427387903:=fun q=>by rw [tail_size];omega
  refine bnd (congr (fun K _ _ _ _=>hp K) (now _)) (negM c0 (pos (by omega) ?_))
  rw [e0]
  have s1:=rdr_size ((b.extract 4 b.size,false):Am) (hz 4)
  have s2:=rdr_size _ s1
  refine bnd (rdr_ev _ (hz 4)) (bnd (rdr_ev _ s1) (pos ⟨rfl,by decide,by decide,by decide⟩ (bnd (rdr_ev _ s2) ?_)))
  by_cases c:16≤b.size
  ·rw [rdr_at (p:=4) (by omega),rdr_at (p:=4+4) (by omega),rdr_at (p:=4+4+4) (by omega)]
   exact neg (fun z=>by cases z) (h1 c)
  ·have z:(rdr (rdr (rdr ((b.extract 4 b.size,false):Am)).2).2).2.2=true:=by
    have stay:∀ q:Am,q.2=true→(rdr q).2.2=true:=fun q hq=>by rw [rdr_bad hq]
    by_cases d1:b.size<8
    ·exact stay _ (stay _ (rdr_end (by omega)))
    rw [rdr_at (p:=4) (by omega)]
    by_cases d2:b.size<12
    ·exact stay _ (rdr_end (p:=4+4) (by omega))
    rw [rdr_at (p:=4+4) (by omega)]
    exact rdr_end (p:=4+4+4) (by omega)
   rw [h2 (by omega)]
   exact pos z (now _)
 by_cases c1:16≤b.size
 case neg=>exact ES.no (fun z=>c1 z.1) (head (fun z=>absurd z c1) (fun _=>rfl))
 refine ES.map (fun r hr=>head (fun _=>hr) (fun z=>by omega)) ?_
 by_cases c2:wAt b 12 > 12
 ·exact ES.no (fun z=>by have:=z.2.2.1;omega) (posD c2 (now _))
 refine ES.map (fun r hr=>negD c2 hr) ?_
 have hn0:=wAt_rng b 12
 generalize hn:(wAt b 12).toNat=n
 have en:wAt b 12=(n:Int):=by omega
 suffices key:∀ i,i≤n→(∀ k,k<i→wAt b (16+24*k+12)≤6000∧wAt b (16+24*k+20)≤2)→16+24*i≤b.size →
   ES (fun K a _ _ _=>Da.l1 K (wAt b 4,((b.extract 8 b.size,false):Am)) (wAt b 8,((b.extract 12 b.size,false):Am)) (wAt b 12,((b.extract 16 b.size,false):Am)) a (i:Int) 0 0 (b.extract (16+24*i) b.size) false (versAt b i) noS) (ImgP b) (stAt b) from
  ES.map (fun r hr=>hr.e1) (key 0 (by omega) (fun k hk=>by omega) (by omega))
 refine upto ?_ ?_
 ·intro hf hsz
  have hsm:=stAt_sm (by omega) (fun i hi=>(hf i (by omega)).1)
  have est:stAt b=(wAt b 4,wAt b 8,versAt b n,noS):=by unfold stAt;rw [hn]
  refine ES.map (fun r hr=>step1 (fun _ _ _ _ _=>Da.l1.eq_2 ..) (negD (by show ¬ (n:Int)<wAt b 12;omega) (neg (fun z=>by cases z) hr))) ?_
  rw [beq_str]
  by_cases c3:b.extract (16+24*n) b.size=ByteArray.empty
  case neg=>exact ES.no (fun z=>c3 (emp (by rw [tail_size];have:=z.2.2.2.1;omega))) (posM c3 (now _))
  have hsz2:b.size=16+24*n:=by have:=congrArg ByteArray.size c3;rw [tail_size] at this;show b.size=_;have h0:ByteArray.empty.size=0:=rfl;omega
  refine ES.map (fun r hr=>negM c3 hr) ?_
  obtain ⟨w,w1,w2⟩:=(words_ep hsm).get
  rw [est] at w1 w2
  cases w with
  | false=>exact ES.no (fun z=>by have z:=z.2.2.2.2.2.1;rw [est] at z;have:=w2.2 z;cases this) (bnd w1 (pos rfl (now _)))
  | true =>
   have hp:=places_ev hsm
   obtain ⟨p,p1,p2⟩:=(smay_ev _ (wAt b 8) (runsP_sm hsm) (by rw [runsP_len];have:=hsm.1;omega)).get
   rw [est] at hp p1 p2
   cases p with
   | false=>exact ES.no (fun z=>by have z:=z.2.2.2.2.2.2;rw [est] at z;have:=p2.2 z;cases this) (bnd w1 (neg (fun z=>by cases z) (bnd hp (bnd p1 (pos rfl (now _))))))
   | true =>
    have hI:ImgP b:=⟨c1,c0.2,by omega,by omega,fun i hi=>hf i (by omega),by rw [est];exact w2.1 rfl,by rw [est];exact p2.1 rfl⟩
    exact ⟨fun _=>bnd w1 (neg (fun z=>by cases z) (bnd hp (bnd p1 (neg (fun z=>by cases z) (nowE (by rw [est])))))),fun z=>absurd hI z⟩
 ·intro i hi ih hf hsz
  have hz:(b.extract (16+24*i) b.size).size≤4611686018427387903:=by rw [tail_size];omega
  by_cases c:16+24*i+24≤b.size∧wAt b (16+24*i+12)≤6000∧wAt b (16+24*i+20)≤2
  ·refine ES.map (fun r hr=>step1 (fun _ _ _ _ _=>Da.l1.eq_2 ..) (posD (by show (i:Int)<wAt b 12;omega) (bnd (version_ok (by omega) c.1 c.2.1 c.2.2) (pos (by show (_+1)*64≤_;rw [versAt_len];omega) hr)))) ?_
   rw [w1 (by omega),← versAt_succ]
   exact ih (fun k hk=>by
    by_cases e:k=i
    ·subst e;exact c.2
    ·exact hf k (by omega)) (by omega)
  ·refine ES.no (fun z=>c ⟨by have:=z.2.2.2.1;omega,z.2.2.2.2.1 i (by omega)⟩) ?_
   obtain ⟨v,S,h1,h2⟩:=version_bad (r:=((b.extract (16+24*i) b.size,false):Am)) hz (.inr ⟨b,16+24*i,rfl,c⟩)
   refine step1 (fun _ _ _ _ _=>Da.l1.eq_2 ..) (posD (by show (i:Int)<wAt b 12;omega) (bnd h2 (pos (by show (_+1)*64≤_;rw [versAt_len];omega) ?_)))
   rw [w1 (by omega)]
   exact readBad en (by omega) (i+1) (by omega) S _ _ h1 (by rw [List.length_append,versAt_len];rfl)
end Go.XL
end
end
section
section
namespace Go.XL
open Go.XM
def flagP (v:Ak):Int:=if v.Tag=true then 1 else if v.Gone=true then 2 else 0
def nums6 (v:Ak):List Int:=[v.ID,v.Parent,v.Base,v.Data.N,v.At,flagP v]
def numsS (s:Ai):List Int:=[s.Keep,s.Blocks,((s.Versions.length:Nat):Int)]++s.Versions.flatMap nums6
abbrev hL:List Int:=[72,69,82,66]
def sptN (l:List Int):ByteArray:=bytesOf (hL++l.flatMap fourL)
def sptP (s:Ai):ByteArray:=sptN (numsS s)
theorem four_rng (l:List Int):∀ x∈hL++l.flatMap fourL,0≤x∧x≤255:=by
 intro x hx
 rcases List.mem_append.1 hx with hx | hx
 ·simp only [List.mem_cons,List.not_mem_nil,or_false] at hx
  rcases hx with rfl | rfl | rfl | rfl <;> omega
 ·obtain ⟨v,_,hv⟩:=List.mem_flatMap.1 hx
  simp only [fourL,List.mem_cons,List.not_mem_nil,or_false] at hv
  rcases hv with rfl | rfl | rfl | rfl <;> omega
theorem sptN_L (l:List Int):bytesL (sptN l)=hL++l.flatMap fourL:=bytesL_bytesOf (four_rng l)
theorem flat_len (m:List Int):(m.flatMap fourL).length=4*m.length:=by
 induction m with
 | nil=>rfl
 | cons a m ih=>rw [List.flatMap_cons,List.length_append,ih];show 4+_=4*(m.length+1);omega
theorem sptN_size (l:List Int):(sptN l).size=4+4*l.length:=by
 rw [← bytesL_len,sptN_L,List.length_append,flat_len];rfl
theorem flat_drop (j:Nat):∀ l:List Int,(l.flatMap fourL).drop (4*j)=(l.drop j).flatMap fourL:=by
 induction j with
 | zero=>intro l;rfl
 | succ j ih =>
  intro l
  cases l with
  | nil=>rfl
  | cons a l =>
   rw [List.flatMap_cons,show 4*(j+1)=(fourL a).length+4*j by show _=4+_;omega,List.drop_length_add_append,ih];rfl
theorem wAt_spt {l:List Int} {j:Nat} (h:j<l.length) (hr:0≤l.getD j 0∧l.getD j 0<4294967296):wAt (sptN l) (4+4*j)=l.getD j 0:=by
 unfold wAt num4
 rw [bytesL_ext,sptN_L,List.take_of_length_le (by rw [← sptN_L,bytesL_len];omega),show 4+4*j=hL.length+4*j from rfl,List.drop_length_add_append,flat_drop,drop_getD (d:=0) h,List.flatMap_cons]
 generalize l.getD j 0=v at hr
 show (v / 16777216 % 256)*16777216+(v / 65536 % 256)*65536+(v / 256 % 256)*256+v % 256=v
 omega
theorem sptN_head (l:List Int):(sptN l).extract 0 4=HERB:=by
 apply bytesL_inj
 rw [bytesL_ext,sptN_L];rfl
theorem numbers_spt (l m:List Int) (h:l.length≤1000000) (hm:m.length≤1000000):E0 (fun K=>Cr K (sptN l) m) (sptN (l++m)):=by
 refine ofEq (numbers_ev _ m (by rw [sptN_size];omega) hm) ?_
 rw [sptN_L]
 unfold sptN
 rw [List.flatMap_append,List.append_assoc]
theorem nums6_len (l:List Ak):(l.flatMap nums6).length=6*l.length:=by
 induction l with
 | nil=>rfl
 | cons a l ih=>rw [List.flatMap_cons,List.length_append,ih];show 6+_=6*(l.length+1);omega
variable {s:Ai}
theorem spelt_ev (h:SSm s):E0 (fun K=>Dk K s) (sptP s):=by
 have hn:=h.1
 have e0:HERB=sptN []:=rfl
 have n0:=numbers_spt [] [s.Keep,s.Blocks,((s.Versions.length:Nat):Int)] (by decide) (by show 3≤_;decide)
 refine bnd n0 ?_
 have key:∀ i,i≤s.Versions.length→E1 (fun K k=>Dk.l1 K s k (sptN ([s.Keep,s.Blocks,((s.Versions.length:Nat):Int)]++(s.Versions.take i).flatMap nums6)) ((s.Versions.length:Nat):Int) (i:Int)) (sptP s):=by
  refine upto ?_ ?_
  ·refine step1 (fun _ _ _ _ _=>Dk.l1.eq_2 ..) (negD (by omega) (nowE ?_))
   rw [List.take_length];rfl
  ·intro i hi ih
   refine step1 (fun _ _ _ _ _=>Dk.l1.eq_2 ..) (posD (by omega) (pos (by omega) ?_))
   rw [nthV,w1 (by omega)]
   have hf:E0 (fun K=>Gg K (vAt s i)) (flagP (vAt s i)):=by
    unfold Gg flagP
    cases (vAt s i).Tag with
    | true=>exact pos rfl (now _)
    | false =>
     cases (vAt s i).Gone with
     | true=>exact neg (fun z=>by cases z) (pos rfl (now _))
     | false=>exact neg (fun z=>by cases z) (neg (fun z=>by cases z) (now _))
   rw [take_getD (d:=default) hi,List.flatMap_append,← List.append_assoc] at ih
   refine bnd hf (bnd (numbers_spt _ (nums6 (vAt s i)) ?_ (by show 6≤_;decide)) ?_)
   ·rw [List.length_append,nums6_len,List.length_take];show 3+_≤_;omega
   ·rw [show ([vAt s i].flatMap nums6)=nums6 (vAt s i) by rw [List.flatMap_cons,List.flatMap_nil,List.append_nil]] at ih
    exact ih
 have:=(key 0 (by omega)).e1
 rwa [List.take_zero,List.flatMap_nil,List.append_nil] at this
theorem bytes_ev (h:SSm s):(StateP s→E0 (fun K=>Fe K s) (sptP s,0))∧(¬ StateP s→E0 (fun K=>Fe K s) (ByteArray.empty,1)):=by
 have hm:=may_ep h
 exact ⟨fun z=>bnd (hm.1 z) (neg (fun z=>by cases z) (bnd (spelt_ev h) (now _))),fun z=>bnd (hm.2 z) (pos rfl (now _))⟩
def bareV (v:Ak):Ak:=(v.ID,v.Parent,v.Base,bareP v.Data.N,v.At,v.Tag,v.Gone)
def bareS (s:Ai):Ai:=(s.Keep,s.Blocks,s.Versions.map bareV,noS)
theorem bareS_at {i:Nat} (h:i<s.Versions.length):vAt (bareS s) i=bareV (vAt s i):=by
 unfold vAt bareS
 show (s.Versions.map bareV).getD i default=_
 rw [List.getD_eq_getElem?_getD,List.getD_eq_getElem?_getD,List.getElem?_map,List.getElem?_eq_getElem h];rfl
def bareO (o:Al):Al:=(o.ID,o.Base,bareP o.Data.N)
theorem objsP_bare:objsP (bareS s)=(objsP s).map bareO:=by
 unfold objsP bareS
 show (s.Versions.map bareV).map objP=(s.Versions.map objP).map bareO
 rw [List.map_map,List.map_map];rfl
theorem ixo_bare (id:Int):∀ (l:List Al) (i:Nat),ixo id (l.map bareO) i=ixo id l i
 | [],_=>rfl
 | o::l,i=>by
  rw [List.map_cons,ixo,ixo,ixo_bare id l (i+1)];rfl
theorem bareP_may {n:Int} (h:0≤n∧n≤6000):MayB (bareP n):=by
 refine ⟨h.1,h.2,nulls_size _,fun i hi _=>?_⟩
 unfold bof
 rw [bt_get,show bytesL (bareP n).Data=List.replicate ((n.toNat+7) / 8) 0 by simp [bytesL,nulls,bareP],List.getD_eq_getElem?_getD,List.getElem?_replicate]
 split <;> simp
theorem obj_of (ho:ObjsP (objsP s)) {i:Nat} (h:i<s.Versions.length):1≤(vAt s i).ID∧(vAt s i).ID≤1048576∧MayB (vAt s i).Data∧0≤(vAt s i).Base∧(vAt s i).Base≤1048576:=by
 have h1:∀ j,j<s.Versions.length→1≤(vAt s j).ID∧(vAt s j).ID≤1048576∧((vAt s j).Base≠0→0≤ix (objsP s) (vAt s j).Base)∧MayB (vAt s j).Data:=fun j hj=>by
  have:=ho.2 j (by rw [objsP_len];exact hj)
  unfold ObjP at this
  rw [objsP_at hj] at this
  exact ⟨this.1,this.2.1,this.2.2.2.2.1,this.2.2.2.2.2⟩
 obtain ⟨a,b,c,d⟩:=h1 i h
 refine ⟨a,b,d,?_⟩
 by_cases e:(vAt s i).Base=0
 ·omega
 ·rcases ix_spec (objsP s) (vAt s i).Base with ⟨e1,_⟩ | ⟨j,_,hj,e2⟩
  ·have:=c e;omega
  ·rw [objsP_len] at hj
   rw [objsP_at hj] at e2
   have e2:(vAt s j).ID=(vAt s i).Base:=e2
   have:=h1 j hj
   omega
theorem objs_bare (ho:ObjsP (objsP s)):ObjsP (objsP (bareS s)):=by
 rw [objsP_bare]
 refine ⟨by rw [List.length_map];exact ho.1,fun i hi=>?_⟩
 rw [List.length_map] at hi
 have h:=ho.2 i hi
 have e:∀ j,j<(objsP s).length→((objsP s).map bareO).getD j default=bareO ((objsP s).getD j default):=fun j hj=>by
  rw [List.getD_eq_getElem?_getD,List.getD_eq_getElem?_getD,List.getElem?_map,List.getElem?_eq_getElem hj];rfl
 unfold ObjP at h ⊢
 rw [e i hi]
 refine ⟨h.1,h.2.1,fun z=>?_,h.2.2.2.1,fun z=>?_,bareP_may ⟨h.2.2.2.2.2.1,h.2.2.2.2.2.2.1⟩⟩
 ·rw [e (i-1) (by omega)];exact h.2.2.1 z
 ·show 0≤ixo _ _ _
  rw [ixo_bare];exact h.2.2.2.2.1 z
theorem runs_bare (ho:ObjsP (objsP s)):runsP (bareS s)=runsP s:=by
 unfold runsP bareS
 show (s.Versions.map bareV).map runP=_
 rw [List.map_map]
 refine List.map_congr_left fun v hv=>?_
 obtain ⟨i,hi,rfl⟩:=List.mem_iff_getElem.1 hv
 have h:=(obj_of ho hi).2.2.1.2.2.1
 unfold vAt at h
 rw [getD_lt hi] at h
 show ((s.Versions[i].At,(((nulls ((s.Versions[i].Data.N.toNat+7) / 8)).size+63) / 60:Nat)):Int × Int)=((s.Versions[i].At,(((s.Versions[i].Data.Data.size+63) / 60:Nat):Int)):Int × Int)
 rw [nulls_size,h]
theorem words_bare (w:WordsP s):WordsP (bareS s):=by
 refine ⟨w.1,w.2.1,fun i hi=>?_,objs_bare w.2.2.2⟩
 have hl:(bareS s).Versions.length=s.Versions.length:=List.length_map ..
 rw [hl] at hi
 have:=w.2.2.1 i hi
 unfold VerP at this ⊢
 rw [bareS_at hi,hl];exact this
theorem bareS_sm (h:SSm s) (ho:ObjsP (objsP s)):SSm (bareS s):=by
 refine ⟨by show (s.Versions.map bareV).length≤_;rw [List.length_map];exact h.1,fun v hv=>?_,by show (noS).length≤_;decide,fun x hx=>?_⟩
 ·obtain ⟨u,hu,rfl⟩:=List.mem_map.1 hv
  obtain ⟨i,hi,rfl⟩:=List.mem_iff_getElem.1 hu
  have h1:=(obj_of ho hi).2.2.1
  unfold vAt at h1
  rw [getD_lt hi] at h1
  refine ⟨?_,(h.2.1 _ hu).2⟩
  show (nulls ((s.Versions[i].Data.N.toNat+7) / 8)).size≤_
  rw [nulls_size]
  have:=h1.2.1;omega
 ·rw [(List.mem_replicate.1 hx).2]
  exact ⟨by unfold GSm;exact Nat.zero_le _,Nat.zero_le _,Nat.zero_le _⟩
theorem nums_at:∀ (l:List Ak) (i c:Nat),i<l.length→c<6→(l.flatMap nums6).getD (6*i+c) 0=(nums6 (l.getD i default)).getD c 0
 | [],_,_,h,_=>by simp at h
 | v::l,0,c,_,hc=>by
  rw [List.flatMap_cons,List.getD_eq_getElem?_getD,List.getElem?_append_left (by show 6*0+c<6;omega)]
  rw [Nat.mul_zero,Nat.zero_add];rfl
 | v::l,i+1,c,h,hc=>by
  rw [List.flatMap_cons,List.getD_eq_getElem?_getD,List.getElem?_append_right (by show 6≤_;omega)]
  have:=nums_at l i c (by simpa using h) hc
  rw [List.getD_eq_getElem?_getD] at this
  rw [show 6*(i+1)+c-(nums6 v).length=6*i+c by show 6*(i+1)+c-6=_;omega,this];rfl
theorem spt_img (w:WordsP s) (hp:PlacesP (runsP s) s.Blocks):ImgP (sptP s)∧stAt (sptP s)=bareS s:=by
 obtain ⟨k1,k2,hv,ho⟩:=w
 have hn:s.Versions.length≤12:=by have:=ho.1;rwa [objsP_len] at this
 have hlen:(numsS s).length=3+6*s.Versions.length:=by unfold numsS;rw [List.length_append,nums6_len];rfl
 have a0:wAt (sptP s) 4=s.Keep:=wAt_spt (j:=0) (by omega) (by show 0≤s.Keep∧s.Keep<_;omega)
 have a1:wAt (sptP s) 8=s.Blocks:=wAt_spt (j:=1) (by omega) (by show 0≤s.Blocks∧s.Blocks<_;omega)
 have a2:wAt (sptP s) 12=((s.Versions.length:Nat):Int):=wAt_spt (j:=2) (by omega) (by show 0≤((s.Versions.length:Nat):Int)∧((s.Versions.length:Nat):Int)<_;omega)
 have at_:∀ i c,i<s.Versions.length→c<6→(0≤(nums6 (vAt s i)).getD c 0∧(nums6 (vAt s i)).getD c 0<4294967296)→wAt (sptP s) (16+24*i+4*c)=(nums6 (vAt s i)).getD c 0:=fun i c hi hc hr=>by
  have e:(numsS s).getD (3+(6*i+c)) 0=(nums6 (vAt s i)).getD c 0:=by
   unfold numsS
   rw [List.getD_eq_getElem?_getD,List.getElem?_append_right (by show 3≤_;omega),show 3+(6*i+c) - [s.Keep,s.Blocks,((s.Versions.length:Nat):Int)].length=6*i+c by show 3+(6*i+c)-3=_;omega,← List.getD_eq_getElem?_getD]
   exact nums_at _ _ _ hi hc
  have:=wAt_spt (l:=numsS s) (j:=3+(6*i+c)) (by omega) (by rw [e];exact hr)
  rw [e] at this
  rw [← this,show 16+24*i+4*c=4+4*(3+(6*i+c)) by omega];rfl
 have ver:∀ i,i<s.Versions.length→verAt (sptP s) (16+24*i)=bareV (vAt s i)∧(vAt s i).Data.N≤6000∧wAt (sptP s) (16+24*i+12)=(vAt s i).Data.N∧wAt (sptP s) (16+24*i+20)≤2:=by
  intro i hi
  obtain ⟨b1,b2,b3,b4,b5⟩:=obj_of ho hi
  obtain ⟨c1,c2,c3,c4⟩:=hv i hi
  have hpl:=hp.2.2 i (by rw [runsP_len];exact hi)
  unfold RunP rAt rLen at hpl
  rw [runsP_at hi] at hpl
  have p1:0≤(vAt s i).At:=hpl.1
  have p2:(runP (vAt s i)).Len≤s.Blocks-(vAt s i).At:=hpl.2.2.1
  have p3:=hpl.2.1
  have f0:0≤flagP (vAt s i)∧flagP (vAt s i)≤2:=by unfold flagP;split <;> (try split) <;> omega
  have v0:wAt (sptP s) (16+24*i)=(vAt s i).ID:=at_ i 0 hi (by omega) (by show 0≤(vAt s i).ID∧(vAt s i).ID<_;omega)
  have v1:wAt (sptP s) (16+24*i+4)=(vAt s i).Parent:=at_ i 1 hi (by omega) (by show 0≤(vAt s i).Parent∧(vAt s i).Parent<_;omega)
  have v2:wAt (sptP s) (16+24*i+8)=(vAt s i).Base:=at_ i 2 hi (by omega) (by show 0≤(vAt s i).Base∧(vAt s i).Base<_;omega)
  have v3:wAt (sptP s) (16+24*i+12)=(vAt s i).Data.N:=at_ i 3 hi (by omega) (by show 0≤(vAt s i).Data.N∧(vAt s i).Data.N<_;have:=b3.1;have:=b3.2.1;omega)
  have v4:wAt (sptP s) (16+24*i+16)=(vAt s i).At:=at_ i 4 hi (by omega) (by show 0≤(vAt s i).At∧(vAt s i).At<_;omega)
  have v5:wAt (sptP s) (16+24*i+20)=flagP (vAt s i):=at_ i 5 hi (by omega) (by show 0≤flagP (vAt s i)∧flagP (vAt s i)<_;omega)
  have t1:(flagP (vAt s i) == 1)=(vAt s i).Tag:=by
   unfold flagP
   cases e:(vAt s i).Tag with
   | true=>rfl
   | false=>cases e2:(vAt s i).Gone <;> rfl
  have t2:(flagP (vAt s i) == 2)=(vAt s i).Gone:=by
   unfold flagP
   cases e:(vAt s i).Tag with
   | true =>
    cases e2:(vAt s i).Gone with
    | true=>exact absurd ⟨e,e2⟩ c3
    | false=>rfl
   | false=>cases e2:(vAt s i).Gone <;> rfl
  refine ⟨?_,b3.2.1,v3,by rw [v5];omega⟩
  unfold verAt bareV
  rw [v0,v1,v2,v3,v4,v5,t1,t2]
 have est:stAt (sptP s)=bareS s:=by
  unfold stAt bareS
  rw [a0,a1,a2,Int.toNat_natCast]
  have:versAt (sptP s) s.Versions.length=s.Versions.map bareV:=by
   rw [← range_map s.Versions default bareV]
   unfold versAt
   exact List.map_congr_left fun i hi=>(ver i (List.mem_range.1 hi)).1
  rw [this]
 refine ⟨⟨?_,sptN_head _,by omega,?_,fun i hi=>?_,by rw [est];exact words_bare ⟨k1,k2,hv,ho⟩,by rw [est,runs_bare ho,a1];exact hp⟩,est⟩
 ·show 16≤(sptN _).size
  rw [sptN_size,hlen];omega
 ·show (sptN _).size=_
  rw [sptN_size,hlen,a2];omega
 ·rw [a2,Int.toNat_natCast] at hi
  obtain ⟨_,b,c,d⟩:=ver i hi
  exact ⟨by omega,d⟩
theorem takeI (b:ByteArray) (hs:b.size≤140737488351232):(ImgP b→E0 (fun K=>Fj K b) (stAt b,0))∧(¬ ImgP b→E0 (fun K=>Fj K b) (zst,9)):=by
 have h:=read_es b hs
 exact ⟨fun z=>bnd (h.1 z) (neg (fun z=>by cases z) (now _)),fun z=>bnd (h.2 z) (pos rfl (now _))⟩
end Go.XL
end
end
section
section
namespace Go.XL
open Go.XM
theorem wakes18k (j:Nat):Ea (j+20)=some true:=by kernel_rfl
theorem wakes18E:E0 (fun K=>Ea K) true :=
 ⟨20,fun K _ _ _ _ h _ _ _ _=>by
  obtain ⟨j,rfl⟩:∃ j,K=j+20:=⟨K-20,by omega⟩
  exact wakes18k j⟩
theorem tkO_own {b:Ap} (h:MayB b):tkO (four b.N++b.Data) b.N=some b:=by
 have:=tkO_data h 0 b.N
 rwa [nulls_zero,ByteArray.append_empty,if_pos rfl] at this
variable {x:C8}
theorem ib_l3 {go1:Nat→Nat→Int→Option Bool} {i:Nat} {s:Ai} {l:List Ak} {ss:List Aq} (hi:i<x.S.length) (hs:x.S.getD i default=s) (hi2:i<1000) (ho:ObjsP (objsP s)) (hl:l.length=s.Versions.length) (hn:s.Versions.length≤12) (h1:E1 (fun K a=>go1 K a ((i+1:Nat):Int)) true) :
  ∀ k:Nat,k≤l.length→E2 (fun K a b=>Ah.l3 K (go1 K a) (i:Int) x b (k:Int) l ss) true:=by
 refine upto ?_ ?_
 ·refine step2 (fun _ _ _ _ _=>Ah.l3.eq_2 ..) (negD (by omega) ?_)
  rw [w1 (by omega)];exact h1
 ·intro k hk ih
  obtain ⟨_,_,hM,_⟩:=obj_of ho (i:=k) (by omega)
  refine step2 (fun _ _ _ _ _=>Ah.l3.eq_2 ..) (posD (by omega) (pos (by omega) ?_))
  rw [show nth x.S (i:Int)=s by rw [nthN];exact hs,nthV,w1 (by omega)]
  have hz:=hM.2.2.1
  have hN:=hM.2.1
  have o:=object_ev (vAt s k).Data (by omega)
  rw [if_pos hM] at o
  have t:=takeO_ev (four (vAt s k).Data.N++(vAt s k).Data.Data) (vAt s k).Data.N (by rw [ByteArray.size_append,four_size];omega)
  rw [tkO_own hM] at t
  refine pos (by omega) (bnd o (bnd t (bnd (now _) (negN rfl (bnd (now _) (negN rfl ?_))))))
  exact neg (by show ¬ (!(((vAt s k).Data.Data == (vAt s k).Data.Data) && (((vAt s k).Data.N == (vAt s k).Data.N) && true)))=true;rw [baq];simp) ih
def zeroV (v:Ak):Ak:=(v.ID,v.Parent,v.Base,((nulls v.Data.Data.size,v.Data.N):Ap),v.At,v.Tag,v.Gone)
theorem zero_bare {s:Ai} (ho:ObjsP (objsP s)):s.Versions.map zeroV=s.Versions.map bareV:=by
 refine List.map_congr_left fun v hv=>?_
 obtain ⟨i,hi,rfl⟩:=List.mem_iff_getElem.1 hv
 have h:=(obj_of ho hi).2.2.1.2.2.1
 unfold vAt at h
 rw [getD_lt hi] at h
 unfold zeroV bareV bareP
 rw [h]
theorem ib_l2 {go1:Nat→Nat→Int→Option Bool} {i:Nat} {s S0:Ai} {d:ByteArray} (hd:d.size≤1000) (he:E0 (fun K=>Dl K S0 ((s.Keep,s.Blocks,s.Versions.map zeroV,noS):Ai)) true) (hi:i<x.S.length) (hs:x.S.getD i default=s) (hi2:i<1000) (hsm:SSm s) (hw:WordsP s) (h1:E1 (fun K a=>go1 K a ((i+1:Nat):Int)) true) :
  ∀ k:Nat,k≤s.Versions.length→E2 (fun K a b=>Ah.l2 K (go1 K a) (d,0) (S0,0) s (i:Int) x b (k:Int) ((s.Versions.take k).map zeroV++s.Versions.drop k)) true:=by
 have ho:=hw.2.2.2
 have hn:s.Versions.length≤12:=by have:=ho.1;rwa [objsP_len] at this
 refine upto ?_ ?_
 ·refine step2 (fun _ _ _ _ _=>Ah.l2.eq_2 ..) (neg (by simp) (pos ⟨rfl,by decide,by decide,by decide⟩ (bnd (now _) (negN rfl ?_))))
  rw [List.take_length,List.drop_length,List.append_nil]
  refine bnd he (negB rfl ?_)
  have hp:=parts_ev d (by omega)
  have hq:=whole_ev (partsP d) (by rw [partsP_len];omega)
  rw [whole_parts] at hq
  generalize 60*((d.size+59) / 60)-d.size=p at hq
  have e1:(d++nulls p).size=d.size+p:=by rw [ByteArray.size_append,nulls_size]
  have e2:(d++nulls p).extract 0 d.size=d:=ByteArray.extract_append_eq_left rfl
  generalize d++nulls p=t at hq e1 e2
  refine bnd hp (bnd hq (bnd (now _) (negN rfl ?_)))
  refine negD (by show ¬ ((t.size:Nat):Int)<((d.size:Nat):Int);omega) (pos ⟨by omega,by omega,by show ((d.size:Nat):Int)≤((t.size:Nat):Int);omega⟩ (strN ?_ ?_))
  ·show t.extract 0 ((d.size:Nat):Int).toNat=d
   rw [Int.toNat_natCast];exact e2
  ·exact (ib_l3 hi hs hi2 ho (by rw [List.length_map]) hn h1 0 (by omega)).e2
 ·intro k hk ih
  have hv:=(vsm hsm hk).1
  have hlen:((s.Versions.take k).map zeroV++s.Versions.drop k).length=s.Versions.length:=by simp;omega
  have hat:((s.Versions.take k).map zeroV++s.Versions.drop k).getD k default=vAt s k:=by
   rw [List.getD_eq_getElem?_getD,List.getElem?_append_right (by simp;omega)]
   simp only [List.length_map,List.length_take,List.getElem?_drop]
   rw [show k+(k-min k s.Versions.length)=k by omega,← List.getD_eq_getElem?_getD]
  refine step2 (fun _ _ _ _ _=>Ah.l2.eq_2 ..) ?_
  rw [hlen,nthN,hat,w1 (by omega),Int.toNat_natCast]
  refine posD (by omega) (pos (by omega) (bnd (congr (fun K _ _ _ _=>zerosB K _ (by omega)) (now _)) (pos (by omega) ?_)))
  have e:((s.Versions.take k).map zeroV++s.Versions.drop k).set k (zeroV (vAt s k))=(s.Versions.take (k+1)).map zeroV++s.Versions.drop (k+1):=by
   rw [drop_getD (d:=default) hk,take_getD (d:=default) hk,List.map_append,List.append_assoc,List.set_append_right _ _ (by simp;omega)]
   simp only [List.length_map,List.length_take]
   rw [show k-min k s.Versions.length=0 by omega];rfl
  have ih2:=ih
  rw [← e] at ih2
  exact ih2
theorem ib_l1 (hs:∀ s∈x.S,SSm s):∀ i:Nat,i≤4→E1 (fun K a=>Ah.l1 K x a (i:Int)) true:=by
 refine upto ?_ ?_
 ·refine step1 (fun _ _ _ _ _=>Ah.l1.eq_2 ..) ?_
  by_cases c:4<x.S.length
  ·exact posD (by omega) (negD (by omega) (bnd wakes18E (now _)))
  ·exact negD (by omega) (bnd wakes18E (now _))
 ·intro i hi ih
  refine step1 (fun _ _ _ _ _=>Ah.l1.eq_2 ..) ?_
  by_cases c:i<x.S.length
  case neg=>exact negD (by omega) (bnd wakes18E (now _))
  have hsm:=hs _ (getD_mem (d:=default) c)
  refine posD (by omega) (posD (by omega) (pos (by omega) ?_))
  rw [show nth x.S (i:Int)=x.S.getD i default from nthN _ _]
  generalize hst:x.S.getD i default=s at hsm
  obtain ⟨b1,b2⟩:=bytes_ev hsm
  by_cases m:StateP s
  ·obtain ⟨i1,i2⟩:=spt_img m.1.1 m.2
   have ho:=m.1.1.2.2.2
   have hn:s.Versions.length≤12:=by have:=ho.1;rwa [objsP_len] at this
   have hz:(sptP s).size≤1000:=by
    show (sptN _).size≤_
    rw [sptN_size];unfold numsS
    rw [List.length_append,nums6_len];show 4+4*(3+_)≤_;omega
   have t:=(takeI (sptP s) (by omega)).1 i1
   have he:E0 (fun K=>Dl K (bareS s) ((s.Keep,s.Blocks,s.Versions.map zeroV,noS):Ai)) true:=by
    rw [zero_bare ho]
    exact ofEq (eqS_ev (bareS s) (bareS s) (bareS_sm hsm ho) rfl) (decide_eq_true rfl)
   rw [i2] at t
   have b1:=b1 m
   generalize sptP s=d at b1 t hz
   generalize bareS s=S0 at t he
   refine bnd b1 (bnd (now _) (negN rfl (bnd t (pos (by omega) (bnd (copyS_ev hsm) ?_)))))
   exact (ib_l2 (go1:=fun K a=>Ah.l1 K x a) hz he c hst (by omega) hsm m.1.1 ih 0 (by omega)).e2
  ·refine bnd (b2 m) (bnd (now _) (posN (by decide) ?_))
   rw [w1 (by omega)];exact ih
theorem imageBack_pure (x:C8) (h:Fit14 x):∃ K,Ah K x=some true:=by
 obtain ⟨b,b1,b2⟩:=heavy14_ev x h
 refine Ev.get (g:=fun K=>Ah K x) (bnd b1 ?_)
 cases b with
 | true=>exact pos rfl (now _)
 | false=>exact negB rfl (ib_l1 (b2 rfl).2 0 (by omega)).e1
end Go.XL
end
end
section
section
namespace Go.XL
open Go.XM
theorem le64 {n c:Nat} (h:n*c≤140737488351232) (hc:64≤c):n≤2199023255488:=by
 have:=Nat.mul_le_mul_left n hc;omega
theorem wf64 {x:Int} (h:(Lit.int .i64 x).wf=true):-9223372036854775808≤x∧x≤9223372036854775807:=by
 have h:(decide (-9223372036854775808≤x) && decide (x≤9223372036854775807))=true:=h
 simpa using h
end Go.XL
end
end
