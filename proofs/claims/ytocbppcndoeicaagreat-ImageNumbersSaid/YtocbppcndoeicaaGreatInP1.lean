import Derived.Test.YtocbppcndoeicaaGreatInP0
import Derived.Laws.BitsLemmas
import Derived.Lib.Strings
import Derived.Lib.TrimByte
set_option linter.all false
section
section
namespace Go.XL
open Go.XM
theorem oweight_ev (bs:List Am) (hl:bs.length≤17592186044416) (hx:∀ b∈bs,b.Data.Data.size≤140737488351232) :
  ∃ r:Int,E0 (fun K=>Bn K bs) r∧0≤r∧r≤52776558133248∧(r<1048576→(bs.length:Int)≤r∧∀ b∈bs,(b.Data.Data.size:Int)≤4*r+3):=by
 have key:∀ i,i≤bs.length→∀ s:Int,0≤s→s≤40000000000000→∃ r:Int,E1 (fun K k=>Bn.l1 K bs k s (i:Int)) r∧0≤r∧r≤52776558133248∧s≤r∧(r<1048576→∀ b∈bs.drop i,(b.Data.Data.size:Int)≤4*r+3):=by
  refine upto ?_ ?_
  ·intro s h0 h1
   refine ⟨s,?_,h0,by omega,by omega,fun _=>by simp⟩
   refine step1 (fun _ _ _ _ _=>Bn.l1.eq_2 ..) ?_
   exact negD (by omega) (now s)
  ·intro i hi ih s h0 h1
   by_cases hs:s<1048576
   ·have hb:=hx _ (getD_mem (d:=default) hi)
    have e4:(((bs.getD i default).Data.Data.size:Nat):Int).tdiv 4=(((bs.getD i default).Data.Data.size / 4:Nat):Int):=Int.ofNat_tdiv _ 4 |>.symm
    obtain ⟨r,h,a,b,l,c⟩:=ih (s+(((bs.getD i default).Data.Data.size / 4:Nat):Int)) (by omega) (by omega)
    refine ⟨r,?_,a,b,by omega,fun hr=>?_⟩
    ·refine step1 (fun _ _ _ _ _=>Bn.l1.eq_2 ..) ?_
     refine posD (by omega) (posD hs (pos (by omega) (pos (by decide) ?_)))
     rw [nthN,e4,w64 (i:=(((bs.getD i default).Data.Data.size / 4:Nat):Int)) (by omega) (by omega),w64 (by omega) (by omega),w1 (by omega)]
     exact h
    ·rw [drop_getD (d:=default) hi]
     intro g hg'
     rcases List.mem_cons.1 hg' with rfl | hg'
     ·omega
     ·exact c hr g hg'
   ·refine ⟨s,?_,h0,by omega,by omega,fun h=>by omega⟩
    refine step1 (fun _ _ _ _ _=>Bn.l1.eq_2 ..) ?_
    exact posD (by omega) (negD hs (now s))
 obtain ⟨r,h,a,b,l,c⟩:=key 0 (by omega) bs.length (by omega) (by omega)
 exact ⟨r,h.e1,a,b,fun hr=>⟨l,by simpa using c hr⟩⟩
def ObSm (l:List Am):Prop:=l.length≤1000∧∀ o∈l,o.Data.Data.size≤1000000
theorem heavy9_ev (x:Em) (h1:x.L.length≤17592186044416) (h2:∀ l∈x.L,l.length≤17592186044416∧∀ o∈l,o.Data.Data.size≤140737488351232) (h3:x.N.length≤17592186044416)
  (hl:x.G.G.length≤17592186044416) (hx:∀ g∈x.G.G,Gfit g) (ha:x.G.A.length≤17592186044416) :
  ∃ b:Bool,E0 (fun K=>Bz K x) b∧(b=false→x.L.length≤1000∧x.N.length≤1000∧(∀ l∈x.L,ObSm l)∧∀ g∈x.G.G,wt g≤1200):=by
 obtain ⟨b6,e6,g6⟩:=heavy6_ev x.G hl hx ha
 have fin:∀ {s:Int},∃ b:Bool,Ev (fun K _ _ _ _=>if decide (s > 700) then some true else (Es K x.G).bind fun r36=>some r36) b∧(b=false→s≤700∧b6=false):=by
  intro s
  by_cases c:s > 700
  ·exact ⟨true,posD c (now _),fun h=>by cases h⟩
  ·exact ⟨b6,negD c (bnd e6 (now _)),fun h=>⟨by omega,h⟩⟩
 have key:∀ i,i≤x.L.length→∀ s:Int,0≤s→s≤40000000000000→∃ b:Bool,E1 (fun K k=>Bz.l1 K x k s (i:Int)) b∧(b=false→s≤700∧b6=false∧∀ l∈x.L.drop i,ObSm l):=by
  refine upto ?_ ?_
  ·intro s h0 h1
   obtain ⟨b,q1,q2⟩:=fin (s:=s)
   refine ⟨b,?_,fun h=>⟨(q2 h).1,(q2 h).2,by simp⟩⟩
   refine step1 (fun _ _ _ _ _=>Bz.l1.eq_2 ..) ?_
   exact negD (by omega) q1
  ·intro i hi ih s h0 hs1
   by_cases hs:s<1048576
   ·have hb:=h2 _ (getD_mem (d:=default) hi)
    obtain ⟨r,w1',w2,w3,w4⟩:=oweight_ev (x.L.getD i default) hb.1 hb.2
    by_cases hr:s+r≤40000000000000
    ·obtain ⟨b,q1,q2⟩:=ih (s+r) (by omega) hr
     refine ⟨b,?_,fun h=>?_⟩
     ·refine step1 (fun _ _ _ _ _=>Bz.l1.eq_2 ..) ?_
      refine posD (by omega) (posD hs (pos (by omega) ?_))
      rw [nthN]
      refine bnd w1' ?_
      rw [w64 (by omega) (by omega),w1 (by omega)]
      exact q1
     ·obtain ⟨p1,p2,p3⟩:=q2 h
      obtain ⟨p4,p5⟩:=w4 (by omega)
      refine ⟨by omega,p2,fun l hl=>?_⟩
      rw [drop_getD (d:=default) hi] at hl
      rcases List.mem_cons.1 hl with rfl | hl
      ·exact ⟨by omega,fun o ho=>by have:=p5 o ho;omega⟩
      ·exact p3 l hl
    ·-- the next round says: too heavy
     have big:E1 (fun K k=>Bz.l1 K x k (s+r) ((i+1:Nat):Int)) true:=by
      refine step1 (fun _ _ _ _ _=>Bz.l1.eq_2 ..) ?_
      by_cases c:i+1<x.L.length
      ·exact posD (by omega) (negD (by omega) (posD (by omega) (now _)))
      ·exact negD (by omega) (posD (by omega) (now _))
     refine ⟨true,?_,fun h=>by cases h⟩
     refine step1 (fun _ _ _ _ _=>Bz.l1.eq_2 ..) ?_
     refine posD (by omega) (posD hs (pos (by omega) ?_))
     rw [nthN]
     refine bnd w1' ?_
     rw [w64 (by omega) (by omega),w1 (by omega)]
     exact big
   ·refine ⟨true,?_,fun h=>by cases h⟩
    refine step1 (fun _ _ _ _ _=>Bz.l1.eq_2 ..) ?_
    exact posD (by omega) (negD hs (posD (by omega) (now _)))
 have hst:wr .i64 (((x.N.length:Nat):Int)+((x.L.length:Nat):Int))=(x.N.length:Int)+(x.L.length:Int):=w64 (by omega) (by omega)
 obtain ⟨b,q1,q2⟩:=key 0 (by omega) ((x.N.length:Int)+(x.L.length:Int)) (by omega) (by omega)
 refine ⟨b,?_,fun h=>?_⟩
 ·unfold Bz
  rw [hst];exact q1.e1
 ·obtain ⟨p1,p2,p3⟩:=q2 h
  exact ⟨by omega,by omega,by simpa using p3,(g6 p2).2.2⟩
end Go.XL
end
end
section
section
namespace Go.XL
open Go.XM
instance (xs:List Int) (i:Nat):Decidable (OkAt xs i):=by unfold OkAt;infer_instance
instance (xs:List Int):Decidable (MayP xs):=by unfold MayP;infer_instance
instance (g:Ac):Decidable (GSm g):=by unfold GSm;infer_instance
instance (n:Int) (xs:List Int):Decidable (RowP n xs):=by unfold RowP;infer_instance
instance (g:Ac):Decidable (GraphP g):=by unfold GraphP;infer_instance
end Go.XL
end
end
section
section
namespace Go.XL
open Go.XM
theorem MayP.mono {xs:List Int} (h:MayP xs):∀ d j:Nat,j+d<xs.length→xs.getD j 0+d≤xs.getD (j+d) 0:=by
 intro d
 induction d with
 | zero=>intro j hj;simp
 | succ d ih =>
  intro j hj
  have h1:=ih j (by omega)
  have h2:=(h (j+(d+1)) hj).2.2 (by omega)
  rw [show j+(d+1)-1=j+d by omega] at h2
  omega
theorem RowP.mem {n:Int} {xs:List Int} (h:RowP n xs) {v:Int} (hv:v∈xs):0≤v∧v<n:=by
 obtain ⟨j,hj,rfl⟩:=List.mem_iff_getElem.1 hv
 rw [← getD_lt (d:=0) hj]
 have h0:=h.1.mono (xs.length-1-j) j (by omega)
 have h1:=h.2 (by omega)
 rw [show j+(xs.length-1-j)=xs.length-1 by omega] at h0
 exact ⟨(h.1 j hj).1,by omega⟩
structure Good (N:Nat) (out:List (List Int)):Prop where
 le:N≤16
 len:out.length=N
 row:∀ i,i<N→∀ v∈out.getD i [],0≤v∧v<N
 may:∀ i,i<N→MayP (out.getD i [])
 sum:lsum out≤120
theorem GraphP.good {g:Ac} (h:GraphP g):g.N=(g.N.toNat:Int)∧Good g.N.toNat g.Out:=by
 obtain ⟨h0,h1,h2,h3,h4⟩:=h
 have e:g.N=(g.N.toNat:Int):=by omega
 refine ⟨e,⟨by omega,by omega,fun i hi v hv=>?_,fun i hi=>(h3 i (by omega)).1,h4⟩⟩
 have:=(h3 i (by omega)).mem hv
 omega
theorem Good.rlen {N:Nat} {out:List (List Int)} (h:Good N out) (i:Nat):(out.getD i []).length≤16:=by
 by_cases hi:i<N
 ·exact (h.may i hi).len
 ·have:=h.len;simp [List.getD_eq_getElem?_getD,List.getElem?_eq_none (show out.length≤i by omega)]
theorem Good.at {N:Nat} {out:List (List Int)} (h:Good N out) {i j:Nat} (hi:i<N) (hj:j<(out.getD i []).length):0≤(out.getD i []).getD j 0∧(out.getD i []).getD j 0<N:=h.row i hi _ (getD_mem hj)
def prs:Nat→List (List Int)→List api_Pair
 | _,[]=>[]
 | i,r::rs=>r.map (fun v=>((i,v):api_Pair))++prs (i+1) rs
theorem prs_length:∀ (i:Nat) (xs:List (List Int)),(prs i xs).length=lsum xs
 | _,[]=>rfl
 | i,r::rs=>by rw [prs,List.length_append,List.length_map,prs_length (i+1) rs,lsum_cons]
def pad (c:List Int) (l:Nat):List Int:=c++List.replicate (l+1-c.length) 0
def cstep (c:List Int) (r:List Int):List Int:=(pad c r.length).set r.length (wr .i64 ((pad c r.length).getD r.length 0+1))
theorem pad_length (c:List Int) (l:Nat):(pad c l).length=max c.length (l+1):=by unfold pad;simp;omega
theorem cstep_length (c r:List Int):(cstep c r).length=max c.length (r.length+1):=by unfold cstep;rw [List.length_set,pad_length]
def flat (ps:List api_Pair):List Int:=ps.flatMap fun p=>[p.A,p.B]
theorem flat_length (ps:List api_Pair):(flat ps).length=2*ps.length:=by
 unfold flat
 induction ps with
 | nil=>rfl
 | cons p ps ih=>rw [List.flatMap_cons,List.length_append,ih];simp;omega
end Go.XL
end
end
section
section
namespace Go.XL
open Go.XM
theorem nodup_le:∀ (xs ys:List Int),xs.Nodup→(∀ x∈xs,x∈ys)→xs.length≤ys.length
 | [],_,_,_=>Nat.zero_le _
 | x::xs,ys,hn,hs=>by
  have hx:=hs x (by simp)
  obtain ⟨h1,h2⟩:=List.nodup_cons.1 hn
  have:=nodup_le xs (ys.erase x) h2 (fun y hy=>(List.mem_erase_of_ne (fun e=>h1 (by rw [← e];exact hy))).2 (hs y (by simp [hy])))
  rw [List.length_erase_of_mem hx] at this
  have:=List.length_pos_of_mem hx
  simp only [List.length_cons]
  omega
def Edge (out:List (List Int)) (u w:Nat):Prop:=(w:Int)∈out.getD u []
theorem edge_of {N:Nat} {out:List (List Int)} (h:Good N out) {u j:Nat} (hu:u<N) (hj:j<(out.getD u []).length):Edge out u ((out.getD u []).getD j 0).toNat∧((out.getD u []).getD j 0).toNat<N∧(((out.getD u []).getD j 0).toNat:Int)=(out.getD u []).getD j 0:=by
 have:=h.at hu hj
 have e:(((out.getD u []).getD j 0).toNat:Int)=(out.getD u []).getD j 0:=by omega
 exact ⟨by unfold Edge;rw [e];exact getD_mem hj,by omega,e⟩
theorem edge_at {out:List (List Int)} {u w:Nat} (h:Edge out u w):∃ j,j<(out.getD u []).length∧(out.getD u []).getD j 0=(w:Int):=by
 obtain ⟨j,hj,e⟩:=List.mem_iff_getElem.1 h
 exact ⟨j,hj,by rw [getD_lt hj,e]⟩
structure Half (N:Nat) (out:List (List Int)) (a:Nat) (d:List Int):Prop where
 len:d.length=N
 src:d.getD a 0=0
 zero:∀ v,v<N→d.getD v 0=0→v=a
 low:∀ v,v<N→-1≤d.getD v 0
 pred:∀ v,v<N→0<d.getD v 0→∃ u,u<N∧Edge out u v∧d.getD u 0=d.getD v 0-1
theorem Half.init {N:Nat} {out:List (List Int)} {a:Nat} (ha:a<N):Half N out a ((List.replicate N (-1)).set a 0):=by
 have hg:∀ v,v<N→((List.replicate N (-1:Int)).set a 0).getD v 0=if v=a then 0 else -1:=fun v hv=>by
  rw [getD_set _ _ _ _ (by simpa using ha)]
  split
  ·rfl
  ·simp [List.getD_eq_getElem?_getD,List.getElem?_replicate,hv]
 refine ⟨by simp,by rw [hg a ha];simp,fun v hv h=>?_,fun v hv=>?_,fun v hv h=>?_⟩
 ·rw [hg v hv] at h
  split at h
  ·assumption
  ·omega
 ·rw [hg v hv];split <;> omega
 ·rw [hg v hv] at h
  split at h <;> omega
theorem Half.put {N:Nat} {out:List (List Int)} {a:Nat} {d:List Int} (h:Half N out a d) {u w:Nat} (hu:u<N) (hw:w<N) (he:Edge out u w) (h0:0≤d.getD u 0) (h1:d.getD w 0<0):Half N out a (d.set w (d.getD u 0+1)):=by
 have hl:=h.len
 have hs:=h.src
 have hg:∀ v,(d.set w (d.getD u 0+1)).getD v 0=if v=w then d.getD u 0+1 else d.getD v 0:=fun v=>getD_set _ _ _ _ (by omega)
 refine ⟨by simpa using hl,?_,fun v hv hz=>?_,fun v hv=>?_,fun v hv hp=>?_⟩
 ·rw [hg]
  split
  ·rename_i e;rw [e] at hs;omega
  ·exact hs
 ·rw [hg] at hz
  split at hz
  ·omega
  ·exact h.zero v hv hz
 ·rw [hg]
  have:=h.low v hv
  split <;> omega
 ·rw [hg] at hp
  split at hp
  ·rename_i e
   refine ⟨u,hu,by rw [e];exact he,?_⟩
   rw [hg,hg,if_pos e,if_neg (by intro e2;rw [e2] at h0;omega)]
   omega
  ·rename_i e
   obtain ⟨p,hp1,hp2,hp3⟩:=h.pred v hv hp
   refine ⟨p,hp1,hp2,?_⟩
   rw [hg,hg,if_neg e,if_neg (by intro e2;rw [e2] at hp3;omega)]
   exact hp3
theorem Half.lt {N:Nat} {out:List (List Int)} {a:Nat} {d:List Int} (h:Half N out a d) {v:Nat} (hv:v<N):d.getD v 0<N:=by
 have key:∀ s:Nat,∀ v,v<N→d.getD v 0=s→∀ t:Nat,t≤s→∃ u,u<N∧d.getD u 0=t:=by
  intro s
  induction s with
  | zero=>intro v hv hs t ht;exact ⟨v,hv,by rw [hs];omega⟩
  | succ s ih =>
   intro v hv hs t ht
   by_cases e:t=s+1
   ·exact ⟨v,hv,by rw [hs,e]⟩
   ·obtain ⟨u,hu,_,h3⟩:=h.pred v hv (by omega)
    exact ih u hu (by omega) t (by omega)
 by_cases h0:d.getD v 0<0
 ·omega
 ·have hk:=key (d.getD v 0).toNat v hv (by omega)
  have:=nodup_le ((List.range ((d.getD v 0).toNat+1)).map fun (t:Nat)=>(t:Int)) d ?_ ?_
  ·simp only [List.length_map,List.length_range] at this
   have:=h.len
   omega
  ·refine List.Pairwise.map _ (fun x y (hxy:x≠y)=>?_) List.nodup_range
   omega
  ·intro x hx
   obtain ⟨t,ht,rfl⟩:=List.mem_map.1 hx
   obtain ⟨u,hu,e⟩:=hk t (by have:=List.mem_range.1 ht;omega)
   rw [← e]
   exact getD_mem (by have:=h.len;omega)
structure Dist (N:Nat) (out:List (List Int)) (a:Nat) (d:List Int):Prop where
 half:Half N out a d
 edge:∀ u w,u<N→w<N→Edge out u w→0≤d.getD u 0→0≤d.getD w 0∧d.getD w 0≤d.getD u 0+1
theorem Dist.below {N:Nat} {out:List (List Int)} {a:Nat} {d d':List Int} (h:Dist N out a d) (h':Dist N out a d'):∀ s:Nat,∀ v,v<N→d.getD v 0=s→0≤d'.getD v 0∧d'.getD v 0≤d.getD v 0:=by
 intro s
 induction s with
 | zero =>
  intro v hv hs
  obtain rfl:=h.half.zero v hv (by simpa using hs)
  rw [h'.half.src,h.half.src];omega
 | succ s ih =>
  intro v hv hs
  obtain ⟨u,hu,he,h3⟩:=h.half.pred v hv (by omega)
  have h4:=ih u hu (by omega)
  have h5:=h'.edge u v hu hv he h4.1
  omega
theorem Dist.uniq {N:Nat} {out:List (List Int)} {a:Nat} {d d':List Int} (h:Dist N out a d) (h':Dist N out a d'):d=d':=by
 have l:=h.half.len
 have l':=h'.half.len
 refine ext_getD (by omega) fun v hv=>?_
 have hv:v<N:=by omega
 have a1:=h.half.low v hv
 have a2:=h'.half.low v hv
 by_cases h0:0≤d.getD v 0
 ·have:=h.below h' (d.getD v 0).toNat v hv (by omega)
  have:=h'.below h (d'.getD v 0).toNat v hv (by omega)
  omega
 ·by_cases h1:0≤d'.getD v 0
  ·have:=h'.below h (d'.getD v 0).toNat v hv (by omega)
   omega
  ·omega
structure Lev (N:Nat) (out:List (List Int)) (a t:Nat) (d:List Int):Prop where
 half:Half N out a d
 cap:∀ v,v<N→d.getD v 0≤t
 clos:∀ u w,u<N→w<N→Edge out u w→0≤d.getD u 0→d.getD u 0<t→0≤d.getD w 0∧d.getD w 0≤d.getD u 0+1
structure Lin (N:Nat) (out:List (List Int)) (a t u0 j0:Nat) (d:List Int):Prop where
 half:Half N out a d
 cap:∀ v,v<N→d.getD v 0≤t+1
 clos:∀ u w,u<N→w<N→Edge out u w→0≤d.getD u 0→d.getD u 0<t→0≤d.getD w 0∧d.getD w 0≤d.getD u 0+1
 fin:∀ u w,u<u0→u<N→w<N→Edge out u w→d.getD u 0=t→0≤d.getD w 0
 part:∀ j,j<j0→j<(out.getD u0 []).length→d.getD u0 0=t→0≤d.getD ((out.getD u0 []).getD j 0).toNat 0
theorem Lin.put {N:Nat} {out:List (List Int)} {a t u0 j0:Nat} {d:List Int} (hg:Good N out) (h:Lin N out a t u0 j0 d) (hu:u0<N) (hj:j0<(out.getD u0 []).length) (ht:d.getD u0 0=t) (hw:d.getD ((out.getD u0 []).getD j0 0).toNat 0<0) :
  Lin N out a t u0 (j0+1) (d.set ((out.getD u0 []).getD j0 0).toNat ((t:Int)+1)):=by
 obtain ⟨he,hwN,hwe⟩:=edge_of hg hu hj
 have hl:=h.half.len
 generalize ((out.getD u0 []).getD j0 0).toNat=w at *
 have hG:∀ v,(d.set w ((t:Int)+1)).getD v 0=if v=w then (t:Int)+1 else d.getD v 0:=fun v=>getD_set _ _ _ _ (by omega)
 refine ⟨by have:=h.half.put hu hwN he (by omega) hw;rwa [ht] at this,fun v hv=>?_,fun u x hu' hx hE h0 h1=>?_,fun u x h1 h2 h3 hE h4=>?_,fun j hj1 hj2 h4=>?_⟩
 ·rw [hG];have:=h.cap v hv;split <;> omega
 ·rw [hG] at h0 h1 ⊢
  rw [hG u]
  by_cases e:u=w
  ·rw [if_pos e] at h1;omega
  ·rw [if_neg e] at h0 h1 ⊢
   have:=h.clos u x hu' hx hE h0 h1
   by_cases e2:x=w
   ·rw [e2] at this;omega
   ·rw [if_neg e2];exact this
 ·rw [hG] at h4 ⊢
  by_cases e:u=w
  ·rw [if_pos e] at h4;omega
  ·rw [if_neg e] at h4
   have:=h.fin u x h1 h2 h3 hE h4
   split <;> omega
 ·rw [hG]
  split
  ·omega
  ·rename_i e
   by_cases e2:j=j0
   ·subst e2;omega
   ·exact h.part j (by omega) hj2 ht
theorem Lin.keep {N:Nat} {out:List (List Int)} {a t u0 j0:Nat} {d:List Int} (h:Lin N out a t u0 j0 d) (hw:0≤d.getD ((out.getD u0 []).getD j0 0).toNat 0):Lin N out a t u0 (j0+1) d :=
 ⟨h.half,h.cap,h.clos,h.fin,fun j h1 h2 h3=>by
  by_cases e:j=j0
  ·subst e;exact hw
  ·exact h.part j (by omega) h2 h3⟩
theorem Lin.next {N:Nat} {out:List (List Int)} {a t u0 j0:Nat} {d:List Int} (hg:Good N out) (h:Lin N out a t u0 j0 d) (hu:u0<N) (hd:d.getD u0 0=t→(out.getD u0 []).length≤j0):Lin N out a t (u0+1) 0 d :=
 ⟨h.half,h.cap,h.clos,fun u w h1 h2 h3 hE h4=>by
  by_cases e:u=u0
  ·subst e
   obtain ⟨j,hj,ej⟩:=edge_at hE
   have:=h.part j (by have:=hd h4;omega) hj h4
   rwa [ej,Int.toNat_natCast] at this
  ·exact h.fin u w (by omega) h2 h3 hE h4,fun j h1=>by omega⟩
def unv:List Int→Nat
 | []=>0
 | x::xs=>(if x<0 then 1 else 0)+unv xs
theorem unv_set:∀ (d:List Int) (w:Nat) (v:Int),w<d.length→d.getD w 0<0→0≤v→unv (d.set w v)+1=unv d
 | [],w,v,h,_,_=>by simp at h
 | x::d,0,v,_,h1,h2=>by
  have h1:x<0:=by simpa using h1
  simp only [List.set_cons_zero,unv]
  rw [if_neg (by omega),if_pos h1];omega
 | x::d,w+1,v,h,h1,h2=>by
  have:=unv_set d w v (by simpa using h) (by simpa using h1) h2
  simp only [List.set_cons_succ,unv]
  omega
theorem unv_le:∀ d:List Int,unv d≤d.length
 | []=>Nat.le_refl _
 | x::d=>by
  have:=unv_le d
  simp only [unv,List.length_cons]
  split <;> omega
structure Bfs (N:Nat) (out:List (List Int)) (a:Nat) (d q:List Int):Prop where
 half:Half N out a d
 qin:∀ x∈q,0≤x∧x<N∧0≤d.getD x.toNat 0
 clos:∀ u,u<N→0≤d.getD u 0→(u:Int) ∉ q→∀ w,w<N→Edge out u w→0≤d.getD w 0∧d.getD w 0≤d.getD u 0+1
 cap:∀ x∈q,∀ v,v<N→d.getD v 0≤d.getD x.toNat 0+1
 srt:q.Pairwise fun x y=>d.getD x.toNat 0≤d.getD y.toNat 0
structure Bin (N:Nat) (out:List (List Int)) (a x j0:Nat) (d q:List Int):Prop where
 half:Half N out a d
 qin:∀ x∈q,0≤x∧x<N∧0≤d.getD x.toNat 0
 vis:0≤d.getD x 0
 clos:∀ u,u<N→0≤d.getD u 0→(u:Int) ∉ q→u≠x→∀ w,w<N→Edge out u w→0≤d.getD w 0∧d.getD w 0≤d.getD u 0+1
 part:∀ j,j<j0→j<(out.getD x []).length→0≤d.getD ((out.getD x []).getD j 0).toNat 0
 cap:∀ v,v<N→d.getD v 0≤d.getD x 0+1
 low:∀ y∈q,d.getD x 0≤d.getD y.toNat 0
 srt:q.Pairwise fun x y=>d.getD x.toNat 0≤d.getD y.toNat 0
theorem Bin.put {N:Nat} {out:List (List Int)} {a x j0:Nat} {d q:List Int} (hg:Good N out) (h:Bin N out a x j0 d q) (hx:x<N) (hj:j0<(out.getD x []).length) (hw:d.getD ((out.getD x []).getD j0 0).toNat 0<0) :
  Bin N out a x (j0+1) (d.set ((out.getD x []).getD j0 0).toNat (d.getD x 0+1)) (q++[(out.getD x []).getD j0 0]):=by
 obtain ⟨he,hwN,hwe⟩:=edge_of hg hx hj
 have hl:=h.half.len
 have hpt:=h.part
 generalize hwd:((out.getD x []).getD j0 0).toNat=w at *
 rw [← hwe]
 have hG:∀ v,(d.set w (d.getD x 0+1)).getD v 0=if v=w then d.getD x 0+1 else d.getD v 0:=fun v=>getD_set _ _ _ _ (by omega)
 have hv:=h.vis
 have hxw:x≠w:=fun e=>by rw [← e] at hw;omega
 have hGx:(d.set w (d.getD x 0+1)).getD x 0=d.getD x 0:=by rw [hG,if_neg hxw]
 have hq:∀ y∈q,(d.set w (d.getD x 0+1)).getD y.toNat 0=d.getD y.toNat 0:=fun y hy=>by
  rw [hG,if_neg]
  intro e
  have:=(h.qin y hy).2.2
  rw [e] at this
  omega
 have hGw:(d.set w (d.getD x 0+1)).getD w 0=d.getD x 0+1:=by rw [hG,if_pos rfl]
 refine ⟨h.half.put hx hwN he hv hw,fun y hy=>?_,by rw [hGx];exact hv,fun u hu h0 hn hne v hvN hE=>?_,fun j hj1 hj2=>?_,fun v hvN=>?_,fun y hy=>?_,?_⟩
 ·rcases List.mem_append.1 hy with hy | hy
  ·rw [hq y hy];exact h.qin y hy
  ·obtain rfl:=List.mem_singleton.1 hy
   rw [Int.toNat_natCast,hGw];omega
 ·have hn1:(u:Int) ∉ q:=fun m=>hn (List.mem_append.2 (.inl m))
  have hn2:u≠w:=fun e=>hn (List.mem_append.2 (.inr (by simp [e])))
  rw [hG,if_neg hn2] at h0
  have:=h.clos u hu h0 hn1 hne v hvN hE
  rw [hG,hG u,if_neg hn2]
  by_cases e:v=w
  ·rw [e] at this;omega
  ·rw [if_neg e];exact this
 ·rw [hG]
  split
  ·omega
  ·rename_i e
   by_cases e2:j=j0
   ·subst e2;omega
   ·exact hpt j (by omega) hj2
 ·rw [hG,hGx];have:=h.cap v hvN;split <;> omega
 ·rw [hGx]
  rcases List.mem_append.1 hy with hy | hy
  ·rw [hq y hy];exact h.low y hy
  ·obtain rfl:=List.mem_singleton.1 hy
   rw [Int.toNat_natCast,hGw];omega
 ·refine List.pairwise_append.2 ⟨?_,List.pairwise_singleton _ _,fun y hy z hz=>?_⟩
  ·refine h.srt.imp_of_mem fun {y z} hy hz hyz=>?_
   rw [hq y hy,hq z hz];exact hyz
  ·obtain rfl:=List.mem_singleton.1 hz
   rw [hq y hy,Int.toNat_natCast,hGw]
   exact h.cap _ (by have:=h.qin y hy;omega)
theorem Bin.keep {N:Nat} {out:List (List Int)} {a x j0:Nat} {d q:List Int} (h:Bin N out a x j0 d q) (hw:0≤d.getD ((out.getD x []).getD j0 0).toNat 0):Bin N out a x (j0+1) d q :=
 ⟨h.half,h.qin,h.vis,h.clos,fun j h1 h2=>by
  by_cases e:j=j0
  ·subst e;exact hw
  ·exact h.part j (by omega) h2,h.cap,h.low,h.srt⟩
theorem Bin.out {N:Nat} {out:List (List Int)} {a x j0:Nat} {d q:List Int} (h:Bin N out a x j0 d q) (hj:(out.getD x []).length≤j0):Bfs N out a d q :=
 ⟨h.half,h.qin,fun u hu h0 hn w hw hE=>by
  by_cases e:u=x
  ·subst e
   obtain ⟨j,hj1,ej⟩:=edge_at hE
   have:=h.part j (by omega) hj1
   rw [ej,Int.toNat_natCast] at this
   exact ⟨this,h.cap w hw⟩
  ·exact h.clos u hu h0 hn e w hw hE,fun y hy v hv=>by have:=h.cap v hv;have:=h.low y hy;omega,h.srt⟩
end Go.XL
end
end
section
section
namespace Go.XL
open Go.XM
def mn (a b:Int):Int:=if b<a then b else a
def Conn (N:Nat) (out:List (List Int)) (u v:Nat):Prop:=∀ f:Nat→Int,(∀ a b,a<N→b<N→Edge out a b→f a=f b)→f u=f v
theorem Conn.rfl' {N:Nat} {out:List (List Int)} (u:Nat):Conn N out u u:=fun _ _=>rfl
theorem Conn.symm {N:Nat} {out:List (List Int)} {u v:Nat} (h:Conn N out u v):Conn N out v u:=fun f hf=>(h f hf).symm
theorem Conn.trans {N:Nat} {out:List (List Int)} {u v w:Nat} (h:Conn N out u v) (k:Conn N out v w):Conn N out u w:=fun f hf=>(h f hf).trans (k f hf)
theorem Conn.of {N:Nat} {out:List (List Int)} {u v:Nat} (hu:u<N) (hv:v<N) (h:Edge out u v):Conn N out u v:=fun f hf=>hf u v hu hv h
structure PHalf (N:Nat) (out:List (List Int)) (l:List Int):Prop where
 len:l.length=N
 num:∀ v,v<N→0≤l.getD v 0∧l.getD v 0≤v
 con:∀ v,v<N→Conn N out v (l.getD v 0).toNat
structure PartOf (N:Nat) (out:List (List Int)) (l:List Int):Prop where
 half:PHalf N out l
 edge:∀ u w,u<N→w<N→Edge out u w→l.getD u 0=l.getD w 0
theorem PartOf.le {N:Nat} {out:List (List Int)} {l l':List Int} (h:PartOf N out l) (h':PartOf N out l') {v:Nat} (hv:v<N):l'.getD v 0≤l.getD v 0:=by
 have h1:=h.half.num v hv
 have h2:l'.getD v 0=l'.getD (l.getD v 0).toNat 0:=h.half.con v hv (fun u=>l'.getD u 0) h'.edge
 have h3:=h'.half.num (l.getD v 0).toNat (by omega)
 omega
theorem PartOf.uniq {N:Nat} {out:List (List Int)} {l l':List Int} (h:PartOf N out l) (h':PartOf N out l'):l=l':=by
 have a:=h.half.len
 have b:=h'.half.len
 refine ext_getD (by omega) fun v hv=>?_
 have:=h.le h' (v:=v) (by omega)
 have:=h'.le h (v:=v) (by omega)
 omega
theorem PHalf.init {N:Nat} {out:List (List Int)} {l:List Int} (hl:l.length=N) (h:∀ j,j<N→l.getD j 0=j):PHalf N out l :=
 ⟨hl,fun v hv=>by rw [h v hv];omega,fun v hv=>by rw [h v hv,Int.toNat_natCast];exact Conn.rfl' v⟩
def Fin1 (N:Nat) (out:List (List Int)) (l:List Int) (v:Nat):Prop:=∀ u,u<N→Conn N out v u→l.getD v 0≤u
theorem Fin1.le {N:Nat} {out:List (List Int)} {l l':List Int} {v:Nat} (h:Fin1 N out l v) (k:l'.getD v 0≤l.getD v 0):Fin1 N out l' v:=fun u hu hc=>by have:=h u hu hc;omega
theorem fin_near {N:Nat} {out:List (List Int)} {l:List Int} (h:PHalf N out l):∀ n v,v<n→v<N→∃ u,u<N∧Conn N out v u∧Fin1 N out l u:=by
 intro n
 induction n with
 | zero=>intro v hv;omega
 | succ n ih =>
  intro v hv hN
  by_cases hf:Fin1 N out l v
  ·exact ⟨v,hN,Conn.rfl' v,hf⟩
  ·obtain ⟨u,hu⟩:=Classical.not_forall.1 hf
   obtain ⟨hu1,hu2⟩:=Classical.not_forall.1 hu
   obtain ⟨hu2,hu3⟩:=Classical.not_forall.1 hu2
   have:=h.num v hN
   obtain ⟨x,hx1,hx2,hx3⟩:=ih u (by omega) hu1
   exact ⟨x,hx1,hu2.trans hx2,hx3⟩
theorem fin_cross {N:Nat} {out:List (List Int)} {l:List Int} (h:PHalf N out l) {v:Nat} (hv:v<N) (hf:¬ Fin1 N out l v):∃ a b,a<N∧b<N∧Edge out a b∧((Fin1 N out l a∧¬ Fin1 N out l b)∨(¬ Fin1 N out l a∧Fin1 N out l b)):=by
 apply Classical.byContradiction
 intro hn
 obtain ⟨u,hu,hc,hfu⟩:=fin_near h (v+1) v (by omega) hv
 have:=hc (fun x=>@ite _ (Fin1 N out l x) (Classical.propDecidable _) 1 0) (fun a b ha hb he=>by
  by_cases h1:Fin1 N out l a <;> by_cases h2:Fin1 N out l b
  ·simp only [h1,h2]
  ·exact absurd ⟨a,b,ha,hb,he,.inl ⟨h1,h2⟩⟩ hn
  ·exact absurd ⟨a,b,ha,hb,he,.inr ⟨h1,h2⟩⟩ hn
  ·simp only [h1,h2])
 simp only [if_neg hf,if_pos hfu] at this
 omega
def Settled (N:Nat) (out:List (List Int)) (l:List Int) (t:Nat):Prop:=(∀ v,v<N→Fin1 N out l v)∨∃ xs:List Nat,xs.Nodup∧(∀ x∈xs,x<N∧Fin1 N out l x)∧t≤xs.length
theorem nodup_ltN {N:Nat} {xs:List Nat} (h:xs.Nodup) (hx:∀ x∈xs,x<N):xs.length≤N:=by
 have:=nodup_le (xs.map fun (x:Nat)=>(x:Int)) ((List.range N).map fun (x:Nat)=>(x:Int)) (List.Pairwise.map _ (fun x y (hxy:x≠y)=>by omega) h) (fun y hy=>by
  obtain ⟨x,hm,rfl⟩:=List.mem_map.1 hy
  exact List.mem_map.2 ⟨x,List.mem_range.2 (hx x hm),rfl⟩)
 simpa using this
theorem Settled.all {N:Nat} {out:List (List Int)} {l:List Int} (h:Settled N out l N):∀ v,v<N→Fin1 N out l v:=by
 rcases h with h | ⟨xs,h1,h2,h3⟩
 ·exact h
 ·intro v hv
  by_cases hm:v∈xs
  ·exact (h2 v hm).2
  ·have:=nodup_ltN (N:=N) (List.nodup_cons.2 ⟨hm,h1⟩) (fun x hx=>by
    rcases List.mem_cons.1 hx with rfl | hx
    ·exact hv
    ·exact (h2 x hx).1)
   simp only [List.length_cons] at this
   omega
theorem settled_part {N:Nat} {out:List (List Int)} {l:List Int} (h:PHalf N out l) (hs:∀ v,v<N→Fin1 N out l v):PartOf N out l:=by
 refine ⟨h,fun u w hu hw he=>?_⟩
 have hc:=Conn.of hu hw he
 have a:=h.num u hu
 have b:=h.num w hw
 have h1:=hs u hu (l.getD w 0).toNat (by omega) (hc.trans (h.con w hw))
 have h2:=hs w hw (l.getD u 0).toNat (by omega) (hc.symm.trans (h.con u hu))
 omega
structure Swp (N:Nat) (out:List (List Int)) (l0:List Int) (u0 j0:Nat) (l:List Int):Prop where
 half:PHalf N out l
 le:∀ v,v<N→l.getD v 0≤l0.getD v 0
 fin:∀ u w,u<u0→u<N→w<N→Edge out u w→(Fin1 N out l0 u∨Fin1 N out l0 w)→Fin1 N out l u∧Fin1 N out l w
 part:∀ j,j<j0→j<(out.getD u0 []).length→(Fin1 N out l0 u0∨Fin1 N out l0 ((out.getD u0 []).getD j 0).toNat)→Fin1 N out l u0∧Fin1 N out l ((out.getD u0 []).getD j 0).toNat
theorem mn_le (a b:Int):mn a b≤a∧mn a b≤b∧(mn a b=a∨mn a b=b):=by unfold mn;split <;> omega
theorem Swp.put {N:Nat} {out:List (List Int)} {l0:List Int} {u0 j0:Nat} {l:List Int} (hg:Good N out) (h:Swp N out l0 u0 j0 l) (hu:u0<N) (hj:j0<(out.getD u0 []).length) :
  Swp N out l0 u0 (j0+1) ((l.set u0 (mn (l.getD u0 0) (l.getD ((out.getD u0 []).getD j0 0).toNat 0))).set ((out.getD u0 []).getD j0 0).toNat (mn (l.getD u0 0) (l.getD ((out.getD u0 []).getD j0 0).toNat 0))):=by
 obtain ⟨he,hwN,hwe⟩:=edge_of hg hu hj
 have hl:=h.half.len
 have hpt:=h.part
 generalize hwd:((out.getD u0 []).getD j0 0).toNat=w at *
 obtain ⟨hm1,hm2,hm3⟩:=mn_le (l.getD u0 0) (l.getD w 0)
 generalize mn (l.getD u0 0) (l.getD w 0)=m at *
 have hG:∀ v,((l.set u0 m).set w m).getD v 0=if v=w∨v=u0 then m else l.getD v 0:=fun v=>by
  rw [getD_set _ _ _ _ (by rw [List.length_set];omega),getD_set _ _ _ _ (by omega)]
  by_cases e1:v=w
  ·simp [e1]
  ·by_cases e2:v=u0 <;> simp [e1,e2]
 have hle:∀ v,((l.set u0 m).set w m).getD v 0≤l.getD v 0:=fun v=>by
  rw [hG]
  split
  ·rename_i e;rcases e with rfl | rfl <;> assumption
  ·omega
 have hfu:∀ v,Fin1 N out l v→Fin1 N out ((l.set u0 m).set w m) v:=fun v hv=>hv.le (hle v)
 have hc:=Conn.of hu hwN he
 have hm:m=l.getD u0 0∨m=l.getD w 0:=hm3
 have a:=h.half.num u0 hu
 have b:=h.half.num w hwN
 have hmc:Conn N out u0 m.toNat:=by
  rcases hm with e | e
  ·rw [e];exact h.half.con u0 hu
  ·rw [e];exact hc.trans (h.half.con w hwN)
 refine ⟨⟨by simp [hl],fun v hv=>?_,fun v hv=>?_⟩,fun v hv=>Int.le_trans (hle v) (h.le v hv),fun u x h1 h2 h3 hE h4=>?_,fun j h1 h2 h4=>?_⟩
 ·have:=h.half.num v hv
  have:=hle v
  refine ⟨?_,by omega⟩
  rw [hG]
  split <;> omega
 ·rw [hG]
  split
  ·rename_i e
   rcases e with rfl | rfl
   ·exact hc.symm.trans hmc
   ·exact hmc
  ·exact h.half.con v hv
 ·obtain ⟨p,q⟩:=h.fin u x h1 h2 h3 hE h4
  exact ⟨hfu u p,hfu x q⟩
 ·by_cases e:j=j0
  ·subst e
   rw [hwd] at h4 ⊢
   have hG1:((l.set u0 m).set w m).getD u0 0=m:=by rw [hG];simp
   have hG2:((l.set u0 m).set w m).getD w 0=m:=by rw [hG];simp
   have hmin:∀ y,y<N→Conn N out u0 y→m≤y:=by
    intro y hy hcy
    rcases h4 with h4 | h4
    ·have:=h4 y hy hcy
     have:=h.le u0 hu
     omega
    ·have:=h4 y hy (hc.symm.trans hcy)
     have:=h.le w hwN
     omega
   exact ⟨fun y hy hcy=>by rw [hG1];exact hmin y hy hcy,fun y hy hcy=>by rw [hG2];exact hmin y hy (hc.trans hcy)⟩
  ·obtain ⟨p,q⟩:=hpt j (by omega) h2 h4
   exact ⟨hfu u0 p,hfu _ q⟩
theorem Swp.next {N:Nat} {out:List (List Int)} {l0:List Int} {u0 j0:Nat} {l:List Int} (h:Swp N out l0 u0 j0 l) (hj:(out.getD u0 []).length≤j0):Swp N out l0 (u0+1) 0 l :=
 ⟨h.half,h.le,fun u w h1 h2 h3 hE h4=>by
  by_cases e:u=u0
  ·subst e
   obtain ⟨j,hj1,ej⟩:=edge_at hE
   have:=h.part j (by omega) hj1
   rw [ej,Int.toNat_natCast] at this
   exact this h4
  ·exact h.fin u w (by omega) h2 h3 hE h4,fun j h1=>by omega⟩
theorem Swp.done {N:Nat} {out:List (List Int)} {l0 l:List Int} {t:Nat} (h0:PHalf N out l0) (hs:Settled N out l0 t) (h:Swp N out l0 N 0 l):Settled N out l (t+1):=by
 have hup:∀ v,v<N→Fin1 N out l0 v→Fin1 N out l v:=fun v hv hf=>hf.le (h.le v hv)
 rcases hs with hs | ⟨xs,h1,h2,h3⟩
 ·exact .inl fun v hv=>hup v hv (hs v hv)
 ·by_cases hall:∀ v,v<N→Fin1 N out l0 v
  ·exact .inl fun v hv=>hup v hv (hall v hv)
  ·obtain ⟨v,hv⟩:=Classical.not_forall.1 hall
   obtain ⟨hvN,hvf⟩:=Classical.not_forall.1 hv
   obtain ⟨a,b,ha,hb,hE,hab⟩:=fin_cross h0 hvN hvf
   obtain ⟨fa,fb⟩:=h.fin a b ha ha hb hE (hab.elim (fun x=>.inl x.1) (fun x=>.inr x.2))
   rcases hab with ⟨_,hnb⟩ | ⟨hna,_⟩
   ·exact .inr ⟨b::xs,List.nodup_cons.2 ⟨fun hm=>hnb (h2 b hm).2,h1⟩,fun x hx=>by
     rcases List.mem_cons.1 hx with rfl | hx
     ·exact ⟨hb,fb⟩
     ·exact ⟨(h2 x hx).1,hup x (h2 x hx).1 (h2 x hx).2⟩,by simp only [List.length_cons];omega⟩
   ·exact .inr ⟨a::xs,List.nodup_cons.2 ⟨fun hm=>hna (h2 a hm).2,h1⟩,fun x hx=>by
     rcases List.mem_cons.1 hx with rfl | hx
     ·exact ⟨ha,fa⟩
     ·exact ⟨(h2 x hx).1,hup x (h2 x hx).1 (h2 x hx).2⟩,by simp only [List.length_cons];omega⟩
end Go.XL
end
end
section
section
namespace Go.XL
open Go.XM
def JSm (j:Ai):Prop:=j.List_.length≤1000000∧j.Out.length≤1000000
theorem jeq (x y:Ai):x=y↔x.Kind=y.Kind∧x.A=y.A∧x.At=y.At∧x.Move=y.Move∧x.List_=y.List_∧x.Out=y.Out:=by
 obtain ⟨a,b,c,d,e,f⟩:=x
 obtain ⟨a',b',c',d',e',f'⟩:=y
 simp only [Prod.mk.injEq]
instance (x y:Ai):Decidable (x=y):=decidable_of_iff _ (jeq x y).symm
theorem posBE {α:Type} {p q:Bool} {f g:Nat→Nat→Nat→Nat→Nat→Option α} {r:α} (h:p=q) (k:Ev f r):Ev (fun x y z u v=>if (p == q)=true then f x y z u v else g x y z u v) r:=pos (by simp [h]) k
theorem negBE {α:Type} {p q:Bool} {f g:Nat→Nat→Nat→Nat→Nat→Option α} {r:α} (h:¬ p=q) (k:Ev g r):Ev (fun x y z u v=>if (p == q)=true then f x y z u v else g x y z u v) r:=neg (by simpa using h) k
theorem eqjob_ev (x y:Ai) (h:JSm x):E0 (fun K=>Cw K x y) (decide (x=y)):=by
 unfold Cw
 have no:∀ {q:Prop},(x=y→q)→¬ q→false=decide (x=y):=fun a b=>(decide_eq_false fun e=>b (a e)).symm
 by_cases h1:x.Kind=y.Kind
 ·refine posE h1 ?_
  by_cases h2:x.A=y.A
  ·refine posE h2 ?_
   by_cases h3:x.At=y.At
   ·refine posE h3 ?_
    by_cases h4:x.Move=y.Move
    ·refine posBE h4 (bnd (eqn_ev _ _ h.1) ?_)
     by_cases h5:x.List_=y.List_
     ·refine posD h5 (bnd (eqn_ev _ _ h.2) (nowE ?_))
      exact decide_eq_decide.2 ⟨fun h6=>(jeq x y).2 ⟨h1,h2,h3,h4,h5,h6⟩,fun e=>((jeq x y).1 e).2.2.2.2.2⟩
     ·exact negD h5 (nowE (no (fun e=>by rw [e]) h5))
    ·exact negBE h4 (nowE (no (fun e=>by rw [e]) h4))
   ·exact negE h3 (nowE (no (fun e=>by rw [e]) h3))
  ·exact negE h2 (nowE (no (fun e=>by rw [e]) h2))
 ·exact negE h1 (nowE (no (fun e=>by rw [e]) h1))
theorem jsame_ev (x y:Ai) (h:JSm x):E0 (fun K=>Hm K x y) (decide (x=y)):=by
 unfold Hm
 have no:∀ {q:Prop},(x=y→q)→¬ q→false=decide (x=y):=fun a b=>(decide_eq_false fun e=>b (a e)).symm
 by_cases h1:x.Kind=y.Kind
 ·refine posE h1 ?_
  by_cases h2:x.A=y.A
  ·refine posE h2 ?_
   by_cases h3:x.At=y.At
   ·refine posE h3 ?_
    by_cases h4:x.Move=y.Move
    ·refine posBE h4 (bnd (equal_ev _ _ h.1) ?_)
     by_cases h5:x.List_=y.List_
     ·refine posD h5 (bnd (equal_ev _ _ h.2) (nowE ?_))
      exact decide_eq_decide.2 ⟨fun h6=>(jeq x y).2 ⟨h1,h2,h3,h4,h5,h6⟩,fun e=>((jeq x y).1 e).2.2.2.2.2⟩
     ·exact negD h5 (nowE (no (fun e=>by rw [e]) h5))
    ·exact negBE h4 (nowE (no (fun e=>by rw [e]) h4))
   ·exact negE h3 (nowE (no (fun e=>by rw [e]) h3))
  ·exact negE h2 (nowE (no (fun e=>by rw [e]) h2))
 ·exact negE h1 (nowE (no (fun e=>by rw [e]) h1))
theorem copyjob_ev (j:Ai) (h:JSm j):E0 (fun K=>Dn K j) j:=by
 unfold Dn
 exact bnd (copy_ev _ h.1) (bnd (copy_ev _ h.2) (now _))
theorem repeat_all (K:Nat):((List.range 17).all fun n=>decide (Dt (K+10) ([(-1)]:List Int) (n:Int)=some (List.replicate n (-1))))=true:=by kernel_rfl
theorem repeat_ev (N:Nat) (h:N≤16):E0 (fun K=>Dt K ([(-1)]:List Int) (N:Int)) (List.replicate N (-1)):=by
 refine ⟨10,fun K _ _ _ _ hK _ _ _ _=>?_⟩
 obtain ⟨k,rfl⟩:∃ k,K=k+10:=⟨K-10,by omega⟩
 exact of_decide_eq_true (List.all_eq_true.1 (repeat_all k) N (List.mem_range.2 (by omega)))
def code (n kind a:Int):Int:=if 1≤kind∧kind≤6 then (if kind=1∨kind=2∨kind=4 then (if 0≤a∧a<n then 0 else 3) else 0) else 1
theorem named_eq (K:Nat) (a:Int):G9 K a=some (decide (a=1∨a=2∨a=4)):=by
 unfold G9
 by_cases h1:a=1
 ·simp [h1]
 ·by_cases h2:a=2
  ·simp [h2]
  ·rw [if_neg (by simpa using h1),if_neg (by simpa using h2)]
   by_cases h4:a=4
   ·simp [h4]
   ·simp [h1,h2,h4]
theorem named10_eq (K:Nat) (a:Int):Dv K a=some (decide (a=1∨a=2∨a=4)):=by
 unfold Dv
 by_cases h1:a=1
 ·simp [h1]
 ·by_cases h2:a=2
  ·simp [h2]
  ·rw [if_neg (by simpa using h1),if_neg (by simpa using h2)]
   by_cases h4:a=4
   ·simp [h4]
   ·simp [h1,h2,h4]
theorem isG_eq (K:Nat) (g:Ac) (a:Int):Hq K g a=some (decide (0≤a∧a<g.N)):=by
 unfold Hq
 by_cases h:a≥0
 ·rw [if_pos (decide_eq_true h)];simp [h]
 ·rw [if_neg (by simpa using h)];simp;omega
theorem btw_eq (K:Nat) (a b c:Int):Bo K a b c=some (decide (b≤a∧a≤c)):=by
 unfold Bo
 by_cases h:a≥b
 ·rw [if_pos (decide_eq_true h)];simp [h]
 ·rw [if_neg (by simpa using h)];simp;omega
theorem may10_eq (K:Nat) (g:Ac) (kind a:Int) (h0:0≤g.N) (h1:g.N≤16):Fa K g kind a=some (code g.N kind a):=by
 unfold Fa
 rw [btw_eq,named10_eq,num_eq,w64 (by omega) (by omega)]
 simp only [Option.bind_some,decide_eq_true_eq]
 unfold code
 by_cases hk:1≤kind∧kind≤6
 ·rw [if_neg (by rw [decide_eq_true hk];decide),if_pos hk]
  split
  ·by_cases q:0≤a∧a<g.N
   ·rw [if_pos q,if_neg (by rw [decide_eq_true (show 0≤a∧a≤g.N-1 by omega)];decide)]
   ·rw [if_neg q,if_pos (by rw [decide_eq_false (show ¬ (0≤a∧a≤g.N-1) by omega)];decide)]
  ·rfl
 ·rw [if_pos (by rw [decide_eq_false hk];rfl),if_neg hk]
theorem asked_ev (g:Ac) (kind a:Int) (hs:GSm g):E0 (fun K=>Gc K g kind a) (if GraphP g then code g.N kind a else 1):=by
 unfold Gc
 refine bnd (gmayG_ev g hs) ?_
 unfold Gc.j1
 by_cases hg:GraphP g
 ·rw [if_pos hg]
  refine negM hg ?_
  by_cases h1:kind<1
  ·exact posD h1 (pos rfl (nowE (by unfold code;rw [if_neg (by omega)])))
  ·refine negD h1 ?_
   by_cases h6:kind > 6
   ·exact posD h6 (nowE (by unfold code;rw [if_neg (by omega)]))
   ·refine negD h6 ?_
    simp only [named_eq,isG_eq]
    unfold code
    rw [if_pos (by omega)]
    refine bnd (now _) ?_
    by_cases hk:kind=1∨kind=2∨kind=4
    ·rw [if_pos hk]
     refine posD hk (bnd (now _) ?_)
     by_cases ha:0≤a∧a<g.N
     ·rw [if_pos ha];exact negM ha (now _)
     ·rw [if_neg ha];exact posM ha (now _)
    ·rw [if_neg hk]
     exact negD hk (now _)
 ·rw [if_neg hg]
  exact posM hg (pos rfl (now _))
end Go.XL
end
end
section
section
namespace Go.XL
open Go.XM
def ov (g:Ac) (j:Ai):Bool:=if j.Kind=1 then decide (j.At≥1) else if j.Kind=4 then decide (j.At≥((j.List_.length:Nat):Int)) else decide (j.At≥g.N)
theorem over_eq (K:Nat) (g:Ac) (j:Ai):Ho K g j=some (ov g j):=by
 unfold Ho ov
 by_cases h1:j.Kind=1
 ·rw [if_pos (by simpa using h1),if_pos h1]
 ·rw [if_neg (by simpa using h1),if_neg h1]
  by_cases h4:j.Kind=4
  ·rw [if_pos (by simpa using h4),if_pos h4]
  ·rw [if_neg (by simpa using h4),if_neg h4]
theorem ended_eq (K:Nat) (g:Ac) (j:Ai):Cz K g j=some (ov g j):=by
 unfold Cz ov
 by_cases h1:j.Kind=1
 ·rw [if_pos (by simpa using h1),if_pos h1]
 ·rw [if_neg (by simpa using h1),if_neg h1]
  by_cases h4:j.Kind=4
  ·rw [if_pos (by simpa using h4),if_pos h4]
  ·rw [if_neg (by simpa using h4),if_neg h4]
def Vis (g:Ac) (j j':Ai):Prop:=E0 (fun K=>Dp K g j) j'∧E0 (fun K=>Ad K g j) j'
structure Tr (g:Ac) (kind a:Int) (n:Nat) (tr:Nat→Ai):Prop where
 kd:∀ i,i≤n→(tr i).Kind=kind∧(tr i).A=(tr 0).A
 sm:∀ i,i≤n→JSm (tr i)
 go:∀ i,i<n→ov g (tr i)=false
 vis:∀ i,i<n→Vis g (tr i) (tr (i+1))
 fin:ov g (tr n)=true
 le:n≤1000
 beg:E0 (fun K=>Gp K g kind a) (tr 0,0)
 beg2:E0 (fun K=>Gp K g kind (tr 0).A) (tr 0,0)
 ref:E0 (fun K=>Bd K g kind a) (tr 0)
 un:¬ (kind=1∨kind=2∨kind=4)→(tr 0).A=0
theorem eta (j:Ai):((j.Kind,j.A,j.At,j.Move,j.List_,j.Out):Ai)=j:=rfl
section
variable {g:Ac} {kind a:Int} {n:Nat} {tr:Nat→Ai}
theorem Tr.may (h:Tr g kind a n tr) (i:Nat) (hi:i≤n):E0 (fun K=>Fu K g (tr i)) true:=by
 have key:∀ m,m≤i→E1 (fun K k=>Fu.l1 K g (tr i) k (tr m).Kind (tr m).A (tr m).At (tr m).Move (tr m).List_ (tr m).Out) true:=by
  refine upto ?_ ?_
  ·refine step1 (fun _ _ _ _ _=>Fu.l1.eq_2 ..) ?_
   exact bnd (jsame_ev (tr i) (tr i) (h.sm i hi)) (posD rfl (now _))
  ·intro m hm ih
   refine step1 (fun _ _ _ _ _=>Fu.l1.eq_2 ..) ?_
   refine bnd (jsame_ev (tr m) (tr i) (h.sm m (by omega))) ?_
   by_cases e:tr m=tr i
   ·exact posD e (now _)
   ·refine negD e ?_
    simp only [eta,over_eq,h.go m (by omega)]
    refine bnd (now _) (neg (by decide) (bnd (h.vis m (by omega)).1 ih))
 unfold Fu
 rw [(h.kd i hi).1,(h.kd i hi).2]
 exact bnd h.beg2 (negN rfl (key 0 (by omega)).e1)
end
end Go.XL
end
end
section
section
namespace Go.XL
open Go.XM
def Ends (kind:Int):Prop:=∀ (g:Ac) (a:Int),GraphP g→code g.N kind a=0→∃ n tr,Tr g kind a n tr
end Go.XL
end
end
section
section
namespace Go.XL
open Go.XM
def a0 (kind a:Int):Int:=if kind=1∨kind=2∨kind=4 then a else 0
def upN (N:Nat):List Int:=(List.range N).map fun (i:Nat)=>(i:Int)
theorem upN_succ (N:Nat):upN (N+1)=upN N++[(N:Int)]:=by simp [upN,List.range_succ]
theorem upN_length (N:Nat):(upN N).length=N:=by simp [upN]
theorem upN_getD {N i:Nat} (h:i<N):(upN N).getD i 0=i:=by simp [upN,List.getD_eq_getElem?_getD,h]
def out0 (N:Nat) (kind:Int):List Int:=if kind=4 then List.replicate N (-1) else if kind=5 then upN N else []
theorem out0_len (N:Nat) (kind:Int):(out0 N kind).length≤N:=by
 unfold out0
 split
 ·simp
 ·split
  ·rw [upN_length];omega
  ·simp
def job0 (N:Nat) (kind a:Int):Ai:=(kind,a0 kind a,0,false,if kind=4 then [a] else [],if kind=4 then (out0 N kind).set a.toNat 0 else out0 N kind)
theorem code_rng {n kind a:Int} (hc:code n kind a=0):(1≤kind∧kind≤6)∧((kind=1∨kind=2∨kind=4)→0≤a∧a<n):=by
 unfold code at hc
 by_cases hk:1≤kind∧kind≤6
 ·refine ⟨hk,fun h=>?_⟩
  rw [if_pos hk,if_pos h] at hc
  apply Classical.byContradiction
  intro hn
  rw [if_neg hn] at hc
  omega
 ·rw [if_neg hk] at hc;omega
theorem code_a0 {n kind a:Int} (hc:code n kind a=0):code n kind (a0 kind a)=0:=by
 unfold a0
 split
 ·exact hc
 ·rename_i h
  unfold code at hc ⊢
  split
  ·rfl
  ·rename_i q;rw [if_neg q] at hc;omega
theorem job0_a0 (N:Nat) (kind a:Int):job0 N kind (a0 kind a)=job0 N kind a:=by
 by_cases h:kind=1∨kind=2∨kind=4
 ·have:a0 kind a=a:=by unfold a0;rw [if_pos h]
  rw [this]
 ·have h4:¬ kind=4:=fun e=>h (.inr (.inr e))
  have e:∀ b,a0 kind b=0:=fun b=>by unfold a0;rw [if_neg h]
  unfold job0
  simp only [e,if_neg h4]
theorem rbeg_ev (g:Ac) (N:Nat) (e:g.N=(N:Int)) (hN:N≤16) (kind a:Int) (hc:code g.N kind a=0):E0 (fun K=>Bd K g kind a) (job0 N kind a):=by
 obtain ⟨hk,ha⟩:=code_rng hc
 have key:∀ A:Int,A=a0 kind a→∀ v,v≤N→E1 (fun K k=>Bd.l2 K A 0 g kind a k (v:Int) (out0 v kind)) (job0 N kind a):=by
  intro A hA
  refine upto ?_ ?_
  ·refine step1 (fun _ _ _ _ _=>Bd.l2.eq_2 ..) ?_
   refine negD (by omega) ?_
   by_cases h4:kind=4
   ·have:=ha (.inr (.inr h4))
    refine posE h4 (pos (by unfold out0;rw [if_pos h4];simp;omega) (nowE ?_))
    unfold job0;rw [if_pos h4,if_pos h4,hA]
   ·refine negE h4 (nowE ?_)
    unfold job0;rw [if_neg h4,if_neg h4,hA]
  ·intro v hv ih
   have hol:=out0_len v kind
   refine step1 (fun _ _ _ _ _=>Bd.l2.eq_2 ..) ?_
   refine posD (by omega) ?_
   rw [w1 (by omega)]
   by_cases h4:kind=4
   ·refine posE h4 (pos (by simp;omega) ?_)
    have:out0 v kind++[(-1)]=out0 (v+1) kind:=by unfold out0;rw [if_pos h4,if_pos h4,List.replicate_succ']
    rw [this];exact ih
   ·refine negE h4 ?_
    by_cases h5:kind=5
    ·refine posE h5 (pos (by simp;omega) ?_)
     have:out0 v kind++[(v:Int)]=out0 (v+1) kind:=by unfold out0;rw [if_neg h4,if_neg h4,if_pos h5,if_pos h5,upN_succ]
     rw [this];exact ih
    ·refine negE h5 ?_
     have:out0 v kind=out0 (v+1) kind:=by unfold out0;rw [if_neg h4,if_neg h4,if_neg h5,if_neg h5]
     rw [this];exact ih
 have h0:out0 0 kind=[]:=by unfold out0;split;· rfl
                            ·split <;> rfl
 unfold Bd Bd.j1
 simp only [named10_eq]
 refine bnd (now _) ?_
 by_cases h:kind=1∨kind=2∨kind=4
 ·refine posD h ?_
  have:=(key a (by unfold a0;rw [if_pos h]) 0 (by omega)).e1
  rw [h0] at this;exact this
 ·refine negD h ?_
  have:=(key 0 (by unfold a0;rw [if_neg h]) 0 (by omega)).e1
  rw [h0] at this;exact this
theorem sbeg_ev (g:Ac) (N:Nat) (e:g.N=(N:Int)) (hN:N≤16) (hg:GraphP g) (hs:GSm g) (kind a:Int) (hc:code g.N kind a=0):E0 (fun K=>Gp K g kind a) (job0 N kind a,0):=by
 obtain ⟨hk,ha⟩:=code_rng hc
 have hask:=asked_ev g kind a hs
 rw [if_pos hg,hc] at hask
 have j1:∀ A:Int,A=a0 kind a→E0 (fun K=>Fx.j1 K g kind a 0 0 0 A 0) (job0 N kind a):=by
  intro A hA
  unfold Fx.j1
  by_cases h4:kind=4
  ·have:=ha (.inr (.inr h4))
   refine posE h4 ?_
   rw [e]
   refine bnd (repeat_ev N hN) (pos (by simp;omega) (nowE ?_))
   unfold job0 out0;rw [if_pos h4,if_pos h4,if_pos h4,hA]
  ·refine negE h4 ?_
   by_cases h5:kind=5
   ·refine posE h5 ?_
    have key:∀ v,v≤N→E1 (fun K k=>Fx.l2 K A 0 g kind k (v:Int) (upN v)) (job0 N kind a):=by
     refine upto ?_ ?_
     ·refine step1 (fun _ _ _ _ _=>Fx.l2.eq_2 ..) ?_
      refine negD (by omega) (nowE ?_)
      unfold job0 out0;rw [if_neg h4,if_neg h4,if_neg h4,if_pos h5,hA]
     ·intro v hv ih
      refine step1 (fun _ _ _ _ _=>Fx.l2.eq_2 ..) ?_
      refine posD (by omega) (pos (by simp [upN_length];omega) ?_)
      rw [w1 (by omega),← upN_succ]
      exact ih
    exact (key 0 (by omega)).e1
   ·refine negE h5 (nowE ?_)
    unfold job0 out0;rw [if_neg h4,if_neg h4,if_neg h4,if_neg h5,hA]
 unfold Gp
 refine bnd hask (negN rfl (bnd ?_ (now _)))
 unfold Fx
 simp only [named_eq]
 refine bnd (now _) ?_
 by_cases h:kind=1∨kind=2∨kind=4
 ·exact posD h (j1 a (by unfold a0;rw [if_pos h]))
 ·exact negD h (j1 0 (by unfold a0;rw [if_neg h]))
theorem tr_of {g:Ac} {N:Nat} (hg:GraphP g) (e:g.N=(N:Int)) (hN:N≤16) (hs:GSm g) {kind a:Int} (hc:code g.N kind a=0) {n:Nat} {tr:Nat→Ai} (h0:tr 0=job0 N kind a) (hn:n≤1000)
  (kd:∀ i,i≤n→(tr i).Kind=kind∧(tr i).A=a0 kind a) (sm:∀ i,i≤n→JSm (tr i)) (go:∀ i,i<n→ov g (tr i)=false) (vis:∀ i,i<n→Vis g (tr i) (tr (i+1))) (fin:ov g (tr n)=true):Tr g kind a n tr:=by
 have hA:(tr 0).A=a0 kind a:=(kd 0 (by omega)).2
 refine ⟨fun i hi=>⟨(kd i hi).1,by rw [hA];exact (kd i hi).2⟩,sm,go,vis,fin,hn,?_,?_,?_,fun h=>by rw [hA];unfold a0;rw [if_neg h]⟩
 ·rw [h0];exact sbeg_ev g N e hN hg hs kind a hc
 ·rw [hA,h0,← job0_a0];exact sbeg_ev g N e hN hg hs kind _ (code_a0 hc)
 ·rw [h0];exact rbeg_ev g N e hN kind a hc
end Go.XL
end
end
section
section
namespace Go.XL
open Go.XM
theorem pKind (k a t m l o):Ai.Kind (k,a,t,m,l,o)=k:=rfl
theorem pA (k a t m l o):Ai.A (k,a,t,m,l,o)=a:=rfl
theorem pAt (k a t m l o):Ai.At (k,a,t,m,l,o)=t:=rfl
theorem pMove (k a t m l o):Ai.Move (k,a,t,m,l,o)=m:=rfl
theorem pList (k a t m l o):Ai.List_ (k,a,t,m,l,o)=l:=rfl
theorem pOut (k a t m l o):Ai.Out (k,a,t,m,l,o)=o:=rfl
theorem pgN (n o):Ac.N (n,o)=n:=rfl
theorem pgO (n o):Ac.Out (n,o)=o:=rfl
theorem at1 (i:Nat) (h:i<1000):wr .i64 ((i:Int)+1)=((i+1:Nat):Int):=w1 (by omega)
theorem ends1:Ends 1:=by
 intro g a hg hc
 obtain ⟨en,hG⟩:=hg.good
 have ha:=(code_rng hc).2 (.inl rfl)
 have hs:=hg.sm
 generalize g.N.toNat=N at *
 have hN:=hG.le
 have hlen:=hG.len
 obtain ⟨a,rfl⟩:∃ m:Nat,a=m:=⟨a.toNat,by omega⟩
 have hr:=hG.rlen a
 have ho:∀ i:Nat,(if i=0 then [] else g.Out.getD a []).length≤16:=fun i=>by
  split
  ·exact Nat.zero_le _
  ·omega
 refine ⟨1,fun i=>(1,a,i,false,[],if i=0 then [] else g.Out.getD a []),tr_of hg en hN hs hc rfl (by omega) (fun i _=>⟨rfl,by simp [a0]⟩) (fun i hi=>⟨Nat.zero_le _,Nat.le_trans (ho i) (by omega)⟩) (fun i hi=>?_) (fun i hi=>?_) rfl⟩
 ·obtain rfl:i=0:=by omega
  rfl
 ·obtain rfl:i=0:=by omega
  have hsm:JSm ((1,(a:Int),((0:Nat):Int),false,[],[]):Ai):=⟨Nat.zero_le _,Nat.zero_le _⟩
  show Vis g ((1,(a:Int),((0:Nat):Int),false,[],[]):Ai) ((1,(a:Int),((1:Nat):Int),false,[],g.Out.getD a []):Ai)
  constructor
  ·unfold Dp
   simp only [pKind,pA,pAt,pMove,pList,pOut,pgN,pgO]
   refine negE (by decide) (posE rfl (pos (by omega) ?_))
   simp only [rd1N,clone_eq _ _ (show (g.Out.getD a []).length≤1000000 by omega)]
   exact bnd (now _) (nowE (by rw [at1 0 (by omega)]))
  ·unfold Ad
   refine bnd (copyjob_ev _ hsm) ?_
   simp only [pKind,pA,pAt,pMove,pList,pOut,pgN,pgO]
   refine posE rfl (pos (by omega) ?_)
   simp only [rd1N]
   exact bnd (copy_ev _ (by omega)) (nowE (by rw [at1 0 (by omega)]))
def ins (out:List (List Int)) (a:Int) (n:Nat):List Int:=((List.range n).filter fun v=>decide (a∈out.getD v [])).map fun (v:Nat)=>(v:Int)
theorem ins_succ (out:List (List Int)) (a:Int) (n:Nat):ins out a (n+1)=if a∈out.getD n [] then ins out a n++[(n:Int)] else ins out a n:=by
 unfold ins
 rw [List.range_succ,List.filter_append,List.map_append]
 by_cases h:a∈out.getD n []
 ·rw [if_pos h,List.filter_cons_of_pos (p:=fun v=>decide (a∈out.getD v [])) (by exact decide_eq_true h)];rfl
 ·rw [if_neg h,List.filter_cons_of_neg (by rw [decide_eq_true_eq];exact h)];simp
theorem ins_len (out:List (List Int)) (a:Int) (n:Nat):(ins out a n).length≤n:=by
 unfold ins
 rw [List.length_map]
 exact Nat.le_trans (List.length_filter_le _ _) (by simp)
theorem ends2:Ends 2:=by
 intro g a hg hc
 obtain ⟨en,hG⟩:=hg.good
 have ha:=(code_rng hc).2 (.inr (.inl rfl))
 have hs:=hg.sm
 generalize g.N.toNat=N at *
 have hN:=hG.le
 have hlen:=hG.len
 obtain ⟨a,rfl⟩:∃ m:Nat,a=m:=⟨a.toNat,by omega⟩
 have hl:∀ i,i≤N→(ins g.Out a i).length≤16:=fun i hi=>by have:=ins_len g.Out a i;omega
 refine ⟨N,fun i=>(2,a,i,false,[],ins g.Out a i),tr_of hg en hN hs hc rfl (by omega) (fun i _=>⟨rfl,by simp [a0]⟩) (fun i hi=>⟨Nat.zero_le _,by have:=hl i hi;show (ins g.Out a i).length≤_;omega⟩) (fun i hi=>?_) (fun i hi=>?_) ?_⟩
 ·show decide ((i:Int)≥g.N)=false
  exact decide_eq_false (by omega)
 ·have hr:=hG.rlen i
  have hli:=hl i (by omega)
  have hsm:JSm ((2,(a:Int),(i:Int),false,[],ins g.Out a i):Ai):=⟨Nat.zero_le _,by show (ins g.Out a i).length≤_;omega⟩
  constructor
  ·unfold Dp
   simp only [pKind,pA,pAt,pMove,pList,pOut,pgN,pgO]
   refine negE (by decide) (negE (by decide) (posE rfl (pos (by omega) ?_)))
   simp only [rd1N,ins_succ,at1 i (by omega)]
   refine bnd (contains_ev _ _ (by omega)) ?_
   by_cases hm:(a:Int)∈g.Out.getD i []
   ·exact posD hm (pos (by simp;omega) (nowE (by rw [if_pos hm])))
   ·exact negD hm (nowE (by rw [if_neg hm]))
  ·obtain ⟨r,hr1,hr2⟩:=in_ev (g.Out.getD i []) (a:Int) (by omega)
   unfold Ad
   refine bnd (copyjob_ev _ hsm) ?_
   simp only [pKind,pA,pAt,pMove,pList,pOut,pgN,pgO]
   refine negE (by decide) (posE rfl (pos (by omega) ?_))
   simp only [rd1N,ins_succ,at1 i (by omega)]
   refine bnd hr1 ?_
   by_cases hm:(a:Int)∈g.Out.getD i []
   ·exact posD (hr2.2 hm) (pos (by simp;omega) (nowE (by rw [if_pos hm])))
   ·exact negD (fun h=>hm (hr2.1 h)) (nowE (by rw [if_neg hm]))
 ·show decide ((N:Int)≥g.N)=true
  exact decide_eq_true (by omega)
theorem cnt_len {N:Nat} {out:List (List Int)} (hg:Good N out) (i:Nat):((out.take i).foldl cstep []).length≤17:=by
 have key:∀ (xs:List (List Int)) (c:List Int),(∀ r∈xs,r.length≤16)→c.length≤17→(xs.foldl cstep c).length≤17:=by
  intro xs
  induction xs with
  | nil=>intro c _ h;exact h
  | cons r rs ih =>
   intro c hr hc
   rw [List.foldl_cons]
   refine ih _ (fun q hq=>hr q (by simp [hq])) ?_
   rw [cstep_length]
   have:=hr r (by simp)
   omega
 refine key _ [] (fun r hr=>?_) (by simp)
 obtain ⟨i,hi,rfl⟩:=List.mem_iff_getElem.1 (List.mem_of_mem_take hr)
 rw [← getD_lt (d:=[]) hi]
 exact hg.rlen i
theorem visit3 (g:Ac) (N:Nat) (en:g.N=(N:Int)) (hG:Good N g.Out) (i:Nat) (hi:i<N) (c0:List Int) (h0:c0.length≤17):Vis g ((3,0,(i:Int),false,[],c0):Ai) ((3,0,((i+1:Nat):Int),false,[],cstep c0 (g.Out.getD i [])):Ai):=by
 have hN:=hG.le
 have hlen:=hG.len
 have hr:=hG.rlen i
 have hsm:JSm ((3,(0:Int),(i:Int),false,[],c0):Ai):=⟨Nat.zero_le _,by show c0.length≤_;omega⟩
 have e0:∀ c:List Int,(g.Out.getD i []).length+1-c.length=0→pad c (g.Out.getD i []).length=c:=fun c hd=>by unfold pad;rw [hd];simp
 have e1:∀ (d:Nat) (c:List Int),(g.Out.getD i []).length+1-c.length=d+1→cstep (c++[0]) (g.Out.getD i [])=cstep c (g.Out.getD i []):=fun d c hd=>by
  unfold cstep pad
  rw [show (g.Out.getD i []).length+1-(c++[(0:Int)]).length=d by simp only [List.length_append,List.length_singleton];omega,hd,List.replicate_succ]
  simp
 constructor
 ·have key:∀ (d:Nat) (c:List Int),(g.Out.getD i []).length+1-c.length=d→c.length≤17→E1 (fun K k=>Dp.l1 K g ((3,0,(i:Int),false,[],c0):Ai) k ((i+1:Nat):Int) c) ((3,0,((i+1:Nat):Int),false,[],cstep c (g.Out.getD i [])):Ai):=by
   intro d
   induction d with
   | zero =>
    intro c hd hc
    refine step1 (fun _ _ _ _ _=>Dp.l1.eq_2 ..) ?_
    simp only [pKind,pA,pAt,pMove,pList,pOut,pgN,pgO]
    refine pos (by omega) ?_
    simp only [rd1N,rdN,Int.toNat_natCast]
    refine negD (by omega) (pos (by omega) (pos (by omega) (pos (by omega) (nowE ?_))))
    unfold cstep
    rw [e0 c hd]
   | succ d ih =>
    intro c hd hc
    have:=ih (c++[0]) (by simp only [List.length_append,List.length_singleton];omega) (by simp only [List.length_append,List.length_singleton];omega)
    rw [e1 d c hd] at this
    refine step1 (fun _ _ _ _ _=>Dp.l1.eq_2 ..) ?_
    simp only [pKind,pA,pAt,pMove,pList,pOut,pgN,pgO]
    refine pos (by omega) ?_
    simp only [rd1N]
    exact posD (by omega) (pos (by simp;omega) this)
  unfold Dp
  simp only [pKind,pA,pAt,pMove,pList,pOut,pgN,pgO]
  refine negE (by decide) (negE (by decide) (negE (by decide) (posE rfl ?_)))
  simp only [at1 i (by omega)]
  exact (key _ c0 rfl h0).e1
 ·have key:∀ (d:Nat) (c:List Int),(g.Out.getD i []).length+1-c.length=d→c.length≤17→E1 (fun K k=>Ad.l1 K ((3,0,(i:Int),false,[],c0):Ai) g k ((i+1:Nat):Int) c 0 0 0) ((3,0,((i+1:Nat):Int),false,[],cstep c (g.Out.getD i [])):Ai):=by
   intro d
   induction d with
   | zero =>
    intro c hd hc
    refine step1 (fun _ _ _ _ _=>Ad.l1.eq_2 ..) ?_
    simp only [pKind,pA,pAt,pMove,pList,pOut,pgN,pgO]
    refine pos (by omega) ?_
    simp only [rd1N,rdN,Int.toNat_natCast]
    refine negD (by omega) (pos (by omega) (pos (by omega) (pos (by omega) (nowE ?_))))
    unfold cstep
    rw [e0 c hd]
   | succ d ih =>
    intro c hd hc
    have:=ih (c++[0]) (by simp only [List.length_append,List.length_singleton];omega) (by simp only [List.length_append,List.length_singleton];omega)
    rw [e1 d c hd] at this
    refine step1 (fun _ _ _ _ _=>Ad.l1.eq_2 ..) ?_
    simp only [pKind,pA,pAt,pMove,pList,pOut,pgN,pgO]
    refine pos (by omega) ?_
    simp only [rd1N]
    exact posD (by omega) (pos (by simp;omega) this)
  unfold Ad
  refine bnd (copyjob_ev _ hsm) ?_
  simp only [pKind,pA,pAt,pMove,pList,pOut,pgN,pgO]
  refine negE (by decide) (negE (by decide) (posE rfl ?_))
  simp only [at1 i (by omega)]
  exact (key _ c0 rfl h0).e1
theorem ends3:Ends 3:=by
 intro g a hg hc
 obtain ⟨en,hG⟩:=hg.good
 have hs:=hg.sm
 generalize g.N.toNat=N at *
 have hN:=hG.le
 have hlen:=hG.len
 have hl:=cnt_len hG
 refine ⟨N,fun i=>(3,0,i,false,[],(g.Out.take i).foldl cstep []),tr_of hg en hN hs hc rfl (by omega) (fun i _=>⟨rfl,by simp [a0]⟩) (fun i hi=>⟨Nat.zero_le _,by have:=hl i;show ((g.Out.take i).foldl cstep []).length≤_;omega⟩) (fun i hi=>?_) (fun i hi=>?_) ?_⟩
 ·show decide ((i:Int)≥g.N)=false
  exact decide_eq_false (by omega)
 ·have:=visit3 g N en hG i hi _ (hl i)
  rw [take_getD (d:=[]) (by omega),List.foldl_append]
  exact this
 ·show decide ((N:Int)≥g.N)=true
  exact decide_eq_true (by omega)
theorem flat_append (a b:List api_Pair):flat (a++b)=flat a++flat b:=by simp [flat]
theorem prs_append:∀ (xs ys:List (List Int)) (i:Nat),prs i (xs++ys)=prs i xs++prs (i+xs.length) ys
 | [],ys,i=>by simp [prs]
 | x::xs,ys,i=>by rw [List.cons_append,prs,prs,prs_append xs ys (i+1),List.append_assoc];simp only [List.length_cons];rw [show i+1+xs.length=i+(xs.length+1) by omega]
theorem flat_row (i:Nat) (r:List Int):flat (r.map fun v=>((i,v):api_Pair))=r.flatMap fun v=>[(i:Int),v]:=by simp [flat,List.flatMap_map]
theorem visit6 (g:Ac) (N:Nat) (en:g.N=(N:Int)) (hG:Good N g.Out) (i:Nat) (hi:i<N) (c0:List Int) (h0:c0.length≤1000):Vis g ((6,0,(i:Int),false,[],c0):Ai) ((6,0,((i+1:Nat):Int),false,[],c0++(g.Out.getD i []).flatMap fun v=>[(i:Int),v]):Ai):=by
 have hN:=hG.le
 have hlen:=hG.len
 have hr:=hG.rlen i
 have hsm:JSm ((6,(0:Int),(i:Int),false,[],c0):Ai):=⟨Nat.zero_le _,by show c0.length≤_;omega⟩
 constructor
 ·have key:∀ j,j≤(g.Out.getD i []).length→∀ c:List Int,c.length≤1000+2*j→E1 (fun K k=>Dp.l3 K ((6,0,(i:Int),false,[],c0):Ai) k (g.Out.getD i []) (((g.Out.getD i []).length:Nat):Int) (j:Int) ((i+1:Nat):Int) c) ((6,0,((i+1:Nat):Int),false,[],c++((g.Out.getD i []).drop j).flatMap fun v=>[(i:Int),v]):Ai):=by
   refine upto ?_ ?_
   ·intro c hc
    refine step1 (fun _ _ _ _ _=>Dp.l3.eq_2 ..) ?_
    exact negD (by omega) (nowE (by simp))
   ·intro j hj ih c hc
    refine step1 (fun _ _ _ _ _=>Dp.l3.eq_2 ..) ?_
    refine posD (by omega) (pos (by omega) (pos (by simp;omega) ?_))
    rw [rdN,w1 (by omega),drop_getD (d:=0) hj,List.flatMap_cons,← List.append_assoc]
    exact ih _ (by simp;omega)
  unfold Dp
  simp only [pKind,pA,pAt,pMove,pList,pOut,pgN,pgO]
  refine negE (by decide) (negE (by decide) (negE (by decide) (negE (by decide) (negE (by decide) (posE rfl (pos (by omega) ?_))))))
  simp only [rd1N,at1 i (by omega)]
  exact (key 0 (by omega) c0 h0).e1
 ·have key:∀ j,j≤(g.Out.getD i []).length→∀ c:List Int,c.length≤1000+2*j→E1 (fun K k=>Ad.l2 K ((6,0,(i:Int),false,[],c0):Ai) g k (j:Int) ((i+1:Nat):Int) c 0 0 0) ((6,0,((i+1:Nat):Int),false,[],c++((g.Out.getD i []).drop j).flatMap fun v=>[(i:Int),v]):Ai):=by
   refine upto ?_ ?_
   ·intro c hc
    refine step1 (fun _ _ _ _ _=>Ad.l2.eq_2 ..) ?_
    simp only [pKind,pA,pAt,pMove,pList,pOut,pgN,pgO]
    refine pos (by omega) ?_
    simp only [rd1N]
    exact negD (by omega) (nowE (by simp))
   ·intro j hj ih c hc
    refine step1 (fun _ _ _ _ _=>Ad.l2.eq_2 ..) ?_
    simp only [pKind,pA,pAt,pMove,pList,pOut,pgN,pgO]
    refine pos (by omega) ?_
    simp only [rd1N]
    refine posD (by omega) (pos (by omega) (pos (by omega) (pos (by simp;omega) ?_)))
    rw [rdN,w1 (by omega),drop_getD (d:=0) hj,List.flatMap_cons,← List.append_assoc]
    exact ih _ (by simp;omega)
  unfold Ad
  refine bnd (copyjob_ev _ hsm) ?_
  simp only [pKind,pA,pAt,pMove,pList,pOut,pgN,pgO]
  refine negE (by decide) (negE (by decide) (negE (by decide) (posE rfl ?_)))
  simp only [at1 i (by omega)]
  exact (key 0 (by omega) c0 h0).e1
theorem ends6:Ends 6:=by
 intro g a hg hc
 obtain ⟨en,hG⟩:=hg.good
 have hs:=hg.sm
 generalize g.N.toNat=N at *
 have hN:=hG.le
 have hlen:=hG.len
 have hsum:=hG.sum
 have hl:∀ i,(flat (prs 0 (g.Out.take i))).length≤240:=fun i=>by
  rw [flat_length,prs_length]
  have:=lsum_take_le g.Out i
  omega
 refine ⟨N,fun i=>(6,0,i,false,[],flat (prs 0 (g.Out.take i))),tr_of hg en hN hs hc rfl (by omega) (fun i _=>⟨rfl,by simp [a0]⟩) (fun i hi=>⟨Nat.zero_le _,by have:=hl i;show (flat (prs 0 (g.Out.take i))).length≤_;omega⟩) (fun i hi=>?_) (fun i hi=>?_) ?_⟩
 ·show decide ((i:Int)≥g.N)=false
  exact decide_eq_false (by omega)
 ·have:=visit6 g N en hG i hi (flat (prs 0 (g.Out.take i))) (by have:=hl i;omega)
  rw [take_getD (d:=[]) (by omega),prs_append,flat_append,List.length_take,show 0+min i g.Out.length=i by omega,prs,prs,List.append_nil,flat_row]
  exact this
 ·show decide ((N:Int)≥g.N)=true
  exact decide_eq_true (by omega)
end Go.XL
end
end
section
section
namespace Go.XL
open Go.XM
theorem least (Q:Nat→Prop):∀ m,(∀ i,i<m→Q i)∨∃ n,n<m∧¬ Q n∧∀ i,i<n→Q i:=by
 intro m
 induction m with
 | zero=>exact .inl fun i hi=>by omega
 | succ m ih =>
  rcases ih with h | ⟨n,h1,h2,h3⟩
  ·by_cases q:Q m
   ·exact .inl fun i hi=>by
     by_cases e:i=m
     ·subst e;exact q
     ·exact h i (by omega)
   ·exact .inr ⟨m,by omega,q,h⟩
  ·exact .inr ⟨n,by omega,h2,h3⟩
def far1 (u:Nat) (p:List Int × List Int) (w:Int):List Int × List Int:=if p.2.getD w.toNat 0<0 then (p.1++[w],p.2.set w.toNat (p.2.getD u 0+1)) else p
structure FInv (N:Nat) (out:List (List Int)) (a u i j:Nat) (p:List Int × List Int):Prop where
 bin:Bin N out a u j p.2 (p.1.drop (i+1))
 len:p.1.length+unv p.2≤N
 at_:i+1≤p.1.length
theorem FInv.step {N:Nat} {out:List (List Int)} {a u i j:Nat} {p:List Int × List Int} (hg:Good N out) (h:FInv N out a u i j p) (hu:u<N) (hj:j<(out.getD u []).length):FInv N out a u i (j+1) (far1 u p ((out.getD u []).getD j 0)):=by
 obtain ⟨he,hwN,hwe⟩:=edge_of hg hu hj
 have hl:=h.bin.half.len
 unfold far1
 by_cases hw:p.2.getD ((out.getD u []).getD j 0).toNat 0<0
 ·rw [if_pos hw]
  have hv:=unv_set p.2 _ (p.2.getD u 0+1) (by omega) hw (by have:=h.bin.vis;omega)
  have h1:=h.at_
  have h2:=h.len
  refine ⟨?_,by simp only [List.length_append,List.length_singleton];omega,by simp only [List.length_append,List.length_singleton];omega⟩
  show Bin N out a u (j+1) _ ((p.1++[_]).drop (i+1))
  rw [List.drop_append_of_le_length h1]
  exact h.bin.put hg hu hj hw
 ·rw [if_neg hw]
  exact ⟨h.bin.keep (by omega),h.len,h.at_⟩
theorem FInv.run {N:Nat} {out:List (List Int)} {a u i:Nat} (hg:Good N out) (hu:u<N):∀ j,j≤(out.getD u []).length→∀ p,FInv N out a u i j p→FInv N out a u i (out.getD u []).length (((out.getD u []).drop j).foldl (far1 u) p):=by
 refine upto ?_ ?_
 ·intro p h;simpa using h
 ·intro j hj ih p h
  rw [drop_getD (d:=0) hj,List.foldl_cons]
  exact ih _ (h.step hg hu hj)
theorem svis4 {g:Ac} {N:Nat} (hg:Good N g.Out) {a u i:Nat} (hu:u<N) (x:Ai) (hx:x.Kind=4∧x.A=(a:Int)∧x.Move=false):∀ j,j≤(g.Out.getD u []).length→∀ p,FInv N g.Out a u i j p →
  E1 (fun K k=>Dp.l2 K x k (u:Int) (g.Out.getD u []) (((g.Out.getD u []).length:Nat):Int) (j:Int) ((i+1:Nat):Int) p.1 p.2) ((4,(a:Int),((i+1:Nat):Int),false,(((g.Out.getD u []).drop j).foldl (far1 u) p).1,(((g.Out.getD u []).drop j).foldl (far1 u) p).2):Ai):=by
 have hN:=hg.le
 have hr:=hg.rlen u
 refine upto ?_ ?_
 ·intro p h
  refine step1 (fun _ _ _ _ _=>Dp.l2.eq_2 ..) ?_
  refine negD (by omega) (nowE ?_)
  rw [hx.1,hx.2.1,hx.2.2];simp
 ·intro j hj ih p h
  obtain ⟨he,hwN,hwe⟩:=edge_of hg hu hj
  have hl:=h.bin.half.len
  have hlt:=h.bin.half.lt hu
  have hv:=h.bin.vis
  have hlen:=h.len
  have:=ih _ (h.step hg hu hj)
  rw [drop_getD (d:=0) hj,List.foldl_cons]
  refine step1 (fun _ _ _ _ _=>Dp.l2.eq_2 ..) ?_
  rw [rdN,rdN,rdI,w1 (by omega),w64 (by omega) (by omega)]
  refine posD (by omega) (pos (by omega) (pos (by omega) ?_))
  by_cases hw:p.2.getD ((g.Out.getD u []).getD j 0).toNat 0<0
  ·refine posD hw (pos (by omega) (pos (by simp;omega) (pos (by omega) ?_)))
   unfold far1 at this ⊢
   rw [if_pos hw] at this ⊢
   exact this
  ·refine negD hw ?_
   unfold far1 at this ⊢
   rw [if_neg hw] at this ⊢
   exact this
theorem rvis4 {g:Ac} {N:Nat} (hg:Good N g.Out) {a u i:Nat} (hu:u<N) (x:Ai) (hx:x.Kind=4∧x.A=(a:Int)∧x.Move=false):∀ j,j≤(g.Out.getD u []).length→∀ p,FInv N g.Out a u i j p →
  E1 (fun K k=>Ad.l3 K x g k (u:Int) (j:Int) ((i+1:Nat):Int) p.1 p.2 0 0 0) ((4,(a:Int),((i+1:Nat):Int),false,(((g.Out.getD u []).drop j).foldl (far1 u) p).1,(((g.Out.getD u []).drop j).foldl (far1 u) p).2):Ai):=by
 have hN:=hg.le
 have hlen:=hg.len
 have hr:=hg.rlen u
 refine upto ?_ ?_
 ·intro p h
  refine step1 (fun _ _ _ _ _=>Ad.l3.eq_2 ..) ?_
  refine pos (by omega) ?_
  rw [rd1N]
  refine negD (by omega) (nowE ?_)
  rw [hx.1,hx.2.1,hx.2.2];simp
 ·intro j hj ih p h
  obtain ⟨he,hwN,hwe⟩:=edge_of hg hu hj
  have hl:=h.bin.half.len
  have hlt:=h.bin.half.lt hu
  have hv:=h.bin.vis
  have hlen2:=h.len
  have:=ih _ (h.step hg hu hj)
  rw [drop_getD (d:=0) hj,List.foldl_cons]
  refine step1 (fun _ _ _ _ _=>Ad.l3.eq_2 ..) ?_
  refine pos (by omega) ?_
  rw [rd1N,rdN,rdN,rdI,w1 (by omega),w64 (by omega) (by omega)]
  refine posD (by omega) (pos (by omega) (pos (by omega) (pos (by omega) ?_)))
  by_cases hw:p.2.getD ((g.Out.getD u []).getD j 0).toNat 0<0
  ·refine posD hw (pos (by omega) (pos (by omega) (pos (by simp;omega) ?_)))
   unfold far1 at this ⊢
   rw [if_pos hw] at this ⊢
   exact this
  ·refine negD hw ?_
   unfold far1 at this ⊢
   rw [if_neg hw] at this ⊢
   exact this
structure FSt (N:Nat) (out:List (List Int)) (a i:Nat) (p:List Int × List Int):Prop where
 bfs:Bfs N out a p.2 (p.1.drop i)
 len:p.1.length+unv p.2≤N
def v4 (out:List (List Int)) (i:Nat) (p:List Int × List Int):List Int × List Int:=(out.getD (p.1.getD i 0).toNat []).foldl (far1 (p.1.getD i 0).toNat) p
def s4 (N:Nat) (out:List (List Int)) (a:Nat):Nat→List Int × List Int
 | 0=>([(a:Int)],(List.replicate N (-1)).set a 0)
 | i+1=>v4 out i (s4 N out a i)
theorem FSt.inv {N:Nat} {out:List (List Int)} {a i:Nat} {p:List Int × List Int} (h:FSt N out a i p) (hi:i<p.1.length):(p.1.getD i 0).toNat<N∧(((p.1.getD i 0).toNat:Nat):Int)=p.1.getD i 0∧FInv N out a (p.1.getD i 0).toNat i 0 p:=by
 have hd:=drop_getD (d:=(0:Int)) hi
 have hb:=h.bfs
 rw [hd] at hb
 generalize p.1.getD i 0=x at *
 obtain ⟨hx0,hx1,hx2⟩:=hb.qin x (by simp)
 have hsr:=List.pairwise_cons.1 hb.srt
 have e:((x.toNat:Nat):Int)=x:=by omega
 refine ⟨by omega,e,⟨⟨hb.half,fun y hy=>hb.qin y (by simp [hy]),hx2,fun u hu h0 hn hne w hw hE=>hb.clos u hu h0 (by simp only [List.mem_cons,not_or];exact ⟨by omega,hn⟩) w hw hE,fun j hj=>by omega,fun v hv=>by simpa using hb.cap x (by simp) v hv,fun y hy=>by simpa using hsr.1 y hy,hsr.2⟩,h.len,by omega⟩⟩
theorem FSt.next {N:Nat} {out:List (List Int)} {a i:Nat} {p:List Int × List Int} (hg:Good N out) (h:FSt N out a i p) (hi:i<p.1.length):FSt N out a (i+1) (v4 out i p):=by
 obtain ⟨hu,_,hF⟩:=h.inv hi
 have:=FInv.run hg hu 0 (by omega) p hF
 rw [List.drop_zero] at this
 exact ⟨this.bin.out (Nat.le_refl _),this.len⟩
theorem FSt.init {N:Nat} {out:List (List Int)} {a:Nat} (ha:a<N):FSt N out a 0 (s4 N out a 0):=by
 have hi:=Half.init (out:=out) ha
 have hGi:∀ v,v<N→((List.replicate N (-1:Int)).set a 0).getD v 0=if v=a then 0 else -1:=fun v hv=>by
  rw [getD_set _ _ _ _ (by simpa using ha)]
  split
  ·rfl
  ·simp [List.getD_eq_getElem?_getD,List.getElem?_replicate,hv]
 refine ⟨⟨hi,fun x hx=>?_,fun u hu h0 hn=>?_,fun x hx v hv=>?_,List.pairwise_singleton _ _⟩,?_⟩
 ·obtain rfl:=List.mem_singleton.1 hx
  show _∧_∧0≤((List.replicate N (-1:Int)).set a 0).getD ((a:Int)).toNat 0
  rw [Int.toNat_natCast,hi.src];omega
 ·have h0:0≤((List.replicate N (-1:Int)).set a 0).getD u 0:=h0
  rw [hGi u hu] at h0
  split at h0
  ·rename_i e;exact absurd (show (u:Int)∈[(a:Int)] by simp [e]) hn
  ·omega
 ·obtain rfl:=List.mem_singleton.1 hx
  show ((List.replicate N (-1:Int)).set a 0).getD v 0≤((List.replicate N (-1:Int)).set a 0).getD ((a:Int)).toNat 0+1
  rw [Int.toNat_natCast,hi.src,hGi v hv]
  split <;> omega
 ·have:=unv_set (List.replicate N (-1:Int)) a 0 (by simpa using ha) (by simp [List.getD_eq_getElem?_getD,List.getElem?_replicate,ha]) (by omega)
  have h2:=unv_le (List.replicate N (-1:Int))
  rw [List.length_replicate] at h2
  show 1+unv ((List.replicate N (-1:Int)).set a 0)≤N
  omega
theorem ends4:Ends 4:=by
 intro g a hg hc
 obtain ⟨en,hG⟩:=hg.good
 have ha:=(code_rng hc).2 (.inr (.inr rfl))
 have hs:=hg.sm
 generalize g.N.toNat=N at *
 have hN:=hG.le
 have hlen:=hG.len
 obtain ⟨a,rfl⟩:∃ m:Nat,a=m:=⟨a.toNat,by omega⟩
 have haN:a<N:=by omega
 have hinv:∀ m,(∀ i,i<m→i<(s4 N g.Out a i).1.length)→FSt N g.Out a m (s4 N g.Out a m):=by
  intro m
  induction m with
  | zero=>intro _;exact FSt.init haN
  | succ m ih=>intro h;exact (ih fun i hi=>h i (by omega)).next hG (h m (by omega))
 obtain ⟨n,hnN,hn1,hn2⟩:∃ n,n≤N∧¬ n<(s4 N g.Out a n).1.length∧∀ i,i<n→i<(s4 N g.Out a i).1.length:=by
  rcases least (fun i=>i<(s4 N g.Out a i).1.length) (N+1) with h | ⟨n,h1,h2,h3⟩
  ·have:=(hinv N fun i hi=>h i (by omega)).len
   have:=h N (by omega)
   omega
  ·exact ⟨n,by omega,h2,h3⟩
 have hI:∀ i,i≤n→FSt N g.Out a i (s4 N g.Out a i):=fun i hi=>hinv i fun m hm=>hn2 m (by omega)
 have hL:∀ i,i≤n→(s4 N g.Out a i).1.length≤16∧(s4 N g.Out a i).2.length≤16:=fun i hi=>by
  have:=(hI i hi).len
  have:=(hI i hi).bfs.half.len
  omega
 refine ⟨n,fun i=>(4,a,i,false,(s4 N g.Out a i).1,(s4 N g.Out a i).2),tr_of hg en hN hs hc ?_ (by omega) (fun i _=>⟨rfl,by simp [a0]⟩) (fun i hi=>⟨Nat.le_trans (hL i hi).1 (by omega),Nat.le_trans (hL i hi).2 (by omega)⟩) (fun i hi=>?_) (fun i hi=>?_) ?_⟩
 ·simp [job0,a0,out0,s4]
 ·show decide ((i:Int)≥_)=false
  have:=hn2 i hi
  exact decide_eq_false (by simp only [pList];omega)
 ·have hlt:=hn2 i hi
  obtain ⟨hu,hue,hF⟩:=(hI i (by omega)).inv hlt
  have hll:=hL i (by omega)
  have hsm:JSm ((4,(a:Int),(i:Int),false,(s4 N g.Out a i).1,(s4 N g.Out a i).2):Ai):=⟨Nat.le_trans hll.1 (by omega),Nat.le_trans hll.2 (by omega)⟩
  constructor
  ·have h1:=svis4 hG hu ((4,(a:Int),(i:Int),false,(s4 N g.Out a i).1,(s4 N g.Out a i).2):Ai) ⟨rfl,rfl,rfl⟩ 0 (by omega) _ hF
   rw [List.drop_zero] at h1
   unfold Dp
   simp only [pKind,pA,pAt,pMove,pList,pOut]
   refine negE (by decide) (negE (by decide) (negE (by decide) (negE (by decide) (posE rfl (pos (by omega) ?_)))))
   simp only [rdN,at1 i (by omega)]
   rw [← hue]
   simp only [rd1N]
   exact pos (by omega) h1.e1
  ·have h1:=rvis4 hG hu ((4,(a:Int),(i:Int),false,(s4 N g.Out a i).1,(s4 N g.Out a i).2):Ai) ⟨rfl,rfl,rfl⟩ 0 (by omega) _ hF
   rw [List.drop_zero] at h1
   unfold Ad
   refine bnd (copyjob_ev _ hsm) ?_
   simp only [pKind,pA,pAt,pMove,pList,pOut]
   refine negE (by decide) (negE (by decide) (negE (by decide) (negE (by decide) (posE rfl (pos (by omega) ?_)))))
   simp only [rdN,at1 i (by omega)]
   rw [← hue]
   exact h1.e1
 ·show decide ((n:Int)≥_)=true
  exact decide_eq_true (by simp only [pList];omega)
end Go.XL
end
end
section
section
namespace Go.XL
open Go.XM
theorem set_self (l:List Int) (i:Nat) (h:i<l.length):l.set i (l.getD i 0)=l:=by
 rw [getD_lt h];simp
theorem mn_eq (a b:Int):(if b<a then b else a)=mn a b:=rfl
def prt1 (u:Nat) (p:Bool × List Int) (w:Int):Bool × List Int:=(p.1 || (p.2.getD u 0 != p.2.getD w.toNat 0),(p.2.set u (mn (p.2.getD u 0) (p.2.getD w.toNat 0))).set w.toNat (mn (p.2.getD u 0) (p.2.getD w.toNat 0)))
structure PInv (N:Nat) (out:List (List Int)) (l0:List Int) (u j:Nat) (p:Bool × List Int):Prop where
 swp:Swp N out l0 u j p.2
 id:p.1=false→p.2=l0
 ev:p.1=false→∀ v w,v<u→v<N→w<N→Edge out v w→p.2.getD v 0=p.2.getD w 0
 evj:p.1=false→∀ i,i<j→i<(out.getD u []).length→p.2.getD u 0=p.2.getD ((out.getD u []).getD i 0).toNat 0
 no:PartOf N out l0→p.1=false
theorem PInv.step {N:Nat} {out:List (List Int)} {l0:List Int} {u j:Nat} {p:Bool × List Int} (hg:Good N out) (h:PInv N out l0 u j p) (hu:u<N) (hj:j<(out.getD u []).length):PInv N out l0 u (j+1) (prt1 u p ((out.getD u []).getD j 0)):=by
 obtain ⟨he,hwN,hwe⟩:=edge_of hg hu hj
 have hl:=h.swp.half.len
 have hput:=h.swp.put hg hu hj
 obtain ⟨mv,l⟩:=p
 dsimp only at hl hput
 have key:(mv || (l.getD u 0 != l.getD ((out.getD u []).getD j 0).toNat 0))=false→mv=false∧l.getD u 0=l.getD ((out.getD u []).getD j 0).toNat 0∧(l.set u (mn (l.getD u 0) (l.getD ((out.getD u []).getD j 0).toNat 0))).set ((out.getD u []).getD j 0).toNat (mn (l.getD u 0) (l.getD ((out.getD u []).getD j 0).toNat 0))=l:=by
  intro hm
  rw [Bool.or_eq_false_iff] at hm
  have e:l.getD u 0=l.getD ((out.getD u []).getD j 0).toNat 0:=by
   have h3:=hm.2
   simp only [bne_eq_false_iff_eq] at h3
   exact h3
  refine ⟨hm.1,e,?_⟩
  have em:mn (l.getD u 0) (l.getD ((out.getD u []).getD j 0).toNat 0)=l.getD u 0:=by
   unfold mn;split <;> omega
  rw [em,set_self l u (by omega),e,set_self l _ (by omega)]
 refine ⟨hput,fun hm=>?_,fun hm=>?_,fun hm=>?_,fun hp=>?_⟩
 ·obtain ⟨h1,h2,h3⟩:=key hm
  exact h3.trans (h.id h1)
 ·obtain ⟨h1,h2,h3⟩:=key hm
  show ∀ v w,_→_→_→_→List.getD (List.set _ _ _) _ _=List.getD (List.set _ _ _) _ _
  rw [h3]
  exact h.ev h1
 ·obtain ⟨h1,h2,h3⟩:=key hm
  show ∀ i,_→_→List.getD (List.set _ _ _) _ _=List.getD (List.set _ _ _) _ _
  rw [h3]
  intro i hi hi2
  by_cases e:i=j
  ·rw [e];exact h2
  ·exact h.evj h1 i (by omega) hi2
 ·have h1:mv=false:=h.no hp
  have h2:l=l0:=h.id h1
  have h3:=hp.edge u _ hu hwN he
  show (mv || (l.getD u 0 != l.getD ((out.getD u []).getD j 0).toNat 0))=false
  rw [h1,h2,h3]
  simp
theorem PInv.run {N:Nat} {out:List (List Int)} {l0:List Int} {u:Nat} (hg:Good N out) (hu:u<N):∀ j,j≤(out.getD u []).length→∀ p,PInv N out l0 u j p→PInv N out l0 u (out.getD u []).length (((out.getD u []).drop j).foldl (prt1 u) p):=by
 refine upto ?_ ?_
 ·intro p h;simpa using h
 ·intro j hj ih p h
  rw [drop_getD (d:=0) hj,List.foldl_cons]
  exact ih _ (h.step hg hu hj)
theorem PInv.next {N:Nat} {out:List (List Int)} {l0:List Int} {u:Nat} {p:Bool × List Int} (h:PInv N out l0 u (out.getD u []).length p):PInv N out l0 (u+1) 0 p :=
 ⟨h.swp.next (Nat.le_refl _),h.id,fun hm v w h1 h2 h3 hE=>by
  by_cases e:v=u
  ·subst e
   obtain ⟨i,hi,ei⟩:=edge_at hE
   have:=h.evj hm i hi hi
   rwa [ei,Int.toNat_natCast] at this
  ·exact h.ev hm v w (by omega) h2 h3 hE,fun hm i hi=>by omega,h.no⟩
def pend (N u:Nat) (p:Bool × List Int):Nat × Bool × List Int:=if u+1=N then (if p.1 then (0,false,p.2) else (N,false,p.2)) else (u+1,p.1,p.2)
def pjob (s:Nat × Bool × List Int):Ai:=(5,0,(s.1:Int),s.2.1,[],s.2.2)
theorem svis5 {g:Ac} {N:Nat} (en:g.N=(N:Int)) (hg:Good N g.Out) {l0:List Int} {u:Nat} (hu:u<N) (x:Ai) (hx:x.Kind=5∧x.A=0∧x.At=(u:Int)∧x.List_=[]):∀ j,j≤(g.Out.getD u []).length→∀ p,PInv N g.Out l0 u j p →
  E1 (fun K k=>Fb.l1 K g x k (g.Out.getD u []) (((g.Out.getD u []).length:Nat):Int) (j:Int) p.1 p.2) (pjob (pend N u (((g.Out.getD u []).drop j).foldl (prt1 u) p))):=by
 have hN:=hg.le
 have hr:=hg.rlen u
 refine upto ?_ ?_
 ·intro p h
  rw [List.drop_length]
  simp only [List.foldl_nil]
  refine step1 (fun _ _ _ _ _=>Fb.l1.eq_2 ..) ?_
  refine negD (by omega) ?_
  rw [hx.2.2.1,w1 (by omega),en]
  unfold Fb.j3
  rw [hx.1,hx.2.1,hx.2.2.2]
  unfold pend pjob
  by_cases e:u+1=N
  ·rw [if_pos e]
   refine posE (by omega) ?_
   cases hm:p.1 with
   | true=>exact pos rfl (nowE rfl)
   | false=>exact neg (by decide) (nowE (by rw [e];rfl))
  ·rw [if_neg e]
   exact negE (by omega) (neg (by decide) (nowE rfl))
 ·intro j hj ih p h
  obtain ⟨he,hwN,hwe⟩:=edge_of hg hu hj
  have hl:=h.swp.half.len
  have:=ih _ (h.step hg hu hj)
  rw [drop_getD (d:=0) hj,List.foldl_cons]
  refine step1 (fun _ _ _ _ _=>Fb.l1.eq_2 ..) ?_
  unfold Fb.j2
  rw [hx.2.2.1,rdN,rdN,rdI,w1 (by omega),Int.toNat_natCast,mn_eq]
  refine posD (by omega) (pos (by omega) (pos (by omega) (pos (by omega) ?_)))
  unfold prt1 at this ⊢
  cases hm:p.1 with
  | true =>
   rw [hm] at this
   exact pos rfl (pos (by omega) (pos (by rw [List.length_set];omega) this))
  | false =>
   rw [hm] at this
   exact neg (by decide) (pos (by omega) (pos (by omega) (pos (by omega) (pos (by rw [List.length_set];omega) this))))
theorem rvis5 {g:Ac} {N:Nat} (en:g.N=(N:Int)) (hg:Good N g.Out) {l0:List Int} {u:Nat} (hu:u<N) (x:Ai) (hx:x.Kind=5∧x.A=0∧x.At=(u:Int)∧x.List_=[]):∀ j,j≤(g.Out.getD u []).length→∀ p,PInv N g.Out l0 u j p →
  E1 (fun K k=>Ad.l4 K x g k (j:Int) ((u+1:Nat):Int) p.1 p.2 0 0 0) (pjob (pend N u (((g.Out.getD u []).drop j).foldl (prt1 u) p))):=by
 have hN:=hg.le
 have hlen:=hg.len
 have hr:=hg.rlen u
 refine upto ?_ ?_
 ·intro p h
  rw [List.drop_length]
  simp only [List.foldl_nil]
  refine step1 (fun _ _ _ _ _=>Ad.l4.eq_2 ..) ?_
  rw [hx.2.2.1,rd1N]
  refine pos (by omega) (negD (by omega) ?_)
  rw [hx.1,hx.2.1,hx.2.2.2]
  unfold pend pjob
  by_cases e:u+1=N
  ·rw [if_pos e]
   refine posD (by omega) ?_
   cases hm:p.1 with
   | true=>exact pos rfl (nowE rfl)
   | false=>exact neg (by decide) (nowE (by rw [e];rfl))
  ·rw [if_neg e]
   exact negD (by omega) (nowE rfl)
 ·intro j hj ih p h
  obtain ⟨he,hwN,hwe⟩:=edge_of hg hu hj
  have hl:=h.swp.half.len
  have:=ih _ (h.step hg hu hj)
  rw [drop_getD (d:=0) hj,List.foldl_cons]
  refine step1 (fun _ _ _ _ _=>Ad.l4.eq_2 ..) ?_
  unfold Ad.j5
  rw [hx.2.2.1,rd1N,rdN,rdN,rdI,w1 (by omega),Int.toNat_natCast,mn_eq]
  refine pos (by omega) (posD (by omega) (pos (by omega) (pos (by omega) ?_)))
  unfold prt1 at this ⊢
  cases hm:p.1 with
  | true =>
   rw [hm] at this
   exact pos rfl (pos (by omega) (pos (by omega) (pos (by omega) (pos (by rw [List.length_set];omega) this))))
  | false =>
   rw [hm] at this
   exact neg (by decide) (pos (by omega) (pos (by omega) (pos (by omega) (pos (by omega) (pos (by omega) (pos (by rw [List.length_set];omega) this))))))
def PSt (N:Nat) (out:List (List Int)) (i:Nat) (s:Nat × Bool × List Int):Prop :=
 (s.1<N∧∃ t l0,i=t*N+s.1∧t≤N∧PHalf N out l0∧Settled N out l0 t∧PInv N out l0 s.1 0 s.2)∨(¬ s.1<N∧PartOf N out s.2.2)
def v5 (N:Nat) (out:List (List Int)) (s:Nat × Bool × List Int):Nat × Bool × List Int:=pend N s.1 ((out.getD s.1 []).foldl (prt1 s.1) s.2)
def s5 (N:Nat) (out:List (List Int)):Nat→Nat × Bool × List Int
 | 0=>(0,false,upN N)
 | i+1=>v5 N out (s5 N out i)
theorem PInv.beg {N:Nat} {out:List (List Int)} {l0:List Int} (h:PHalf N out l0):PInv N out l0 0 0 (false,l0) :=
 ⟨⟨h,fun v hv=>Int.le_refl _,fun u w h1=>by omega,fun j h1=>by omega⟩,fun _=>rfl,fun _ v w h1=>by omega,fun _ i h1=>by omega,fun _=>rfl⟩
theorem PSt.next {N:Nat} {out:List (List Int)} (hg:Good N out) {i:Nat} {s:Nat × Bool × List Int} (h:PSt N out i s) (hs:s.1<N):PSt N out (i+1) (v5 N out s):=by
 rcases h with ⟨_,t,l0,h1,h2,h3,h4,h5⟩ | ⟨h,_⟩
 ·have hr:=PInv.run hg hs 0 (by omega) s.2 h5
  rw [List.drop_zero] at hr
  have hn:=hr.next
  unfold v5
  generalize (out.getD s.1 []).foldl (prt1 s.1) s.2=p at *
  unfold pend
  by_cases e:s.1+1=N
  ·rw [if_pos e]
   cases hm:p.1 with
   | true =>
    left
    rw [e] at hn
    have hdone:=hn.swp.done h3 h4
    have htN:t<N:=by
     apply Classical.byContradiction
     intro q
     have ht:t=N:=by omega
     rw [ht] at h4
     have:=hn.no (settled_part h3 h4.all)
     rw [hm] at this
     cases this
    refine ⟨by show 0<N;omega,t+1,p.2,?_,htN,hn.swp.half,hdone,PInv.beg hn.swp.half⟩
    show i+1=(t+1)*N+0
    rw [Nat.add_mul];omega
   | false =>
    right
    rw [e] at hn
    refine ⟨by show ¬ N<N;omega,hn.swp.half,fun u w hu hw hE=>?_⟩
    exact hn.ev hm u w hu hu hw hE
  ·rw [if_neg e]
   left
   exact ⟨by show s.1+1<N;omega,t,l0,by show i+1=t*N+(s.1+1);omega,h2,h3,h4,hn⟩
 ·exact absurd hs h
theorem ends5:Ends 5:=by
 intro g a hg hc
 obtain ⟨en,hG⟩:=hg.good
 have hs:=hg.sm
 generalize g.N.toNat=N at *
 have hN:=hG.le
 have hlen:=hG.len
 have h0:PHalf N g.Out (upN N):=PHalf.init (upN_length N) (fun j hj=>upN_getD hj)
 have hz:PSt N g.Out 0 (s5 N g.Out 0):=by
  by_cases e:0<N
  ·exact .inl ⟨e,0,upN N,by show 0=0*N+0;omega,by omega,h0,.inr ⟨[],List.nodup_nil,by simp,by simp⟩,PInv.beg h0⟩
  ·exact .inr ⟨e,h0,fun u w hu=>by omega⟩
 have hinv:∀ m,(∀ i,i<m→(s5 N g.Out i).1<N)→PSt N g.Out m (s5 N g.Out m):=by
  intro m
  induction m with
  | zero=>intro _;exact hz
  | succ m ih=>intro h;exact (ih fun i hi=>h i (by omega)).next hG (h m (by omega))
 have hNN:(N+1)*N≤272:=by
  have:=Nat.mul_le_mul (show N+1≤17 by omega) hN
  omega
 obtain ⟨n,hnN,hn1,hn2⟩:∃ n,n≤272∧¬ (s5 N g.Out n).1<N∧∀ i,i<n→(s5 N g.Out i).1<N:=by
  rcases least (fun i=>(s5 N g.Out i).1<N) ((N+1)*N+1) with h | ⟨n,h1,h2,h3⟩
  ·have h1:=h ((N+1)*N) (by omega)
   rcases hinv ((N+1)*N) (fun i hi=>h i (by omega)) with ⟨_,t,l0,a1,a2,_⟩ | ⟨a1,_⟩
   ·have:=Nat.mul_le_mul_right N a2
    have:=Nat.add_mul N 1 N
    omega
   ·exact absurd h1 a1
  ·exact ⟨n,by omega,h2,h3⟩
 have hI:∀ i,i≤n→PSt N g.Out i (s5 N g.Out i):=fun i hi=>hinv i fun m hm=>hn2 m (by omega)
 have hL:∀ i,i≤n→(s5 N g.Out i).2.2.length≤16:=fun i hi=>by
  rcases hI i hi with ⟨_,t,l0,_,_,_,_,h⟩ | ⟨_,h⟩
  ·have:=h.swp.half.len;omega
  ·have:=h.half.len;omega
 refine ⟨n,fun i=>pjob (s5 N g.Out i),tr_of hg en hN hs hc ?_ (by omega) (fun i _=>⟨rfl,by simp [a0,pjob]⟩) (fun i hi=>⟨Nat.zero_le _,Nat.le_trans (hL i hi) (by omega)⟩) (fun i hi=>?_) (fun i hi=>?_) ?_⟩
 ·simp [job0,a0,out0,s5,pjob]
 ·show decide (((s5 N g.Out i).1:Int)≥g.N)=false
  have:=hn2 i hi
  exact decide_eq_false (by omega)
 ·have hlt:=hn2 i hi
  have hll:=hL i (by omega)
  rcases hI i (by omega) with ⟨_,t,l0,_,_,_,_,hF⟩ | ⟨h,_⟩
  ·have hsm:JSm (pjob (s5 N g.Out i)):=⟨Nat.zero_le _,Nat.le_trans hll (by omega)⟩
   show Vis g (pjob (s5 N g.Out i)) (pjob (v5 N g.Out (s5 N g.Out i)))
   constructor
   ·have h1:=svis5 en hG hlt (pjob (s5 N g.Out i)) ⟨rfl,rfl,rfl,rfl⟩ 0 (by omega) _ hF
    rw [List.drop_zero] at h1
    unfold Dp
    refine posE rfl (tail ?_)
    unfold Fb
    refine pos (by show (0:Int)≤((s5 N g.Out i).1:Int)∧((s5 N g.Out i).1:Int)<_;omega) ?_
    have e:nth g.Out (pjob (s5 N g.Out i)).At=g.Out.getD (s5 N g.Out i).1 []:=rd1N g.Out _
    rw [e]
    exact h1.e1
   ·have h1:=rvis5 en hG hlt (pjob (s5 N g.Out i)) ⟨rfl,rfl,rfl,rfl⟩ 0 (by omega) _ hF
    rw [List.drop_zero] at h1
    unfold Ad
    refine bnd (copyjob_ev _ hsm) ?_
    refine negE (by show ¬ (5:Int)=1;decide) (negE (by show ¬ (5:Int)=2;decide) (negE (by show ¬ (5:Int)=3;decide) (negE (by show ¬ (5:Int)=6;decide) (negE (by show ¬ (5:Int)=4;decide) ?_))))
    have e:wr .i64 ((pjob (s5 N g.Out i)).At+1)=(((s5 N g.Out i).1+1:Nat):Int):=at1 _ (by omega)
    rw [e]
    exact h1.e1
  ·exact absurd hlt h
 ·show decide (((s5 N g.Out n).1:Int)≥g.N)=true
  exact decide_eq_true (by omega)
end Go.XL
end
end
section
section
namespace Go.XL
open Go.XM
abbrev zj:Ai:=((0,0,0,false,([]:List Int),([]:List Int)):Ai)
theorem ends_any {n kind a:Int} (h:code n kind a=0):Ends kind:=by
 obtain ⟨h1,_⟩:=code_rng h
 have:kind=1∨kind=2∨kind=3∨kind=4∨kind=5∨kind=6:=by omega
 rcases this with rfl | rfl | rfl | rfl | rfl | rfl
 ·exact ends1
 ·exact ends2
 ·exact ends3
 ·exact ends4
 ·exact ends5
 ·exact ends6
theorem sbeg_bad (g:Ac) (kind a:Int) (hs:GSm g) (c:Int) (hc:(if GraphP g then code g.N kind a else 1)=c) (h0:c≠0):E0 (fun K=>Gp K g kind a) (zj,c):=by
 have:=asked_ev g kind a hs
 rw [hc] at this
 unfold Gp
 exact bnd this (posN h0 (now _))
theorem may_bad (g:Ac) (j:Ai) (hs:GSm g) (h0:(if GraphP g then code g.N j.Kind j.A else 1)≠0):E0 (fun K=>Fu K g j) false:=by
 unfold Fu
 exact bnd (sbeg_bad g j.Kind j.A hs _ rfl h0) (posN h0 (now _))
section
variable {g:Ac} {kind a:Int} {n:Nat} {tr:Nat→Ai}
end
section
variable {g:Ac} {j:Ai} {n:Nat} {tr:Nat→Ai}
theorem Tr.mayNo (h:Tr g j.Kind j.A n tr) (hj:∀ i,i≤n→tr i≠j):E0 (fun K=>Fu K g j) false:=by
 have key:∀ i,i≤n→E1 (fun K k=>Fu.l1 K g j k (tr i).Kind (tr i).A (tr i).At (tr i).Move (tr i).List_ (tr i).Out) false:=by
  refine upto ?_ ?_
  ·refine step1 (fun _ _ _ _ _=>Fu.l1.eq_2 ..) ?_
   simp only [eta,over_eq,h.fin]
   exact bnd (jsame_ev _ _ (h.sm n (Nat.le_refl _))) (negD (hj n (Nat.le_refl _)) (bnd (now _) (pos rfl (now _))))
  ·intro i hi ih
   refine step1 (fun _ _ _ _ _=>Fu.l1.eq_2 ..) ?_
   simp only [eta,over_eq,h.go i hi]
   exact bnd (jsame_ev _ _ (h.sm i (by omega))) (negD (hj i (by omega)) (bnd (now _) (neg (by decide) (bnd (h.vis i hi).1 ih))))
 unfold Fu
 exact bnd h.beg (negN rfl (key 0 (by omega)).e1)
theorem Tr.jobNo (h:Tr g j.Kind j.A n tr) (hg:GraphP g) (hc:code g.N j.Kind j.A=0) (hj:∀ i,i≤n→tr i≠j):E0 (fun K=>Az K g j) false:=by
 have key:∀ i,i≤n→E1 (fun K k=>Az.l1 K g j k (tr i).Kind (tr i).A (tr i).At (tr i).Move (tr i).List_ (tr i).Out) false:=by
  refine upto ?_ ?_
  ·refine step1 (fun _ _ _ _ _=>Az.l1.eq_2 ..) ?_
   simp only [eta,ended_eq,h.fin]
   exact bnd (eqjob_ev _ _ (h.sm n (Nat.le_refl _))) (posM (hj n (Nat.le_refl _)) (bnd (now _) (pos rfl (now _))))
  ·intro i hi ih
   refine step1 (fun _ _ _ _ _=>Az.l1.eq_2 ..) ?_
   simp only [eta,ended_eq,h.go i hi]
   exact bnd (eqjob_ev _ _ (h.sm i (by omega))) (posM (hj i (by omega)) (bnd (now _) (neg (by decide) (bnd (h.vis i hi).2 ih))))
 have h0:=bnd (f:=fun K _ _ _ _ (r29:Ai)=>Az.l1 K g j K r29.Kind r29.A r29.At r29.Move r29.List_ r29.Out) h.ref (key 0 (by omega)).e1
 unfold Az
 simp only [may10_eq _ g j.Kind j.A hg.1 hg.2.1,hc,named10_eq]
 refine bnd (now _) (negN rfl (bnd (now _) ?_))
 by_cases hn:j.Kind=1∨j.Kind=2∨j.Kind=4
 ·exact negM hn h0
 ·refine posM hn ?_
  by_cases hA:j.A=0
  ·exact negN hA h0
  ·exact posN hA (now _)
theorem Tr.jobYes (h:Tr g j.Kind j.A n tr) (hg:GraphP g) (hc:code g.N j.Kind j.A=0) (i:Nat) (hi:i≤n) (hj:tr i=j):E0 (fun K=>Az K g j) true:=by
 have key:∀ m,m≤i→E1 (fun K k=>Az.l1 K g j k (tr m).Kind (tr m).A (tr m).At (tr m).Move (tr m).List_ (tr m).Out) true:=by
  refine upto ?_ ?_
  ·refine step1 (fun _ _ _ _ _=>Az.l1.eq_2 ..) ?_
   exact bnd (eqjob_ev (tr i) j (h.sm i hi)) (negM hj (now _))
  ·intro m hm ih
   refine step1 (fun _ _ _ _ _=>Az.l1.eq_2 ..) ?_
   simp only [eta,ended_eq,h.go m (by omega)]
   refine bnd (eqjob_ev _ _ (h.sm m (by omega))) ?_
   by_cases e:tr m=j
   ·exact negM e (now _)
   ·exact posM e (bnd (now _) (neg (by decide) (bnd (h.vis m (by omega)).2 ih)))
 have h0:=bnd (f:=fun K _ _ _ _ (r29:Ai)=>Az.l1 K g j K r29.Kind r29.A r29.At r29.Move r29.List_ r29.Out) h.ref (key 0 (by omega)).e1
 unfold Az
 simp only [may10_eq _ g j.Kind j.A hg.1 hg.2.1,hc,named10_eq]
 refine bnd (now _) (negN rfl (bnd (now _) ?_))
 by_cases hn:j.Kind=1∨j.Kind=2∨j.Kind=4
 ·exact negM hn h0
 ·refine posM hn (negN ?_ h0)
  rw [← hj,(h.kd i hi).2]
  exact h.un hn
end
theorem jobBad {g:Ac} {j:Ai} (hg:GraphP g) (hc:code g.N j.Kind j.A≠0):E0 (fun K=>Az K g j) false:=by
 unfold Az
 simp only [may10_eq _ g j.Kind j.A hg.1 hg.2.1]
 exact bnd (now _) (posN hc (now _))
end Go.XL
end
end
section
section
namespace Go.XL
open Go.XM
theorem beq_str (a b:ByteArray):(a.toList == b.toList)=decide (a=b):=by
 rw [Lib.toList_data,Lib.toList_data]
 by_cases h:a=b
 ·rw [h];simp
 ·rw [decide_eq_false h]
  have:¬ a.data.toList=b.data.toList:=fun e=>h (ByteArray.ext (by
   rw [← Array.toArray_toList (xs:=a.data),← Array.toArray_toList (xs:=b.data),e]))
  simpa using this
theorem between_eq (K:Nat) (a b c:Int):Bo K a b c=some (decide (b≤a∧a≤c)):=by
 unfold Bo
 by_cases h:a≥b
 ·rw [if_pos (decide_eq_true h)];simp [h]
 ·rw [if_neg (by simpa using h)];simp;omega
theorem sz_data (s:ByteArray):s.size=s.data.toList.length:=by show s.data.size=_;rw [Array.length_toList]
theorem str_ext {a b:ByteArray} (h:a.data.toList=b.data.toList):a=b:=ByteArray.ext (by
   rw [← Array.toArray_toList (xs:=a.data),← Array.toArray_toList (xs:=b.data),h])
theorem bytesL_len (s:ByteArray):(bytesL s).length=s.size:=by rw [sz_data];simp [bytesL]
theorem bytesL_bytesOf {l:List Int} (h:∀ x∈l,0≤x∧x≤255):bytesL (bytesOf l)=l:=by
 unfold bytesL
 rw [bytesOf_data,List.map_map]
 conv=>rhs;rw [← List.map_id l]
 refine List.map_congr_left fun x hx=>?_
 have:=h x hx
 simp only [Function.comp,id]
 simp
 omega
theorem bytesOf_bytesL (s:ByteArray):bytesOf (bytesL s)=s:=by
 apply str_ext
 rw [bytesOf_data];unfold bytesL
 rw [List.map_map]
 conv=>rhs;rw [← List.map_id s.data.toList]
 refine List.map_congr_left fun x _=>?_
 simp
theorem bytesL_rng (s:ByteArray):∀ x∈bytesL s,0≤x∧x≤255:=by
 intro x hx
 obtain ⟨b,_,rfl⟩:=List.mem_map.1 hx
 have:=b.toNat_lt
 omega
theorem bytesL_inj {a b:ByteArray} (h:bytesL a=bytesL b):a=b:=by rw [← bytesOf_bytesL a,h,bytesOf_bytesL]
theorem bytesL_app (a b:ByteArray):bytesL (a++b)=bytesL a++bytesL b:=by unfold bytesL;rw [ByteArray.data_append];simp
theorem bytesL_ext (s:ByteArray) (i j:Nat):bytesL (s.extract i j)=((bytesL s).take j).drop i:=by
 unfold bytesL;rw [ByteArray.data_extract,Array.toList_extract,List.extract_eq_drop_take]
 rw [← List.map_take,← List.map_drop,List.drop_take]
theorem bt_get (s:ByteArray) (i:Nat):bt s (i:Int)=(bytesL s).getD i 0:=by
 unfold bt bytesL
 rw [Int.toNat_natCast,List.getD_eq_getElem?_getD,List.getD_eq_getElem?_getD,List.getElem?_map]
 cases s.data.toList[i]? <;> rfl
def adl:List Int→Int × Int→Int × Int
 | [],p=>p
 | c::cs,p=>adl cs ((p.1+c) % 65521,(p.2+(p.1+c) % 65521) % 65521)
def chkL (l:List Int):Int:=(adl l (1,0)).2*65536+(adl l (1,0)).1
def chk (s:ByteArray):Int:=chkL (bytesL s)
theorem wu8 (x:Int):wr .u8 x=x % 256:=by
 show IntKind.wrap .u8 _=_
 unfold IntKind.wrap
 simp only [IntKind.bits,IntKind.signed]
 simp
def nulls (n:Nat):ByteArray:=⟨(List.replicate n 0).toArray⟩
theorem nulls_size (n:Nat):(nulls n).size=n:=by unfold nulls;show (List.replicate n 0).toArray.size=n;simp
theorem repeat_eq (K n:Nat) (h:n≤1000):F4 K (⟨#[0]⟩:ByteArray) (n:Int)=some (nulls n):=by
 have hr:∀ m,Lib.repeatL [0] m=List.replicate m (0:UInt8):=fun m=>by
  induction m with
  | zero=>rfl
  | succ m ih=>rw [Lib.repeatL,ih];rfl
 unfold F4 repF
 rw [Int.toNat_natCast,if_pos ⟨by omega,by omega,by show 1*n≤_;omega⟩]
 show some (⟨(Lib.repeatL [0] n).toArray⟩:ByteArray)=_
 rw [hr];rfl
theorem bytesOf_zero (n:Nat):bytesOf (List.replicate n 0)=nulls n:=by
 apply str_ext
 rw [bytesOf_data];simp [nulls]
def fourL (v:Int):List Int:=[(v / 16777216) % 256,(v / 65536) % 256,(v / 256) % 256,v % 256]
def four (v:Int):ByteArray:=bytesOf (fourL v)
theorem four_size (v:Int):(four v).size=4:=by unfold four;rw [bytesOf_size];rfl
theorem four_L (v:Int):bytesL (four v)=fourL v:=bytesL_bytesOf (by
 intro x hx
 simp only [fourL,List.mem_cons,List.not_mem_nil,or_false] at hx
 rcases hx with rfl | rfl | rfl | rfl <;> omega)
theorem fdE {x:Int} {n:Int} (hn:0<n):x.fdiv n=x / n:=Int.fdiv_eq_ediv_of_nonneg x (by omega)
theorem number_eq (K:Nat) (v:Int):Dg K v=some (four v):=by
 unfold Dg
 rw [if_pos (by decide),if_pos (by decide),if_pos (by decide),show (2:Int) ^ min ((24:Int)).toNat 64=16777216 from rfl,show (2:Int) ^ min ((16:Int)).toNat 64=65536 from rfl,show (2:Int) ^ min ((8:Int)).toNat 64=256 from rfl,fdE (by decide),fdE (by decide),fdE (by decide),wu8,wu8,wu8,wu8]
 rfl
def okB (s:ByteArray):Prop:=s.size=64∧four (chk (s.extract 0 60))=s.extract 60 64
instance (s:ByteArray):Decidable (okB s):=by unfold okB;infer_instance
end Go.XL
end
end
section
section
namespace Go.XL
open Go.XM
theorem eql_gen {α:Type} [Inhabited α] [DecidableEq α] {xs ys:List α} (hl:xs.length≤17592186044416) (c:Int→Bool) (hc:∀ i,c i=!decide (nth xs i=nth ys i)) (F:Nat→Nat→Int→Option Bool)
  (hF:∀ K k i,F K (k+1) i=if decide (i<((xs.length:Nat):Int))=true then if (0:Int)≤i∧i<((xs.length:Nat):Int) then if (0:Int)≤i∧i<((ys.length:Nat):Int) then if c i=true then some false else F K k (wr .i64 (i+1)) else none else none else some true)
  (f:Nat→Option Bool) (hf:∀ K,f K=if (((xs.length:Nat):Int) != ((ys.length:Nat):Int))=true then some false else F K K (0:Int)):E0 f (decide (xs=ys)):=by
 refine congr (fun K _ _ _ _=>hf K) ?_
 by_cases he:xs.length=ys.length
 ·refine negN (by rw [he]) ?_
  have key:∀ i,i≤xs.length→xs.take i=ys.take i→E1 (fun K k=>F K k (i:Int)) (decide (xs=ys)):=by
   refine upto ?_ ?_
   ·intro h
    rw [List.take_length,he,List.take_length] at h
    refine step1 (fun _ _ _ _ _=>hF _ _ _) (negD (by omega) (nowE ?_))
    simp [h]
   ·intro i hi ih h
    refine step1 (fun _ _ _ _ _=>hF _ _ _) (posD (by omega) (pos (by omega) (pos (by omega) ?_)))
    rw [hc,nthN,nthN]
    by_cases e:xs.getD i default=ys.getD i default
    ·refine negM e ?_
     rw [w1 (by omega)]
     exact ih (by rw [take_getD (d:=default) hi,take_getD (d:=default) (by omega),h,e])
    ·refine posM e (nowE ?_)
     exact (decide_eq_false (fun z=>e (by rw [z]))).symm
  exact (key 0 (by omega) (by simp)).e1
 ·refine posN (by omega) (nowE ?_)
  exact (decide_eq_false (fun z=>he (by rw [z]))).symm
theorem baq (a b:ByteArray):(a == b)=decide (a=b):=by
 obtain ⟨a⟩:=a;obtain ⟨b⟩:=b
 show (a == b)=_
 by_cases h:a=b
 ·subst h;simp
 ·have:¬ (ByteArray.mk a=ByteArray.mk b):=fun z=>h (by injection z)
  rw [decide_eq_false this]
  simpa using h
end Go.XL
end
end
section
section
namespace Go.XL
open Go.XM
theorem zerosB (K n:Nat) (h:n≤140737488355328):Ex K (n:Int)=some (nulls n):=by
 unfold Ex
 rw [if_pos ⟨rfl,by omega,by omega,by omega⟩,Int.toNat_natCast,bytesOf_zero]
theorem orN {a c t:Nat} (hc:c<2 ^ t) (h:a*2 ^ t+c<9223372036854775808):ib .or .i64 ((a*2 ^ t:Nat):Int) (c:Int)=((a*2 ^ t+c:Nat):Int):=by
 have h1:(a*2 ^ t) ||| c=a*2 ^ t+c:=by
  have:=Nat.two_pow_add_eq_or_of_lt hc a
  rw [Nat.mul_comm a]
  exact this.symm
 have h2:(BitVec.ofInt 64 ((a*2 ^ t:Nat):Int) ||| BitVec.ofInt 64 (c:Int)).toNat=a*2 ^ t+c:=by
  rw [BitVec.toNat_or]
  simp only [BitVec.ofInt_natCast,BitVec.toNat_ofNat]
  rw [Nat.mod_eq_of_lt (by omega),Nat.mod_eq_of_lt (by omega),h1]
 show IntKind.wrap .i64 ((BitVec.ofInt 64 ((a*2 ^ t:Nat):Int) ||| BitVec.ofInt 64 (c:Int)).toNat:Int)=_
 rw [h2,wr_eq]
 exact w64 (by omega) (by omega)
def numL (l:List Int):Int:=l.getD 0 0*16777216+l.getD 1 0*65536+l.getD 2 0*256+l.getD 3 0
def num4 (s:ByteArray):Int:=numL (bytesL s)
theorem byte_nat (s:ByteArray) (i:Nat):∃ a:Nat,(bytesL s).getD i 0=(a:Int)∧a<256:=by
 by_cases h:i<(bytesL s).length
 ·have:=bytesL_rng s _ (getD_mem (d:=0) h)
  exact ⟨((bytesL s).getD i 0).toNat,by omega,by omega⟩
 ·exact ⟨0,by rw [List.getD_eq_getElem?_getD,List.getElem?_eq_none (by omega)];rfl,by decide⟩
theorem num4_rng (s:ByteArray):0≤num4 s∧num4 s<4294967296:=by
 obtain ⟨a,ea,ha⟩:=byte_nat s 0
 obtain ⟨b,eb,hb⟩:=byte_nat s 1
 obtain ⟨c,ec,hc⟩:=byte_nat s 2
 obtain ⟨d,ed,hd⟩:=byte_nat s 3
 unfold num4 numL
 rw [ea,eb,ec,ed];omega
theorem read_eq (K:Nat) (s:ByteArray) (h:4≤s.size):Cr K s=some (num4 s):=by
 obtain ⟨a,ea,ha⟩:=byte_nat s 0
 obtain ⟨b,eb,hb⟩:=byte_nat s 1
 obtain ⟨c,ec,hc⟩:=byte_nat s 2
 obtain ⟨d,ed,hd⟩:=byte_nat s 3
 have e0:bt s 0=(a:Int):=by rw [← ea];exact bt_get s 0
 have e1:bt s 1=(b:Int):=by rw [← eb];exact bt_get s 1
 have e2:bt s 2=(c:Int):=by rw [← ec];exact bt_get s 2
 have e3:bt s 3=(d:Int):=by rw [← ed];exact bt_get s 3
 unfold Cr num4 numL
 rw [ea,eb,ec,ed,e0,e1,e2,e3]
 rw [if_pos (by omega),if_pos (by decide),if_pos (by omega),if_pos (by decide),if_pos (by omega),if_pos (by decide),if_pos (by omega)]
 rw [w64 (i:=(a:Int)) (by omega) (by omega),w64 (i:=(b:Int)) (by omega) (by omega),w64 (i:=(c:Int)) (by omega) (by omega),w64 (i:=(d:Int)) (by omega) (by omega)]
 rw [show (2:Int) ^ min ((24:Int)).toNat 64=16777216 from rfl,show (2:Int) ^ min ((16:Int)).toNat 64=65536 from rfl,show (2:Int) ^ min ((8:Int)).toNat 64=256 from rfl]
 rw [w64 (i:=(a:Int)*16777216) (by omega) (by omega),w64 (i:=(b:Int)*65536) (by omega) (by omega),w64 (i:=(c:Int)*256) (by omega) (by omega)]
 have o1:=orN (a:=a) (c:=b*65536) (t:=24) (by omega) (by omega)
 have o2:=orN (a:=a*256+b) (c:=c*256) (t:=16) (by omega) (by omega)
 have o3:=orN (a:=a*65536+b*256+c) (c:=d) (t:=8) (by omega) (by omega)
 rw [show (a:Int)*16777216=((a*2 ^ 24:Nat):Int) by omega,show (b:Int)*65536=((b*65536:Nat):Int) by omega,o1]
 rw [show (a*2 ^ 24+b*65536)=(a*256+b)*2 ^ 16 by omega,show (c:Int)*256=((c*256:Nat):Int) by omega,o2]
 rw [show (a*256+b)*2 ^ 16+c*256=(a*65536+b*256+c)*2 ^ 8 by omega,o3,Option.some.injEq]
 omega
abbrev Rd:=Al
theorem rd_ev (s:ByteArray) (b:Bool) (h:s.size≤4611686018427387903):E0 (fun K=>Rd K ((s,b):Ay)) (if b=true∨s.size<4 then (0,(s,true)) else (num4 s,(s.extract 4 s.size,false))):=by
 show E0 (fun K=>Al K ((s,b):Ay)) _
 unfold Al
 cases b with
 | true=>rw [if_pos (.inl rfl)];exact pos rfl (now _)
 | false =>
  refine negB rfl ?_
  show Ev (fun K _ _ _ _=>if decide (((s.size:Nat):Int)<4)=true then _ else _) _
  by_cases c:s.size<4
  ·rw [if_pos (.inr c)];exact posD (by omega) (now _)
  ·rw [if_neg (fun z=>z.elim (fun z=>by cases z) c)]
   refine negD (by omega) (pos ⟨by omega,by omega,by show (4:Int)≤((s.size:Nat):Int);omega⟩ ?_)
   obtain ⟨x0,ea,ha⟩:=byte_nat s 0
   obtain ⟨x1,eb,hb⟩:=byte_nat s 1
   obtain ⟨x2,ec,hc⟩:=byte_nat s 2
   obtain ⟨x3,ed,hd⟩:=byte_nat s 3
   have hl:=bytesL_len s
   have hL:bytesL (s.extract ((0:Int)).toNat ((4:Int)).toNat)=[(x0:Int),x1,x2,x3]:=by
    rw [bytesL_ext]
    show ((bytesL s).take 4).drop 0=_
    match e:bytesL s,hl with
    | p::q::r::t::l,_ =>
     rw [e] at ea eb ec ed
     simp only [List.getD_cons_zero,List.getD_cons_succ] at ea eb ec ed
     rw [ea,eb,ec,ed];rfl
    | [],z=>simp at z;omega
    | [_],z=>simp at z;omega
    | [_,_],z=>simp at z;omega
    | [_,_,_],z=>simp at z;omega
   rw [show Ay.S (s,false)=s from rfl,hL]
   have st:∀ n c:Nat,n<4294967296→c<256→ib .or .i64 (wr .i64 ((n:Int)*2 ^ min ((8:Int)).toNat 64)) (wr .i64 (c:Int))=((n*256+c:Nat):Int):=by
    intro n c hn hc
    rw [show (2:Int) ^ min ((8:Int)).toNat 64=256 from rfl,w64 (by omega) (by omega),w64 (by omega) (by omega),show (n:Int)*256=((n*2 ^ 8:Nat):Int) by omega]
    exact orN (t:=8) (by omega) (by omega)
   have hlen:((([(x0:Int),x1,x2,x3]).length:Nat):Int)=4:=rfl
   rw [hlen]
   have go:∀ (i n c:Nat) (m:Nat) (r:Int × Ay),i<4→nth [(x0:Int),x1,x2,x3] (i:Int)=(c:Int)→n<4294967296→c<256→m=n*256+c →
     E1 (fun K k=>Al.l1 K ((s,false):Ay) k (m:Int) 4 ((i+1:Nat):Int) [(x0:Int),x1,x2,x3]) r→E1 (fun K k=>Al.l1 K ((s,false):Ay) k (n:Int) 4 (i:Int) [(x0:Int),x1,x2,x3]) r:=by
    intro i n c m r hi hn1 hn2 hn3 hm hk
    refine step1 (fun _ _ _ _ _=>Al.l1.eq_2 ..) (posD (by omega) (pos (by rw [hlen];omega) (pos (by decide) ?_)))
    rw [hn1,st n c hn2 hn3,← hm,w1 (by omega)]
    exact hk
   have last:E1 (fun K k=>Al.l1 K ((s,false):Ay) k (((x0*256+x1)*256+x2)*256+x3:Nat) 4 ((4:Nat):Int) [(x0:Int),x1,x2,x3]) (num4 s,(s.extract 4 s.size,false)):=by
    refine step1 (fun _ _ _ _ _=>Al.l1.eq_2 ..) (negD (by omega) (pos ⟨by omega,by show (4:Int)≤((s.size:Nat):Int);omega,by omega⟩ (nowE ?_)))
    unfold num4 numL
    rw [ea,eb,ec,ed]
    show ((_,(s.extract 4 (((s.size:Nat):Int)).toNat,false)):Int × Ay)=_
    rw [Int.toNat_natCast,show ((((x0*256+x1)*256+x2)*256+x3:Nat):Int)=(x0:Int)*16777216+x1*65536+x2*256+x3 by omega]
   exact ((go 0 0 x0 x0 _ (by omega) rfl (by omega) ha (by omega) (go 1 x0 x1 (x0*256+x1) _ (by omega) rfl (by omega) hb rfl (go 2 (x0*256+x1) x2 ((x0*256+x1)*256+x2) _ (by omega) rfl (by omega) hc rfl (go 3 ((x0*256+x1)*256+x2) x3 _ _ (by omega) rfl (by omega) hd rfl last))))).e1
end Go.XL
end
end
section
section
namespace Go.XL
open Go.XM
theorem ext_ext (s:ByteArray) {i j k l:Nat}:(s.extract i j).extract k l=s.extract (i+k) (min (i+l) j):=ByteArray.extract_extract
end Go.XL
end
end
section
section
namespace Go.XL
open Go.XM
theorem blank_ev (n:Int) (h:0≤n∧n≤6000) (K:Nat):Gi K n=some ((nulls ((n.toNat+7) / 8),n):Cu):=by
 unfold Gi
 obtain ⟨m,rfl⟩:=Int.eq_ofNat_of_zero_le h.1
 rw [if_pos (by decide),w64 (i:=(m:Int)+8) (by omega) (by omega),w64 (i:=(m:Int)+8-1) (by omega) (by omega),show (m:Int)+8-1=((m+7:Nat):Int) by omega,show (8:Int)=((8:Nat):Int) from rfl,tdivN,w64 (by omega) (by omega),Int.toNat_natCast,repeat_eq K _ (by omega)]
 rfl
end Go.XL
end
end
section
section
namespace Go.XL
open Go.XM
theorem emp {s:ByteArray} (h:s.size=0):s=ByteArray.empty:=ByteArray.size_eq_zero_iff.1 h
end Go.XL
end
end
section
section
namespace Go.XL
open Go.XM
abbrev F5 (α:Type):=Nat→Nat→Nat→Nat→Nat→Option α
def EP (g:F5 Bool) (P:Prop):Prop:=(P→Ev g true)∧(¬ P→Ev g false)
section
variable {g f:F5 Bool} {P Q:Prop}
theorem EP.yes (h:P) (k:Ev g true):EP g P:=⟨fun _=>k,fun z=>absurd h z⟩
theorem EP.no (h:¬ P) (k:Ev g false):EP g P:=⟨fun z=>absurd z h,fun _=>k⟩
theorem EP.iff (h:EP g P) (e:P↔Q):EP g Q:=⟨fun z=>h.1 (e.2 z),fun z=>h.2 fun y=>z (e.1 y)⟩
theorem EP.dec [Decidable P] (h:Ev g (decide P)):EP g P:=⟨fun z=>by rwa [decide_eq_true z] at h,fun z=>by rwa [decide_eq_false z] at h⟩
theorem EP.bnd {k:Nat→Nat→Nat→Nat→Nat→Bool→Option Bool} (h:EP g P) (ht:P→EP (fun a b c d e=>k a b c d e true) Q) (hf:¬ P→EP (fun a b c d e=>k a b c d e false) Q):EP (fun a b c d e=>(g a b c d e).bind (k a b c d e)) Q:=by
 by_cases p:P
 ·exact ⟨fun q=>Go.XL.bnd (h.1 p) ((ht p).1 q),fun q=>Go.XL.bnd (h.1 p) ((ht p).2 q)⟩
 ·exact ⟨fun q=>Go.XL.bnd (h.2 p) ((hf p).1 q),fun q=>Go.XL.bnd (h.2 p) ((hf p).2 q)⟩
theorem EP.with {α:Type} {h:F5 α} {r:α} {k:Nat→Nat→Nat→Nat→Nat→α→Option Bool} (e:Ev h r) (q:EP (fun a b c d e=>k a b c d e r) Q):EP (fun a b c d e=>(h a b c d e).bind (k a b c d e)) Q :=
 ⟨fun p=>Go.XL.bnd e (q.1 p),fun p=>Go.XL.bnd e (q.2 p)⟩
theorem EP.tail (h:EP g P):EP (fun a b c d e=>(g a b c d e).bind fun r=>some r) P:=h.bnd (fun p=>.yes p (now _)) (fun p=>.no p (now _))
theorem EP.congr (e:∀ a b c d k,f a b c d k=g a b c d k) (h:EP g P):EP f P:=⟨fun p=>Go.XL.congr e (h.1 p),fun p=>Go.XL.congr e (h.2 p)⟩
theorem EP.pos {c:Prop} [Decidable c] (h:c) (k:EP f P):EP (fun x y z u v=>if c then f x y z u v else g x y z u v) P:=⟨fun p=>Go.XL.pos h (k.1 p),fun p=>Go.XL.pos h (k.2 p)⟩
theorem EP.neg {c:Prop} [Decidable c] (h:¬ c) (k:EP g P):EP (fun x y z u v=>if c then f x y z u v else g x y z u v) P:=⟨fun p=>Go.XL.neg h (k.1 p),fun p=>Go.XL.neg h (k.2 p)⟩
theorem EP.ite {c:Prop} [Decidable c] (h:c→EP f P) (k:¬ c→EP g P):EP (fun x y z u v=>if c then f x y z u v else g x y z u v) P:=by
 by_cases p:c
 ·exact .pos p (h p)
 ·exact .neg p (k p)
theorem EP.iteD {c:Prop} [Decidable c] (h:c→EP f P) (k:¬ c→EP g P):EP (fun x y z u v=>if decide c=true then f x y z u v else g x y z u v) P :=
 .ite (fun z=>h (of_decide_eq_true z)) (fun z=>k (fun y=>z (decide_eq_true y)))
theorem EP.iteE {p q:Int} (h:p=q→EP f P) (k:p≠q→EP g P):EP (fun x y z u v=>if (p == q)=true then f x y z u v else g x y z u v) P :=
 .ite (fun z=>h (by simpa using z)) (fun z=>k (by simpa using z))
theorem EP.iteN {p q:Int} (h:p≠q→EP f P) (k:p=q→EP g P):EP (fun x y z u v=>if (p != q)=true then f x y z u v else g x y z u v) P :=
 .ite (fun z=>h (by simpa using z)) (fun z=>k (by simpa using z))
theorem EP.iteB {b:Bool} (h:b=true→EP f P) (k:b=false→EP g P):EP (fun x y z u v=>if b=true then f x y z u v else g x y z u v) P :=
 .ite h (fun z=>k (by simpa using z))
theorem EP.iteM {b:Bool} (h:b=false→EP f P) (k:b=true→EP g P):EP (fun x y z u v=>if (!b)=true then f x y z u v else g x y z u v) P :=
 .ite (fun z=>h (by simpa using z)) (fun z=>k (by simpa using z))
theorem EP.step1 (e:∀ x y z u v,f x (y+1) z u v=g x y z u v) (h:EP g P):EP f P:=⟨fun p=>Go.XL.step1 e (h.1 p),fun p=>Go.XL.step1 e (h.2 p)⟩
theorem EP.step2 (e:∀ x y z u v,f x y (z+1) u v=g x y z u v) (h:EP g P):EP f P:=⟨fun p=>Go.XL.step2 e (h.1 p),fun p=>Go.XL.step2 e (h.2 p)⟩
theorem EP.e1 (h:EP g P):EP (fun x y z u v=>g x x z u v) P:=⟨fun p=>(h.1 p).e1,fun p=>(h.2 p).e1⟩
theorem EP.e2 (h:EP g P):EP (fun x y z u v=>g x y x u v) P:=⟨fun p=>(h.1 p).e2,fun p=>(h.2 p).e2⟩
theorem EP.both (h:EP g P) (k:EP f P):∃ b:Bool,Ev g b∧Ev f b∧(b=true↔P):=by
 by_cases p:P
 ·exact ⟨true,h.1 p,k.1 p,by simp [p]⟩
 ·exact ⟨false,h.2 p,k.2 p,by simp [p]⟩
theorem EP.get (h:EP g P):∃ b:Bool,Ev g b∧(b=true↔P):=by
 obtain ⟨b,h1,_,h2⟩:=h.both h
 exact ⟨b,h1,h2⟩
end
abbrev EP0 (g:Nat→Option Bool) (P:Prop):Prop:=EP (fun K _ _ _ _=>g K) P
abbrev EP1 (g:Nat→Nat→Option Bool) (P:Prop):Prop:=EP (fun K a _ _ _=>g K a) P
abbrev EP2 (g:Nat→Nat→Nat→Option Bool) (P:Prop):Prop:=EP (fun K a b _ _=>g K a b) P
def From (P:Nat→Prop) (n i:Nat):Prop:=∀ j,i≤j→j<n→P j
theorem From.done {P:Nat→Prop} {n:Nat}:From P n n:=fun j h k=>by omega
theorem From.next {P:Nat→Prop} {n i:Nat} (h:P i):From P n (i+1)↔From P n i :=
 ⟨fun z j a b=>(Nat.lt_or_ge i j).elim (fun c=>z j c b) (fun c=>by rw [show j=i by omega];exact h),fun z j a b=>z j (by omega) b⟩
theorem From.no {P:Nat→Prop} {n i:Nat} (hi:i<n) (h:¬ P i):¬ From P n i:=fun z=>h (z i (Nat.le_refl _) hi)
theorem From.all {P:Nat→Prop} {n:Nat}:From P n 0↔∀ j,j<n→P j:=⟨fun z j h=>z j (by omega) h,fun z j _ h=>z j h⟩
abbrev rAt (l:List Ah) (i:Nat):Int:=(l.getD i default).At
abbrev rLen (l:List Ah) (i:Nat):Int:=(l.getD i default).Len
theorem rAtE (l:List Ah) (i:Nat):(nth l (i:Int)).At=rAt l i:=by rw [nthN]
theorem rLenE (l:List Ah) (i:Nat):(nth l (i:Int)).Len=rLen l i:=by rw [nthN]
def RunP (l:List Ah) (b:Int) (i:Nat):Prop:=0≤rAt l i∧1≤rLen l i∧rLen l i≤b-rAt l i∧∀ k,k<i→rAt l k+rLen l k≤rAt l i∨rAt l i+rLen l i≤rAt l k
def PlacesP (l:List Ah) (b:Int):Prop:=(1≤b∧b≤100)∧l.length≤13∧∀ i,i<l.length→RunP l b i
def RSm (l:List Ah):Prop:=∀ i,i<l.length→rLen l i≤1000000000∧-9223372036854775808≤rAt l i∧rAt l i≤9223372036854775807
def Mk (l:List Ah) (n i:Nat) (t:List Bool):Prop:=t.length=n∧∀ j,j<n→(t.getD j false=true↔∃ k,k<i∧rAt l k≤(j:Int)∧(j:Int)<rAt l k+rLen l k)
def TkP (g:F5 (List Bool × Bool)) (l:List Ah) (n:Nat) (P:Prop):Prop:=∃ r:List Bool × Bool,Ev g r∧(r.2=true↔P)∧(P→Mk l n l.length r.1)
theorem within_eq' (K:Nat) (b:Int):Ga K b=some (decide (1≤b∧b≤100)):=by
 unfold Ga
 by_cases h:b≥1
 ·rw [if_pos (decide_eq_true h)];congr 1;exact decide_eq_decide.2 ⟨fun k=>⟨h,k⟩,fun k=>k.2⟩
 ·rw [if_neg (by simpa using h),decide_eq_false (fun k=>h k.1)]
theorem tk_l2 {go:Nat→Nat→Int→Int→List Bool→Option (List Bool × Bool)} {l:List Ah} {b:Int} {n i:Nat} {Q:Prop} {T:Int} (hn:n≤1000) (hb:b=(n:Int)) (hi:i<l.length) (h0:0≤rAt l i) (h1:1≤rLen l i) (h2:rLen l i≤b-rAt l i)
  (hgo:∀ t,Mk l n (i+1) t→(∀ k,k<i→rAt l k+rLen l k≤rAt l i∨rAt l i+rLen l i≤rAt l k)→TkP (fun K a _ _ _=>go K a T ((i+1:Nat):Int) t) l n Q)
  (hq:(¬ ∀ k,k<i→rAt l k+rLen l k≤rAt l i∨rAt l i+rLen l i≤rAt l k)→¬ Q) (hr:∀ k,k<i→1≤rLen l k) (hi1:i<1000000) :
  ∀ d j:Nat,(j:Int)+d=rAt l i+rLen l i→rAt l i≤(j:Int)→∀ t:List Bool,t.length=n→(∀ q,q<n→(t.getD q false=true↔(∃ k,k<i∧rAt l k≤(q:Int)∧(q:Int)<rAt l k+rLen l k)∨(rAt l i≤(q:Int)∧(q:Int)<(j:Int)))) →
   (∀ q:Nat,rAt l i≤(q:Int)→(q:Int)<(j:Int)→∀ k,k<i→¬ (rAt l k≤(q:Int)∧(q:Int)<rAt l k+rLen l k)) →
   TkP (fun K a b' _ _=>C9.l2 K (go K a) T (i:Int) l b b' (j:Int) t (rAt l i) (rLen l i)) l n Q:=by
 intro d
 induction d with
 | zero =>
  intro j hj hj2 t ht hm hf
  have hap:∀ k,k<i→rAt l k+rLen l k≤rAt l i∨rAt l i+rLen l i≤rAt l k:=by
   intro k hk
   have hk1:=hr k hk
   by_cases c:rAt l k+rLen l k≤rAt l i∨rAt l i+rLen l i≤rAt l k
   ·exact c
   ·exfalso
    by_cases c2:rAt l k≤rAt l i
    ·exact hf (rAt l i).toNat (by omega) (by omega) k hk (by omega)
    ·exact hf (rAt l k).toNat (by omega) (by omega) k hk (by omega)
  obtain ⟨r,r1,r2⟩:=hgo t ⟨ht,fun q hq=>(hm q hq).trans ⟨fun z=>z.elim (fun ⟨k,a,b⟩=>⟨k,by omega,b⟩) (fun z=>⟨i,by omega,by omega⟩),fun ⟨k,a,b⟩=>by
   by_cases e:k=i
   ·subst e;exact .inr ⟨b.1,by omega⟩
   ·exact .inl ⟨k,by omega,b⟩⟩⟩ hap
  refine ⟨r,step2 (fun _ _ _ _ _=>C9.l2.eq_2 ..) ?_,r2⟩
  rw [w64 (i:=rAt l i+rLen l i) (by omega) (by omega),w1 (i:=i) (by omega)]
  exact negD (by omega) r1
 | succ d ih =>
  intro j hj hj2 t ht hm hf
  by_cases c:t.getD j false=true
  ·obtain ⟨k,k1,k2⟩:=((hm j (by omega)).1 c).elim id (fun z=>by omega)
   have hnq:=hq fun z=>by have:=z k k1;omega
   refine ⟨([],false),step2 (fun _ _ _ _ _=>C9.l2.eq_2 ..) ?_,by simp [hnq],fun z=>absurd z hnq⟩
   rw [w64 (i:=rAt l i+rLen l i) (by omega) (by omega)]
   refine posD (by omega) (pos (by omega) (pos ?_ (now _)))
   rw [nthN];exact c
  ·have hsj:∀ q,(t.set j true).getD q false=if q=j then true else t.getD q false:=fun q=>getD_set _ _ _ _ (by omega)
   obtain ⟨r,r1,r2⟩:=ih (j+1) (by omega) (by omega) (t.set j true) (by rw [List.length_set];exact ht) (fun q hq=>by
    rw [hsj]
    by_cases e:q=j
    ·subst e;simp only [if_true,true_iff]
     exact .inr ⟨by omega,by omega⟩
    ·rw [if_neg e]
     exact (hm q hq).trans ⟨fun z=>z.elim .inl (fun y=>.inr ⟨y.1,by omega⟩),fun z=>z.elim .inl (fun y=>.inr ⟨y.1,by omega⟩)⟩)
    (fun q a b k hk z=>by
     by_cases e:q=j
     ·subst e;exact c ((hm q (by omega)).2 (.inl ⟨k,hk,z⟩))
     ·exact hf q a (by omega) k hk z)
   refine ⟨r,step2 (fun _ _ _ _ _=>C9.l2.eq_2 ..) ?_,r2⟩
   rw [w64 (i:=rAt l i+rLen l i) (by omega) (by omega)]
   refine posD (by omega) (pos (by omega) (neg (by rw [nthN];exact c) (pos (by omega) ?_)))
   rw [w1 (by omega),Int.toNat_natCast];exact r1
theorem taken_ev (l:List Ah) (b:Int) (hs:RSm l) (hl:l.length≤17592186044416):TkP (fun K _ _ _ _=>C9 K l b) l b.toNat (PlacesP l b):=by
 by_cases hb:1≤b∧b≤100
 case neg=>exact ⟨([],false),bnd (congr (fun K _ _ _ _=>within_eq' K b) (now _)) (posM hb (now _)),by simp [PlacesP,hb],fun z=>absurd z.1 hb⟩
 by_cases hn:l.length≤13
 case neg=>exact ⟨([],false),bnd (congr (fun K _ _ _ _=>within_eq' K b) (now _)) (negM hb (posD (by omega) (now _))),by simp [PlacesP,hn],fun z=>absurd z.2.1 hn⟩
 have key:∀ i,i≤l.length→(∀ k,k<i→1≤rLen l k)→∀ t,Mk l b.toNat i t→TkP (fun K a _ _ _=>C9.l1 K l b a ((l.length:Nat):Int) (i:Int) t) l b.toNat (From (RunP l b) l.length i):=by
  refine upto ?_ ?_
  ·intro _ t ht
   exact ⟨(t,true),step1 (fun _ _ _ _ _=>C9.l1.eq_2 ..) (negD (by omega) (now _)),by simp [From.done],fun _=>ht⟩
  ·intro i hi ih hr t ht
   have bad:¬ RunP l b i→∀ {g:F5 (List Bool × Bool)},Ev g ([],false)→TkP g l b.toNat (From (RunP l b) l.length i):=fun h g hg=>⟨_,hg,by simp [From.no hi h],fun z=>absurd z (From.no hi h)⟩
   have hsi:=hs i hi
   by_cases c1:rLen l i<1
   ·refine bad (fun z=>by have:=z.2.1;omega) (step1 (fun _ _ _ _ _=>C9.l1.eq_2 ..) ?_)
    simp only [rAtE,rLenE];exact posD (by omega) (pos (by omega) (posD c1 (now _)))
   by_cases c2:rAt l i<0
   ·refine bad (fun z=>by have:=z.1;omega) (step1 (fun _ _ _ _ _=>C9.l1.eq_2 ..) ?_)
    simp only [rAtE,rLenE];exact posD (by omega) (pos (by omega) (negD c1 (posD c2 (now _))))
   by_cases c3:rAt l i≥b
   ·refine bad (fun z=>by have:=z.2.2.1;omega) (step1 (fun _ _ _ _ _=>C9.l1.eq_2 ..) ?_)
    simp only [rAtE,rLenE];exact posD (by omega) (pos (by omega) (negD c1 (negD c2 (posD c3 (now _)))))
   have e1:wr .i64 (b-rAt l i)=b-rAt l i:=w64 (by omega) (by omega)
   by_cases c4:rLen l i > b-rAt l i
   ·refine bad (fun z=>by have:=z.2.2.1;omega) (step1 (fun _ _ _ _ _=>C9.l1.eq_2 ..) ?_)
    simp only [rAtE,rLenE];exact posD (by omega) (pos (by omega) (negD c1 (negD c2 (negD c3 (by rw [e1];exact posD c4 (now _))))))
   have hr':∀ k,k<i+1→1≤rLen l k:=fun k hk=>by
    by_cases e:k=i
    ·subst e;omega
    ·exact hr k (by omega)
   obtain ⟨r,r1,r2,r3⟩:=tk_l2 (b:=b) (go:=fun K a=>C9.l1 K l b a) (T:=((l.length:Nat):Int)) (Q:=From (RunP l b) l.length i) (n:=b.toNat) (by omega) (by omega) hi (by omega) (by omega) (by omega)
    (fun t' ht' hap=>by
     obtain ⟨r,q1,q2,q3⟩:=ih hr' t' ht'
     have hR:RunP l b i:=⟨by omega,by omega,by omega,hap⟩
     exact ⟨r,q1,q2.trans (From.next hR),fun z=>q3 ((From.next hR).2 z)⟩)
    (fun z=>From.no hi fun y=>z y.2.2.2) hr (by omega) (rLen l i).toNat (rAt l i).toNat (by omega) (by omega) t ht.1 (fun q hq=>(ht.2 q hq).trans ⟨.inl,fun z=>z.elim id (fun y=>by omega)⟩) (fun q a b'=>by omega)
   refine ⟨r,step1 (fun _ _ _ _ _=>C9.l1.eq_2 ..) ?_,r2,r3⟩
   simp only [rAtE,rLenE]
   refine posD (by omega) (pos (by omega) (negD c1 (negD c2 (negD c3 ?_))))
   rw [e1]
   refine negD c4 ?_
   have:=r1.e2
   rw [show (((rAt l i).toNat:Nat):Int)=rAt l i by omega] at this
   exact this
 obtain ⟨r,r1,r2,r3⟩:=key 0 (by omega) (fun k hk=>by omega) (List.replicate b.toNat false) ⟨by simp,fun j hj=>by
  rw [List.getD_eq_getElem?_getD,List.getElem?_replicate,if_pos hj]
  exact ⟨fun z=>by simp at z,fun ⟨k,z,_⟩=>by omega⟩⟩
 have hP:From (RunP l b) l.length 0↔PlacesP l b:=From.all.trans ⟨fun z=>⟨hb,hn,z⟩,fun z=>z.2.2⟩
 refine ⟨r,bnd (congr (fun K _ _ _ _=>within_eq' K b) (now _)) (negM hb (negD (by omega) (pos ⟨rfl,by omega,by omega,by omega⟩ r1.e1))),r2.trans hP,fun z=>r3 (hP.2 z)⟩
theorem smay_ev (l:List Ah) (b:Int) (hs:RSm l) (hl:l.length≤17592186044416):EP0 (fun K=>Gj K l b) (PlacesP l b):=by
 obtain ⟨r,r1,r2,_⟩:=taken_ev l b hs hl
 exact ⟨fun z=>bnd r1 (nowE (r2.2 z)),fun z=>bnd r1 (nowE (by cases h:r.2 with | false=>rfl | true=>exact absurd (r2.1 h) z))⟩
theorem rplaces_ev (l:List Ah) (b:Int) (hs:RSm l) (hl:l.length≤17592186044416):EP0 (fun K=>A8 K l b) (PlacesP l b):=by
 refine EP.with (congr (fun K _ _ _ _=>between_eq K b 1 100) (now _)) ?_
 refine EP.iteM (fun h=>.no (fun z=>absurd z.1 (of_decide_eq_false h)) (now _)) fun h=>?_
 have hb:=of_decide_eq_true h
 refine EP.iteD (fun h=>.no (fun z=>by have:=z.2.1;omega) (now _)) fun h=>?_
 refine EP.iff ?_ (From.all.trans (⟨fun z=>⟨hb,by omega,z⟩,fun z=>z.2.2⟩:_↔PlacesP l b))
 suffices key:∀ i,i≤l.length→(∀ k,k<i→RunP l b k)→EP1 (fun K a=>A8.l1 K l b a (i:Int)) (From (RunP l b) l.length i) from (key 0 (by omega) (fun k hk=>by omega)).e1
 refine upto ?_ ?_
 ·intro _
  exact EP.step1 (fun _ _ _ _ _=>A8.l1.eq_2 ..) (.neg (by simp) (.yes From.done (now _)))
 ·intro i hi ih hp
  have hsi:=hs i hi
  refine EP.step1 (fun _ _ _ _ _=>A8.l1.eq_2 ..) (.pos (by simpa using hi) (.pos (by omega) ?_))
  simp only [rAtE,rLenE]
  refine EP.iteD (fun c=>.no (From.no hi fun z=>by have:=z.1;omega) (now _)) fun c1=>.pos (by omega) ?_
  refine EP.iteD (fun c=>.no (From.no hi fun z=>by have:=z.2.1;omega) (now _)) fun c2=>.pos (by omega) ?_
  refine EP.iteD (fun c=>.no (From.no hi fun z=>by have:=z.2.2.1;have:=z.2.1;omega) (now _)) fun c3=>.pos (by omega) (.pos (by omega) ?_)
  rw [w64 (i:=b-rAt l i) (by omega) (by omega)]
  refine EP.iteD (fun c=>.no (From.no hi fun z=>by have:=z.2.2.1;omega) (now _)) fun c4=>?_
  suffices key:∀ k,k≤i→(∀ q,q<k→rAt l q+rLen l q≤rAt l i∨rAt l i+rLen l i≤rAt l q)→EP2 (fun K a b'=>A8.l2 K (A8.l1 K l b a) (i:Int) l b b' (k:Int)) (From (RunP l b) l.length i) from (key 0 (by omega) (fun q hq=>by omega)).e2
  refine upto ?_ ?_
  ·intro hap
   refine EP.step2 (fun _ _ _ _ _=>A8.l2.eq_2 ..) (.neg (by simp) ?_)
   rw [w1 (by omega)]
   have hR:RunP l b i:=⟨by omega,by omega,by omega,hap⟩
   exact (ih fun k hk=>by
    by_cases e:k=i
    ·subst e;exact hR
    ·exact hp k (by omega)).iff (From.next hR)
  ·intro k hk ih2 hap
   have hk1:=hp k hk
   unfold RunP at hk1
   refine EP.step2 (fun _ _ _ _ _=>A8.l2.eq_2 ..) (.pos (by simpa using hk) (.pos (by omega) (.pos (by omega) (.pos (by omega) ?_))))
   simp only [rAtE,rLenE]
   rw [w64 (i:=rAt l k+rLen l k) (by omega) (by omega),w64 (i:=rAt l i+rLen l i) (by omega) (by omega),w1 (by omega)]
   refine EP.iteD (fun c=>.pos (by omega) (.pos (by omega) (.pos (by omega) ?_))) fun c=>ih2 fun q hq=>?_
   ·refine EP.iteD (fun c'=>.no (From.no hi fun z=>by have:=z.2.2.2 k hk;omega) (now _)) fun c'=>ih2 fun q hq=>?_
    by_cases e:q=k
    ·subst e;exact .inr (by omega)
    ·exact hap q (by omega)
   ·by_cases e:q=k
    ·subst e;exact .inl (by omega)
    ·exact hap q (by omega)
end Go.XL
end
end
section
section
namespace Go.XL
open Go.XM
theorem loop_map {β:Type} {n:Nat} {f:Nat→β} {G:Nat→List β→F5 (List β)} (h0:∀ acc,Ev (G n acc) acc) (h1:∀ i acc r,i<n→acc.length=i→Ev (G (i+1) (acc++[f i])) r→Ev (G i acc) r):Ev (G 0 []) ((List.range n).map f):=by
 have key:∀ i,i≤n→Ev (G i ((List.range i).map f)) ((List.range n).map f):=by
  refine upto (h0 _) ?_
  intro i hi ih
  refine h1 i _ _ hi (by simp) ?_
  rw [List.range_succ,List.map_append] at ih
  exact ih
 exact key 0 (by omega)
theorem range_map {α β:Type} (xs:List α) (d:α) (g:α→β):(List.range xs.length).map (fun i=>g (xs.getD i d))=xs.map g:=by
 apply List.ext_getElem
 ·simp
 ·intro i h1 h2
  simp only [List.length_map,List.length_range] at h1
  simp [List.getD_eq_getElem?_getD,List.getElem?_eq_getElem h1]
def objP (v:Ao):Am:=(v.ID,v.Base,v.Data)
def objsP (s:Ag):List Am:=s.Versions.map objP
def needZ (b:Cu):Int:=(((b.Data.size+63) / 60:Nat):Int)
def runP (v:Ao):Ah:=(v.At,needZ v.Data)
def runsP (s:Ag):List Ah:=s.Versions.map runP
def VSm (v:Ao):Prop:=v.Data.Data.size≤10000∧-9223372036854775808≤v.At∧v.At≤9223372036854775807
def SSm (s:Ag):Prop:=s.Versions.length≤2000∧(∀ v∈s.Versions,VSm v)∧s.Sessions.length≤2000∧∀ x∈s.Sessions,GSm x.Stage∧JSm x.Job
variable {s:Ag}
abbrev vAt (s:Ag) (i:Nat):Ao:=s.Versions.getD i default
theorem nthV (s:Ag) (i:Nat):nth s.Versions (i:Int)=vAt s i:=nthN _ _
theorem vsm (h:SSm s) {i:Nat} (hi:i<s.Versions.length):VSm (vAt s i):=h.2.1 _ (getD_mem hi)
theorem objsP_len:(objsP s).length=s.Versions.length:=by simp [objsP]
theorem runsP_len:(runsP s).length=s.Versions.length:=by simp [runsP]
theorem objsP_at {i:Nat} (h:i<s.Versions.length):(objsP s).getD i default=objP (vAt s i):=by
 unfold objsP vAt
 rw [List.getD_eq_getElem?_getD,List.getD_eq_getElem?_getD,List.getElem?_map,List.getElem?_eq_getElem h];rfl
theorem runsP_at {i:Nat} (h:i<s.Versions.length):(runsP s).getD i default=runP (vAt s i):=by
 unfold runsP vAt
 rw [List.getD_eq_getElem?_getD,List.getD_eq_getElem?_getD,List.getElem?_map,List.getElem?_eq_getElem h];rfl
theorem objsP_sm (h:SSm s):(objsP s).length≤1000000∧∀ o∈objsP s,o.Data.Data.size≤1000000:=by
 refine ⟨by rw [objsP_len];have:=h.1;omega,fun o ho=>?_⟩
 obtain ⟨v,hv,rfl⟩:=List.mem_map.1 ho
 have:=(h.2.1 v hv).1
 show v.Data.Data.size≤_
 omega
theorem runsP_sm (h:SSm s):RSm (runsP s):=by
 intro i hi
 rw [runsP_len] at hi
 have hv:=vsm h hi
 unfold rLen rAt
 rw [runsP_at hi]
 refine ⟨?_,hv.2.1,hv.2.2⟩
 show (((vAt s i).Data.Data.size+63) / 60:Nat)≤(1000000000:Int)
 have:=hv.1
 omega
theorem list_ev (h:SSm s):E0 (fun K=>El K s) (objsP s):=by
 have hn:=h.1
 have:=loop_map (n:=s.Versions.length) (f:=fun i=>objP (vAt s i)) (G:=fun i acc K a _ _ _=>El.l1 K s a ((s.Versions.length:Nat):Int) (i:Int) acc)
  (fun acc=>step1 (fun _ _ _ _ _=>El.l1.eq_2 ..) (negD (by omega) (now _)))
  (fun i acc r hi hl k=>by
   refine step1 (fun _ _ _ _ _=>El.l1.eq_2 ..) (posD (by omega) (pos (by omega) (pos (by show (_+1)*40≤_;omega) ?_)))
   rw [nthV,w1 (by omega)];exact k)
 exact ofEq this.e1 (range_map s.Versions default objP)
theorem robjs_ev (h:SSm s):E0 (fun K=>Br K s) (objsP s):=by
 have hn:=h.1
 have:=loop_map (n:=s.Versions.length) (f:=fun i=>objP (vAt s i)) (G:=fun i acc K a _ _ _=>Br.l1 K s a (i:Int) acc)
  (fun acc=>step1 (fun _ _ _ _ _=>Br.l1.eq_2 ..) (negD (by omega) (now _)))
  (fun i acc r hi hl k=>by
   refine step1 (fun _ _ _ _ _=>Br.l1.eq_2 ..) (posD (by omega) (pos (by omega) (pos (by show (_+1)*40≤_;omega) ?_)))
   rw [nthV,w1 (by omega)];exact k)
 exact ofEq this.e1 (range_map s.Versions default objP)
theorem need_w {z:Nat} (h:z≤1000000):wr .i64 ((wr .i64 ((wr .i64 ((wr .i64 (4+((z:Nat):Int)))+60))-1)).tdiv 60)=(((z+63) / 60:Nat):Int):=by
 rw [w64 (i:=4+(z:Int)) (by omega) (by omega),w64 (i:=4+(z:Int)+60) (by omega) (by omega),w64 (i:=4+(z:Int)+60-1) (by omega) (by omega),show 4+(z:Int)+60-1=((z+63:Nat):Int) by omega,show (60:Int)=((60:Nat):Int) from rfl,tdivN,w64 (by omega) (by omega)]
theorem blocks_eq {b:Cu} (h:b.Data.size≤1000000) (K:Nat):F9 K b=some (needZ b):=by
 unfold F9
 rw [if_pos (by decide),need_w h];rfl
theorem rneed_eq {b:Cu} (h:b.Data.size≤1000000) (K:Nat):Ew K b=some (needZ b):=by
 unfold Ew
 rw [if_pos (by decide),need_w h];rfl
theorem places_ev (h:SSm s):E0 (fun K=>Ea K s) (runsP s):=by
 have hn:=h.1
 have:=loop_map (n:=s.Versions.length) (f:=fun i=>runP (vAt s i)) (G:=fun i acc K a _ _ _=>Ea.l1 K s a ((s.Versions.length:Nat):Int) (i:Int) acc)
  (fun acc=>step1 (fun _ _ _ _ _=>Ea.l1.eq_2 ..) (negD (by omega) (now _)))
  (fun i acc r hi hl k=>by
   have hv:=(vsm h hi).1
   refine step1 (fun _ _ _ _ _=>Ea.l1.eq_2 ..) (posD (by omega) (pos (by omega) ?_))
   rw [nthV]
   refine bnd (congr (fun K _ _ _ _=>blocks_eq (by omega) K) (now _)) (pos (by show (_+1)*16≤_;omega) ?_)
   rw [w1 (by omega)];exact k)
 exact ofEq this.e1 (range_map s.Versions default runP)
theorem rruns_ev (h:SSm s):E0 (fun K=>Cq K s) (runsP s):=by
 have hn:=h.1
 have:=loop_map (n:=s.Versions.length) (f:=fun i=>runP (vAt s i)) (G:=fun i acc K a _ _ _=>Cq.l1 K s a (i:Int) acc)
  (fun acc=>step1 (fun _ _ _ _ _=>Cq.l1.eq_2 ..) (negD (by omega) (now _)))
  (fun i acc r hi hl k=>by
   have hv:=(vsm h hi).1
   refine step1 (fun _ _ _ _ _=>Cq.l1.eq_2 ..) (posD (by omega) (pos (by omega) (pos (by omega) ?_)))
   rw [nthV]
   refine bnd (congr (fun K _ _ _ _=>rneed_eq (by omega) K) (now _)) (pos (by show (_+1)*16≤_;omega) ?_)
   rw [w1 (by omega)];exact k)
 exact ofEq this.e1 (range_map s.Versions default runP)
theorem objsP_drop {i:Nat} (h:i<s.Versions.length):(objsP s).drop i=objP (vAt s i)::(objsP s).drop (i+1):=by
 rw [drop_getD (d:=default) (by rw [objsP_len];exact h),objsP_at h]
theorem rat_ev (h:SSm s) (id:Int):E0 (fun K=>Dj K s id) (ix (objsP s) id):=by
 have hn:=h.1
 have key:∀ i,i≤s.Versions.length→E1 (fun K k=>Dj.l1 K s id k (i:Int)) (ixo id ((objsP s).drop i) i):=by
  refine upto ?_ ?_
  ·refine step1 (fun _ _ _ _ _=>Dj.l1.eq_2 ..) ?_
   rw [List.drop_eq_nil_of_le (by rw [objsP_len];omega)]
   exact negD (by omega) (now _)
  ·intro i hi ih
   refine step1 (fun _ _ _ _ _=>Dj.l1.eq_2 ..) ?_
   refine posD (by omega) (pos (by omega) ?_)
   rw [objsP_drop hi,ixo,nthV]
   by_cases e:(vAt s i).ID=id
   ·rw [if_pos (show (objP (vAt s i)).ID=id from e)]
    exact posE e (now _)
   ·rw [if_neg (show ¬ (objP (vAt s i)).ID=id from e)]
    refine negE e ?_
    rw [w1 (by omega)];exact ih
 exact (key 0 (by omega)).e1
def lastP (s:Ag):Int:=if s.Versions.length=0 then 0 else (vAt s (s.Versions.length-1)).ID
theorem rlast_ev (h:SSm s):E0 (fun K=>Dz K s) (lastP s):=by
 have hn:=h.1
 unfold Dz lastP
 by_cases c:s.Versions.length=0
 ·rw [if_pos c];exact posE (by omega) (now _)
 ·rw [if_neg c,w64 (by omega) (by omega),show ((s.Versions.length:Nat):Int)-1=((s.Versions.length-1:Nat):Int) by omega,nthV]
  exact negE (by omega) (pos (by omega) (now _))
def VerP (s:Ag) (i:Nat):Prop:=0≤(vAt s i).Parent∧(vAt s i).Parent<(vAt s i).ID∧¬ ((vAt s i).Tag=true∧(vAt s i).Gone=true)∧¬ ((vAt s i).Gone=true∧i+1=s.Versions.length)
def WordsP (s:Ag):Prop:=(1≤s.Keep∧s.Keep≤8)∧(1≤s.Blocks∧s.Blocks≤100)∧(∀ i,i<s.Versions.length→VerP s i)∧ObjsP (objsP s)
theorem marks_ep {P:Prop} {g:F5 Bool} {i:Nat} {t g':Bool} (hn:s.Versions.length≤2000) (hi:i<s.Versions.length) (h1:t=true→g'=true→¬ P) (h2:g'=true→i+1=s.Versions.length→¬ P) (hg:¬ (t=true∧g'=true)→¬ (g'=true∧i+1=s.Versions.length)→EP g P) :
  EP (fun x y z u v=>if t=true then if g'=true then some false else if g'=true then if ((i:Int) == (wr .i64 (((s.Versions.length:Nat):Int)-1)))=true then some false else g x y z u v else g x y z u v else if g'=true then if ((i:Int) == (wr .i64 (((s.Versions.length:Nat):Int)-1)))=true then some false else g x y z u v else g x y z u v) P:=by
 rw [w64 (by omega) (by omega)]
 refine EP.iteB (fun a=>EP.iteB (fun b=>.no (h1 a b) (now _)) fun b=>EP.iteB (fun c=>by rw [b] at c;cases c) fun _=>hg (by simp [b]) (by simp [b])) fun a=>?_
 exact EP.iteB (fun b=>EP.iteE (fun c=>.no (h2 b (by omega)) (now _)) fun c=>hg (by simp [a]) (fun z=>c (by omega))) fun b=>hg (by simp [a]) (by simp [b])
theorem words_ep (h:SSm s):EP0 (fun K=>D6 K s) (WordsP s):=by
 have hn:=h.1
 obtain ⟨o1,o2⟩:=objsP_sm h
 refine EP.iteD (fun c=>.no (fun z=>by have:=z.1.1;omega) (now _)) fun c1=>EP.iteD (fun c=>.no (fun z=>by have:=z.1.2;omega) (now _)) fun c2=>?_
 refine EP.iteD (fun c=>.no (fun z=>by have:=z.2.1.1;omega) (now _)) fun c3=>EP.iteD (fun c=>.no (fun z=>by have:=z.2.1.2;omega) (now _)) fun c4=>?_
 suffices key:∀ i,i≤s.Versions.length→EP1 (fun K a=>D6.l1 K s a ((s.Versions.length:Nat):Int) (i:Int)) (From (VerP s) s.Versions.length i∧ObjsP (objsP s)) from
  (key 0 (by omega)).e1.iff ⟨fun z=>⟨by omega,by omega,From.all.1 z.1,z.2⟩,fun z=>⟨From.all.2 z.2.2.1,z.2.2.2⟩⟩
 refine upto ?_ ?_
 ·exact EP.step1 (fun _ _ _ _ _=>D6.l1.eq_2 ..) (.neg (by simp) ((EP.with (list_ev h) (EP.tail (EP.dec (cmay_ev o1 o2)))).iff ⟨fun z=>⟨From.done,z⟩,fun z=>z.2⟩))
 ·intro i hi ih
  refine EP.step1 (fun _ _ _ _ _=>D6.l1.eq_2 ..) (.pos (by simpa using hi) (.pos (by omega) ?_))
  rw [nthV,w1 (by omega)]
  refine EP.iteD (fun c=>.no (fun z=>From.no hi (fun y=>by have:=y.1;omega) z.1) (now _)) fun c5=>?_
  refine EP.iteD (fun c=>.no (fun z=>From.no hi (fun y=>by have:=y.2.1;omega) z.1) (now _)) fun c6=>?_
  refine marks_ep hn hi (fun a b z=>From.no hi (fun y=>y.2.2.1 ⟨a,b⟩) z.1) (fun a b z=>From.no hi (fun y=>y.2.2.2 ⟨a,b⟩) z.1) fun a b=>?_
  have hV:VerP s i:=⟨by omega,by omega,a,b⟩
  exact ih.iff ⟨fun z=>⟨(From.next hV).1 z.1,z.2⟩,fun z=>⟨(From.next hV).2 z.1,z.2⟩⟩
end Go.XL
end
end
section
section
namespace Go.XL
open Go.XM
def JobM (g:Ac) (j:Ai):Prop:=E0 (fun K=>Fu K g j) true
theorem job_both {g:Ac} {j:Ai} (hg:GraphP g):∃ b:Bool,E0 (fun K=>Fu K g j) b∧E0 (fun K=>Az K g j) b:=by
 by_cases hc:code g.N j.Kind j.A=0
 ·obtain ⟨n,tr,hT⟩:=ends_any hc g j.A hg hc
  by_cases hx:∃ i,i≤n∧tr i=j
  ·obtain ⟨i,hi,hj⟩:=hx
   have:=hT.may i hi
   rw [hj] at this
   exact ⟨true,this,hT.jobYes hg hc i hi hj⟩
  ·have hx:∀ i,i≤n→tr i≠j:=fun i hi e=>hx ⟨i,hi,e⟩
   exact ⟨false,hT.mayNo hx,hT.jobNo hg hc hx⟩
 ·exact ⟨false,may_bad g j hg.sm (by rw [if_pos hg];exact hc),jobBad hg hc⟩
theorem rjob_ep {g:Ac} {j:Ai} (hg:GraphP g):EP0 (fun K=>Az K g j) (JobM g j):=by
 obtain ⟨b,h1,h2⟩:=job_both (j:=j) hg
 cases b with
 | true=>exact .yes h1 h2
 | false=>exact .no (fun z=>by have:=Ev.uniq h1 z;cases this) h2
theorem geq (g:Ac):g=G0↔g.N=0∧g.Out=[]:=by
 obtain ⟨n,o⟩:=g
 simp only [Prod.mk.injEq]
theorem eqg0_ep (g:Ac):EP0 (fun K=>Dl K g G0) (g=G0):=by
 unfold Dl
 refine EP.iteE (fun a=>EP.tail ?_) fun a=>.no (fun z=>a ((geq g).1 z).1) (now _)
 refine EP.iteN (fun b=>.no (fun z=>b (by rw [((geq g).1 z).2])) (now _)) fun b=>?_
 have hn:g.Out=[]:=List.eq_nil_of_length_eq_zero (by have:((G0.Out.length:Nat):Int)=0:=rfl;omega)
 rw [hn]
 have hl:E1 (fun K k=>Bj.l1 K [] G0.Out k 0) true:=step1 (fun _ _ _ _ _=>Bj.l1.eq_2 ..) (neg (by decide) (now _))
 exact .yes ((geq g).2 ⟨a,hn⟩) hl.e1
abbrev zs:A9:=((false,0,false,0,((0,([]:List (List Int))):Ac),((0,0,0,false,([]:List Int),([]:List Int)):Ai)):A9)
theorem seq (x:A9):x=zs↔x.Open=false∧x.Pin=0∧x.On=false∧x.From=0∧x.Stage=G0∧x.Job=zj:=by
 obtain ⟨a,b,c,d,e,f⟩:=x
 simp only [Prod.mk.injEq]
variable {s:Ag} {x:A9}
def JP (s:Ag) (x:A9):Prop:=x.Job=zj∨x.Pin≠0∧JobM (resP (objsP s) x.Pin).1 x.Job∧ov (resP (objsP s) x.Pin).1 x.Job=false
def StgP (s:Ag) (x:A9):Prop:=(x.On=true∧(0≤x.From∧x.From≤lastP s)∧GraphP x.Stage)∨(x.On=false∧x.From=0∧x.Stage=G0)
def SessP (s:Ag) (x:A9):Prop:=x=zs∨x.Open=true∧(x.Pin≠0→0≤ix (objsP s) x.Pin)∧StgP s x∧JP s x
def ResOk (s:Ag):Prop:=∀ i,i<s.Versions.length→(resP (objsP s) (vAt s i).ID).2=0
theorem pin_G (ho:ObjsP (objsP s)) (hr:ResOk s) {id:Int} (h:0≤ix (objsP s) id):GraphP (resP (objsP s) id).1:=by
 rcases ix_spec (objsP s) id with ⟨e,_⟩ | ⟨j,_,hj,e⟩
 ·omega
 ·rw [objsP_len] at hj
  rw [objsP_at hj] at e
  refine resP_G ho ?_
  have:=hr j hj
  rwa [show (vAt s j).ID=id from e] at this
theorem rtail (ho:ObjsP (objsP s)) (hr:ResOk s) (hx:JSm x.Job) (hp:x.Pin≠0→0≤ix (objsP s) x.Pin):EP0 (fun K=>(Cw K x.Job ((0,0,0,false,([]:List Int),([]:List Int)):Ai)).bind fun r61=>if r61=true then some true else if (x.Pin == 0)=true then some false else
  (Ar K (objsP s) x.Pin).bind fun r69=>(Az K r69.1 x.Job).bind fun r75=>if r75=true then (Cz K r69.1 x.Job).bind fun r80=>some (!r80) else some false) (JP s x):=by
 refine EP.bnd (EP.dec (eqjob_ev _ _ hx)) (fun z=>.pos rfl (.yes (.inl z) (now _))) fun z=>.neg (fun z=>by cases z) ?_
 refine EP.iteE (fun a=>.no (fun y=>y.elim z (fun y=>y.1 a)) (now _)) fun a=>EP.with (rres_ev ho _) ?_
 refine EP.bnd (rjob_ep (pin_G ho hr (hp a))) (fun b=>.pos rfl ?_) fun b=>.neg (fun z=>by cases z) (.no (fun y=>y.elim z (fun y=>b y.2.1)) (now _))
 simp only [ended_eq]
 refine EP.with (now _) ?_
 cases c:ov (resP (objsP s) x.Pin).1 x.Job with
 | true=>exact .no (fun y=>y.elim z (fun y=>by rw [c] at y;cases y.2.2)) (now _)
 | false=>exact .yes (.inr ⟨a,b,c⟩) (now _)
theorem rsess_ep (h:SSm s) (ho:ObjsP (objsP s)) (hr:ResOk s) (hx:GSm x.Stage∧JSm x.Job):EP0 (fun K=>Eo K s (objsP s) x) (SessP s x):=by
 have e:=seq x
 unfold Eo
 refine EP.iteM (fun a=>?_) fun a=>?_
 ·have no:x≠zs→¬ SessP s x:=fun z y=>y.elim z (fun y=>by rw [a] at y;cases y.1)
  refine EP.tail ?_
  unfold Dx
  refine EP.ite (fun _=>?_) fun b=>.no (no fun z=>b (by rw [z];rfl)) (now _)
  refine EP.iteE (fun b=>?_) fun b=>.no (no fun z=>b (e.1 z).2.1) (now _)
  refine EP.ite (fun c=>?_) fun c=>.no (no fun z=>c (by rw [z];rfl)) (now _)
  refine EP.iteE (fun d=>?_) fun d=>.no (no fun z=>d (e.1 z).2.2.2.1) (now _)
  have c:x.On=false:=by simpa using c
  refine EP.bnd (eqg0_ep _) (fun f=>.pos rfl ?_) fun f=>.neg (fun z=>by cases z) (.no (no fun z=>f (e.1 z).2.2.2.2.1) (now _))
  exact (EP.tail (EP.dec (eqjob_ev x.Job zj hx.2))).iff ⟨fun z=>.inl (e.2 ⟨a,b,c,d,f,z⟩),fun z=>z.elim (fun z=>(e.1 z).2.2.2.2.2) (fun z=>by rw [a] at z;cases z.1)⟩
 ·have no:¬ x=zs:=fun z=>by rw [z] at a;cases a
  have on:(x.Pin≠0→0≤ix (objsP s) x.Pin)→EP0 (fun K=>(Dz K s).bind fun r47=>(Cx K x.From r47).bind fun r48=>if (!r48)=true then some false else (Bu K x.Stage).bind fun r53=>if (!r53)=true then some false else
    (Cw K x.Job ((0,0,0,false,([]:List Int),([]:List Int)):Ai)).bind fun r61=>if r61=true then some true else if (x.Pin == 0)=true then some false else
    (Ar K (objsP s) x.Pin).bind fun r69=>(Az K r69.1 x.Job).bind fun r75=>if r75=true then (Cz K r69.1 x.Job).bind fun r80=>some (!r80) else some false) ((0≤x.From∧x.From≤lastP s)∧GraphP x.Stage∧JP s x):=fun hp =>
   EP.with (rlast_ev h) (EP.with (congr (fun K _ _ _ _=>num_eq K _ _) (now _)) (EP.iteM (fun z=>.no (fun y=>of_decide_eq_false z y.1) (now _)) fun z=>EP.bnd (EP.dec (rgraph_ev _ hx.1)) (fun w=>.neg (fun z=>by cases z) ((rtail ho hr hx.2 hp).iff ⟨fun y=>⟨of_decide_eq_true z,w,y⟩,fun y=>y.2.2⟩)) fun w=>.pos rfl (.no (fun y=>w y.2.1) (now _))))
  have go:(x.Pin≠0→0≤ix (objsP s) x.Pin)→∀ {t1 t2:F5 Bool},(x.On=true→EP t1 ((0≤x.From∧x.From≤lastP s)∧GraphP x.Stage∧JP s x))→(x.On=false→EP t2 ((x.From=0∧x.Stage=G0)∧JP s x))→EP (fun a b c d e=>if (!x.On)=true then t2 a b c d e else t1 a b c d e) (SessP s x):=by
   intro hp t1 t2 k1 k2
   cases c:x.On with
   | true=>exact .neg (by simp) ((k1 c).iff ⟨fun z=>.inr ⟨a,hp,.inl ⟨c,z.1,z.2.1⟩,z.2.2⟩,fun z=>by
     have z:=(z.resolve_left no).2.2
     exact z.1.elim (fun y=>⟨y.2.1,y.2.2,z.2⟩) (fun y=>by rw [c] at y;cases y.1)⟩)
   | false=>exact .pos rfl ((k2 c).iff ⟨fun z=>.inr ⟨a,hp,.inr ⟨c,z.1⟩,z.2⟩,fun z=>by
     have z:=(z.resolve_left no).2.2
     exact z.1.elim (fun y=>by rw [c] at y;cases y.1) (fun y=>⟨y.2,z.2⟩)⟩)
  have t2:(hp:x.Pin≠0→0≤ix (objsP s) x.Pin)→x.On=false→∀ {t:F5 Bool},EP (fun a b c d e=>if (x.From != 0)=true then some false else (Dl a x.Stage ((0,([]:List (List Int))):Ac)).bind fun r36=>if (!r36)=true then some false else if x.On=true then t a b c d e else
    (Cw a x.Job ((0,0,0,false,([]:List Int),([]:List Int)):Ai)).bind fun r61=>if r61=true then some true else if (x.Pin == 0)=true then some false else
    (Ar a (objsP s) x.Pin).bind fun r69=>(Az a r69.1 x.Job).bind fun r75=>if r75=true then (Cz a r69.1 x.Job).bind fun r80=>some (!r80) else some false) ((x.From=0∧x.Stage=G0)∧JP s x):=by
   intro hp c t
   refine EP.iteN (fun b=>.no (fun y=>b y.1.1) (now _)) fun b=>EP.bnd (eqg0_ep _) (fun d=>.neg (fun z=>by cases z) (.neg (by rw [c];decide) ?_)) fun d=>.pos rfl (.no (fun y=>d y.1.2) (now _))
   exact (rtail ho hr hx.2 hp).iff ⟨fun y=>⟨⟨b,d⟩,y⟩,fun y=>y.2⟩
  refine EP.iteN (fun b=>EP.with (rat_ev h _) (EP.iteD (fun c=>.no (fun z=>by have:=(z.resolve_left no).2.1 b;omega) (now _)) fun c=>?_)) fun b=>?_
  ·have hp:x.Pin≠0→0≤ix (objsP s) x.Pin:=fun _=>by omega
   exact go hp (fun c=>.pos c (on hp)) (fun c=>t2 hp c)
  ·have hp:x.Pin≠0→0≤ix (objsP s) x.Pin:=fun z=>absurd b z
   exact go hp (fun c=>.pos c (on hp)) (fun c=>t2 hp c)
def MostP (s:Ag):Prop:=WordsP s∧s.Sessions.length=3∧ResOk s∧∀ i,i<3→SessP s (s.Sessions.getD i default)
def StateP (s:Ag):Prop:=MostP s∧PlacesP (runsP s) s.Blocks
theorem ssm (h:SSm s) {i:Nat} (hi:i<s.Sessions.length):GSm (s.Sessions.getD i default).Stage∧JSm (s.Sessions.getD i default).Job:=h.2.2.2 _ (getD_mem hi)
theorem rstate_ep (h:SSm s):EP0 (fun K=>Be K s) (StateP s):=by
 have hn:=h.1
 obtain ⟨o1,o2⟩:=objsP_sm h
 refine EP.with (congr (fun K _ _ _ _=>between_eq K _ 1 8) (now _)) (EP.iteM (fun c=>.no (fun z=>of_decide_eq_false c z.1.1.1) (now _)) fun c1=>?_)
 refine EP.with (congr (fun K _ _ _ _=>between_eq K _ 1 100) (now _)) (EP.iteM (fun c=>.no (fun z=>of_decide_eq_false c z.1.1.2.1) (now _)) fun c2=>?_)
 refine EP.iteD (fun c=>.no (fun z=>by have:=z.1.1.2.2.2.1;rw [objsP_len] at this;omega) (now _)) fun c3=>EP.iteN (fun c=>.no (fun z=>c (by rw [z.1.2.1];rfl)) (now _)) fun c4=>EP.with (robjs_ev h) ?_
 refine EP.bnd (EP.dec (robj_ev o1 o2)) (fun ho=>.neg (fun z=>by cases z) (EP.with (rruns_ev h) ?_)) fun ho=>.pos rfl (.no (fun z=>ho z.1.1.2.2.2) (now _))
 refine EP.bnd (rplaces_ev _ _ (runsP_sm h) (by rw [runsP_len];omega)) (fun hp=>.neg (fun z=>by cases z) ?_) fun hp=>.pos rfl (.no (fun z=>hp z.2) (now _))
 have h3:s.Sessions.length=3:=by omega
 let Q:Nat→Prop:=fun i=>(resP (objsP s) (vAt s i).ID).2=0∧VerP s i
 suffices key:∀ i,i≤s.Versions.length→(∀ k,k<i→Q k)→EP1 (fun K a=>Be.l1 K (objsP s) s a (i:Int)) (From Q s.Versions.length i∧∀ i,i<3→SessP s (s.Sessions.getD i default)) from
  (key 0 (by omega) (fun k hk=>by omega)).e1.iff ⟨fun z=>⟨⟨⟨of_decide_eq_true c1,of_decide_eq_true c2,fun i hi=>(From.all.1 z.1 i hi).2,ho⟩,h3,fun i hi=>(From.all.1 z.1 i hi).1,z.2⟩,hp⟩,fun z=>⟨From.all.2 fun i hi=>⟨z.1.2.2.1 i hi,z.1.1.2.2.1 i hi⟩,z.1.2.2.2⟩⟩
 refine upto ?_ ?_
 ·intro hr
  refine EP.step1 (fun _ _ _ _ _=>Be.l1.eq_2 ..) (.neg (by simp) ?_)
  suffices key:∀ i,i≤s.Sessions.length→EP1 (fun K a=>Be.l2 K (objsP s) s a (i:Int)) (From (fun i=>SessP s (s.Sessions.getD i default)) s.Sessions.length i) from
   (key 0 (by omega)).e1.iff ⟨fun z=>⟨From.done,fun i hi=>From.all.1 z i (by omega)⟩,fun z=>From.all.2 fun i hi=>z.2 i (by omega)⟩
  refine upto ?_ ?_
  ·exact EP.step1 (fun _ _ _ _ _=>Be.l2.eq_2 ..) (.neg (by simp) (.yes From.done (now _)))
  ·intro i hi ih
   refine EP.step1 (fun _ _ _ _ _=>Be.l2.eq_2 ..) (.pos (by simpa using hi) (.pos (by omega) ?_))
   rw [show nth s.Sessions (i:Int)=s.Sessions.getD i default from nthN _ _,w1 (by omega)]
   exact EP.bnd (rsess_ep h ho (fun k hk=>(hr k hk).1) (ssm h hi)) (fun c=>.neg (fun z=>by cases z) (ih.iff (From.next (P:=fun i=>SessP s (s.Sessions.getD i default)) c))) fun c=>.pos rfl (.no (From.no (P:=fun i=>SessP s (s.Sessions.getD i default)) hi c) (now _))
 ·intro i hi ih hr
  refine EP.step1 (fun _ _ _ _ _=>Be.l1.eq_2 ..) (.pos (by simpa using hi) (.pos (by omega) ?_))
  rw [nthV,w1 (by omega)]
  have hid:=ho.2 i (by rw [objsP_len];exact hi)
  have hI:1≤(vAt s i).ID∧(vAt s i).ID≤1048576:=by
   unfold ObjP at hid
   rw [objsP_at hi] at hid
   exact ⟨hid.1,hid.2.1⟩
  rw [w64 (i:=(vAt s i).ID-1) (by omega) (by omega)]
  refine EP.with (rres_ev ho _) (EP.iteN (fun c=>.no (fun z=>From.no (P:=Q) hi (fun y=>c y.1) z.1) (now _)) fun c5=>?_)
  refine EP.with (congr (fun K _ _ _ _=>num_eq K _ _) (now _)) (EP.iteM (fun c=>.no (fun z=>From.no (P:=Q) hi (fun y=>of_decide_eq_false c ⟨y.2.1,by have:=y.2.2.1;omega⟩) z.1) (now _)) fun c6=>?_)
  have c6:=of_decide_eq_true c6
  refine marks_ep hn hi (fun a b z=>From.no (P:=Q) hi (fun y=>y.2.2.2.1 ⟨a,b⟩) z.1) (fun a b z=>From.no (P:=Q) hi (fun y=>y.2.2.2.2 ⟨a,b⟩) z.1) fun a b=>?_
  have hQ:Q i:=⟨c5,by omega,by omega,a,b⟩
  exact (ih fun k hk=>by
   by_cases e:k=i
   ·subst e;exact hQ
   ·exact hr k (by omega)).iff ⟨fun z=>⟨(From.next hQ).1 z.1,z.2⟩,fun z=>⟨(From.next hQ).2 z.1,z.2⟩⟩
end Go.XL
end
end
section
section
namespace Go.XL
open Go.XM
def dec1:DecidableEq (Int × Bool × Bool):=inferInstance
def dec2:DecidableEq (Int × Cu × Int × Bool × Bool):=@instDecidableEqProd _ _ _ (@instDecidableEqProd _ _ _ dec1)
instance decV:DecidableEq Ao:=@instDecidableEqProd _ _ _ (@instDecidableEqProd _ _ _ dec2)
def decJ:DecidableEq Ai:=@instDecidableEqProd _ _ _ (@instDecidableEqProd _ _ _ (@instDecidableEqProd _ _ _ (@instDecidableEqProd _ _ _ inferInstance)))
instance decS:DecidableEq A9:=@instDecidableEqProd _ _ _ (@instDecidableEqProd _ _ _ (@instDecidableEqProd _ _ _ (@instDecidableEqProd _ _ _ (@instDecidableEqProd _ _ _ decJ))))
instance decT:DecidableEq Ag:=@instDecidableEqProd _ _ _ (@instDecidableEqProd _ _ _ inferInstance)
def SFit (s:Ag):Prop:=s.Versions.length≤2199023255488∧(∀ v∈s.Versions,v.Data.Data.size≤140737488351232∧-9223372036854775808≤v.At∧v.At≤9223372036854775807)∧s.Sessions.length≤2199023255488 ∧
 ∀ x∈s.Sessions,(x.Stage.Out.length≤17592186044416∧∀ y∈x.Stage.Out,y.length≤17592186044416)∧x.Job.List_.length≤17592186044416∧x.Job.Out.length≤17592186044416
theorem sweight_ev (s:Ag) (h:SFit s):∃ r:Int,E0 (fun K=>Aw K s) r∧0≤r∧r≤140737488355328∧(r≤2000→SSm s):=by
 obtain ⟨h1,h2,h3,h4⟩:=h
 have bnd2:∀ t:Nat,t≤s.Sessions.length→∀ n:Int,0≤n→n≤105553116266496→∃ r:Int,E1 (fun K a=>Aw.l2 K s a n (t:Int)) r∧n≤r∧r≤140737488355328∧(r≤2000→∀ i,i<s.Sessions.length→t≤i→GSm (s.Sessions.getD i default).Stage∧JSm (s.Sessions.getD i default).Job):=by
  refine upto ?_ ?_
  ·intro n n0 n1
   exact ⟨n,step1 (fun _ _ _ _ _=>Aw.l2.eq_2 ..) (negD (by omega) (now _)),by omega,by omega,fun _ i a b=>by omega⟩
  ·intro t ht ih n n0 n1
   by_cases c:n<1048576
   ·obtain ⟨⟨g1,g2⟩,g3,g4⟩:=h4 _ (getD_mem (d:=default) ht)
    obtain ⟨r,r1,r2,r3,r4⟩:=lists_ev (s.Sessions.getD t default).Stage.Out g1 g2
    have ej:wr .i64 ((((s.Sessions.getD t default).Job.List_.length:Nat):Int)+(((s.Sessions.getD t default).Job.Out.length:Nat):Int))=(((s.Sessions.getD t default).Job.List_.length+(s.Sessions.getD t default).Job.Out.length:Nat):Int):=by rw [w64 (by omega) (by omega)];omega
    obtain ⟨q,q1,q2,q3,q4⟩:=ih (n+r+(((s.Sessions.getD t default).Job.List_.length+(s.Sessions.getD t default).Job.Out.length:Nat):Int)) (by omega) (by omega)
    refine ⟨q,step1 (fun _ _ _ _ _=>Aw.l2.eq_2 ..) (posD (by omega) (posD c (pos (by omega) ?_))),by omega,q3,fun z i a b=>?_⟩
    ·rw [show nth s.Sessions (t:Int)=s.Sessions.getD t default from nthN _ _]
     refine bnd r1 (pos (by omega) (bnd (nowE ej) ?_))
     rw [w64 (i:=n+r) (by omega) (by omega),w64 (i:=n+r+_) (by omega) (by omega),w1 (by omega)]
     exact q1
    ·by_cases e:i=t
     ·subst e
      have:=r4 (by omega)
      exact ⟨by unfold GSm;omega,by omega,by omega⟩
     ·exact q4 z i a (by omega)
   ·exact ⟨n,step1 (fun _ _ _ _ _=>Aw.l2.eq_2 ..) (posD (by omega) (negD c (now _))),by omega,by omega,fun z=>by omega⟩
 have bnd1:∀ t:Nat,t≤s.Versions.length→∀ n:Int,0≤n→n≤70368744177664→∃ r:Int,E1 (fun K a=>Aw.l1 K s a n (t:Int)) r∧n≤r∧r≤140737488355328∧(r≤2000→(∀ i,i<s.Versions.length→t≤i→(vAt s i).Data.Data.size≤10000)∧∀ i,i<s.Sessions.length→GSm (s.Sessions.getD i default).Stage∧JSm (s.Sessions.getD i default).Job):=by
  refine upto ?_ ?_
  ·intro n n0 n1
   obtain ⟨r,r1,r2,r3,r4⟩:=bnd2 0 (by omega) n n0 (by omega)
   exact ⟨r,step1 (fun _ _ _ _ _=>Aw.l1.eq_2 ..) (negD (by omega) r1.e1),r2,r3,fun z=>⟨fun i a b=>by omega,fun i hi=>r4 z i hi (by omega)⟩⟩
  ·intro t ht ih n n0 n1
   by_cases c:n<1048576
   ·have hv:(vAt s t).Data.Data.size≤140737488351232:=(h2 _ (getD_mem (d:=default) ht)).1
    have es:wr .i64 ((((vAt s t).Data.Data.size:Nat):Int).tdiv 4)=(((vAt s t).Data.Data.size / 4:Nat):Int):=by rw [show (4:Int)=((4:Nat):Int) from rfl,tdivN,w64 (by omega) (by omega)]
    obtain ⟨r,r1,r2,r3,r4⟩:=ih (n+(((vAt s t).Data.Data.size / 4:Nat):Int)) (by omega) (by omega)
    refine ⟨r,step1 (fun _ _ _ _ _=>Aw.l1.eq_2 ..) (posD (by omega) (posD c (pos (by omega) (pos (by decide) ?_)))),by omega,r3,fun z=>⟨fun i a b=>?_,(r4 z).2⟩⟩
    ·rw [nthV,es,w64 (i:=n+_) (by omega) (by omega),w1 (by omega)];exact r1
    ·by_cases e:i=t
     ·subst e;omega
     ·exact (r4 z).1 i a (by omega)
   ·obtain ⟨r,r1,r2,r3,r4⟩:=bnd2 0 (by omega) n n0 (by omega)
    exact ⟨r,step1 (fun _ _ _ _ _=>Aw.l1.eq_2 ..) (posD (by omega) (negD c r1.e1)),r2,r3,fun z=>by omega⟩
 have e0:wr .i64 (((s.Versions.length:Nat):Int)+((s.Sessions.length:Nat):Int))=((s.Versions.length+s.Sessions.length:Nat):Int):=by rw [w64 (by omega) (by omega)];omega
 obtain ⟨r,r1,r2,r3,r4⟩:=bnd1 0 (by omega) ((s.Versions.length+s.Sessions.length:Nat):Int) (by omega) (by omega)
 refine ⟨r,?_,by omega,r3,fun z=>⟨by omega,fun v hv=>?_,by omega,fun x hx=>?_⟩⟩
 ·show E0 (fun K=>Aw.l1 K s K (wr .i64 (((s.Versions.length:Nat):Int)+((s.Sessions.length:Nat):Int))) 0) r
  rw [e0];exact r1.e1
 ·obtain ⟨i,hi,rfl⟩:=List.mem_iff_getElem.1 hv
  have h5:=(r4 z).1 i hi (by omega)
  unfold vAt at h5
  rw [getD_lt hi] at h5
  exact ⟨by omega,(h2 _ (List.getElem_mem hi)).2⟩
 ·obtain ⟨i,hi,rfl⟩:=List.mem_iff_getElem.1 hx
  have h5:=(r4 z).2 i hi
  rwa [getD_lt hi] at h5
def Fit14 (x:Dr):Prop:=x.S.length≤17592186044416∧(∀ s∈x.S,SFit s)∧x.O.L.length≤17592186044416∧(∀ l∈x.O.L,l.length≤17592186044416∧∀ o∈l,o.Data.Data.size≤140737488351232)∧x.O.N.length≤17592186044416 ∧
 x.O.G.G.length≤17592186044416∧(∀ g∈x.O.G.G,Gfit g)∧x.O.G.A.length≤17592186044416
theorem heavy14_ev (x:Dr) (h:Fit14 x):∃ b:Bool,E0 (fun K=>Cv K x) b∧(b=false→x.S.length≤1500∧∀ s∈x.S,SSm s):=by
 obtain ⟨h1,h2,h3,h4,h5,h6,h7,h8⟩:=h
 obtain ⟨b9,e9,_⟩:=heavy9_ev x.O h3 h4 h5 h6 h7 h8
 have fin:∀ n:Int,∃ b:Bool,Ev (fun K _ _ _ _=>if decide (n > 1500)=true then some true else (Bz K x.O).bind fun r32=>some r32) b∧(b=false→n≤1500):=by
  intro n
  by_cases c:n > 1500
  ·exact ⟨true,posD c (now _),fun z=>by cases z⟩
  ·exact ⟨b9,negD c (bnd e9 (now _)),fun _=>by omega⟩
 have key:∀ t:Nat,t≤x.S.length→∀ n:Int,0≤n→n≤281474976710656→∃ b:Bool,E1 (fun K a=>Cv.l1 K x a n (t:Int)) b∧(b=false→n≤1500∧∀ i,i<x.S.length→t≤i→SSm (x.S.getD i default)):=by
  refine upto ?_ ?_
  ·intro n n0 n1
   obtain ⟨b,b1,b2⟩:=fin n
   exact ⟨b,step1 (fun _ _ _ _ _=>Cv.l1.eq_2 ..) (negD (by omega) b1),fun z=>⟨b2 z,fun i a c=>by omega⟩⟩
  ·intro t ht ih n n0 n1
   by_cases c:n<1048576
   ·obtain ⟨r,r1,r2,r3,r4⟩:=sweight_ev _ (h2 _ (getD_mem (d:=default) ht))
    obtain ⟨b,b1,b2⟩:=ih (n+r) (by omega) (by omega)
    refine ⟨b,step1 (fun _ _ _ _ _=>Cv.l1.eq_2 ..) (posD (by omega) (posD c (pos (by omega) ?_))),fun z=>⟨by have:=(b2 z).1;omega,fun i a d=>?_⟩⟩
    ·rw [show nth x.S (t:Int)=x.S.getD t default from nthN _ _]
     refine bnd r1 ?_
     rw [w64 (i:=n+r) (by omega) (by omega),w1 (by omega)];exact b1
    ·by_cases e:i=t
     ·subst e;exact r4 (by have:=(b2 z).1;omega)
     ·exact (b2 z).2 i a (by omega)
   ·obtain ⟨b,b1,b2⟩:=fin n
    exact ⟨b,step1 (fun _ _ _ _ _=>Cv.l1.eq_2 ..) (posD (by omega) (negD c b1)),fun z=>by have:=b2 z;omega⟩
 obtain ⟨b,b1,b2⟩:=key 0 (by omega) ((x.S.length:Nat):Int) (by omega) (by omega)
 refine ⟨b,b1.e1,fun z=>⟨by have:=(b2 z).1;omega,fun s hs=>?_⟩⟩
 obtain ⟨i,hi,rfl⟩:=List.mem_iff_getElem.1 hs
 have:=(b2 z).2 i hi (by omega)
 rwa [getD_lt hi] at this
variable {s:Ag}
theorem dec_ver (a b:Ao):((a.ID == b.ID) && ((a.Parent == b.Parent) && ((a.Base == b.Base) && (((a.Data.Data == b.Data.Data) && ((a.Data.N == b.Data.N) && true)) && ((a.At == b.At) && ((a.Tag == b.Tag) && ((a.Gone == b.Gone) && true)))))))=decide (a=b):=by
 obtain ⟨a1,a2,a3,⟨a4,a5⟩,a6,a7,a8⟩:=a;obtain ⟨b1,b2,b3,⟨b4,b5⟩,b6,b7,b8⟩:=b
 show ((a1 == b1) && ((a2 == b2) && ((a3 == b3) && (((a4 == b4) && ((a5 == b5) && true)) && ((a6 == b6) && ((a7 == b7) && ((a8 == b8) && true)))))))=_
 rw [baq,Bool.eq_iff_iff]
 simp only [Bool.and_eq_true,beq_iff_eq,decide_eq_true_eq,Prod.mk.injEq,and_true,and_assoc]
theorem eqV_ev (xs ys:List Ao) (h:xs.length≤17592186044416):E0 (fun K=>Ch K xs ys) (decide (xs=ys)) :=
 eql_gen h _ (fun i=>congrArg (! ·) (dec_ver (nth xs i) (nth ys i))) (fun K k i=>Ch.l1 K xs ys k i) (fun _ _ _=>Ch.l1.eq_2 ..) _ (fun _=>rfl)
theorem eqSess_ev (l:List A9) (hn:l.length≤2000) (h:∀ x∈l,GSm x.Stage∧JSm x.Job):E0 (fun K=>Cb K l l) true:=by
 refine negN rfl ?_
 have key:∀ i,i≤l.length→E1 (fun K k=>Cb.l1 K l l k (i:Int)) true:=by
  refine upto ?_ ?_
  ·exact step1 (fun _ _ _ _ _=>Cb.l1.eq_2 ..) (negD (by omega) (now _))
  ·intro i hi ih
   obtain ⟨g1,g2⟩:=h _ (getD_mem (d:=default) hi)
   refine step1 (fun _ _ _ _ _=>Cb.l1.eq_2 ..) (posD (by omega) (pos (by omega) (pos (by omega) ?_)))
   rw [nthN,w1 (by omega)]
   refine bnd (a:=true) ?_ (neg (fun z=>by cases z) ih)
   unfold Dx
   refine pos (by simp) (posE rfl (pos (by simp) (posE rfl (bnd (eqG_ev _ g1) (pos rfl ?_)))))
   exact tail (ofEq (eqjob_ev _ _ g2) (decide_eq_true rfl))
 exact (key 0 (by omega)).e1
theorem eqS_ev (a b:Ag) (ha:SSm a) (e:a.Sessions=b.Sessions):E0 (fun K=>D9 K a b) (decide (a=b)):=by
 obtain ⟨a1,a2,a3,a4⟩:=a
 obtain ⟨b1,b2,b3,b4⟩:=b
 have e:a4=b4:=e
 subst e
 have hn:a3.length≤2000:=ha.1
 have no:∀ {q:Prop},¬ q→(((a1,a2,a3,a4):Ag)=(b1,b2,b3,a4)→q)→false=decide (((a1,a2,a3,a4):Ag)=(b1,b2,b3,a4)):=fun x y=>(decide_eq_false fun z=>x (y z)).symm
 unfold D9
 show Ev (fun K _ _ _ _=>if (a1 == b1)=true then if (a2 == b2)=true then (Ch K a3 b3).bind fun r22=>if r22=true then (Cb K a4 a4).bind fun r29=>some r29 else some false else some false else some false) _
 by_cases c1:a1=b1
 ·refine posE c1 ?_
  by_cases c2:a2=b2
  ·refine posE c2 (bnd (eqV_ev _ _ (by omega)) ?_)
   by_cases c3:a3=b3
   ·refine posD c3 (bnd (eqSess_ev a4 ha.2.2.1 ha.2.2.2) (nowE ?_))
    subst c1;subst c2;subst c3
    exact (decide_eq_true rfl).symm
   ·exact negD c3 (nowE (no c3 fun z=>by cases z;rfl))
  ·exact negE c2 (nowE (no c2 fun z=>by cases z;rfl))
 ·exact negE c1 (nowE (no c1 fun z=>by cases z;rfl))
end Go.XL
end
end
section
section
namespace Go.XL
open Go.XM
def wAt (b:ByteArray) (p:Nat):Int:=num4 (b.extract p b.size)
theorem wAt_rng (b:ByteArray) (p:Nat):0≤wAt b p∧wAt b p<4294967296:=num4_rng _
theorem ext_tail (b:ByteArray) (p q:Nat):(b.extract p b.size).extract q (b.extract p b.size).size=b.extract (p+q) b.size:=by
 rw [ext_ext,ByteArray.size_extract]
 by_cases h:p≤b.size
 ·rw [show min (p+(min b.size b.size-p)) b.size=b.size by omega]
 ·rw [emp (s:=b.extract (p+q) _) (by rw [ByteArray.size_extract];omega),emp (s:=b.extract (p+q) b.size) (by rw [ByteArray.size_extract];omega)]
theorem tail_size (b:ByteArray) (p:Nat):(b.extract p b.size).size=b.size-p:=by rw [ByteArray.size_extract];omega
def bareP (n:Int):Cu:=(nulls ((n.toNat+7) / 8),n)
def verAt (b:ByteArray) (p:Nat):Ao:=(wAt b p,wAt b (p+4),wAt b (p+8),bareP (wAt b (p+12)),wAt b (p+16),wAt b (p+20) == 1,wAt b (p+20) == 2)
abbrev zst:Ag:=((0,0,([]:List Ao),([]:List A9)):Ag)
abbrev noS:List A9:=List.replicate 3 zs
def versAt (b:ByteArray) (n:Nat):List Ao:=(List.range n).map fun i=>verAt b (16+24*i)
def stAt (b:ByteArray):Ag:=(wAt b 4,wAt b 8,versAt b (wAt b 12).toNat,noS)
abbrev HERB:ByteArray:=⟨#[72,69,82,66]⟩
def ImgP (b:ByteArray):Prop:=16≤b.size∧b.extract 0 4=HERB∧wAt b 12≤12∧b.size=16+24*(wAt b 12).toNat∧(∀ i,i<(wAt b 12).toNat→wAt b (16+24*i+12)≤6000∧wAt b (16+24*i+20)≤2)∧WordsP (stAt b)∧PlacesP (runsP (stAt b)) (wAt b 8)
def ES (g:F5 (Ag × Bool)) (P:Prop) (x:Ag):Prop:=(P→Ev g (x,true))∧(¬ P→Ev g (zst,false))
theorem ES.no {g:F5 (Ag × Bool)} {P:Prop} {x:Ag} (h:¬ P) (k:Ev g (zst,false)):ES g P x:=⟨fun z=>absurd z h,fun _=>k⟩
theorem ES.map {g f:F5 (Ag × Bool)} {P:Prop} {x:Ag} (h:∀ r,Ev g r→Ev f r) (k:ES g P x):ES f P x:=⟨fun z=>h _ (k.1 z),fun z=>h _ (k.2 z)⟩
def rdr (r:Ay):Int × Ay:=if r.2=true∨r.1.size<4 then (0,(r.1,true)) else (num4 r.1,(r.1.extract 4 r.1.size,false))
theorem rdr_ev (r:Ay) (h:r.1.size≤4611686018427387903):E0 (fun K=>Al K r) (rdr r):=rd_ev r.1 r.2 h
theorem rdr_size (r:Ay) (h:r.1.size≤4611686018427387903):(rdr r).2.1.size≤4611686018427387903:=by
 unfold rdr
 split
 ·exact h
 ·show (r.1.extract 4 r.1.size).size≤_
  rw [ByteArray.size_extract];omega
theorem rdr_bad {r:Ay} (h:r.2=true):rdr r=(0,(r.1,true)):=by unfold rdr;rw [if_pos (.inl h)]
theorem rdr_short {r:Ay} (h:r.1.size<4):rdr r=(0,(r.1,true)):=by unfold rdr;rw [if_pos (.inr h)]
theorem rdr_at {b:ByteArray} {p:Nat} (h:p+4≤b.size):rdr ((b.extract p b.size,false):Ay)=(wAt b p,(b.extract (p+4) b.size,false)):=by
 unfold rdr
 have hs:=tail_size b p
 rw [if_neg (fun z=>z.elim (fun z=>by cases z) (fun z=>by rw [hs] at z;omega))]
 show (num4 (b.extract p b.size),((b.extract p b.size).extract 4 (b.extract p b.size).size,false))=_
 rw [ext_tail];rfl
theorem rdr_end {b:ByteArray} {p:Nat} (h:b.size<p+4):(rdr ((b.extract p b.size,false):Ay)).2.2=true:=by
 rw [rdr_short (by show (b.extract p b.size).size<4;rw [tail_size];omega)]
theorem rdr_endE {q:Int × Ay} {b:ByteArray} {p:Nat} (e:q=rdr ((b.extract p b.size,false):Ay)) (h:b.size<p+4):q.2.2=true:=by rw [e];exact rdr_end h
theorem rdr_atE {q:Int × Ay} {b:ByteArray} {p:Nat} (e:q=rdr ((b.extract p b.size,false):Ay)) (h:p+4≤b.size):q=(wAt b p,(b.extract (p+4) b.size,false)):=by rw [e];exact rdr_at h
theorem version_ok {b:ByteArray} {p:Nat} (hs:b.size≤4611686018427387903) (h:p+24≤b.size) (h1:wAt b (p+12)≤6000) (h2:wAt b (p+20)≤2) :
  E0 (fun K=>Dy K ((b.extract p b.size,false):Ay)) (verAt b p,((b.extract (p+24) b.size,false):Ay)):=by
 have hz:∀ q,(b.extract q b.size).size≤4611686018427387903:=fun q=>by rw [tail_size];omega
 have r:∀ q,q+4≤b.size→E0 (fun K=>Al K ((b.extract q b.size,false):Ay)) (wAt b q,((b.extract (q+4) b.size,false):Ay)):=fun q hq=>ofEq (rdr_ev _ (hz q)) (rdr_at hq)
 refine bnd (r p (by omega)) (bnd (r (p+4) (by omega)) (bnd (r (p+8) (by omega)) (bnd (r (p+12) (by omega)) (neg (fun z=>by cases z) (negD (by omega) ?_)))))
 refine bnd (congr (fun K _ _ _ _=>blank_ev _ ⟨(wAt_rng b (p+12)).1,h1⟩ K) (now _)) (bnd (r (p+16) (by omega)) (bnd (r (p+20) (by omega)) (neg (fun z=>by cases z) (nowE ?_))))
 show (verAt b p,((b.extract (p+24) b.size,decide (wAt b (p+20) > 2)):Ay))=_
 rw [decide_eq_false (by omega)]
theorem version_of {r q1 q2 q3 q4 q5 q6:Int × Ay} (h1:E0 (fun K=>Al K r.2) q1) (h2:E0 (fun K=>Al K q1.2) q2) (h3:E0 (fun K=>Al K q2.2) q3) (h4:E0 (fun K=>Al K q3.2) q4)
  (h5:E0 (fun K=>Al K q4.2) q5) (h6:E0 (fun K=>Al K q5.2) q6) (h:q4.2.2=true∨q4.2.2=false∧(q4.1 > 6000∨(0≤q4.1∧q4.1≤6000)∧(q6.2.2=true∨q6.2.2=false∧q6.1 > 2))) :
  ∃ (v:Ao) (S:ByteArray),(S=q4.2.1∨S=q6.2.1)∧E0 (fun K=>Dy K r.2) (v,((S,true):Ay)):=by
 rcases h with h | ⟨h,k⟩
 ·exact ⟨_,_,.inl rfl,bnd h1 (bnd h2 (bnd h3 (bnd h4 (pos h (now _)))))⟩
 rcases k with k | ⟨k,m⟩
 ·exact ⟨_,_,.inl rfl,bnd h1 (bnd h2 (bnd h3 (bnd h4 (negB h (posD k (now _))))))⟩
 rcases m with m | ⟨m,o⟩
 ·exact ⟨_,_,.inr rfl,bnd h1 (bnd h2 (bnd h3 (bnd h4 (negB h (negD (by omega) (bnd (congr (fun K _ _ _ _=>blank_ev _ k K) (now _)) (bnd h5 (bnd h6 (pos m (now _))))))))))⟩
 ·refine ⟨(q1.1,q2.1,q3.1,bareP q4.1,q5.1,q6.1 == 1,q6.1 == 2),_,.inr rfl,bnd h1 (bnd h2 (bnd h3 (bnd h4 (negB h (negD (by omega) (bnd (congr (fun K _ _ _ _=>blank_ev _ k K) (now _)) (bnd h5 (bnd h6 (negB m (nowE ?_))))))))))⟩
  rw [decide_eq_true o];rfl
theorem version_bad {r:Ay} (hs:r.1.size≤4611686018427387903) (h:r.2=true∨∃ b p,r=((b:ByteArray).extract p b.size,false)∧¬ (p+24≤b.size∧wAt b (p+12)≤6000∧wAt b (p+20)≤2)) :
  ∃ (v:Ao) (S:ByteArray),S.size≤4611686018427387903∧E0 (fun K=>Dy K r) (v,((S,true):Ay)):=by
 have st:∀ q:Ay,q.1.size≤4611686018427387903→∃ t:Int × Ay,t=rdr q∧E0 (fun K=>Al K q) t∧t.2.1.size≤4611686018427387903∧(q.2=true→t.2.2=true):=fun q hq=>⟨_,rfl,rdr_ev _ hq,rdr_size _ hq,fun z=>by rw [rdr_bad z]⟩
 obtain ⟨q1,e1,h1,s1,t1⟩:=st r hs
 obtain ⟨q2,e2,h2,s2,t2⟩:=st q1.2 s1
 obtain ⟨q3,e3,h3,s3,t3⟩:=st q2.2 s2
 obtain ⟨q4,e4,h4,s4,t4⟩:=st q3.2 s3
 obtain ⟨q5,e5,h5,s5,t5⟩:=st q4.2 s4
 obtain ⟨q6,e6,h6,s6,t6⟩:=st q5.2 s5
 have fin:(q4.2.2=true∨q4.2.2=false∧(q4.1 > 6000∨(0≤q4.1∧q4.1≤6000)∧(q6.2.2=true∨q6.2.2=false∧q6.1 > 2)))→∃ (v:Ao) (S:ByteArray),S.size≤4611686018427387903∧E0 (fun K=>Dy K r) (v,((S,true):Ay)):=fun z=>by
  obtain ⟨v,S,k1,k2⟩:=version_of (r:=(0,r)) h1 h2 h3 h4 h5 h6 z
  exact ⟨v,S,k1.elim (fun y=>y ▸ s4) (fun y=>y ▸ s6),k2⟩
 rcases h with h | ⟨b,p,rfl,h⟩
 ·exact fin (.inl (t4 (t3 (t2 (t1 h)))))
 ·clear st h1 h2 h3 h4 h5 h6 s1 s2 s3 s4 s5 s6
  by_cases c1:b.size<p+4
  ·exact fin (.inl (t4 (t3 (t2 (rdr_endE e1 c1)))))
  have f1:=rdr_atE e1 (by omega)
  rw [f1] at e2
  by_cases c2:b.size<p+8
  ·exact fin (.inl (t4 (t3 (rdr_endE (p:=p+4) e2 (by omega)))))
  have f2:=rdr_atE (p:=p+4) e2 (by omega)
  rw [f2] at e3
  by_cases c3:b.size<p+12
  ·exact fin (.inl (t4 (rdr_endE (p:=p+4+4) e3 (by omega))))
  have f3:=rdr_atE (p:=p+4+4) e3 (by omega)
  rw [f3] at e4
  by_cases c4:b.size<p+16
  ·exact fin (.inl (rdr_endE (p:=p+4+4+4) e4 (by omega)))
  have f4:=rdr_atE (p:=p+4+4+4) e4 (by omega)
  rw [f4] at e5
  have hr:=wAt_rng b (p+4+4+4)
  have g1:q4.2.2=false:=by rw [f4]
  have g2:q4.1=wAt b (p+4+4+4):=by rw [f4]
  refine fin (.inr ⟨g1,?_⟩)
  rw [g2]
  by_cases c5:wAt b (p+4+4+4) > 6000
  ·exact .inl c5
  refine .inr ⟨⟨hr.1,by omega⟩,?_⟩
  by_cases c6:b.size<p+20
  ·exact .inl (t6 (rdr_endE (p:=p+4+4+4+4) e5 (by omega)))
  have f5:=rdr_atE (p:=p+4+4+4+4) e5 (by omega)
  rw [f5] at e6
  by_cases c7:b.size<p+24
  ·exact .inl (rdr_endE (p:=p+4+4+4+4+4) e6 (by omega))
  have f6:=rdr_atE (p:=p+4+4+4+4+4) e6 (by omega)
  refine .inr ⟨by rw [f6],?_⟩
  have g3:q6.1=wAt b (p+20):=by rw [f6]
  have c5':¬ wAt b (p+12) > 6000:=c5
  rw [g3];omega
theorem versAt_len (b:ByteArray) (n:Nat):(versAt b n).length=n:=by simp [versAt]
theorem versAt_succ (b:ByteArray) (n:Nat):versAt b (n+1)=versAt b n++[verAt b (16+24*n)]:=by simp [versAt,List.range_succ]
theorem stAt_sm {b:ByteArray} (hn:wAt b 12≤12) (hf:∀ i,i<(wAt b 12).toNat→wAt b (16+24*i+12)≤6000):SSm (stAt b):=by
 refine ⟨?_,fun v hv=>?_,by show (noS).length≤_;decide,fun x hx=>?_⟩
 ·show (versAt b _).length≤_
  rw [versAt_len];omega
 ·obtain ⟨i,hi,rfl⟩:=List.mem_map.1 hv
  have h1:=hf i (List.mem_range.1 hi)
  have h2:=wAt_rng b (16+24*i+12)
  have h3:=wAt_rng b (16+24*i+16)
  refine ⟨?_,?_,?_⟩
  ·show (nulls (((wAt b (16+24*i+12)).toNat+7) / 8)).size≤_
   rw [nulls_size];omega
  ·show _≤wAt b (16+24*i+16);omega
  ·show wAt b (16+24*i+16)≤_;omega
 ·rw [(List.mem_replicate.1 hx).2]
  exact ⟨by unfold GSm;exact Nat.zero_le _,Nat.zero_le _,Nat.zero_le _⟩
theorem readBad {r16 r18 r22:Int × Ay} {n:Nat} (h22:r22.1=(n:Int)) (hn:n≤12):∀ i:Nat,i≤n→∀ (S:ByteArray) (l:List Ao) (ss:List A9),S.size≤4611686018427387903→l.length=i →
  E1 (fun K k=>Dw.l1 K r16 r18 r22 k (i:Int) 0 0 S true l ss) (zst,false):=by
 refine upto ?_ ?_
 ·intro S l ss _ _
  exact step1 (fun _ _ _ _ _=>Dw.l1.eq_2 ..) (negD (by rw [h22];omega) (pos rfl (now _)))
 ·intro i hi ih S l ss hS hl
  obtain ⟨v,S',h1,h2⟩:=version_bad (r:=(S,true)) hS (.inl rfl)
  refine step1 (fun _ _ _ _ _=>Dw.l1.eq_2 ..) (posD (by rw [h22];omega) (bnd h2 (pos (by show (_+1)*64≤_;omega) ?_)))
  rw [w1 (by omega)]
  exact ih S' _ ss h1 (by simp [hl])
theorem read_es (b:ByteArray) (hs:b.size≤140737488351232):ES (fun K _ _ _ _=>Dw K b) (ImgP b) (stAt b):=by
 have hp:∀ K,Fh K b HERB=some (decide (4≤b.size∧b.extract 0 4=HERB)):=by
  intro K
  unfold Fh D5
  show (if decide (((b.size:Nat):Int)≥4)=true then _ else _:Option Bool).bind _=_
  by_cases c:4≤b.size
  ·rw [if_pos (decide_eq_true (by omega)),if_pos ⟨by omega,by show (0:Int)≤4;decide,by show (4:Int)≤((b.size:Nat):Int);omega⟩]
   show some ((b.extract 0 4).toList == HERB.toList)=_
   rw [beq_str];congr 1;exact decide_eq_decide.2 ⟨fun z=>⟨c,z⟩,fun z=>z.2⟩
  ·rw [if_neg (by simp;omega),decide_eq_false (fun z=>c z.1)];rfl
 by_cases c0:4≤b.size∧b.extract 0 4=HERB
 case neg=>exact ES.no (fun z=>c0 ⟨by have:=z.1;omega,z.2.1⟩) (bnd (congr (fun K _ _ _ _=>hp K) (now _)) (posM c0 (now _)))
 have e0:(b.extract ((4:Int)).toNat (((b.size:Nat):Int)).toNat,false)=((b.extract 4 b.size,false):Ay):=by rw [Int.toNat_natCast];rfl
 have head:∀ {r:Ag × Bool},(16≤b.size→Ev (fun K _ _ _ _=>if decide (wAt b 12 > 12)=true then some (zst,false) else Dw.l1 K (wAt b 4,((b.extract 8 b.size,false):Ay)) (wAt b 8,((b.extract 12 b.size,false):Ay)) (wAt b 12,((b.extract 16 b.size,false):Ay)) K 0 0 0 (b.extract 16 b.size) false [] noS) r) →
   (b.size<16→r=(zst,false))→E0 (fun K=>Dw K b) r:=by
  intro r h1 h2
  have hz:∀ q,(b.extract q b.size).size≤4611686018427387903:=fun q=>by rw [tail_size];omega
  refine bnd (congr (fun K _ _ _ _=>hp K) (now _)) (negM c0 (pos (by omega) ?_))
  rw [e0]
  have s1:=rdr_size ((b.extract 4 b.size,false):Ay) (hz 4)
  have s2:=rdr_size _ s1
  refine bnd (rdr_ev _ (hz 4)) (bnd (rdr_ev _ s1) (pos ⟨rfl,by decide,by decide,by decide⟩ (bnd (rdr_ev _ s2) ?_)))
  by_cases c:16≤b.size
  ·rw [rdr_at (p:=4) (by omega),rdr_at (p:=4+4) (by omega),rdr_at (p:=4+4+4) (by omega)]
   exact neg (fun z=>by cases z) (h1 c)
  ·have z:(rdr (rdr (rdr ((b.extract 4 b.size,false):Ay)).2).2).2.2=true:=by
    have stay:∀ q:Ay,q.2=true→(rdr q).2.2=true:=fun q hq=>by rw [rdr_bad hq]
    by_cases d1:b.size<8
    ·exact stay _ (stay _ (rdr_end (by omega)))
    rw [rdr_at (p:=4) (by omega)]
    by_cases d2:b.size<12
    ·exact stay _ (rdr_end (p:=4+4) (by omega))
    rw [rdr_at (p:=4+4) (by omega)]
    exact rdr_end (p:=4+4+4) (by omega)
   rw [h2 (by omega)]
   exact pos z (now _)
 by_cases c1:16≤b.size
 case neg=>exact ES.no (fun z=>c1 z.1) (head (fun z=>absurd z c1) (fun _=>rfl))
 refine ES.map (fun r hr=>head (fun _=>hr) (fun z=>by omega)) ?_
 by_cases c2:wAt b 12 > 12
 ·exact ES.no (fun z=>by have:=z.2.2.1;omega) (posD c2 (now _))
 refine ES.map (fun r hr=>negD c2 hr) ?_
 have hn0:=wAt_rng b 12
 generalize hn:(wAt b 12).toNat=n
 have en:wAt b 12=(n:Int):=by omega
 suffices key:∀ i,i≤n→(∀ k,k<i→wAt b (16+24*k+12)≤6000∧wAt b (16+24*k+20)≤2)→16+24*i≤b.size →
   ES (fun K a _ _ _=>Dw.l1 K (wAt b 4,((b.extract 8 b.size,false):Ay)) (wAt b 8,((b.extract 12 b.size,false):Ay)) (wAt b 12,((b.extract 16 b.size,false):Ay)) a (i:Int) 0 0 (b.extract (16+24*i) b.size) false (versAt b i) noS) (ImgP b) (stAt b) from
  ES.map (fun r hr=>hr.e1) (key 0 (by omega) (fun k hk=>by omega) (by omega))
 refine upto ?_ ?_
 ·intro hf hsz
  have hsm:=stAt_sm (by omega) (fun i hi=>(hf i (by omega)).1)
  have est:stAt b=(wAt b 4,wAt b 8,versAt b n,noS):=by unfold stAt;rw [hn]
  refine ES.map (fun r hr=>step1 (fun _ _ _ _ _=>Dw.l1.eq_2 ..) (negD (by show ¬ (n:Int)<wAt b 12;omega) (neg (fun z=>by cases z) hr))) ?_
  rw [beq_str]
  by_cases c3:b.extract (16+24*n) b.size=ByteArray.empty
  case neg=>exact ES.no (fun z=>c3 (emp (by rw [tail_size];have:=z.2.2.2.1;omega))) (posM c3 (now _))
  have hsz2:b.size=16+24*n:=by have:=congrArg ByteArray.size c3;rw [tail_size] at this;show b.size=_;have h0:ByteArray.empty.size=0:=rfl;omega
  refine ES.map (fun r hr=>negM c3 hr) ?_
  obtain ⟨w,w1,w2⟩:=(words_ep hsm).get
  rw [est] at w1 w2
  cases w with
  | false=>exact ES.no (fun z=>by have z:=z.2.2.2.2.2.1;rw [est] at z;have:=w2.2 z;cases this) (bnd w1 (pos rfl (now _)))
  | true =>
   have hp:=places_ev hsm
   obtain ⟨p,p1,p2⟩:=(smay_ev _ (wAt b 8) (runsP_sm hsm) (by rw [runsP_len];have:=hsm.1;omega)).get
   rw [est] at hp p1 p2
   cases p with
   | false=>exact ES.no (fun z=>by have z:=z.2.2.2.2.2.2;rw [est] at z;have:=p2.2 z;cases this) (bnd w1 (neg (fun z=>by cases z) (bnd hp (bnd p1 (pos rfl (now _))))))
   | true =>
    have hI:ImgP b:=⟨c1,c0.2,by omega,by omega,fun i hi=>hf i (by omega),by rw [est];exact w2.1 rfl,by rw [est];exact p2.1 rfl⟩
    exact ⟨fun _=>bnd w1 (neg (fun z=>by cases z) (bnd hp (bnd p1 (neg (fun z=>by cases z) (nowE (by rw [est])))))),fun z=>absurd hI z⟩
 ·intro i hi ih hf hsz
  have hz:(b.extract (16+24*i) b.size).size≤4611686018427387903:=by rw [tail_size];omega
  by_cases c:16+24*i+24≤b.size∧wAt b (16+24*i+12)≤6000∧wAt b (16+24*i+20)≤2
  ·refine ES.map (fun r hr=>step1 (fun _ _ _ _ _=>Dw.l1.eq_2 ..) (posD (by show (i:Int)<wAt b 12;omega) (bnd (version_ok (by omega) c.1 c.2.1 c.2.2) (pos (by show (_+1)*64≤_;rw [versAt_len];omega) hr)))) ?_
   rw [w1 (by omega),← versAt_succ]
   exact ih (fun k hk=>by
    by_cases e:k=i
    ·subst e;exact c.2
    ·exact hf k (by omega)) (by omega)
  ·refine ES.no (fun z=>c ⟨by have:=z.2.2.2.1;omega,z.2.2.2.2.1 i (by omega)⟩) ?_
   obtain ⟨v,S,h1,h2⟩:=version_bad (r:=((b.extract (16+24*i) b.size,false):Ay)) hz (.inr ⟨b,16+24*i,rfl,c⟩)
   refine step1 (fun _ _ _ _ _=>Dw.l1.eq_2 ..) (posD (by show (i:Int)<wAt b 12;omega) (bnd h2 (pos (by show (_+1)*64≤_;rw [versAt_len];omega) ?_)))
   rw [w1 (by omega)]
   exact readBad en (by omega) (i+1) (by omega) S _ _ h1 (by rw [List.length_append,versAt_len];rfl)
end Go.XL
end
end
section
section
namespace Go.XL
open Go.XM
def flagP (v:Ao):Int:=if v.Tag=true then 1 else if v.Gone=true then 2 else 0
def nums6 (v:Ao):List Int:=[v.ID,v.Parent,v.Base,v.Data.N,v.At,flagP v]
def numsS (s:Ag):List Int:=[s.Keep,s.Blocks,((s.Versions.length:Nat):Int)]++s.Versions.flatMap nums6
abbrev hL:List Int:=[72,69,82,66]
def sptN (l:List Int):ByteArray:=bytesOf (hL++l.flatMap fourL)
def sptP (s:Ag):ByteArray:=sptN (numsS s)
theorem four_rng (l:List Int):∀ x∈hL++l.flatMap fourL,0≤x∧x≤255:=by
 intro x hx
 rcases List.mem_append.1 hx with hx | hx
 ·simp only [List.mem_cons,List.not_mem_nil,or_false] at hx
  rcases hx with rfl | rfl | rfl | rfl <;> omega
 ·obtain ⟨v,_,hv⟩:=List.mem_flatMap.1 hx
  simp only [fourL,List.mem_cons,List.not_mem_nil,or_false] at hv
  rcases hv with rfl | rfl | rfl | rfl <;> omega
theorem sptN_L (l:List Int):bytesL (sptN l)=hL++l.flatMap fourL:=bytesL_bytesOf (four_rng l)
theorem flat_len (m:List Int):(m.flatMap fourL).length=4*m.length:=by
 induction m with
 | nil=>rfl
 | cons a m ih=>rw [List.flatMap_cons,List.length_append,ih];show 4+_=4*(m.length+1);omega
theorem sptN_size (l:List Int):(sptN l).size=4+4*l.length:=by
 rw [← bytesL_len,sptN_L,List.length_append,flat_len];rfl
theorem nums6_len (l:List Ao):(l.flatMap nums6).length=6*l.length:=by
 induction l with
 | nil=>rfl
 | cons a l ih=>rw [List.flatMap_cons,List.length_append,ih];show 6+_=6*(l.length+1);omega
variable {s:Ag}
theorem obj_of (ho:ObjsP (objsP s)) {i:Nat} (h:i<s.Versions.length):1≤(vAt s i).ID∧(vAt s i).ID≤1048576∧MayB (vAt s i).Data∧0≤(vAt s i).Base∧(vAt s i).Base≤1048576:=by
 have h1:∀ j,j<s.Versions.length→1≤(vAt s j).ID∧(vAt s j).ID≤1048576∧((vAt s j).Base≠0→0≤ix (objsP s) (vAt s j).Base)∧MayB (vAt s j).Data:=fun j hj=>by
  have:=ho.2 j (by rw [objsP_len];exact hj)
  unfold ObjP at this
  rw [objsP_at hj] at this
  exact ⟨this.1,this.2.1,this.2.2.2.2.1,this.2.2.2.2.2⟩
 obtain ⟨a,b,c,d⟩:=h1 i h
 refine ⟨a,b,d,?_⟩
 by_cases e:(vAt s i).Base=0
 ·omega
 ·rcases ix_spec (objsP s) (vAt s i).Base with ⟨e1,_⟩ | ⟨j,_,hj,e2⟩
  ·have:=c e;omega
  ·rw [objsP_len] at hj
   rw [objsP_at hj] at e2
   have e2:(vAt s j).ID=(vAt s i).Base:=e2
   have:=h1 j hj
   omega
theorem takeI (b:ByteArray) (hs:b.size≤140737488351232):(ImgP b→E0 (fun K=>F6 K b) (stAt b,0))∧(¬ ImgP b→E0 (fun K=>F6 K b) (zst,9)):=by
 have h:=read_es b hs
 exact ⟨fun z=>bnd (h.1 z) (neg (fun z=>by cases z) (now _)),fun z=>bnd (h.2 z) (pos rfl (now _))⟩
end Go.XL
end
end
section
section
namespace Go.XL
open Go.XM
theorem le64 {n c:Nat} (h:n*c≤140737488351232) (hc:64≤c):n≤2199023255488:=by
 have:=Nat.mul_le_mul_left n hc;omega
theorem wf64 {x:Int} (h:(Lit.int .i64 x).wf=true):-9223372036854775808≤x∧x≤9223372036854775807:=by
 have h:(decide (-9223372036854775808≤x) && decide (x≤9223372036854775807))=true:=h
 simpa using h
end Go.XL
end
end
section
section
namespace Go.XL
open Go.XM
theorem rread_at {b:ByteArray} {p:Nat} (h:p+4≤b.size) (K:Nat):Cr K (b.extract p b.size)=some (wAt b p):=by
 rw [read_eq K _ (by rw [tail_size];omega)];rfl
theorem rread_in {b:ByteArray} {p q:Nat} (h:p+q+4≤b.size) (K:Nat):Cr K ((b.extract p b.size).extract q (b.extract p b.size).size)=some (wAt b (p+q)):=by
 rw [ext_tail];exact rread_at h K
theorem bare_eq (n:Int) (h:0≤n∧n≤6000) (K:Nat):Ey K n=some (bareP n):=by
 unfold Ey
 rw [if_pos (by decide),w64 (i:=n+7) (by omega) (by omega),show (n+7).tdiv 8=(((n.toNat+7) / 8:Nat):Int) by rw [Int.tdiv_eq_ediv_of_nonneg (by omega)];omega,w64 (by omega) (by omega),zerosB K _ (by omega)]
 rfl
theorem stAt_at {b:ByteArray} {i:Nat} (h:i<(wAt b 12).toNat):vAt (stAt b) i=verAt b (16+24*i):=by
 show (versAt b _).getD i default=_
 unfold versAt
 rw [List.getD_eq_getElem?_getD,List.getElem?_map,List.getElem?_range h];rfl
theorem stAt_len (b:ByteArray):(stAt b).Versions.length=(wAt b 12).toNat:=versAt_len b _
theorem stAt_marks {b:ByteArray} {i:Nat} (h:i<(wAt b 12).toNat):¬ ((vAt (stAt b) i).Tag=true∧(vAt (stAt b) i).Gone=true):=by
 rw [stAt_at h]
 show ¬ ((wAt b (16+24*i+20) == 1)=true∧(wAt b (16+24*i+20) == 2)=true)
 rw [beq_iff_eq,beq_iff_eq];omega
theorem new_ev (a c:Int) (K:Nat):D7 K a c=some (c,a,[],noS):=by
 unfold D7
 rw [if_pos ⟨rfl,by decide,by decide,by decide⟩];rfl
theorem unpack_l2 {S:Ag} {n:Nat} {P:Prop} (hl:S.Versions.length=n) (hn2:n≤12) (yes:(∀ i,i<n→VerP S i)→P) (no:P→∀ i,i<n→VerP S i) (hid:∀ i,i<n→1≤(vAt S i).ID∧(vAt S i).ID≤1048576) (hmk:∀ i,i<n→¬ ((vAt S i).Tag=true∧(vAt S i).Gone=true)) :
  ES (fun K _ _ _ _=>Bb.l2 K ((S.Keep,S.Blocks,([]:List Ao),S.Sessions):Ag) (n:Int) K 0 S.Versions) P S:=by
 suffices key:∀ i,i≤n→(∀ k,k<i→VerP S k)→ES (fun K a _ _ _=>Bb.l2 K ((S.Keep,S.Blocks,([]:List Ao),S.Sessions):Ag) (n:Int) a (i:Int) S.Versions) P S from
  ES.map (fun r hr=>hr.e1) (key 0 (by omega) (fun k hk=>by omega))
 refine upto ?_ ?_
 ·intro hv
  exact ⟨fun _=>step1 (fun _ _ _ _ _=>Bb.l2.eq_2 ..) (negD (by omega) (now _)),fun z=>absurd (yes hv) z⟩
 ·intro i hi ih hv
  have hI:=hid i hi
  refine ES.map (fun r hr=>step1 (fun _ _ _ _ _=>Bb.l2.eq_2 ..) (posD (by omega) (pos (by rw [hl];omega) (pos (by rw [hl];omega) hr)))) ?_
  rw [nthV]
  have hm:=hmk i hi
  rw [w64 (i:=(vAt S i).ID-1) (by omega) (by omega)]
  by_cases c:0≤(vAt S i).Parent∧(vAt S i).Parent≤(vAt S i).ID-1
  case neg=>exact ES.no (fun z=>c ⟨(no z i hi).1,by have:=(no z i hi).2.1;omega⟩) (bnd (congr (fun K _ _ _ _=>num_eq K _ _) (now _)) (posM c (now _)))
  refine ES.map (fun r hr=>bnd (congr (fun K _ _ _ _=>num_eq K _ _) (now _)) (negM c (pos (by rw [hl];omega) hr))) ?_
  have next:¬ ((vAt S i).Gone=true∧i+1=S.Versions.length)→ES (fun K a _ _ _=>Bb.l2 K ((S.Keep,S.Blocks,([]:List Ao),S.Sessions):Ag) (n:Int) a ((i+1:Nat):Int) S.Versions) P S:=fun hg =>
   ih fun k hk=>by
    by_cases e:k=i
    ·subst e;exact ⟨c.1,by omega,hm,hg⟩
    ·exact hv k (by omega)
  rw [w1 (by omega)]
  cases g:(vAt S i).Gone with
  | false=>exact ES.map (fun r hr=>neg (fun z=>by cases z) hr) (next fun z=>by rw [g] at z;cases z.1)
  | true =>
   rw [w64 (i:=(n:Int)-1) (by omega) (by omega)]
   by_cases e:i+1=n
   ·exact ES.no (fun z=>(no z i hi).2.2.2 ⟨g,by rw [hl];exact e⟩) (pos rfl (posE (by omega) (now _)))
   ·exact ES.map (fun r hr=>pos rfl (negE (by omega) hr)) (next fun z=>e (by rw [← hl];exact z.2))
theorem unpack_es (b:ByteArray) (hs:b.size≤140737488351232):ES (fun K _ _ _ _=>Bb K b) (ImgP b) (stAt b):=by
 by_cases c1:16≤b.size
 case neg=>exact ES.no (fun z=>c1 z.1) (posD (by omega) (now _))
 have eb:b.extract ((0:Int)).toNat ((4:Int)).toNat=b.extract 0 4:=rfl
 by_cases c0:b.extract 0 4=HERB
 case neg=>exact ES.no (fun z=>c0 z.2.1) (negD (by omega) (pos ⟨by omega,by omega,by omega⟩ (pos (by rw [eb,beq_str,decide_eq_false c0];rfl) (now _))))
 have et:∀ p:Nat,b.extract ((p:Int)).toNat ((b.size:Int)).toNat=b.extract p b.size:=fun p=>by rw [Int.toNat_natCast,Int.toNat_natCast]
 refine ES.map (fun r hr=>negD (by omega) (pos ⟨by omega,by omega,by omega⟩ (neg (by rw [eb,beq_str,decide_eq_true c0];decide) (pos ⟨by omega,by omega,by omega⟩ (bnd (congr (fun K _ _ _ _=>by rw [show b.extract ((8:Int)).toNat ((b.size:Int)).toNat=b.extract 8 b.size from et 8];exact rread_at (by omega) K) (now _)) (pos ⟨by omega,by omega,by omega⟩ (bnd (congr (fun K _ _ _ _=>by rw [show b.extract ((4:Int)).toNat ((b.size:Int)).toNat=b.extract 4 b.size from et 4];exact rread_at (by omega) K) (now _)) (bnd (congr (fun K _ _ _ _=>new_ev _ _ K) (now _)) (pos ⟨by omega,by omega,by omega⟩ (bnd (congr (fun K _ _ _ _=>by rw [show b.extract ((12:Int)).toNat ((b.size:Int)).toNat=b.extract 12 b.size from et 12];exact rread_at (by omega) K) (now _)) hr)))))))))) ?_
 have hn0:=wAt_rng b 12
 by_cases k1:1≤wAt b 4∧wAt b 4≤8
 case neg=>exact ES.no (fun z=>k1 z.2.2.2.2.2.1.1) (bnd (congr (fun K _ _ _ _=>between_eq K _ _ _) (now _)) (posM k1 (now _)))
 by_cases k2:1≤wAt b 8∧wAt b 8≤100
 case neg=>exact ES.no (fun z=>k2 z.2.2.2.2.2.1.2.1) (bnd (congr (fun K _ _ _ _=>between_eq K _ _ _) (now _)) (negM k1 (bnd (congr (fun K _ _ _ _=>between_eq K _ _ _) (now _)) (posM k2 (now _)))))
 refine ES.map (fun r hr=>bnd (congr (fun K _ _ _ _=>between_eq K _ _ _) (now _)) (negM k1 (bnd (congr (fun K _ _ _ _=>between_eq K _ _ _) (now _)) (negM k2 hr)))) ?_
 by_cases c2:wAt b 12 > 12
 ·exact ES.no (fun z=>by have:=z.2.2.1;omega) (posD c2 (now _))
 refine ES.map (fun r hr=>negD c2 hr) ?_
 generalize hn:(wAt b 12).toNat=n
 have en:wAt b 12=(n:Int):=by omega
 rw [en]
 rw [w64 (i:=24*(n:Int)) (by omega) (by omega),w64 (i:=16+24*(n:Int)) (by omega) (by omega)]
 by_cases c3:b.size=16+24*n
 case neg=>exact ES.no (fun z=>c3 (by have:=z.2.2.2.1;omega)) (posN (by omega) (now _))
 refine ES.map (fun r hr=>negN (by omega) hr) ?_
 suffices key:∀ i,i≤n→(∀ k,k<i→wAt b (16+24*k+12)≤6000∧wAt b (16+24*k+20)≤2) →
   ES (fun K a _ _ _=>Bb.l1 K ((wAt b 4,wAt b 8,([]:List Ao),noS):Ag) (n:Int) b a (i:Int) 0 0 (versAt b i)) (ImgP b) (stAt b) from
  ES.map (fun r hr=>hr.e1) (key 0 (by omega) (fun k hk=>by omega))
 refine upto ?_ ?_
 ·intro hf
  have hsm:=stAt_sm (by omega) (fun i hi=>(hf i (by omega)).1)
  have est:(wAt b 4,wAt b 8,versAt b n,noS)=stAt b:=by unfold stAt;rw [hn]
  have ev:versAt b n=(stAt b).Versions:=by rw [← est]
  obtain ⟨o1,o2⟩:=objsP_sm hsm
  have ro:E0 (fun K=>Br K ((wAt b 4,wAt b 8,versAt b n,noS):Ag)) (objsP (stAt b)):=by rw [est];exact robjs_ev hsm
  have rr:E0 (fun K=>Cq K ((wAt b 4,wAt b 8,versAt b n,noS):Ag)) (runsP (stAt b)):=by rw [est];exact rruns_ev hsm
  refine ES.map (fun r hr=>step1 (fun _ _ _ _ _=>Bb.l1.eq_2 ..) (negD (by omega) (bnd ro (bnd (robj_ev o1 o2) hr)))) ?_
  by_cases c4:ObjsP (objsP (stAt b))
  case neg=>exact ES.no (fun z=>c4 z.2.2.2.2.2.1.2.2.2) (posM c4 (now _))
  refine ES.map (fun r hr=>negM c4 (bnd rr hr)) ?_
  obtain ⟨p,p1,p2⟩:=(rplaces_ev _ (wAt b 8) (runsP_sm hsm) (by rw [runsP_len];have:=hsm.1;omega)).get
  refine ES.map (fun r hr=>bnd p1 hr) ?_
  cases p with
  | false=>exact ES.no (fun z=>by have:=p2.2 z.2.2.2.2.2.2;cases this) (pos rfl (now _))
  | true =>
   rw [ev]
   refine ES.map (fun r hr=>neg (fun z=>by cases z) hr) (unpack_l2 (S:=stAt b) (n:=n) (by rw [stAt_len];exact hn) (by omega) (fun z=>⟨c1,c0,by omega,by omega,fun i hi=>hf i (by omega),⟨k1,k2,fun i hi=>z i (by rw [stAt_len] at hi;omega),c4⟩,p2.1 rfl⟩) (fun z i hi=>z.2.2.2.2.2.1.2.2.1 i (by rw [stAt_len];omega)) (fun i hi=>?_) (fun i hi=>stAt_marks (by omega)))
   have ho:=obj_of c4 (i:=i) (by rw [stAt_len];omega)
   exact ⟨ho.1,ho.2.1⟩
 ·intro i hi ih hf
  have ew:wr .i64 (16+wr .i64 (24*(i:Int)))=((16+24*i:Nat):Int):=by rw [w64 (i:=24*(i:Int)) (by omega) (by omega),w64 (by omega) (by omega)];omega
  have hz:=tail_size b (16+24*i)
  have rd:∀ q:Nat,q≤20→E0 (fun K=>Cr K ((b.extract (16+24*i) b.size).extract ((q:Nat):Int).toNat (((b.extract (16+24*i) b.size).size:Nat):Int).toNat)) (wAt b (16+24*i+q)):=fun q hq =>
   congr (fun K _ _ _ _=>by rw [Int.toNat_natCast,Int.toNat_natCast];exact rread_in (by omega) K) (now _)
  have r0:E0 (fun K=>Cr K (b.extract (16+24*i) b.size)) (wAt b (16+24*i)):=congr (fun K _ _ _ _=>rread_at (by omega) K) (now _)
  refine ES.map (fun r hr=>step1 (fun _ _ _ _ _=>Bb.l1.eq_2 ..) (posD (by omega) hr)) ?_
  rw [ew,w1 (by omega),et]
  refine ES.map (fun r hr=>pos ⟨by omega,by omega,by omega⟩ (pos ⟨by omega,by omega,by omega⟩ (bnd (rd 20 (by omega)) hr))) ?_
  have g12:=wAt_rng b (16+24*i+12)
  by_cases d1:wAt b (16+24*i+20) > 2
  ·exact ES.no (fun z=>by have:=(z.2.2.2.2.1 i (by omega)).2;omega) (posD d1 (now _))
  refine ES.map (fun r hr=>negD d1 (pos ⟨by omega,by omega,by omega⟩ (bnd (rd 12 (by omega)) hr))) ?_
  by_cases d2:wAt b (16+24*i+12) > 6000
  ·exact ES.no (fun z=>by have:=(z.2.2.2.2.1 i (by omega)).1;omega) (posD d2 (now _))
  refine ES.map (fun r hr=>negD d2 (bnd r0 (pos ⟨by omega,by omega,by omega⟩ (bnd (rd 4 (by omega)) (pos ⟨by omega,by omega,by omega⟩ (bnd (rd 8 (by omega)) (pos ⟨by omega,by omega,by omega⟩ (bnd (rd 12 (by omega)) (bnd (congr (fun K _ _ _ _=>bare_eq _ ⟨by omega,by omega⟩ K) (now _)) (pos ⟨by omega,by omega,by omega⟩ (bnd (rd 16 (by omega)) (pos (by rw [versAt_len];show (i+1)*64≤_;omega) hr)))))))))))) ?_
  show ES (fun K a _ _ _=>Bb.l1 K ((wAt b 4,wAt b 8,([]:List Ao),noS):Ag) (n:Int) b a ((i+1:Nat):Int) 0 0 (versAt b i++[verAt b (16+24*i)])) (ImgP b) (stAt b)
  rw [← versAt_succ]
  exact ih (fun k hk=>by
   by_cases e:k=i
   ·subst e;exact ⟨by omega,by omega⟩
   ·exact hf k (by omega))
theorem sptN_snoc (l:List Int) (v:Int):sptN l++four v=sptN (l++[v]):=by
 apply bytesL_inj
 rw [bytesL_app,sptN_L,sptN_L,four_L,List.flatMap_append,List.append_assoc,List.flatMap_cons,List.flatMap_nil,List.append_nil]
variable {s:Ag}
theorem rbytes_ev (h:SSm s) (hv:∀ i,i<s.Versions.length→¬ ((vAt s i).Tag=true∧(vAt s i).Gone=true)):E0 (fun K=>Av K s) (sptP s):=by
 have hn:=h.1
 have num:∀ v,E0 (fun K=>Dg K v) (four v):=fun v=>congr (fun K _ _ _ _=>number_eq K v) (now _)
 have e0:(⟨#[72,69,82,66]⟩:ByteArray)=sptN []:=rfl
 have sz:∀ (l:List Int) (v:Int),l.length≤1000000→((((sptN l).size+(four v).size:Nat)):Int)≤9223372036854775807:=fun l v hl=>by rw [sptN_size,four_size];omega
 have key:∀ i,i≤s.Versions.length→E1 (fun K k=>Av.l1 K s k (sptN ([s.Keep,s.Blocks,((s.Versions.length:Nat):Int)]++(s.Versions.take i).flatMap nums6)) (i:Int)) (sptP s):=by
  refine upto ?_ ?_
  ·refine step1 (fun _ _ _ _ _=>Av.l1.eq_2 ..) (negD (by omega) (nowE ?_))
   rw [List.take_length];rfl
  ·intro i hi ih
   refine step1 (fun _ _ _ _ _=>Av.l1.eq_2 ..) (posD (by omega) (pos (by omega) ?_))
   rw [nthV]
   rw [take_getD (d:=default) hi,List.flatMap_append,← List.append_assoc] at ih
   have hL:([s.Keep,s.Blocks,((s.Versions.length:Nat):Int)]++(s.Versions.take i).flatMap nums6).length≤100000:=by rw [List.length_append,nums6_len,List.length_take];show 3+_≤_;omega
   generalize ([s.Keep,s.Blocks,((s.Versions.length:Nat):Int)]++(s.Versions.take i).flatMap nums6)=L at ih hL
   have j3:∀ f,f=flagP (vAt s i)→E1 (fun K k=>Av.j3 K (Av.l1 K s k) (sptN L) (i:Int) (vAt s i).ID (vAt s i).Parent (vAt s i).Base (vAt s i).Data.N (vAt s i).At s f) (sptP s):=by
    rintro f rfl
    unfold Av.j3
    refine bnd (num _) (pos (sz _ _ (by omega)) ?_)
    rw [sptN_snoc]
    refine bnd (num _) (pos (sz _ _ (by rw [List.length_append];show _+1≤_;omega)) ?_)
    rw [sptN_snoc,List.append_assoc]
    refine bnd (num _) (pos (sz _ _ (by rw [List.length_append];show _+2≤_;omega)) ?_)
    rw [sptN_snoc,List.append_assoc]
    refine bnd (num _) (pos (sz _ _ (by rw [List.length_append];show _+3≤_;omega)) ?_)
    rw [sptN_snoc,List.append_assoc]
    refine bnd (num _) (pos (sz _ _ (by rw [List.length_append];show _+4≤_;omega)) ?_)
    rw [sptN_snoc,List.append_assoc]
    refine bnd (num _) (pos (sz _ _ (by rw [List.length_append];show _+5≤_;omega)) ?_)
    rw [sptN_snoc,List.append_assoc,w1 (by omega)]
    rw [show ([vAt s i].flatMap nums6)=nums6 (vAt s i) by rw [List.flatMap_cons,List.flatMap_nil,List.append_nil]] at ih
    exact ih
   have hm:=hv i hi
   have ef:flagP (vAt s i)=if (vAt s i).Tag=true then 1 else if (vAt s i).Gone=true then 2 else 0:=rfl
   unfold Av.j2
   cases t:(vAt s i).Tag with
   | true =>
    cases g:(vAt s i).Gone with
    | true=>exact absurd ⟨t,g⟩ hm
    | false=>exact pos rfl (neg (fun z=>by cases z) (j3 _ (by rw [ef,t];rfl)))
   | false =>
    cases g:(vAt s i).Gone with
    | true=>exact neg (fun z=>by cases z) (pos rfl (j3 _ (by rw [ef,t,g,w64 (by omega) (by omega)];rfl)))
    | false=>exact neg (fun z=>by cases z) (neg (fun z=>by cases z) (j3 _ (by rw [ef,t,g];rfl)))
 unfold Av
 rw [e0]
 refine bnd (num _) (pos (sz _ _ (by decide)) ?_)
 rw [sptN_snoc]
 refine bnd (num _) (pos (sz _ _ (by show 1≤_;decide)) ?_)
 rw [sptN_snoc]
 refine bnd (num _) (pos (sz _ _ (by show 2≤_;decide)) ?_)
 rw [sptN_snoc]
 have:=(key 0 (by omega)).e1
 rwa [List.take_zero,List.flatMap_nil,List.append_nil] at this
end Go.XL
end
end
section
section
namespace Go.XL
open Go.XM
theorem wakes18k' (j:Nat):En (j+20)=some true:=by kernel_rfl
theorem wakes18E':E0 (fun K=>En K) true :=
 ⟨20,fun K _ _ _ _ h _ _ _ _=>by
  obtain ⟨j,rfl⟩:∃ j,K=j+20:=⟨K-20,by omega⟩
  exact wakes18k' j⟩
variable {x:Dr}
theorem ins_size {d n:ByteArray} {p:Nat} (hp:p+4≤d.size) (hn:n.size=4):(d.extract 0 p).size=p∧(d.extract (p+4) d.size).size=d.size-(p+4)∧(d.extract 0 p++n++d.extract (p+4) d.size).size=d.size:=by
 have h1:(d.extract 0 p).size=p:=by rw [ByteArray.size_extract];omega
 have h2:=tail_size d (p+4)
 exact ⟨h1,h2,by rw [ByteArray.size_append,ByteArray.size_append,h1,h2,hn];omega⟩
theorem both_img (b:ByteArray) (hb:b.size≤140737488351232):∃ (S:Ag) (t:Bool),E0 (fun K=>F6 K b) (S,if t=true then 0 else 9)∧E0 (fun K=>Bb K b) (S,t)∧E0 (fun K=>D9 K S S) true:=by
 have h1:=takeI b hb
 have h2:=unpack_es b hb
 by_cases c:ImgP b
 ·have hsm:=stAt_sm c.2.2.1 (fun i hi=>(c.2.2.2.2.1 i hi).1)
  exact ⟨_,true,h1.1 c,h2.1 c,ofEq (eqS_ev _ _ hsm rfl) (decide_eq_true rfl)⟩
 ·have hsm:SSm zst:=⟨Nat.zero_le _,fun v (hv:v∈([]:List Ao))=>(by cases hv),Nat.zero_le _,fun v (hv:v∈([]:List A9))=>(by cases hv)⟩
  exact ⟨_,false,h1.2 c,h2.2 c,ofEq (eqS_ev _ _ hsm rfl) (decide_eq_true rfl)⟩
theorem in_l3 {go1:Nat→Nat→Int→Option Bool} {go2:Nat→Nat→Nat→Int→Option Bool} {d:ByteArray} {T:Int} {p:Nat} (hd:d.size≤1000) (hp:p+4≤d.size) (h2:E2 (fun K a b=>go2 K a b ((p+4:Nat):Int)) true) :
  ∀ j:Nat,j≤6→E3 (fun K a b c=>Af.l3 K (go1 K a) (go2 K a b) d T (p:Int) x c (j:Int)) true:=by
 have ep:wr .i64 ((p:Int)+4)=((p+4:Nat):Int):=by rw [w64 (by omega) (by omega)];omega
 refine upto ?_ ?_
 ·refine step3 (fun _ _ _ _ _=>Af.l3.eq_2 ..) (negD (by omega) ?_)
  rw [ep];exact h2
 ·intro j hj ih
  refine step3 (fun _ _ _ _ _=>Af.l3.eq_2 ..) (posD (by omega) ?_)
  rw [ep,w1 (by omega)]
  have hN:(nth ([(⟨#[0,0,0,0]⟩:ByteArray),(⟨#[0,0,0,1]⟩:ByteArray),(⟨#[0,0,0,3]⟩:ByteArray),(⟨#[0,16,0,1]⟩:ByteArray),(⟨#[255,255,255,255]⟩:ByteArray),(⟨#[0,0,0,8]⟩:ByteArray)]:List ByteArray) (j:Int)).size=4:=by
   obtain rfl | rfl | rfl | rfl | rfl | rfl:j=0∨j=1∨j=2∨j=3∨j=4∨j=5:=by omega
   all_goals rfl
  refine pos ⟨by omega,by show (j:Int)<6;omega⟩ ?_
  generalize nth ([(⟨#[0,0,0,0]⟩:ByteArray),(⟨#[0,0,0,1]⟩:ByteArray),(⟨#[0,0,0,3]⟩:ByteArray),(⟨#[0,16,0,1]⟩:ByteArray),(⟨#[255,255,255,255]⟩:ByteArray),(⟨#[0,0,0,8]⟩:ByteArray)]:List ByteArray) (j:Int)=n at hN
  obtain ⟨z1,z2,z3⟩:=ins_size hp hN
  have ex1:d.extract ((0:Int)).toNat ((p:Int)).toNat=d.extract 0 p:=by rw [Int.toNat_natCast];rfl
  have ex2:d.extract (((p+4:Nat):Int)).toNat ((d.size:Int)).toNat=d.extract (p+4) d.size:=by rw [Int.toNat_natCast,Int.toNat_natCast]
  rw [ex1,ex2]
  obtain ⟨S,t,t1,t2,t3⟩:=both_img (d.extract 0 p++n++d.extract (p+4) d.size) (by omega)
  refine pos ⟨by omega,by omega,by omega⟩ (pos (by omega) (pos ⟨by omega,by omega,by omega⟩ (pos (by rw [ByteArray.size_append];omega) (bnd t1 (bnd t2 (bnd (now _) ?_))))))
  cases t with
  | true=>exact neg (by show ¬ (!(true == ((if true=true then (0:Int) else 9) == 0)))=true;decide) (neg (by show ¬ (!true)=true;decide) (bnd t3 (neg (by decide) ih)))
  | false=>exact neg (by show ¬ (!(false == ((if false=true then (0:Int) else 9) == 0)))=true;decide) (pos rfl (bnd (now _) (negN rfl (bnd t3 (neg (by decide) ih)))))
theorem in_l2 {go1:Nat→Nat→Int→Option Bool} {d:ByteArray} {i:Nat} (hd:d.size≤1000) (hi:i<1000) (h1:E1 (fun K a=>go1 K a ((i+1:Nat):Int)) true) :
  ∀ j:Nat,j≤(d.size-4) / 4→E2 (fun K a b=>Af.l2 K (go1 K a) d (i:Int) x b ((4+4*j:Nat):Int)) true:=by
 refine upto ?_ ?_
 ·refine step2 (fun _ _ _ _ _=>Af.l2.eq_2 ..) (negD (by rw [w64 (by omega) (by omega)];omega) ?_)
  rw [w1 (by omega)];exact h1
 ·intro j hj ih
  refine step2 (fun _ _ _ _ _=>Af.l2.eq_2 ..) (posD (by rw [w64 (by omega) (by omega)];omega) ?_)
  exact (in_l3 (go1:=go1) (go2:=fun K a b=>Af.l2 K (go1 K a) d (i:Int) x b) hd (by omega) (by rw [show 4+4*j+4=4+4*(j+1) by omega];exact ih) 0 (by omega)).e3
theorem in_l1 (hs:∀ s∈x.S,SSm s):∀ i:Nat,i≤2→E1 (fun K a=>Af.l1 K x a (i:Int)) true:=by
 refine upto ?_ ?_
 ·refine step1 (fun _ _ _ _ _=>Af.l1.eq_2 ..) ?_
  by_cases c:2<x.S.length
  ·exact posD (by omega) (negD (by omega) (bnd wakes18E' (now _)))
  ·exact negD (by omega) (bnd wakes18E' (now _))
 ·intro i hi ih
  refine step1 (fun _ _ _ _ _=>Af.l1.eq_2 ..) ?_
  by_cases c:i<x.S.length
  case neg=>exact negD (by omega) (bnd wakes18E' (now _))
  have hsm:=hs _ (getD_mem (d:=default) c)
  refine posD (by omega) (posD (by omega) (pos (by omega) ?_))
  rw [show nth x.S (i:Int)=x.S.getD i default from nthN _ _]
  generalize x.S.getD i default=s at hsm
  obtain ⟨b,b1,b2⟩:=(rstate_ep hsm).get
  refine bnd b1 ?_
  cases b with
  | false=>rw [w1 (by omega)];exact pos rfl ih
  | true =>
   have m:=b2.1 rfl
   have ho:=m.1.1.2.2.2
   have hn:s.Versions.length≤12:=by have:=ho.1;rwa [objsP_len] at this
   have hz:(sptP s).size≤1000:=by
    show (sptN _).size≤_
    rw [sptN_size];unfold numsS
    rw [List.length_append,nums6_len];show 4+4*(3+_)≤_;omega
   have hb:=rbytes_ev hsm (fun i hi=>(m.1.1.2.2.1 i hi).2.2.1)
   generalize sptP s=d at hb hz
   refine neg (by decide) (pos (by omega) (bnd hb ?_))
   exact (in_l2 (go1:=fun K a=>Af.l1 K x a) hz (by omega) ih 0 (by omega)).e2
theorem imageNumbers_pure (x:Dr) (h:Fit14 x):∃ K,Af K x=some true:=by
 obtain ⟨b,b1,b2⟩:=heavy14_ev x h
 refine Ev.get (g:=fun K=>Af K x) (bnd b1 ?_)
 cases b with
 | true=>exact pos rfl (now _)
 | false=>exact negB rfl (in_l1 (b2 rfl).2 0 (by omega)).e1
end Go.XL
end
end
