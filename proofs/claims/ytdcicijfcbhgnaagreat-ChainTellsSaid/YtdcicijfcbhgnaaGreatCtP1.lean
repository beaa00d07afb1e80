import Derived.Test.YtdcicijfcbhgnaaGreatCtP0
set_option linter.all false
section
namespace Go.XL
open Go.XM
theorem rzag_eq {K:Nat} {n:Nat} (h:n≤1073741824):C7 K (n:Int)=some (unf n):=by
 unfold C7 unf
 have em:((n:Int).tmod 2)=((n % 2:Nat):Int):=(Int.ofNat_tmod n 2).symm
 have ed:((n:Int).tdiv 2)=((n / 2:Nat):Int):=(Int.ofNat_tdiv n 2).symm
 rw [em,ed,if_pos (by decide)]
 by_cases c:n % 2=1
 ·rw [if_neg (by simp [c]),if_pos (by decide),if_pos (by omega),w64 (i:=(n:Int)+1) (by omega) (by omega),w64 (i:=0-((n:Int)+1)) (by omega) (by omega)]
  have:(0-((n:Int)+1)).tdiv 2=-(((n:Int)+1) / 2):=by
   rw [Int.zero_sub,Int.neg_tdiv]
   congr 1
  rw [this,w64 (by omega) (by omega)]
 ·rw [if_pos (by simp;omega),if_pos (by decide),if_neg (by omega),w64 (by omega) (by omega)]
  congr 1
theorem same_ev {l x:List Int} (hl:l.length≤1000000) (hx:x.length≤1000000) {at_:Nat} (hat:at_≤l.length):E0 (fun K=>Cc K l (at_:Int) x) (decide (x <+: l.drop at_)):=by
 have key:∀ i,i≤x.length→E1 (fun K k=>Cc.l1 K l (at_:Int) x k (i:Int)) (decide (x.drop i <+: l.drop (at_+i))):=by
  refine upto ?_ ?_
  ·refine step1 (fun _ _ _ _ _=>Cc.l1.eq_2 ..) ?_
   refine negD (by omega) (nowE ?_)
   rw [List.drop_length];simp
  ·intro i hi ih
   have e1:wr .i64 ((at_:Int)+(i:Int))=((at_+i:Nat):Int):=by rw [w64 (by omega) (by omega)];omega
   refine step1 (fun _ _ _ _ _=>Cc.l1.eq_2 ..) ?_
   rw [e1]
   refine posD (by omega) ?_
   by_cases c:at_+i<l.length
   ·refine negD (by omega) (pos (by omega) (pos (by omega) ?_))
    rw [rdN,rdN,w1 (by omega)]
    have hd:(x.drop i <+: l.drop (at_+i))↔(l.getD (at_+i) 0=x.getD i 0∧x.drop (i+1) <+: l.drop (at_+(i+1))):=by
     rw [drop_getD (d:=0) hi,drop_getD (d:=0) c,List.cons_prefix_cons,show at_+i+1=at_+(i+1) by omega,eq_comm]
    by_cases e:l.getD (at_+i) 0=x.getD i 0
    ·refine negN e (ofEq ih ?_)
     rw [Bool.eq_iff_iff,decide_eq_true_iff,decide_eq_true_iff,hd]
     exact ⟨fun z=>⟨e,z⟩,fun z=>z.2⟩
    ·refine posN e (nowE ?_)
     exact (decide_eq_false (fun z=>e (hd.1 z).1)).symm
   ·refine posD (by omega) (nowE ?_)
    refine (decide_eq_false (fun z=>?_)).symm
    have:=z.length_le
    rw [List.length_drop,List.length_drop] at this;omega
 exact (key 0 (by omega)).e1
theorem rtg_l1 {l:List Int} (h:Bt l) (hb:l.length≤1000000) {v:Int} (hv:0≤v) (hv2:v≤15) {r18:Int × Int} {m:Nat} (hm:wr .i64 (r18.1-1)=(m:Int)) (hm2:m≤17):∀ (d i at_:Nat) (last:Int) (acc:List Int),i+d=m→at_≤l.length→acc.length≤i→-8589934592*((i:Int)+1)≤last→last≤8589934592*((i:Int)+1) →
  ∃ res:List Int × Int × Bool,E1 (fun K k=>Bi.l1 K r18 l v k (at_:Int) last (i:Int) acc) res∧(res=([],0,false)∨∃ (s:List Int) (n:Nat),res=(s,(n:Int),true)∧MayP s∧n≤l.length) ∧
   ∀ q:List Int,q.length=d→MayP (acc++q)→q.Pairwise (·<·)→(∀ x∈q,0≤x∧x≤15)→(0<i→0≤last∧∀ x∈q,last<x)→gams (cod v i last q) <+: l.drop at_→res=(acc++q,((at_+(gams (cod v i last q)).length:Nat):Int),true):=by
 intro d
 induction d with
 | zero =>
  intro i at_ last acc hi hat ha h1 h2
  by_cases c:MayP acc
  ·refine ⟨(acc,(at_:Int),true),?_,.inr ⟨acc,at_,rfl,c,hat⟩,fun q hq _ _ _ _ _=>?_⟩
   ·refine step1 (fun _ _ _ _ _=>Bi.l1.eq_2 ..) ?_
    rw [hm]
    exact negD (by omega) (bnd (may3_ev acc (by omega)) (negM c (now _)))
   ·obtain rfl:=List.eq_nil_of_length_eq_zero hq
    simp [cod_nil,gams]
  ·refine ⟨([],0,false),?_,.inl rfl,fun q hq hq2 _ _ _ _=>?_⟩
   ·refine step1 (fun _ _ _ _ _=>Bi.l1.eq_2 ..) ?_
    rw [hm]
    exact negD (by omega) (bnd (may3_ev acc (by omega)) (posM c (now _)))
   ·obtain rfl:=List.eq_nil_of_length_eq_zero hq
    rw [List.append_nil] at hq2
    exact absurd hq2 c
 | succ d ih =>
  intro i at_ last acc hi hat ha h1 h2
  have hrd:=RRead_ev h (by omega) hat
  have first:∀ q:List Int,q.length=d+1→(∀ x∈q,0≤x∧x≤15)→(0<i→0≤last∧∀ x∈q,last<x)→gams (cod v i last q) <+: l.drop at_→∃ (x:Int) (q':List Int) (k:Nat),q=x::q'∧rg l at_=some ((k:Int),at_+(gam k).length)∧cod v i last q=k::cod v (i+1) x q'∧(if i=0 then v+unf ((k-1:Nat):Int) else last+(k:Int))=x∧gams (cod v (i+1) x q') <+: l.drop (at_+(gam k).length):=by
   intro q hq hr hlast hp
   match q,hq with
   | x::q',hq =>
    have hx:=hr x List.mem_cons_self
    have hc:=cod_cons v i last x q'
    generalize hk:(if i=0 then fold (x-v)+1 else (x-last).toNat)=k at hc
    have hk2:0<k∧k≤1073741824:=by
     rw [← hk]
     by_cases h0:i=0
     ·rw [if_pos h0];unfold fold;split <;> omega
     ·rw [if_neg h0]
      have:=hlast (by omega)
      have:=this.2 x List.mem_cons_self
      omega
    rw [hc,gams_cons] at hp
    obtain ⟨p1,p2⟩:=pre_inv hp
    refine ⟨x,q',k,rfl,rg_pre hat hk2.1 hk2.2 p1,hc,?_,p2⟩
    by_cases h0:i=0
    ·rw [if_pos h0] at hk ⊢
     rw [← hk,show fold (x-v)+1-1=fold (x-v) by omega,unf_fold];omega
    ·rw [if_neg h0] at hk ⊢
     have:=hlast (by omega)
     have:=this.2 x List.mem_cons_self
     omega
  cases hrg:rg l at_ with
  | none =>
   rw [hrg] at hrd
   refine ⟨([],0,false),?_,.inl rfl,fun q hq hmay hpw hr hlast hp=>?_⟩
   ·refine step1 (fun _ _ _ _ _=>Bi.l1.eq_2 ..) ?_
    rw [hm]
    exact posD (by omega) (bnd hrd (posD (show (-1:Int)<1 by decide) (now _)))
   ·obtain ⟨x,q',k,_,hh,_⟩:=first q hq hr hlast hp
    rw [hrg] at hh;cases hh
  | some p =>
   obtain ⟨x0,n⟩:=p
   rw [hrg] at hrd
   obtain ⟨k,rfl,k0,k1,hp,rfl⟩:=rg_can h hrg
   have hpl:=pre_len hp
   have hu:=unf_rng (n:=k-1) (by omega)
   generalize hyy:(if i=0 then v+unf ((k-1:Nat):Int) else last+(k:Int))=y
   have y0:-8589934592*((i:Int)+1)-1073741900≤y∧y≤8589934592*((i:Int)+1)+1073741900:=by
    rw [← hyy];split <;> omega
   obtain ⟨res,e1,e2,e3⟩:=ih (i+1) (at_+(gam k).length) y (acc++[y]) (by omega) (by omega) (by simp;omega) (by push_cast;omega) (by push_cast;omega)
   refine ⟨res,?_,e2,fun q hq hmay hpw hr hlast hpre=>?_⟩
   ·refine step1 (fun _ _ _ _ _=>Bi.l1.eq_2 ..) ?_
    rw [hm]
    refine posD (by omega) (bnd hrd (negD (show ¬ ((k:Int)<1) by omega) ?_))
    by_cases h0:i=0
    ·refine posE (by omega) ?_
     rw [if_pos h0] at hyy
     have hu2:∀ K,C7 K (wr .i64 ((k:Int)-1))=some (unf ((k-1:Nat):Int)):=by
      intro K
      rw [w64 (by omega) (by omega),show (k:Int)-1=((k-1:Nat):Int) by omega]
      exact rzag_eq (by omega)
     refine bnd (congr (fun K _ _ _ _=>hu2 K) (now _)) ?_
     rw [hyy,w64 (i:=y) (by omega) (by omega),w1 (by omega)]
     exact pos (by simp;omega) e1
    ·refine negE (by omega) ?_
     rw [if_neg h0] at hyy
     simp only
     rw [hyy,w64 (i:=y) (by omega) (by omega),w1 (by omega)]
     exact pos (by simp;omega) e1
   ·obtain ⟨x,q',k',rfl,hh,hc,hy2,hp2⟩:=first q hq hr hlast hpre
    rw [hrg] at hh
    have hkk:k=k':=by
     have:=Option.some.inj hh
     have:=(Prod.ext_iff.1 this).1
     simp only at this;omega
    subst hkk
    rw [hyy] at hy2
    subst hy2
    rw [List.pairwise_cons] at hpw
    have:=e3 q' (by simpa using hq) (by rw [List.append_assoc];exact hmay) hpw.2 (fun z hz=>hr z (List.mem_cons_of_mem _ hz)) (fun _=>⟨(hr y List.mem_cons_self).1,hpw.1⟩) hp2
    rw [this,hc,gams_cons,List.length_append,List.append_assoc,Nat.add_assoc];rfl
theorem rtg_any {l:List Int} (h:Bt l) (hb:l.length≤1000000) {v:Int} (hv:0≤v) (hv2:v≤15) {at_:Nat} (hat:at_≤l.length) :
  ∃ res:List Int × Int × Bool,E0 (fun K=>Bi K l (at_:Int) v) res∧(res=([],0,false)∨∃ (s:List Int) (n:Nat),res=(s,(n:Int),true)∧MayP s∧n≤l.length) ∧
   ∀ q:List Int,MayP q→gap v q <+: l.drop at_→res=(q,((at_+(gap v q).length:Nat):Int),true):=by
 have hrd:=RRead_ev h (by omega) hat
 have first:∀ q:List Int,MayP q→gap v q <+: l.drop at_→rg l at_=some (((q.length+1:Nat):Int),at_+(gam (q.length+1)).length):=by
  intro q hq hp
  have:=hq.len
  rw [gap,gams_cons] at hp
  exact rg_pre hat (by omega) (by omega) (pre_inv hp).1
 cases hrg:rg l at_ with
 | none =>
  rw [hrg] at hrd
  refine ⟨([],0,false),bnd hrd (posD (show (-1:Int)<1 by decide) (now _)),.inl rfl,fun q hq hp=>?_⟩
  rw [first q hq hp] at hrg;cases hrg
 | some p =>
  obtain ⟨x0,n⟩:=p
  rw [hrg] at hrd
  obtain ⟨k,rfl,k0,k1,hp,rfl⟩:=rg_can h hrg
  have hpl:=pre_len hp
  have e0:wr .i64 ((k:Int)-1)=((k-1:Nat):Int):=by rw [w64 (by omega) (by omega)];omega
  have hkq:∀ q:List Int,MayP q→gap v q <+: l.drop at_→q.length+1=k:=by
   intro q hq hp
   have:=first q hq hp
   rw [hrg] at this
   have:=Option.some.inj this
   have:=(Prod.ext_iff.1 this).1
   simp only at this;omega
  by_cases c:((k-1:Nat):Int) > 16
  ·refine ⟨([],0,false),bnd hrd (negD (show ¬ ((k:Int)<1) by omega) ?_),.inl rfl,fun q hq hp=>?_⟩
   ·simp only
    rw [e0];exact posD c (now _)
   ·have h1:=hkq q hq hp
    have h2:=hq.len
    omega
  ·obtain ⟨res,e1,e2,e3⟩:=rtg_l1 h hb hv hv2 (r18:=((k:Int),((at_+(gam k).length:Nat):Int))) (m:=k-1) e0 (by omega) (k-1) 0 (at_+(gam k).length) 0 [] (by omega) (by omega) (by simp) (by omega) (by omega)
   refine ⟨res,bnd hrd (negD (show ¬ ((k:Int)<1) by omega) ?_),e2,fun q hq hp=>?_⟩
   ·simp only
    rw [e0];exact negD c e1.e1
   ·have h1:=hkq q hq hp
    obtain ⟨q1,q2⟩:=(mayP_iff _).1 hq
    have hg:gap v q=gam k++gams (cod v 0 0 q):=by rw [gap,gams_cons,h1];rfl
    rw [hg] at hp ⊢
    have:=e3 q (by omega) (by simpa using hq) q1 q2 (fun h=>by omega) (pre_inv hp).2
    rw [this,List.length_append,List.nil_append,Nat.add_assoc]
theorem rtr_l1 {l:List Int} (h:Bt l) (hb:l.length≤1000000) {v:Int} (hv:0≤v) (hv2:v≤15) {r28:Int × Int} {m from_:Nat} (hm:wr .i64 (r28.1-1)=(m:Int)) (hm2:m≤17) (hfr:from_≤l.length):∀ (d i at_:Nat) (e:Int) (acc:List Aj),i+d=m→at_≤l.length→acc.length≤i→-8589934592*((i:Int)+1)≤e→e≤8589934592*((i:Int)+1) →
  ∃ res:List Int × Int × Bool,E1 (fun K k=>Ao.l1 K r28 l (from_:Int) v k (at_:Int) e (i:Int) acc) res∧(res=([],0,false)∨∃ q,IsR l from_ v q∧res=(q,((from_+(runb v q).length:Nat):Int),true)) ∧
   ∀ (L s:List Int) (q:List Aj),MayP L→parts L=(acc++q,s)→q.length=d→OkR (if i=0 then -1 else e) q→(0<i→0≤e)→gams (rcod v i e q)++gap v s <+: l.drop at_→runb v L <+: l.drop from_→at_+((gams (rcod v i e q)).length+(gap v s).length)=from_+(runb v L).length→res=(L,((from_+(runb v L).length:Nat):Int),true):=by
 intro d
 have rnil:∀ (i:Nat) (e:Int),rcod v i e []=[]:=fun i e=>by unfold rcod;split <;> rfl
 induction d with
 | zero =>
  intro i at_ e acc hi hat ha h1 h2
  obtain ⟨rs,g1,g2,g3⟩:=rtg_any h hb hv hv2 hat
  have start:∀ {res:List Int × Int × Bool},Ev (fun K _ _ _ _=>if (!rs.2.2) then some (([]:List Int),0,false) else
    (Ai K acc rs.1).bind fun r102=>if (!r102.2) then some (([]:List Int),0,false) else if decide (((r102.1.length:Nat):Int) > 16) then some (([]:List Int),0,false) else
      (As K ([]:List Int) v r102.1).bind fun r114=>if (((r114.length:Nat):Int) != (wr .i64 (rs.2.1-(from_:Int)))) then some (([]:List Int),0,false) else
       (Cc K l (from_:Int) r114).bind fun r125=>if (!r125) then some (([]:List Int),0,false) else some (r102.1,rs.2.1,true)) res →
    E1 (fun K k=>Ao.l1 K r28 l (from_:Int) v k (at_:Int) e (i:Int) acc) res:=by
   intro res hh
   refine step1 (fun _ _ _ _ _=>Ao.l1.eq_2 ..) ?_
   rw [hm]
   exact negD (by omega) (bnd g1 hh)
  have first:∀ (L s:List Int) (q:List Aj),MayP L→parts L=(acc++q,s)→q.length=0→gams (rcod v i e q)++gap v s <+: l.drop at_→at_+((gams (rcod v i e q)).length+(gap v s).length)=from_+(runb v L).length→rs=(s,((from_+(runb v L).length:Nat):Int),true)∧parts L=(acc,s)∧join acc s=some L:=by
   intro L s q hL hpt hq hp hl
   obtain rfl:=List.eq_nil_of_length_eq_zero hq
   rw [List.append_nil] at hpt
   rw [rnil] at hp hl
   have hp:gap v s <+: l.drop at_:=hp
   have hl:at_+(0+(gap v s).length)=from_+(runb v L).length:=hl
   have h2:=parts_may hL
   have h3:=join_parts hL
   rw [hpt] at h2 h3
   refine ⟨?_,hpt,h3⟩
   rw [g3 s h2.2.1 hp]
   congr 3;omega
  rcases g2 with rfl | ⟨s,n,rfl,hs,hn⟩
  ·refine ⟨([],0,false),start (pos rfl (now _)),.inl rfl,fun L s q hL hpt hq ho he hp _ hl=>?_⟩
   have:=(Prod.ext_iff.1 (Prod.ext_iff.1 (first L s q hL hpt hq hp hl).1).2).2
   cases this
  ·have hsl:=hs.len
   have hj:=RJoin_ev (r:=acc) (q:=s) (by omega) (by omega)
   cases hjn:join acc s with
   | none =>
    rw [hjn] at hj
    refine ⟨([],0,false),start (negB rfl (bnd hj (pos rfl (now _)))),.inl rfl,fun L s' q hL hpt hq ho he hp _ hl=>?_⟩
    obtain ⟨f1,f2,f3⟩:=first L s' q hL hpt hq hp hl
    cases f1
    rw [hjn] at f3;cases f3
   | some L =>
    rw [hjn] at hj
    have hL:MayP L:=by
     unfold join at hjn
     split at hjn
     ·rename_i hh;cases hjn;exact hh.2.2
     ·cases hjn
    have hLl:=hL.len
    have hrl:=runb_len hL hv hv2
    have e0:wr .i64 ((n:Int)-(from_:Int))=(n:Int)-(from_:Int):=w64 (by omega) (by omega)
    by_cases c:((runb v L).length:Int)=(n:Int)-(from_:Int)
    ·have hse:=same_ev (x:=runb v L) hb (by omega) hfr
     by_cases c2:runb v L <+: l.drop from_
     ·rw [decide_eq_true c2] at hse
      refine ⟨(L,(n:Int),true),start (negB rfl (bnd hj (negB rfl (negD (show ¬ ((L.length:Int) > 16) by omega) (bnd (RRuns0_ev hL hv hv2) ?_))))),.inr ⟨L,⟨hL,c2⟩,?_⟩,fun L' s' q hL' hpt hq ho he hp hp2 hl=>?_⟩
      ·simp only
       rw [e0]
       exact negN c (bnd hse (negB rfl (now _)))
      ·congr 2;omega
      ·obtain ⟨f1,f2,f3⟩:=first L' s' q hL' hpt hq hp hl
       cases f1
       rw [hjn] at f3;cases f3
       rfl
     ·rw [decide_eq_false c2] at hse
      refine ⟨([],0,false),start (negB rfl (bnd hj (negB rfl (negD (show ¬ ((L.length:Int) > 16) by omega) (bnd (RRuns0_ev hL hv hv2) ?_))))),.inl rfl,fun L' s' q hL' hpt hq ho he hp hp2 hl=>?_⟩
      ·simp only
       rw [e0]
       exact negN c (bnd hse (pos rfl (now _)))
      ·obtain ⟨f1,f2,f3⟩:=first L' s' q hL' hpt hq hp hl
       cases f1
       rw [hjn] at f3;cases f3
       exact absurd hp2 c2
    ·refine ⟨([],0,false),start (negB rfl (bnd hj (negB rfl (negD (show ¬ ((L.length:Int) > 16) by omega) (bnd (RRuns0_ev hL hv hv2) ?_))))),.inl rfl,fun L' s' q hL' hpt hq ho he hp hp2 hl=>?_⟩
     ·simp only
      rw [e0]
      exact posN c (now _)
     ·obtain ⟨f1,f2,f3⟩:=first L' s' q hL' hpt hq hp hl
      have f1:=(Prod.ext_iff.1 (Prod.ext_iff.1 f1).2).1
      simp only at f1
      cases (Prod.ext_iff.1 (first L' s' q hL' hpt hq hp hl).1).1
      rw [hjn] at f3;cases f3
      omega
 | succ d ih =>
  intro i at_ e acc hi hat ha he1 he2
  have hrd:=RRead_ev h (by omega) hat
  have first:∀ (s:List Int) (q:List Aj),q.length=d+1→OkR (if i=0 then -1 else e) q→(0<i→0≤e)→gams (rcod v i e q)++gap v s <+: l.drop at_→∃ (x:Aj) (q':List Aj) (k j:Nat),q=x::q'∧rg l at_=some ((k:Int),at_+(gam k).length)∧rg l (at_+(gam k).length)=some ((j:Int),at_+(gam k).length+(gam j).length)∧j≤16 ∧
    rcod v i e q=k::j::rcod v (i+1) (x.At+x.Len) q'∧x=((if i=0 then v+unf ((k-1:Nat):Int) else e+(k:Int)),(j:Int)+2)∧OkR (x.At+x.Len) q'∧0≤x.At+x.Len∧gams (rcod v (i+1) (x.At+x.Len) q')++gap v s <+: l.drop (at_+(gam k).length+(gam j).length):=by
   intro s q hq ho he hp
   match q,hq with
   | x::q',hq =>
    obtain ⟨⟨x1,x2,x3,x4,x5⟩,ho2⟩:=ho
    have hc:=rcod_cons v i e x q'
    generalize hk:(if i=0 then fold (x.At-v)+1 else (x.At-e).toNat)=k at hc
    generalize hjj:(x.Len-2).toNat=j at hc
    have hk2:0<k∧k≤1073741824:=by
     rw [← hk]
     by_cases h0:i=0
     ·rw [if_pos h0];unfold fold;split <;> omega
     ·rw [if_neg h0] at x2 ⊢
      have:=he (by omega)
      omega
    rw [hc,gams_cons,gams_cons,List.append_assoc,List.append_assoc] at hp
    obtain ⟨p1,p2⟩:=pre_inv hp
    obtain ⟨p3,p4⟩:=pre_inv p2
    have hpl:=pre_len p1
    have hlen1:0<(gam k).length:=by rw [gam_len];omega
    refine ⟨x,q',k,j,rfl,rg_pre hat hk2.1 hk2.2 p1,rg_pre (by omega) (by omega) (by omega) p3,by omega,hc,?_,ho2,by omega,p4⟩
    refine Prod.ext ?_ ?_
    ·show x.At=_
     by_cases h0:i=0
     ·rw [if_pos h0] at hk ⊢
      rw [← hk,show fold (x.At-v)+1-1=fold (x.At-v) by omega,unf_fold];omega
     ·rw [if_neg h0] at hk x2 ⊢
      have:=he (by omega)
      omega
    ·show x.Len=_
     omega
  cases hrg:rg l at_ with
  | none =>
   rw [hrg] at hrd
   refine ⟨([],0,false),?_,.inl rfl,fun L s q hL hpt hq ho he hp _ hl=>?_⟩
   ·refine step1 (fun _ _ _ _ _=>Ao.l1.eq_2 ..) ?_
    rw [hm]
    exact posD (by omega) (bnd hrd (posD (show (-1:Int)<1 by decide) (now _)))
   ·obtain ⟨x,q',k,j,_,hh,_⟩:=first s q hq ho he hp
    rw [hrg] at hh;cases hh
  | some p =>
   obtain ⟨x0,n⟩:=p
   rw [hrg] at hrd
   obtain ⟨k,rfl,k0,k1,hp,rfl⟩:=rg_can h hrg
   have hpl:=pre_len hp
   have hkk:∀ {k':Nat} {z:Nat},rg l at_=some ((k':Int),z)→k'=k:=by
    intro k' z hh
    rw [hrg] at hh
    have:=(Prod.ext_iff.1 (Option.some.inj hh)).1
    simp only at this;omega
   have hrd2:=RRead_ev h (by omega) (show at_+(gam k).length≤l.length by omega)
   cases hrg2:rg l (at_+(gam k).length) with
   | none =>
    rw [hrg2] at hrd2
    refine ⟨([],0,false),?_,.inl rfl,fun L s q hL hpt hq ho he hp _ hl=>?_⟩
    ·refine step1 (fun _ _ _ _ _=>Ao.l1.eq_2 ..) ?_
     rw [hm]
     exact posD (by omega) (bnd hrd (negD (show ¬ ((k:Int)<1) by omega) (bnd hrd2 (posD (show (-1:Int)<1 by decide) (now _)))))
    ·obtain ⟨x,q',k',j,_,hh,hh2,_⟩:=first s q hq ho he hp
     cases hkk hh
     rw [hrg2] at hh2;cases hh2
   | some p2 =>
    obtain ⟨x2,n2⟩:=p2
    rw [hrg2] at hrd2
    obtain ⟨j,rfl,j0,j1,hp2,rfl⟩:=rg_can h hrg2
    have hpl2:=pre_len hp2
    have hjj:∀ {j':Nat} {z:Nat},rg l (at_+(gam k).length)=some ((j':Int),z)→j'=j:=by
     intro j' z hh
     rw [hrg2] at hh
     have:=(Prod.ext_iff.1 (Option.some.inj hh)).1
     simp only at this;omega
    by_cases cj:(j:Int) > 16
    ·refine ⟨([],0,false),?_,.inl rfl,fun L s q hL hpt hq ho he hp _ hl=>?_⟩
     ·refine step1 (fun _ _ _ _ _=>Ao.l1.eq_2 ..) ?_
      rw [hm]
      exact posD (by omega) (bnd hrd (negD (show ¬ ((k:Int)<1) by omega) (bnd hrd2 (negD (show ¬ ((j:Int)<1) by omega) (posD cj (now _))))))
     ·obtain ⟨x,q',k',j',_,hh,hh2,hj16,_⟩:=first s q hq ho he hp
      cases hkk hh
      cases hjj hh2
      omega
    ·have hu:=unf_rng (n:=k-1) (by omega)
     generalize hyy:(if i=0 then v+unf ((k-1:Nat):Int) else e+(k:Int))=y
     have y0:-8589934592*((i:Int)+1)-1073741900≤y∧y≤8589934592*((i:Int)+1)+1073741900:=by
      rw [← hyy];split <;> omega
     obtain ⟨res,e1,e2,e3⟩:=ih (i+1) (at_+(gam k).length+(gam j).length) (y+((j:Int)+2)) (acc++[(y,(j:Int)+2)]) (by omega) (by omega) (by simp;omega) (by push_cast;omega) (by push_cast;omega)
     refine ⟨res,?_,e2,fun L s q hL hpt hq ho he hpre hpL hl=>?_⟩
     ·refine step1 (fun _ _ _ _ _=>Ao.l1.eq_2 ..) ?_
      rw [hm]
      refine posD (by omega) (bnd hrd (negD (show ¬ ((k:Int)<1) by omega) (bnd hrd2 (negD (show ¬ ((j:Int)<1) by omega) (negD cj ?_)))))
      have f1:wr .i64 (wr .i64 ((j:Int)-1)+3)=(j:Int)+2:=by rw [w64 (i:=(j:Int)-1) (by omega) (by omega),w64 (by omega) (by omega)];omega
      have hj2:E1 (fun K k'=>Ao.j2 K (Ao.l1 K r28 l (from_:Int) v k') r28 ((j:Int),((at_+(gam k).length+(gam j).length:Nat):Int)) (i:Int) acc l (from_:Int) v y ((j:Int)+2)) res:=by
       unfold Ao.j2
       rw [w64 (i:=y+((j:Int)+2)) (by omega) (by omega),w1 (by omega)]
       exact pos (by simp;omega) e1
      simp only
      rw [f1]
      by_cases h0:i=0
      ·refine posE (by omega) ?_
       rw [if_pos h0] at hyy
       have hu2:∀ K,C7 K (wr .i64 ((k:Int)-1))=some (unf ((k-1:Nat):Int)):=by
        intro K
        rw [w64 (by omega) (by omega),show (k:Int)-1=((k-1:Nat):Int) by omega]
        exact rzag_eq (by omega)
       refine bnd (congr (fun K _ _ _ _=>hu2 K) (now _)) ?_
       rw [hyy,w64 (i:=y) (by omega) (by omega)]
       exact hj2
      ·refine negE (by omega) ?_
       rw [if_neg h0] at hyy
       rw [hyy,w64 (i:=y) (by omega) (by omega)]
       exact hj2
     ·obtain ⟨x,q',k',j',rfl,hh,hh2,hj16,hc,hx,ho2,hx0,hp4⟩:=first s q hq ho he hpre
      cases hkk hh
      cases hjj hh2
      rw [hyy] at hx
      subst hx
      refine e3 L s q' hL (by rw [hpt,List.append_assoc];rfl) (by simpa using hq) (by rw [if_neg (by omega)];exact ho2) (fun _=>hx0) hp4 hpL ?_
      rw [hc,gams_cons,gams_cons,List.length_append,List.length_append] at hl
      show at_+(gam k).length+(gam j).length+((gams (rcod v (i+1) (y+((j:Int)+2)) q')).length+(gap v s).length)=_
      have hl2:at_+((gam k).length+((gam j).length+(gams (rcod v (i+1) (y+((j:Int)+2)) q')).length)+(gap v s).length)=from_+(runb v L).length:=hl
      omega
theorem rtr_tk {l:List Int} (h:Bt l) (hb:l.length≤1000000) {v:Int} (hv:0≤v) (hv2:v≤15) {at_:Nat} (hat:at_≤l.length) :
  E0 (fun K=>Ao K l (at_:Int) v) (match tkR l at_ v with | some (q,n)=>(q,(n:Int),true) | none=>([],0,false)):=by
 have key:∃ res:List Int × Int × Bool,E0 (fun K=>Ao K l (at_:Int) v) res∧(res=([],0,false)∨∃ q,IsR l at_ v q∧res=(q,((at_+(runb v q).length:Nat):Int),true))∧∀ q,IsR l at_ v q→res=(q,((at_+(runb v q).length:Nat):Int),true):=by
  have hrd:=RRead_ev h (by omega) hat
  have first:∀ q:List Int,IsR l at_ v q→rg l at_=some ((((parts q).1.length+1:Nat):Int),at_+(gam ((parts q).1.length+1)).length)∧(parts q).1.length≤16:=by
   intro q hq
   have h1:=parts_may hq.1
   have hr:=(h1.1.len (by omega)).1
   have hr2:=(h1.1.len (by omega)).2
   have hp:=hq.2
   rw [runb,gams_cons,List.append_assoc] at hp
   exact ⟨rg_pre hat (by omega) (by omega) (pre_inv hp).1,by omega⟩
  cases hrg:rg l at_ with
  | none =>
   rw [hrg] at hrd
   refine ⟨([],0,false),bnd hrd (posD (show (-1:Int)<1 by decide) (now _)),.inl rfl,fun q hq=>?_⟩
   rw [(first q hq).1] at hrg;cases hrg
  | some p =>
   obtain ⟨x0,n⟩:=p
   rw [hrg] at hrd
   obtain ⟨k,rfl,k0,k1,hp,rfl⟩:=rg_can h hrg
   have hpl:=pre_len hp
   have e0:wr .i64 ((k:Int)-1)=((k-1:Nat):Int):=by rw [w64 (by omega) (by omega)];omega
   have hkq:∀ q:List Int,IsR l at_ v q→(parts q).1.length+1=k:=by
    intro q hq
    have:=(first q hq).1
    rw [hrg] at this
    have:=(Prod.ext_iff.1 (Option.some.inj this)).1
    simp only at this;omega
   by_cases c:((k-1:Nat):Int) > 16
   ·refine ⟨([],0,false),bnd hrd (negD (show ¬ ((k:Int)<1) by omega) ?_),.inl rfl,fun q hq=>?_⟩
    ·simp only
     rw [e0];exact posD c (now _)
    ·have h1:=hkq q hq
     have h2:=(first q hq).2
     omega
   ·obtain ⟨res,e1,e2,e3⟩:=rtr_l1 h hb hv hv2 (r28:=((k:Int),((at_+(gam k).length:Nat):Int))) (m:=k-1) (from_:=at_) e0 (by omega) hat (k-1) 0 (at_+(gam k).length) 0 [] (by omega) (by omega) (by simp) (by omega) (by omega)
    refine ⟨res,bnd hrd (negD (show ¬ ((k:Int)<1) by omega) ?_),e2,fun q hq=>?_⟩
    ·simp only
     rw [e0];exact negD c e1.e1
    ·have h1:=hkq q hq
     have h2:=parts_may hq.1
     have hp:=hq.2
     have hrb:runb v q=gam k++(gams (rcod v 0 0 (parts q).1)++gap v (parts q).2):=by rw [runb,gams_cons,h1,List.append_assoc];rfl
     refine e3 q (parts q).2 (parts q).1 hq.1 rfl (by omega) h2.1 (fun h=>by omega) ?_ hp ?_
     ·rw [hrb] at hp;exact (pre_inv hp).2
     ·rw [hrb,List.length_append,List.length_append];omega
 obtain ⟨res,e1,e2,e3⟩:=key
 refine ofEq e1 ?_
 cases ht:tkR l at_ v with
 | none =>
  rcases e2 with e2 | ⟨q,hq,_⟩
  ·exact e2
  ·exact absurd hq (tkR_none ht q)
 | some p =>
  obtain ⟨q,n⟩:=p
  obtain ⟨hq,rfl⟩:=tkR_some ht
  exact e3 q hq
end Go.XL
end
section
namespace Go.XL
open Go.XM
noncomputable def tkL (l:List Int):Nat→Nat→Nat→Option (List (List Int) × Nat)
 | 0,_,at_=>some ([],at_)
 | d+1,v,at_=>match tkR l at_ (v:Int) with
  | none=>none
  | some (q,n)=>match tkL l d (v+1) n with
   | none=>none
   | some (qs,m)=>some (q::qs,m)
theorem tkR_le {l:List Int} {at_:Nat} {v:Int} {q:List Int} {n:Nat} (hat:at_≤l.length) (h:tkR l at_ v=some (q,n)):MayP q∧n≤l.length:=by
 obtain ⟨⟨h1,h2⟩,rfl⟩:=tkR_some h
 have:=pre_len h2
 exact ⟨h1,by omega⟩
theorem tkL_spec {l:List Int}:∀ {d v at_:Nat} {qs:List (List Int)} {m:Nat},at_≤l.length→tkL l d v at_=some (qs,m)→qs.length=d∧(∀ q∈qs,MayP q)∧m≤l.length
 | 0,v,at_,qs,m,hat,h=>by cases h;exact ⟨rfl,fun q hq=>absurd hq (by simp),hat⟩
 | d+1,v,at_,qs,m,hat,h=>by
  simp only [tkL] at h
  split at h
  ·cases h
  ·rename_i q n hr
   obtain ⟨h1,h2⟩:=tkR_le hat hr
   split at h
   ·cases h
   ·rename_i qs' m' hl
    cases h
    obtain ⟨a1,a2,a3⟩:=tkL_spec h2 hl
    refine ⟨by simp [a1],fun y hy=>?_,a3⟩
    rcases List.mem_cons.1 hy with rfl | hy
    ·exact h1
    ·exact a2 y hy
theorem tkL_none {l:List Int} {d v at_:Nat} (h:tkR l at_ (v:Int)=none):tkL l (d+1) v at_=none:=by rw [tkL,h]
theorem tkL_bad {l:List Int} {d v at_ n:Nat} {q:List Int} (h:tkR l at_ (v:Int)=some (q,n)) (h2:tkL l d (v+1) n=none):tkL l (d+1) v at_=none:=by rw [tkL,h];simp only [h2]
theorem tkL_ok {l:List Int} {d v at_ n m:Nat} {q:List Int} {qs:List (List Int)} (h:tkR l at_ (v:Int)=some (q,n)) (h2:tkL l d (v+1) n=some (qs,m)):tkL l (d+1) v at_=some (q::qs,m):=by rw [tkL,h];simp only [h2]
theorem lsum_le {c:Nat}:∀ {ls:List (List Int)},(∀ y∈ls,y.length≤c)→lsum ls≤c*ls.length
 | [],_=>by simp [lsum]
 | y::ls,h=>by
  have h1:=h y List.mem_cons_self
  have h2:=lsum_le (c:=c) (ls:=ls) (fun z hz=>h z (List.mem_cons_of_mem _ hz))
  rw [lsum_cons,List.length_cons,Nat.mul_succ];omega
theorem gsm16 {n:Int} {ls:List (List Int)} (h:ls.length≤16) (h2:∀ y∈ls,y.length≤16):GSm (n,ls):=by
 have:=lsum_le h2
 show ls.length+lsum ls≤1000000
 omega
abbrev G0:Ab:=(0,[])
theorem splice_set {acc:List (List Int)} {q:List Int} {qs:List (List Int)} {v d:Nat} (hv:v<acc.length):(acc.set v q).take (v+1)++qs++(acc.set v q).drop (v+1+d)=acc.take v++(q::qs)++acc.drop (v+(d+1)):=by
 have h1:(acc.set v q).take (v+1)=acc.take v++[q]:=by
  rw [take_getD (d:=[]) (by simpa using hv),getD_set _ _ _ _ hv,if_pos rfl,List.take_set_of_le (Nat.le_refl _)]
 have h2:(acc.set v q).drop (v+1+d)=acc.drop (v+(d+1)):=by
  rw [List.drop_set_of_lt (by omega),show v+1+d=v+(d+1) by omega]
 rw [h1,h2,List.append_assoc,List.append_assoc,List.append_assoc];rfl
theorem lists_l1 {l:List Int} (h:Bt l) (hb:l.length≤1000000) {n f:Nat} (hf:f≤n) (hn:n≤16) {r:List (List Int)}:∀ (d v at_:Nat) (acc:List (List Int)),v+d=f→at_≤l.length→acc.length=n→(∀ y∈acc,y.length≤16) →
  E1 (fun K k=>Az.l1 K ((n:Int),r) (f:Int) k (at_:Int) (v:Int) (pack l).Data (pack l).N 0 acc) (match tkL l d v at_ with | none=>(G0,0,false,pack l) | some (qs,m)=>(((n:Int),acc.take v++qs++acc.drop (v+d)),(m:Int),decide (GraphP ((n:Int),acc.take v++qs++acc.drop (v+d))),pack l)):=by
 intro d
 induction d with
 | zero =>
  intro v at_ acc hv hat hl ha
  refine step1 (fun _ _ _ _ _=>Az.l1.eq_2 ..) ?_
  refine negD (by omega) (bnd (gmayG_ev ((n:Int),acc) (gsm16 (by omega) ha)) (nowE ?_))
  simp only [tkL,List.append_nil,Nat.add_zero,List.take_append_drop]
 | succ d ih =>
  intro v at_ acc hv hat hl ha
  obtain ⟨res,e1,e2⟩:=rread_tk h hb (v:=(v:Int)) (by omega) (by omega) hat
  have r1:E0 (fun K=>D7 K (at_:Int) (v:Int) (pack l)) (res.1,res.2.1,res.2.2,pack l):=bnd e1 (now _)
  refine step1 (fun _ _ _ _ _=>Az.l1.eq_2 ..) ?_
  refine posD (by omega) (bnd r1 ?_)
  cases ht:tkR l at_ (v:Int) with
  | none =>
   rw [ht] at e2
   rw [tkL_none ht]
   exact pos (by rw [e2];rfl) (now _)
  | some p =>
   obtain ⟨q,m⟩:=p
   rw [ht] at e2
   simp only at e2
   subst e2
   obtain ⟨h1,h2⟩:=tkR_le hat ht
   have hql:=h1.len
   have hi:=ih (v+1) m (acc.set v q) (by omega) h2 (by simp [hl]) (fun y hy=>by
    rcases List.mem_or_eq_of_mem_set hy with hy | rfl
    ·exact ha y hy
    ·exact hql)
   refine negB rfl (pos (by omega) ?_)
   rw [w1 (by omega),Int.toNat_natCast]
   refine ofEq hi ?_
   cases hT:tkL l d (v+1) m with
   | none=>rw [tkL_bad ht hT]
   | some p =>
    obtain ⟨qs,m'⟩:=p
    rw [tkL_ok ht hT]
    simp only [splice_set (show v<acc.length by omega)]
noncomputable def hdF (l:List Int):Option (Nat × Nat):=match rg l 0 with
 | none=>none
 | some (k,m)=>if k > 17 then none else some (k.toNat-1,m)
theorem hdF_le {l:List Int} (h:Bt l) {n m:Nat} (hh:hdF l=some (n,m)):n≤16∧m≤l.length:=by
 unfold hdF at hh
 split at hh
 ·cases hh
 ·rename_i k m' hr
  split at hh
  ·cases hh
  ·cases hh
   obtain ⟨j,rfl,j0,j1,hp,rfl⟩:=rg_can h hr
   have:=pre_len hp
   exact ⟨by omega,by omega⟩
theorem fhead_any {l:List Int} (h:Bt l) (hb:l.length≤1000000):E0 (fun K=>D5 K (pack l)) (match hdF l with | none=>(0,0,false) | some (n,m)=>((n:Int),(m:Int),true)):=by
 have hrd:=Read_ev h (by omega) (at_:=0) (by omega)
 unfold hdF
 cases hr:rg l 0 with
 | none =>
  rw [hr] at hrd
  exact bnd hrd (pos rfl (now _))
 | some p =>
  obtain ⟨k,m⟩:=p
  rw [hr] at hrd
  obtain ⟨j,rfl,j0,j1,hp,rfl⟩:=rg_can h hr
  by_cases c:(j:Int) > 17
  ·simp only [if_pos c]
   exact bnd hrd (negB rfl (posD c (now _)))
  ·simp only [if_neg c]
   refine bnd hrd (negB rfl (negD c (nowE ?_)))
   simp only
   rw [w64 (by omega) (by omega)]
   congr 1;omega
noncomputable def tkF (l:List Int):Option Ab:=match hdF l with
 | none=>none
 | some (n,at_)=>match tkL l n 0 at_ with
  | none=>none
  | some (qs,m)=>if m=l.length∧GraphP ((n:Int),qs) then some ((n:Int),qs) else none
theorem tkF_G {l:List Int} {g:Ab} (h:tkF l=some g):GraphP g:=by
 unfold tkF at h
 split at h
 ·cases h
 ·split at h
  ·cases h
  ·split at h
   ·rename_i hc;cases h;exact hc.2
   ·cases h
theorem rep_len {n:Nat}:∀ y∈List.replicate n ([]:List Int),y.length≤16:=by
 intro y hy
 obtain ⟨_,rfl⟩:=List.mem_replicate.1 hy
 simp
theorem fread_any {l:List Int} (h:Bt l) (hb:l.length≤1000000):∃ res:Ab × Bool,E0 (fun K=>Eo K (pack l)) res∧(match tkF l with | some g=>res=(g,true) | none=>res.2=false):=by
 have hh:=fhead_any h hb
 unfold tkF
 cases hd:hdF l with
 | none =>
  rw [hd] at hh
  exact ⟨(G0,false),bnd hh (pos rfl (now _)),rfl⟩
 | some p =>
  obtain ⟨n,at_⟩:=p
  rw [hd] at hh
  obtain ⟨hn,hat⟩:=hdF_le h hd
  have hl:=(lists_l1 h hb (Nat.le_refl n) hn (r:=List.replicate n []) n 0 at_ (List.replicate n []) (by omega) hat (by simp) rep_len).e1
  have hl2:E0 (fun K=>Az K (n:Int) (n:Int) (at_:Int) (pack l)) _:=bnd (congr (fun K _ _ _ _=>empty_eq hn) (now _)) hl
  simp only
  cases ht:tkL l n 0 at_ with
  | none =>
   rw [ht] at hl2
   exact ⟨(G0,false),bnd hh (negB rfl (bnd hl2 (negB rfl (now _)))),rfl⟩
  | some p =>
   obtain ⟨qs,m⟩:=p
   rw [ht] at hl2
   obtain ⟨q1,q2,q3⟩:=tkL_spec hat ht
   have hs:(List.replicate n ([]:List Int)).take 0++qs++(List.replicate n ([]:List Int)).drop (0+n)=qs:=by simp
   simp only [hs] at hl2
   simp only
   by_cases c:GraphP ((n:Int),qs)
   ·rw [decide_eq_true c] at hl2
    refine ⟨(((n:Int),qs),((m:Int) == (l.length:Int))),bnd hh (negB rfl (bnd hl2 (pos rfl (now _)))),?_⟩
    by_cases e:m=l.length
    ·rw [if_pos ⟨e,c⟩,e];simp
    ·rw [if_neg (fun z=>e z.1)]
     show (((m:Int) == (l.length:Int)))=false
     simp;omega
   ·rw [decide_eq_false c] at hl2
    rw [if_neg (fun z=>c z.2)]
    exact ⟨(((n:Int),qs),false),bnd hh (negB rfl (bnd hl2 (negB rfl (now _)))),rfl⟩
theorem redges_ev {g:Ab} (hs:GSm g):E0 (fun K=>B9 K g) (lsum g.Out:Int):=by
 unfold GSm at hs
 have key:∀ i,i≤g.Out.length→E1 (fun K k=>B9.l1 K g k (lsum (g.Out.take i):Int) (i:Int)) (lsum g.Out:Int):=by
  refine upto ?_ ?_
  ·refine step1 (fun _ _ _ _ _=>B9.l1.eq_2 ..) ?_
   exact negD (by omega) (nowE (by rw [List.take_length]))
  ·intro i hi ih
   have h1:=lsum_take hi
   have h2:=lsum_take_le g.Out (i+1)
   refine step1 (fun _ _ _ _ _=>B9.l1.eq_2 ..) ?_
   refine posD (by omega) (pos (by omega) ?_)
   rw [rd1N,w64 (by omega) (by omega),w1 (by omega),show ((lsum (g.Out.take i):Int)+((g.Out.getD i []).length:Int))=(lsum (g.Out.take (i+1)):Int) by omega]
   exact ih
 exact (key 0 (by omega)).e1
theorem rgraph_ev (g:Ab) (hs:GSm g):E0 (fun K=>Bv K g) (decide (GraphP g)):=by
 have key:(g.Out.length:Int)=g.N→0≤g.N→g.N≤16→∀ i,i≤g.Out.length→(∀ j,j<i→RowP g.N (g.Out.getD j []))→E1 (fun K k=>Bv.l1 K g k (i:Int)) (decide (GraphP g)):=by
  intro hn n0 n16
  refine upto ?_ ?_
  ·intro hok
   refine step1 (fun _ _ _ _ _=>Bv.l1.eq_2 ..) ?_
   refine negD (by omega) (bnd (redges_ev hs) (nowE ?_))
   have:GraphP g↔lsum g.Out≤120:=⟨fun h=>h.2.2.2.2,fun h=>⟨n0,n16,hn,hok,h⟩⟩
   rw [Bool.eq_iff_iff,decide_eq_true_iff,decide_eq_true_iff,this];omega
  ·intro i hi ih hok
   have hr:=hs.row hi
   refine step1 (fun _ _ _ _ _=>Bv.l1.eq_2 ..) ?_
   refine posD (by omega) (pos (by omega) ?_)
   rw [rd1N]
   refine bnd (may3_ev _ (by omega)) ?_
   have hno:¬ RowP g.N (g.Out.getD i [])→decide (GraphP g)=false:=fun h=>decide_eq_false fun hg=>h (hg.2.2.2.1 i hi)
   have hgo:RowP g.N (g.Out.getD i [])→∀ j,j<i+1→RowP g.N (g.Out.getD j []):=fun h j hj=>by
    by_cases e:j=i
    ·subst e;exact h
    ·exact hok j (by omega)
   by_cases hm:MayP (g.Out.getD i [])
   ·refine negM hm (pos (by omega) ?_)
    rw [w1 (by omega)]
    by_cases h0:0<(g.Out.getD i []).length
    ·have e1:wr .i64 (((g.Out.getD i []).length:Int)-1)=(((g.Out.getD i []).length-1:Nat):Int):=by rw [w64 (by omega) (by omega)];omega
     refine posD (by omega) (pos (by omega) (pos (by omega) ?_))
     rw [e1,rdN]
     refine pos (by omega) ?_
     by_cases hlt:(g.Out.getD i []).getD ((g.Out.getD i []).length-1) 0≥g.N
     ·exact posD hlt (nowE (hno fun h=>by have:=h.2 h0;omega).symm)
     ·exact negD hlt (ih (hgo ⟨hm,fun _=>by omega⟩))
    ·exact negD (by omega) (ih (hgo ⟨hm,fun h=>absurd h h0⟩))
   ·exact posM hm (nowE (hno fun h=>hm h.1).symm)
 refine bnd (congr (fun K _ _ _ _=>num_eq K g.N 16) (now _)) ?_
 by_cases h0:0≤g.N∧g.N≤16
 ·refine negM h0 ?_
  by_cases hn:(g.Out.length:Int)=g.N
  ·exact negN hn (key hn h0.1 h0.2 0 (by omega) (fun j hj=>by omega)).e1
  ·exact posN hn (nowE (decide_eq_false fun hg=>hn hg.2.2.1).symm)
 ·exact posM h0 (nowE (decide_eq_false fun hg=>h0 ⟨hg.1,hg.2.1⟩).symm)
theorem rtf_l1 {l:List Int} (h:Bt l) (hb:l.length≤1000000) {n:Nat} (hn:n≤16) {r:List (List Int)}:∀ (d v at_:Nat) (acc:List (List Int)),v+d=n→at_≤l.length→acc.length=n→(∀ y∈acc,y.length≤16) →
  E1 (fun K k=>Bm.l1 K ((n:Int),r) l k (at_:Int) (v:Int) 0 acc) (match tkL l d v at_ with | none=>(G0,false) | some (qs,m)=>if m=l.length∧GraphP ((n:Int),acc.take v++qs) then (((n:Int),acc.take v++qs),true) else (G0,false)):=by
 intro d
 induction d with
 | zero =>
  intro v at_ acc hv hat hl ha
  refine step1 (fun _ _ _ _ _=>Bm.l1.eq_2 ..) ?_
  refine negD (show ¬ ((v:Int)<(n:Int)) by omega) ?_
  simp only [tkL,List.append_nil]
  rw [List.take_of_length_le (by omega)]
  by_cases c:at_=l.length
  ·refine negN (by omega) (bnd (rgraph_ev ((n:Int),acc) (gsm16 (by omega) ha)) ?_)
   by_cases g:GraphP ((n:Int),acc)
   ·rw [if_pos (show at_=l.length∧GraphP ((n:Int),acc) from ⟨c,g⟩)]
    exact negM g (now _)
   ·rw [if_neg (show ¬ (at_=l.length∧GraphP ((n:Int),acc)) from fun z=>g z.2)]
    exact posM g (now _)
  ·rw [if_neg (show ¬ (at_=l.length∧GraphP ((n:Int),acc)) from fun z=>c z.1)]
   exact posN (by omega) (now _)
 | succ d ih =>
  intro v at_ acc hv hat hl ha
  have r1:=rtr_tk h hb (v:=(v:Int)) (by omega) (by omega) hat
  refine step1 (fun _ _ _ _ _=>Bm.l1.eq_2 ..) ?_
  refine posD (show ((v:Int)<(n:Int)) by omega) (bnd r1 ?_)
  cases ht:tkR l at_ (v:Int) with
  | none=>rw [tkL_none ht];exact pos rfl (now _)
  | some p =>
   obtain ⟨q,m⟩:=p
   obtain ⟨h1,h2⟩:=tkR_le hat ht
   have hql:=h1.len
   have hi:=ih (v+1) m (acc.set v q) (by omega) h2 (by simp [hl]) (fun y hy=>by
    rcases List.mem_or_eq_of_mem_set hy with hy | rfl
    ·exact ha y hy
    ·exact hql)
   refine negB rfl (pos (by omega) ?_)
   rw [w1 (by omega),Int.toNat_natCast]
   refine ofEq hi ?_
   cases hT:tkL l d (v+1) m with
   | none=>rw [tkL_bad ht hT]
   | some p =>
    obtain ⟨qs,m'⟩:=p
    rw [tkL_ok ht hT]
    have h1:(acc.set v q).take (v+1)++qs=acc.take v++(q::qs):=by
     have:=splice_set (acc:=acc) (q:=q) (qs:=qs) (v:=v) (d:=d) (by omega)
     rw [List.drop_of_length_le (by simp;omega),List.drop_of_length_le (by omega),List.append_nil,List.append_nil] at this
     exact this
    simp only [h1]
theorem rnew_eq {K n:Nat} (h:n≤16):C6 K (n:Int)=some ((n:Int),List.replicate n []):=by
 unfold C6
 rw [if_pos ⟨rfl,by omega,by omega,by omega⟩]
 rfl
theorem rhead {l:List Int} (h:Bt l) (hb:l.length≤1000000) {α:Type} {f:Nat→Nat→Nat→Nat→Nat→Int × Int→Option α} {bad res:α} (h1:hdF l=none→res=bad) (h2:∀ n at_,hdF l=some (n,at_)→Ev (fun x y z u v=>f x y z u v (((n+1:Nat):Int),(at_:Int))) res) :
  Ev (fun x y z u v=>(Ad x l 0 2).bind fun r=>if decide (r.1<1) then some bad else if decide ((wr .i64 (r.1-1)) > 16) then some bad else f x y z u v r) res:=by
 have hrd:=RRead_ev h (by omega) (at_:=0) (by omega)
 unfold hdF at h1 h2
 cases hr:rg l 0 with
 | none =>
  rw [hr] at hrd h1
  rw [h1 rfl]
  exact bnd hrd (posD (show (-1:Int)<1 by decide) (now _))
 | some p =>
  obtain ⟨k,m⟩:=p
  rw [hr] at hrd h1 h2
  obtain ⟨j,rfl,j0,j1,hp,rfl⟩:=rg_can h hr
  have e0:wr .i64 ((j:Int)-1)=((j-1:Nat):Int):=by rw [w64 (by omega) (by omega)];omega
  refine bnd hrd (negD (show ¬ ((j:Int)<1) by omega) ?_)
  simp only
  rw [e0]
  by_cases c:(j:Int) > 17
  ·simp only [if_pos c] at h1
   rw [h1 trivial]
   exact posD (by omega) (now _)
  ·simp only [if_neg c] at h2
   have:=h2 (j-1) _ (by rw [show ((j:Int)).toNat=j by omega])
   rw [show j-1+1=j by omega] at this
   exact negD (by omega) this
theorem rtakeF {l:List Int} (h:Bt l) (hb:l.length≤1000000):E0 (fun K=>Bm K l) (match tkF l with | some g=>(g,true) | none=>(G0,false)):=by
 refine rhead h hb (fun e=>by unfold tkF;rw [e]) (fun n at_ e=>?_)
 obtain ⟨hn,hat⟩:=hdF_le h e
 simp only
 rw [show wr .i64 (((n+1:Nat):Int)-1)=(n:Int) by rw [w64 (by omega) (by omega)];omega]
 refine bnd (congr (fun K _ _ _ _=>rnew_eq hn) (now _)) ?_
 have:=(rtf_l1 h hb hn (r:=List.replicate n []) n 0 at_ (List.replicate n []) (by omega) hat (by simp) rep_len).e1
 refine ofEq this ?_
 unfold tkF
 rw [e]
 simp only
 cases tkL l n 0 at_ with
 | none=>rfl
 | some p =>
  obtain ⟨qs,m⟩:=p
  show (if m=l.length∧GraphP ((n:Int),qs) then (((n:Int),qs),true) else (G0,false))=match (if m=l.length∧GraphP ((n:Int),qs) then some (((n:Int),qs):Ab) else none) with | some g=>(g,true) | none=>(G0,false)
  by_cases c:m=l.length∧GraphP ((n:Int),qs)
  ·rw [if_pos c,if_pos c]
  ·rw [if_neg c,if_neg c]
end Go.XL
end
section
namespace Go.XL
open Go.XM
theorem isR_uniq {l:List Int} (h:Bt l) (hb:l.length≤1000000) {v:Int} (hv:0≤v) (hv2:v≤15) {at_:Nat} (hat:at_≤l.length) {q q':List Int} (h1:IsR l at_ v q) (h2:IsR l at_ v q'):q=q':=by
 have key:∀ {q},IsR l at_ v q→E0 (fun K=>Eb K (pack l) (at_:Int) v) (q,((at_+(runb v q).length:Nat):Int),true):=by
  rintro q ⟨m,hp⟩
  obtain ⟨b,hb1,hb2⟩:=pre_split hat hp
  have hB:Bt (l.take at_):=fun x hx=>h x (List.mem_of_mem_take hx)
  have hBb:Bt b:=fun x hx=>h x (by rw [hb1];exact List.mem_append_right _ hx)
  have:=RRd_ev (a:=l.take at_) (b:=b) m hv hv2 hB hBb (by rw [← hb1];omega)
  rw [← hb1,List.length_append,hb2] at this
  exact this
 exact (Prod.ext_iff.1 ((key h1).uniq (key h2))).1
theorem tkR_of {l:List Int} (h:Bt l) (hb:l.length≤1000000) {v:Int} (hv:0≤v) (hv2:v≤15) {at_:Nat} (hat:at_≤l.length) {q:List Int} (h1:IsR l at_ v q):tkR l at_ v=some (q,at_+(runb v q).length):=by
 cases ht:tkR l at_ v with
 | none=>exact absurd h1 (tkR_none ht q)
 | some p =>
  obtain ⟨q',n⟩:=p
  obtain ⟨k1,rfl⟩:=tkR_some ht
  rw [isR_uniq h hb hv hv2 hat h1 k1]
theorem cjoin_some {ref bl q l:List Int} (h:cjoin ref bl q=some l):MayP l∧cparts ref l=(bl,q):=by
 unfold cjoin at h
 split at h
 ·cases h
 ·split at h
  ·rename_i hc;cases h;exact hc.2.2
  ·cases h
theorem cwhole_any {ref bl q:List Int} (a:MayP ref) (b:MayP q) (hb:bl.length≤1000):∃ res:List Int × Bool,E0 (fun K=>Bl K ref bl q) res∧(match cjoin ref bl q with | some l=>res=(l,true) | none=>res.2=false):=by
 have ha:=a.len
 have hbl:=b.len
 obtain ⟨l,e,hl⟩:=cw_l1 (ref:=ref) (bl:=bl) (q:=q) (by omega) hb (by omega) 0 (by omega) ref true q (by omega) (by omega)
 rw [List.drop_zero] at e hl
 have hw:E0 (fun K=>Bl K ref bl q) _:=bnd (congr (fun K _ _ _ _=>clone_eq K q (by omega)) (now _)) e.e1
 unfold cjoin
 cases hp:pk true ref bl with
 | none =>
  rw [hp] at hw
  exact ⟨_,hw,rfl⟩
 | some P =>
  rw [hp] at hw
  refine ⟨_,hw,?_⟩
  by_cases hh:MayP (sortF (q++P))∧cparts ref (sortF (q++P))=(bl,q)
  ·simp only [if_pos (show MayP ref∧MayP q∧MayP (sortF (q++P))∧cparts ref (sortF (q++P))=(bl,q) from ⟨a,b,hh⟩)]
   rw [← hl P hp hh,decide_eq_true]
   rw [hl P hp hh];exact hh
  ·simp only [if_neg (show ¬ (MayP ref∧MayP q∧MayP (sortF (q++P))∧cparts ref (sortF (q++P))=(bl,q)) from fun h=>hh h.2.2)]
   exact decide_eq_false hh
theorem rjoinC {ref bl q:List Int} (a:MayP ref) (b:MayP q) (hb:bl.length≤1000):∃ l:List Int,E0 (fun K=>Ae K ref bl q) (match cjoin ref bl q with | some l=>(l,true) | none=>(l,false)):=by
 have ha:=a.len
 have hbl:=b.len
 obtain ⟨l,e⟩:=RJoinC_ev (ref:=ref) (bl:=bl) (q:=q) (by omega) hb (by omega)
 rw [if_pos ⟨a,b⟩] at e
 exact ⟨l,e⟩
def ccod (i:Nat) (q:List Int):List Nat:=if i=0 then cnum q else q.map Int.toNat
theorem ccod_nil (i:Nat):ccod i []=[]:=by unfold ccod;split <;> rfl
theorem ccod_cons (i:Nat) (n:Int) (q:List Int):ccod i (n::q)=(if i=0 then (n+1).toNat else n.toNat)::ccod (i+1) q:=by
 unfold ccod
 rw [if_neg (show ¬ i+1=0 by omega)]
 by_cases h:i=0
 ·rw [if_pos h,if_pos h];rfl
 ·rw [if_neg h,if_neg h];rfl
structure AtC (l:List Int) (v:Int) (ref:List Int) (i at_ d:Nat) (acc L q s:List Int):Prop where
 may:MayP L
 parts:cparts ref L=(acc++q,s)
 len:q.length=d
 nums:gams (ccod i q) <+: l.drop at_
 rest:runb v s <+: l.drop (at_+(gams (ccod i q)).length)
abbrev endC (v:Int) (i at_:Nat) (q s:List Int):Nat:=at_+(gams (ccod i q)).length+(runb v s).length
theorem AtC.cons {l:List Int} {v:Int} {ref:List Int} {i at_ d k:Nat} {acc L q s:List Int} (hp:gam k <+: l.drop at_) (h:AtC l v ref (i+1) (at_+(gam k).length) d (acc++[if i=0 then (k:Int)-1 else (k:Int)]) L q s) :
  AtC l v ref i at_ (d+1) acc L ((if i=0 then (k:Int)-1 else (k:Int))::q) s∧endC v i at_ ((if i=0 then (k:Int)-1 else (k:Int))::q) s=endC v (i+1) (at_+(gam k).length) q s:=by
 have hk:(if i=0 then ((if i=0 then (k:Int)-1 else (k:Int))+1).toNat else (if i=0 then (k:Int)-1 else (k:Int)).toNat)=k:=by
  by_cases h0:i=0
  ·simp only [if_pos h0];omega
  ·simp only [if_neg h0];omega
 have hc:ccod i ((if i=0 then (k:Int)-1 else (k:Int))::q)=k::ccod (i+1) q:=by rw [ccod_cons,hk]
 have h5:=h.rest
 refine ⟨⟨h.may,by rw [h.parts,List.append_assoc];rfl,by simp [h.len],?_,?_⟩,?_⟩
 ·rw [hc,gams_cons];exact pre_app hp h.nums
 ·rw [hc,gams_cons,List.length_append,← Nat.add_assoc];exact h5
 ·unfold endC;rw [hc,gams_cons,List.length_append];omega
theorem AtC.head {l:List Int} {v:Int} {ref:List Int} (hr:MayP ref) {i at_ d:Nat} {acc L q s:List Int} (hat:at_≤l.length) (ha:acc.length=i) (h:AtC l v ref i at_ (d+1) acc L q s) :
  ∃ (q':List Int) (k:Nat),k≤17∧rg l at_=some ((k:Int),at_+(gam k).length)∧AtC l v ref (i+1) (at_+(gam k).length) d (acc++[if i=0 then (k:Int)-1 else (k:Int)]) L q' s∧endC v i at_ q s=endC v (i+1) (at_+(gam k).length) q' s:=by
 obtain ⟨h1,h2,h3,h4,h5⟩:=h
 have hrl:=hr.len
 match q,h3 with
 | n::q',h3 =>
  have hbk:=cparts_blks (l:=L) hr
  rw [h2] at hbk
  have hmem:n∈acc++n::q':=by simp
  have hge:=hbk.ge n hmem
  have hsum:n≤16:=by
   have hs:=blk_sum (l:=L) (inn:=true) (m:=0) (r:=ref)
   have hcp:blk L true 0 ref=acc++n::q':=by have:=congrArg Prod.fst h2;exact this
   rw [hcp] at hs
   rcases hs with hs | hs
   ·have hall:∀ x∈acc++n::q',0≤x:=fun x hx=>(hbk.ge x hx).1
    have:∀ (L:List Int),(∀ x∈L,0≤x)→∀ y∈L,y≤L.sum:=by
     intro L
     induction L with
     | nil=>intro _ y hy;cases hy
     | cons z L ih =>
      intro hz y hy
      have hs0:0≤L.sum:=by
       clear ih hy
       induction L with
       | nil=>simp
       | cons w L ih2 =>
        have:=hz w (by simp)
        have:=ih2 (fun x hx=>hz x (by rcases List.mem_cons.1 hx with rfl | hx <;> simp [*]))
        simp only [List.sum_cons];omega
      have h0:=hz z List.mem_cons_self
      rw [List.sum_cons]
      rcases List.mem_cons.1 hy with rfl | hy
      ·omega
      ·have:=ih (fun x hx=>hz x (List.mem_cons_of_mem _ hx)) y hy;omega
    have:=this _ hall n hmem
    omega
   ·simp at hs
  have hc:=ccod_cons i n q'
  generalize hk:(if i=0 then (n+1).toNat else n.toNat)=k at hc
  have hn:n=if i=0 then (k:Int)-1 else (k:Int):=by
   rw [← hk]
   by_cases h0:i=0
   ·simp only [if_pos h0];omega
   ·simp only [if_neg h0];omega
  have hk1:0<k∧k≤17:=by
   rw [← hk]
   by_cases h0:i=0
   ·rw [if_pos h0];omega
   ·rw [if_neg h0]
    have:=hbk.one i (by omega) (by simp;omega)
    rw [List.getD_eq_getElem?_getD,List.getElem?_append_right (by omega),ha] at this
    simp at this;omega
  rw [hc,gams_cons] at h4 h5
  obtain ⟨p1,p2⟩:=pre_inv h4
  refine ⟨q',k,hk1.2,rg_pre hat hk1.1 (by omega) p1,⟨h1,by rw [h2,← hn,List.append_assoc];rfl,by simpa using h3,p2,?_⟩,?_⟩
  ·rw [List.length_append,← Nat.add_assoc] at h5;exact h5
  ·unfold endC;rw [hc,gams_cons,List.length_append];omega
theorem cread_l1 {l:List Int} (h:Bt l) (hb:l.length≤1000000) {v:Int} (hv:0≤v) (hv2:v≤15) {ref:List Int} (hr:MayP ref):∀ (d i at_:Nat) (acc:List Int),i+d≤17→at_≤l.length→acc.length=i →
  ∃ res:List Int × Int × Bool,E1 (fun K k=>Cs.l1 K (pack l) v ref k (at_:Int) ((i+d:Nat):Int) (i:Int) acc) res∧(res.2.2=true→∃ L q s,AtC l v ref i at_ d acc L q s∧res=(L,((endC v i at_ q s:Nat):Int),true)):=by
 intro d
 induction d with
 | zero =>
  intro i at_ acc hi hat ha
  obtain ⟨rs,g1,g2⟩:=rread_tk h hb hv hv2 hat
  have start:∀ {res:List Int × Int × Bool},Ev (fun K _ _ _ _=>if (!rs.2.2) then some (([]:List Int),0,false) else (Bl K ref acc rs.1).bind fun r66=>some (r66.1,rs.2.1,r66.2)) res→E1 (fun K k=>Cs.l1 K (pack l) v ref k (at_:Int) ((i+0:Nat):Int) (i:Int) acc) res:=by
   intro res hh
   refine step1 (fun _ _ _ _ _=>Cs.l1.eq_2 ..) ?_
   exact negD (by omega) (bnd g1 hh)
  cases ht:tkR l at_ v with
  | none =>
   rw [ht] at g2
   refine ⟨([],0,false),start (pos (by rw [g2];rfl) (now _)),fun hh=>by cases hh⟩
  | some p =>
   obtain ⟨s,n⟩:=p
   rw [ht] at g2
   simp only at g2
   subst g2
   obtain ⟨⟨s1,s2⟩,rfl⟩:=tkR_some ht
   obtain ⟨rw_,w1_,w2⟩:=cwhole_any (bl:=acc) hr s1 (by omega)
   refine ⟨(rw_.1,((at_+(runb v s).length:Nat):Int),rw_.2),start (negB rfl (bnd w1_ (now _))),fun hh=>?_⟩
   cases hj:cjoin ref acc s with
   | none=>rw [hj] at w2;simp only at w2 hh;rw [w2] at hh;cases hh
   | some L =>
    rw [hj] at w2
    simp only at w2
    subst w2
    obtain ⟨k1,k2⟩:=cjoin_some hj
    refine ⟨L,[],s,⟨k1,by rw [k2,List.append_nil],rfl,by rw [ccod_nil];exact List.nil_prefix,by rw [ccod_nil];exact s2⟩,?_⟩
    unfold endC;rw [ccod_nil];rfl
 | succ d ih =>
  intro i at_ acc hi hat ha
  have hrd:=Read_ev h (by omega) hat
  cases hrg:rg l at_ with
  | none =>
   rw [hrg] at hrd
   refine ⟨([],0,false),?_,fun hh=>by cases hh⟩
   refine step1 (fun _ _ _ _ _=>Cs.l1.eq_2 ..) ?_
   exact posD (by omega) (bnd hrd (pos rfl (now _)))
  | some p =>
   obtain ⟨x,n⟩:=p
   rw [hrg] at hrd
   obtain ⟨k,rfl,k0,k1,hp,rfl⟩:=rg_can h hrg
   have hpl:=pre_len hp
   obtain ⟨res,e1,e2⟩:=ih (i+1) (at_+(gam k).length) (acc++[if i=0 then (k:Int)-1 else (k:Int)]) (by omega) (by omega) (by simp [ha])
   rw [show i+1+d=i+(d+1) by omega] at e1
   refine ⟨res,?_,fun hh=>?_⟩
   ·refine step1 (fun _ _ _ _ _=>Cs.l1.eq_2 ..) ?_
    refine posD (by omega) (bnd hrd (negB rfl ?_))
    simp only
    rw [w64 (i:=(k:Int)-1) (by omega) (by omega),w1 (by omega)]
    by_cases h0:i=0
    ·rw [if_pos h0] at e1
     exact posE (by omega) (pos (by simp;omega) e1)
    ·rw [if_neg h0] at e1
     exact negE (by omega) (pos (by simp;omega) e1)
   ·obtain ⟨L,q,s,hA,hres⟩:=e2 hh
    obtain ⟨c1,c2⟩:=hA.cons hp
    exact ⟨L,_,s,c1,by rw [hres,c2]⟩
theorem rtb_l1 {l:List Int} (h:Bt l) (hb:l.length≤1000000) {v:Int} (hv:0≤v) (hv2:v≤15) {ref:List Int} (hr:MayP ref) {r23:Int × Int} {m:Nat} (hm:wr .i64 (r23.1-1)=(m:Int)) (hm2:m≤17):∀ (d i at_:Nat) (acc:List Int),i+d=m→at_≤l.length→acc.length=i →
  ∃ res:List Int × Int × Bool,E1 (fun K k=>Bk.l1 K r23 l v ref k (at_:Int) (i:Int) acc) res∧(res=([],0,false)∨∃ L q s,AtC l v ref i at_ d acc L q s∧res=(L,((endC v i at_ q s:Nat):Int),true)) ∧
   ∀ L q s,AtC l v ref i at_ d acc L q s→res=(L,((endC v i at_ q s:Nat):Int),true):=by
 intro d
 have hrl:=hr.len
 induction d with
 | zero =>
  intro i at_ acc hi hat ha
  have g1:=rtr_tk h hb hv hv2 hat
  have start:∀ {rs res:List Int × Int × Bool},E0 (fun K=>Ao K l (at_:Int) v) rs→Ev (fun K _ _ _ _=>if (!rs.2.2) then some (([]:List Int),0,false) else (Ae K ref acc rs.1).bind fun r74=>if (!r74.2) then some (([]:List Int),0,false) else some (r74.1,rs.2.1,true)) res→E1 (fun K k=>Bk.l1 K r23 l v ref k (at_:Int) (i:Int) acc) res:=by
   intro rs res hrs hh
   refine step1 (fun _ _ _ _ _=>Bk.l1.eq_2 ..) ?_
   rw [hm]
   exact negD (by omega) (bnd hrs hh)
  have first:∀ L q s,AtC l v ref i at_ 0 acc L q s→tkR l at_ v=some (s,at_+(runb v s).length)∧cjoin ref acc s=some L∧endC v i at_ q s=at_+(runb v s).length:=by
   rintro L q s ⟨h1,h2,h3,h4,h5⟩
   obtain rfl:=List.eq_nil_of_length_eq_zero h3
   rw [ccod_nil] at h5
   have hcj:=cjoin_parts hr h1
   have hcm:=cparts_may (ref:=ref) h1
   rw [h2,List.append_nil] at hcj
   rw [h2] at hcm
   refine ⟨tkR_of h hb hv hv2 hat ⟨hcm,h5⟩,hcj,?_⟩
   unfold endC;rw [ccod_nil];rfl
  cases ht:tkR l at_ v with
  | none =>
   rw [ht] at g1
   refine ⟨([],0,false),start g1 (pos rfl (now _)),.inl rfl,fun L q s hA=>?_⟩
   have:=(first L q s hA).1
   rw [ht] at this;cases this
  | some p =>
   obtain ⟨s,n⟩:=p
   rw [ht] at g1
   obtain ⟨⟨s1,s2⟩,rfl⟩:=tkR_some ht
   obtain ⟨l',w1_⟩:=rjoinC (bl:=acc) hr s1 (by omega)
   cases hj:cjoin ref acc s with
   | none =>
    rw [hj] at w1_
    refine ⟨([],0,false),start g1 (negB rfl (bnd w1_ (pos rfl (now _)))),.inl rfl,fun L q s' hA=>?_⟩
    obtain ⟨f1,f2,f3⟩:=first L q s' hA
    rw [ht] at f1
    cases (Prod.ext_iff.1 (Option.some.inj f1)).1
    rw [hj] at f2;cases f2
   | some L =>
    rw [hj] at w1_
    obtain ⟨k1,k2⟩:=cjoin_some hj
    refine ⟨(L,((at_+(runb v s).length:Nat):Int),true),start g1 (negB rfl (bnd w1_ (negB rfl (now _)))),.inr ⟨L,[],s,⟨k1,by rw [k2,List.append_nil],rfl,by rw [ccod_nil];exact List.nil_prefix,by rw [ccod_nil];exact s2⟩,?_⟩,fun L' q s' hA=>?_⟩
    ·unfold endC;rw [ccod_nil];rfl
    ·obtain ⟨f1,f2,f3⟩:=first L' q s' hA
     rw [ht] at f1
     cases (Prod.ext_iff.1 (Option.some.inj f1)).1
     rw [hj] at f2;cases f2
     rw [f3]
 | succ d ih =>
  intro i at_ acc hi hat ha
  have hrd:=RRead_ev h (by omega) hat
  cases hrg:rg l at_ with
  | none =>
   rw [hrg] at hrd
   refine ⟨([],0,false),?_,.inl rfl,fun L q s hA=>?_⟩
   ·refine step1 (fun _ _ _ _ _=>Bk.l1.eq_2 ..) ?_
    rw [hm]
    exact posD (by omega) (bnd hrd (posD (show (-1:Int)<1 by decide) (now _)))
   ·obtain ⟨q',k,_,hh,_⟩:=hA.head hr hat ha
    rw [hrg] at hh;cases hh
  | some p =>
   obtain ⟨x,n⟩:=p
   rw [hrg] at hrd
   obtain ⟨k,rfl,k0,k1,hp,rfl⟩:=rg_can h hrg
   have hpl:=pre_len hp
   have hkk:∀ {k':Nat} {z:Nat},rg l at_=some ((k':Int),z)→k'=k:=by
    intro k' z hh
    rw [hrg] at hh
    have:=(Prod.ext_iff.1 (Option.some.inj hh)).1
    simp only at this;omega
   by_cases c:(k:Int) > 17
   ·refine ⟨([],0,false),?_,.inl rfl,fun L q s hA=>?_⟩
    ·refine step1 (fun _ _ _ _ _=>Bk.l1.eq_2 ..) ?_
     rw [hm]
     exact posD (by omega) (bnd hrd (negD (show ¬ ((k:Int)<1) by omega) (posD c (now _))))
    ·obtain ⟨q',k',h17,hh,_⟩:=hA.head hr hat ha
     cases hkk hh
     omega
   ·obtain ⟨res,e1,e2,e3⟩:=ih (i+1) (at_+(gam k).length) (acc++[if i=0 then (k:Int)-1 else (k:Int)]) (by omega) (by omega) (by simp [ha])
    refine ⟨res,?_,?_,fun L q s hA=>?_⟩
    ·refine step1 (fun _ _ _ _ _=>Bk.l1.eq_2 ..) ?_
     rw [hm]
     refine posD (by omega) (bnd hrd (negD (show ¬ ((k:Int)<1) by omega) (negD c ?_)))
     simp only
     rw [w64 (i:=(k:Int)-1) (by omega) (by omega),w1 (by omega)]
     by_cases h0:i=0
     ·rw [if_pos h0] at e1
      exact posE (by omega) (pos (by simp;omega) e1)
     ·rw [if_neg h0] at e1
      exact negE (by omega) (pos (by simp;omega) e1)
    ·rcases e2 with e2 | ⟨L,q,s,hA,hres⟩
     ·exact .inl e2
     ·obtain ⟨c1,c2⟩:=hA.cons hp
      exact .inr ⟨L,_,s,c1,by rw [hres,c2]⟩
    ·obtain ⟨q',k',h17,hh,hA2,he⟩:=hA.head hr hat ha
     cases hkk hh
     rw [e3 L q' s hA2,he]
def IsC (l:List Int) (at_:Nat) (v:Int) (ref q:List Int):Prop:=MayP q∧copb v ref q <+: l.drop at_
open Classical in
noncomputable def tkC (l:List Int) (at_:Nat) (v:Int) (ref:List Int):Option (List Int × Nat):=if h:∃ q,IsC l at_ v ref q then some (h.choose,at_+(copb v ref h.choose).length) else none
theorem tkC_some {l:List Int} {at_:Nat} {v:Int} {ref q:List Int} {n:Nat} (h:tkC l at_ v ref=some (q,n)):IsC l at_ v ref q∧n=at_+(copb v ref q).length:=by
 unfold tkC at h
 split at h
 ·rename_i hq;cases h;exact ⟨hq.choose_spec,rfl⟩
 ·cases h
theorem tkC_none {l:List Int} {at_:Nat} {v:Int} {ref:List Int} (h:tkC l at_ v ref=none) (q:List Int):¬ IsC l at_ v ref q:=by
 unfold tkC at h
 split at h
 ·cases h
 ·rename_i hq;exact fun z=>hq ⟨q,z⟩
theorem copb_eq {v:Int} {ref L:List Int}:copb v ref L=gam ((cparts ref L).1.length+1)++(gams (ccod 0 (cparts ref L).1)++runb v (cparts ref L).2):=by
 rw [copb,gams_cons,List.append_assoc];rfl
theorem isC_at {l:List Int} {at_:Nat} {v:Int} {ref L:List Int} (h:IsC l at_ v ref L):gam ((cparts ref L).1.length+1) <+: l.drop at_∧AtC l v ref 0 (at_+(gam ((cparts ref L).1.length+1)).length) (cparts ref L).1.length [] L (cparts ref L).1 (cparts ref L).2∧endC v 0 (at_+(gam ((cparts ref L).1.length+1)).length) (cparts ref L).1 (cparts ref L).2=at_+(copb v ref L).length:=by
 obtain ⟨h1,h2⟩:=h
 rw [copb_eq] at h2
 obtain ⟨p1,p2⟩:=pre_inv h2
 obtain ⟨p3,p4⟩:=pre_inv p2
 refine ⟨p1,⟨h1,rfl,rfl,p3,p4⟩,?_⟩
 unfold endC;rw [copb_eq,List.length_append,List.length_append];omega
theorem at_isC {l:List Int} {at_ k:Nat} {v:Int} {ref L q s:List Int} (hp:gam k <+: l.drop at_) (hk:0<k) (h:AtC l v ref 0 (at_+(gam k).length) (k-1) [] L q s):IsC l at_ v ref L∧endC v 0 (at_+(gam k).length) q s=at_+(copb v ref L).length:=by
 obtain ⟨h1,h2,h3,h4,h5⟩:=h
 rw [List.nil_append] at h2
 have hc:copb v ref L=gam k++(gams (ccod 0 q)++runb v s):=by rw [copb_eq,h2];simp only;rw [h3,show k-1+1=k by omega]
 refine ⟨⟨h1,?_⟩,?_⟩
 ·rw [hc];exact pre_app hp (pre_app h4 h5)
 ·unfold endC;rw [hc,List.length_append,List.length_append];omega
theorem cread_tk {l:List Int} (h:Bt l) (hb:l.length≤1000000) {v:Int} (hv:0≤v) (hv2:v≤15) {ref:List Int} (hr:MayP ref) {at_:Nat} (hat:at_≤l.length) :
  ∃ res:List Int × Int × Bool,E0 (fun K=>Cs K (pack l) (at_:Int) v ref) res∧(match tkC l at_ v ref with | some (q,n)=>res=(q,(n:Int),true) | none=>res.2.2=false):=by
 have snd:∃ res:List Int × Int × Bool,E0 (fun K=>Cs K (pack l) (at_:Int) v ref) res∧(res.2.2=true→∃ q,IsC l at_ v ref q):=by
  have hrd:=Read_ev h (by omega) hat
  cases hrg:rg l at_ with
  | none =>
   rw [hrg] at hrd
   exact ⟨([],0,false),bnd hrd (pos rfl (now _)),fun hh=>by cases hh⟩
  | some p =>
   obtain ⟨x,n⟩:=p
   rw [hrg] at hrd
   obtain ⟨k,rfl,k0,k1,hp,rfl⟩:=rg_can h hrg
   have hpl:=pre_len hp
   by_cases c:(k:Int) > 17
   ·exact ⟨([],0,false),bnd hrd (negB rfl (posD c (now _))),fun hh=>by cases hh⟩
   ·obtain ⟨res,e1,e2⟩:=cread_l1 h hb hv hv2 hr (k-1) 0 (at_+(gam k).length) [] (by omega) (by omega) rfl
    have e0:wr .i64 ((k:Int)-1)=((0+(k-1):Nat):Int):=by rw [w64 (by omega) (by omega)];omega
    refine ⟨res,bnd hrd (negB rfl (negD c ?_)),fun hh=>?_⟩
    ·simp only
     rw [e0];exact e1.e1
    ·obtain ⟨L,q,s,hA,_⟩:=e2 hh
     exact ⟨L,(at_isC hp k0 hA).1⟩
 obtain ⟨res,e1,e2⟩:=snd
 refine ⟨res,e1,?_⟩
 cases ht:tkC l at_ v ref with
 | none =>
  simp only
  cases hb2:res.2.2 with
  | false=>rfl
  | true =>
   obtain ⟨q,hq⟩:=e2 hb2
   exact absurd hq (tkC_none ht q)
 | some p =>
  obtain ⟨q,n⟩:=p
  obtain ⟨⟨m,hp⟩,rfl⟩:=tkC_some ht
  obtain ⟨b,hb1,hb2⟩:=pre_split hat hp
  have hB:Bt (l.take at_):=fun x hx=>h x (List.mem_of_mem_take hx)
  have hBb:Bt b:=fun x hx=>h x (by rw [hb1];exact List.mem_append_right _ hx)
  have:=CRd_ev (a:=l.take at_) (b:=b) hr m hv hv2 hB hBb (by rw [← hb1];omega)
  rw [← hb1,List.length_append,hb2] at this
  exact e1.uniq this
theorem rtb_tk {l:List Int} (h:Bt l) (hb:l.length≤1000000) {v:Int} (hv:0≤v) (hv2:v≤15) {ref:List Int} (hr:MayP ref) {at_:Nat} (hat:at_≤l.length) :
  E0 (fun K=>Bk K l (at_:Int) v ref) (match tkC l at_ v ref with | some (q,n)=>(q,(n:Int),true) | none=>([],0,false)):=by
 have hrl:=hr.len
 have key:∃ res:List Int × Int × Bool,E0 (fun K=>Bk K l (at_:Int) v ref) res∧(res=([],0,false)∨∃ q,IsC l at_ v ref q∧res=(q,((at_+(copb v ref q).length:Nat):Int),true))∧∀ q,IsC l at_ v ref q→res=(q,((at_+(copb v ref q).length:Nat):Int),true):=by
  have hrd:=RRead_ev h (by omega) hat
  have first:∀ q:List Int,IsC l at_ v ref q→rg l at_=some ((((cparts ref q).1.length+1:Nat):Int),at_+(gam ((cparts ref q).1.length+1)).length)∧(cparts ref q).1.length≤16:=by
   intro q hq
   have hbl:=(cparts_blks (l:=q) hr).len
   exact ⟨rg_pre hat (by omega) (by omega) (isC_at hq).1,hbl⟩
  cases hrg:rg l at_ with
  | none =>
   rw [hrg] at hrd
   refine ⟨([],0,false),bnd hrd (posD (show (-1:Int)<1 by decide) (now _)),.inl rfl,fun q hq=>?_⟩
   rw [(first q hq).1] at hrg;cases hrg
  | some p =>
   obtain ⟨x0,n⟩:=p
   rw [hrg] at hrd
   obtain ⟨k,rfl,k0,k1,hp,rfl⟩:=rg_can h hrg
   have hpl:=pre_len hp
   have e0:wr .i64 ((k:Int)-1)=((k-1:Nat):Int):=by rw [w64 (by omega) (by omega)];omega
   have hkq:∀ q:List Int,IsC l at_ v ref q→(cparts ref q).1.length+1=k:=by
    intro q hq
    have:=(first q hq).1
    rw [hrg] at this
    have:=(Prod.ext_iff.1 (Option.some.inj this)).1
    simp only at this;omega
   by_cases c:((k-1:Nat):Int) > 16
   ·refine ⟨([],0,false),bnd hrd (negD (show ¬ ((k:Int)<1) by omega) ?_),.inl rfl,fun q hq=>?_⟩
    ·simp only
     rw [e0];exact posD c (now _)
    ·have h1:=hkq q hq
     have h2:=(first q hq).2
     omega
   ·obtain ⟨res,e1,e2,e3⟩:=rtb_l1 h hb hv hv2 hr (r23:=((k:Int),((at_+(gam k).length:Nat):Int))) (m:=k-1) e0 (by omega) (k-1) 0 (at_+(gam k).length) [] (by omega) (by omega) rfl
    refine ⟨res,bnd hrd (negD (show ¬ ((k:Int)<1) by omega) ?_),?_,fun q hq=>?_⟩
    ·simp only
     rw [e0];exact negD c e1.e1
    ·rcases e2 with e2 | ⟨L,q,s,hA,hres⟩
     ·exact .inl e2
     ·obtain ⟨a1,a2⟩:=at_isC hp k0 hA
      exact .inr ⟨L,a1,by rw [hres,a2]⟩
    ·have h1:=hkq q hq
     obtain ⟨b1,b2,b3⟩:=isC_at hq
     rw [h1] at b2 b3
     rw [show (cparts ref q).1.length=k-1 by omega] at b2
     rw [e3 q _ _ b2,b3]
 obtain ⟨res,e1,e2,e3⟩:=key
 refine ofEq e1 ?_
 cases ht:tkC l at_ v ref with
 | none =>
  rcases e2 with e2 | ⟨q,hq,_⟩
  ·exact e2
  ·exact absurd hq (tkC_none ht q)
 | some p =>
  obtain ⟨q,n⟩:=p
  obtain ⟨hq,rfl⟩:=tkC_some ht
  exact e3 q hq
theorem RBy_ev {v:Int} {ref l b:List Int} (hr:MayP ref) (h:MayP l) (hv:0≤v) (hv2:v≤15) (hlen:b.length≤1099200000000):E0 (fun K=>B6 K b v ref l) (b++copb v ref l):=by
 have hbk:=cparts_blks (l:=l) hr
 have hm:=cparts_may (ref:=ref) h
 have hrl:=hr.len
 have hll:=h.len
 generalize hp:cparts ref l=p at *
 obtain ⟨bl,s⟩:=p
 replace hbk:Blks bl:=hbk
 replace hm:MayP s:=hm
 have hbl:=hbk.len
 have hcl:(cnum bl).length=bl.length:=cnum_len bl
 have key:∀ i,i≤bl.length→∀ c:List Int,c.length+30*(bl.length-i)≤1099300000000→E1 (fun K k=>B6.l1 K (bl,s) v k (i:Int) c) (c++gams ((cnum bl).drop i)++runb v s):=by
  refine upto ?_ ?_
  ·intro c hc
   refine step1 (fun _ _ _ _ _=>B6.l1.eq_2 ..) ?_
   refine negD (by show ¬ ((bl.length:Int)<(bl.length:Int));omega) (bnd (RRuns_ev hm hv hv2 (by omega)) (nowE ?_))
   rw [List.drop_of_length_le (by omega)];simp [gams]
  ·intro i hi ih c hc
   obtain ⟨n1,n2⟩:=cnum_rng hbk hi
   have hg:=cnum_get hi
   have hgl:=gam_len8 n2
   have ih2:=ih (c++gam ((cnum bl).getD i 0)) (by rw [List.length_append];omega)
   have hd:c++gams ((cnum bl).drop i)=c++gam ((cnum bl).getD i 0)++gams ((cnum bl).drop (i+1)):=by
    rw [drop_getD (d:=0) (by omega:i<(cnum bl).length),gams_cons,List.append_assoc]
   rw [hd]
   have a:=hbk.ge _ (getD_mem (d:=0) hi)
   refine step1 (fun _ _ _ _ _=>B6.l1.eq_2 ..) ?_
   refine posD (by show (i:Int)<(bl.length:Int);omega) (pos ⟨by omega,by show (i:Int)<(bl.length:Int);omega⟩ ?_)
   simp only
   rw [rdN,w1 (by omega)]
   have hw:=RWrite_ev (n:=(cnum bl).getD i 0) (l:=c) (by omega) (by omega)
   by_cases h0:i=0
   ·refine posE (by omega) ?_
    have e:wr .i64 (bl.getD i 0+1)=(((cnum bl).getD i 0:Nat):Int):=by
     rw [hg,if_pos h0,w64 (by omega) (by omega)];subst h0;omega
    rw [e]
    exact bnd hw ih2
   ·refine negE (by omega) ?_
    have e:bl.getD i 0=(((cnum bl).getD i 0:Nat):Int):=by rw [hg,if_neg h0];omega
    rw [e]
    exact bnd hw ih2
 have hc0:E0 (fun K=>Au K ref l) (bl,s):=by rw [← hp];exact RCopies_ev (by omega) (by omega)
 refine bnd hc0 ?_
 simp only
 rw [w1 (by omega)]
 refine bnd (RWrite_ev (by omega) (by omega)) ?_
 have hg0:=gam_len8 (show bl.length+1<256 by omega)
 have:=(key 0 (by omega) (b++gam (bl.length+1)) (by rw [List.length_append];omega)).e1
 refine ofEq this ?_
 rw [copb,hp,gams_cons,List.drop_zero]
 simp only [List.append_assoc]
end Go.XL
end
section
namespace Go.XL
open Go.XM
theorem baEq' (a:ByteArray):(a == a)=true:=by
 show (a.data == a.data)=true
 simp
theorem lawG_ev (g:Ab) (hs:GSm g):E0 (fun K=>Ca K g) ():=by
 unfold GSm at hs
 have key:∀ i,i≤g.Out.length→∀ ls:List (List Int),ls.length=g.Out.length→(∀ y∈ls,y.length≤1000000)→E1 (fun K k=>Ca.l1 K k (i:Int) ls) ():=by
  refine upto ?_ ?_
  ·intro ls h1 h2
   refine step1 (fun _ _ _ _ _=>Ca.l1.eq_2 ..) ?_
   exact negD (by omega) (now _)
  ·intro i hi ih ls h1 h2
   refine step1 (fun _ _ _ _ _=>Ca.l1.eq_2 ..) ?_
   refine posD (by omega) (pos (by omega) ?_)
   rw [rd1N]
   refine bnd (nums_ev _ (h2 _ (getD_mem (by omega)))) (pos (by omega) (pos rfl ?_))
   rw [w1 (by omega)]
   refine ih _ (by simp [h1]) (fun y hy=>?_)
   rcases List.mem_or_eq_of_mem_set hy with hy | rfl
   ·exact h2 y hy
   ·simp
 exact (key 0 (by omega) g.Out rfl (fun y hy=>by have:=lsum_mem hy;omega)).e1
def posns (g:Ab) (i:Nat):List Int:=(List.range i).map fun j=>(posn g j:Int)
theorem posns_succ (g:Ab) (i:Nat):posns g (i+1)=posns g i++[(posn g i:Int)]:=by simp [posns,List.range_succ]
theorem posns_len (g:Ab) (i:Nat):(posns g i).length=i:=by simp [posns]
theorem flay2_ev {g:Ab} (h:GP g):E0 (fun K=>C9 K g) (row (frb g),posns g g.Out.length):=by
 have hle:=h.le
 have hpre:∀ i,i≤g.Out.length→posn g i≤3000:=by
  intro i hi
  have h1:=fr_len 0 (g.Out.take i) (fun l hl=>h.may l (List.mem_of_mem_take hl)) (by simp;omega)
  have h2:=lsum_take_le g.Out i
  have h3:=h.sum
  have h4:=gam_len8 (show g.Out.length+1<256 by omega)
  rw [List.length_take] at h1
  show (gam (g.Out.length+1)++fr 0 (g.Out.take i)).length≤3000
  rw [List.length_append];omega
 have key:∀ i,i≤g.Out.length→E1 (fun K k=>C9.l1 K g k (g.Out.length:Int) (i:Int) (posn g i:Int) (byts (gam (g.Out.length+1)++fr 0 (g.Out.take i))) (posns g i)) (row (frb g),posns g g.Out.length):=by
  refine upto ?_ ?_
  ·refine step1 (fun _ _ _ _ _=>C9.l1.eq_2 ..) ?_
   refine negD (by omega) (nowE ?_)
   unfold posn
   rw [List.take_length];rfl
  ·intro i hi ih
   refine step1 (fun _ _ _ _ _=>C9.l1.eq_2 ..) ?_
   have hm:=h.may _ (getD_mem (d:=[]) hi)
   have hp:=hpre i (by omega)
   have hlay:=RLay_ev (v:=(i:Int)) (b:=gam (g.Out.length+1)++fr 0 (g.Out.take i)) hm (by omega) (by omega) ((gam_Bt _).app (fr_Bt _ _)) (by show posn g i≤_;omega)
   rw [List.append_assoc,← fr_take hi] at hlay
   refine posD (by omega) (pos (by omega) (bnd (now ((posn g i:Int),row (gam (g.Out.length+1)++fr 0 (g.Out.take i)))) (pos (by simp [posns_len];omega) ?_)))
   rw [rd1N,w1 (by omega)]
   refine bnd hlay ?_
   rw [posns_succ] at ih
   exact ih
 have hlay:=Lay_ev (n:=g.Out.length+1) (l:=[]) Bt.nil (by omega) (by omega) (by simp)
 rw [List.nil_append] at hlay
 have e0:wr .i64 (g.N+1)=((g.Out.length+1:Nat):Int):=by rw [h.n,w1 (by omega)]
 have he:=(key 0 (by omega)).e1
 have hz:gam (g.Out.length+1)++fr 0 (g.Out.take 0)=gam (g.Out.length+1):=by simp [fr]
 unfold posn at he
 rw [hz] at he
 refine congr (f:=fun K _ _ _ _=>(C0 K (row []) 2 ((g.Out.length+1:Nat):Int)).bind fun r14=>C9.l1 K g K ((g.Out.length:Nat):Int) (0:Int) r14.n r14.data ([]:List Int)) (fun K _ _ _ _=>by unfold C9;rw [e0];rfl) ?_
 exact bnd hlay he
theorem RWrite0_ev {n:Nat} {x:List Int} (hn:n<4611686018427387904):E0 (fun K=>Al K x 2 (n:Int)) (gam n):=by
 have hl:=lg62 hn
 refine congr (f:=fun K _ _ _ _=>(A0 K (n:Int)).bind fun r31=>(Ak K [] 0 r31).bind fun r32=>(A0 K (n:Int)).bind fun r35=>(Ak K r32 (n:Int) (wr .i64 (r35+1))).bind fun r37=>some r37) (fun _ _ _ _ _=>rfl) ?_
 refine bnd (Rlog_ev hn) ?_
 refine bnd (a:=([]:List Int)++nb 0 (Nat.log2 n)) (RPut_ev (v:=0) (by omega) (by simp;omega)) ?_
 refine bnd (Rlog_ev hn) ?_
 rw [w1 (by omega)]
 refine bnd (a:=gam n) ?_ (now _)
 refine ofEq (RPut_ev (v:=n) (w:=Nat.log2 n+1) (by omega) (by simp [nb_len];omega)) ?_
 simp [gam]
theorem RFrame_ev {g:Ab} (h:GP g):E0 (fun K=>Bx K g) (frb g,posns g g.Out.length):=by
 have hle:=h.le
 have hpre:∀ i,i≤g.Out.length→posn g i≤3000:=by
  intro i hi
  have h1:=fr_len 0 (g.Out.take i) (fun l hl=>h.may l (List.mem_of_mem_take hl)) (by simp;omega)
  have h2:=lsum_take_le g.Out i
  have h3:=h.sum
  have h4:=gam_len8 (show g.Out.length+1<256 by omega)
  rw [List.length_take] at h1
  show (gam (g.Out.length+1)++fr 0 (g.Out.take i)).length≤3000
  rw [List.length_append];omega
 have key:∀ i,i≤g.Out.length→E1 (fun K k=>Bx.l1 K g k (i:Int) (gam (g.Out.length+1)++fr 0 (g.Out.take i)) (posns g i)) (frb g,posns g g.Out.length):=by
  refine upto ?_ ?_
  ·refine step1 (fun _ _ _ _ _=>Bx.l1.eq_2 ..) ?_
   refine negD (by rw [h.n];omega) (nowE ?_)
   rw [List.take_length];rfl
  ·intro i hi ih
   refine step1 (fun _ _ _ _ _=>Bx.l1.eq_2 ..) ?_
   have hm:=h.may _ (getD_mem (d:=[]) hi)
   have hp:=hpre i (by omega)
   have hlay:=RRuns_ev (v:=(i:Int)) (b:=gam (g.Out.length+1)++fr 0 (g.Out.take i)) hm (by omega) (by omega) (by show posn g i≤_;omega)
   rw [List.append_assoc,← fr_take hi] at hlay
   refine posD (by rw [h.n];omega) (pos (by simp [posns_len];omega) (pos (by omega) ?_))
   rw [rd1N,w1 (by omega)]
   refine bnd hlay ?_
   rw [posns_succ] at ih
   exact ih
 have e0:wr .i64 (g.N+1)=((g.Out.length+1:Nat):Int):=by rw [h.n,w1 (by omega)]
 have he:=(key 0 (by omega)).e1
 have hz:gam (g.Out.length+1)++fr 0 (g.Out.take 0)=gam (g.Out.length+1):=by simp [fr]
 rw [hz] at he
 refine congr (f:=fun K _ _ _ _=>(Al K ([]:List Int) 2 ((g.Out.length+1:Nat):Int)).bind fun r10=>Bx.l1 K g K (0:Int) r10 ([]:List Int)) (fun K _ _ _ _=>by unfold Bx;rw [e0]) ?_
 exact bnd (RWrite0_ev (by omega)) he
section
variable {ts:List Am}
end
variable {x:Ck}
end Go.XL
end
section
namespace Go.XL
open Go.XM
theorem FBits2_ev {g:Ab} (h:GP g):E0 (fun K=>Ee K g) (pack (frb g)):=by
 have:=frb_len h
 exact bnd (flay2_ev h) (bnd (congr (fun K _ _ _ _=>bits_eq (by omega) K) (now _)) (now _))
theorem rbase_eq {g:Ab} (h:GP g) (K v:Nat):Df K g (v:Int)=some (dl g v):=by
 unfold Df dl
 by_cases hv:v<g.Out.length
 ·rw [if_pos (by rw [h.n];simp;omega),if_pos (by omega),rd1N]
 ·rw [if_neg (by rw [h.n];simp;omega),List.getD_eq_getElem?_getD,List.getElem?_eq_none (by omega)];rfl
theorem RDelta_ev {b g:Ab} (hb:GP b) (h:GP g):E0 (fun K=>Bz K b g) (drb b g):=by
 have hle:=h.le
 have hlen:=drb_len hb h
 have hpre:∀ i,i≤g.Out.length→(gam (g.Out.length+1)++dr b 0 (g.Out.take i)).length≤1099000000000:=by
  intro i hi
  have h1:=dr_len hb 0 (g.Out.take i) (fun l hl=>h.may l (List.mem_of_mem_take hl)) (by simp;omega)
  rw [List.drop_zero] at h1
  have h2:=lsum_take_le g.Out i
  have h3:=h.sum
  have h5:=hb.sum
  have h4:=gam_len8 (show g.Out.length+1<256 by omega)
  rw [List.length_take] at h1
  rw [List.length_append];omega
 have key:∀ i,i≤g.Out.length→E1 (fun K k=>Bz.l1 K b g k (i:Int) (gam (g.Out.length+1)++dr b 0 (g.Out.take i))) (drb b g):=by
  refine upto ?_ ?_
  ·refine step1 (fun _ _ _ _ _=>Bz.l1.eq_2 ..) ?_
   refine negD (by rw [h.n];omega) (nowE ?_)
   rw [List.take_length];rfl
  ·intro i hi ih
   refine step1 (fun _ _ _ _ _=>Bz.l1.eq_2 ..) ?_
   have hm:=h.may _ (getD_mem (d:=[]) hi)
   have hp:=hpre i (by omega)
   have hlay:=RBy_ev (v:=(i:Int)) (b:=gam (g.Out.length+1)++dr b 0 (g.Out.take i)) (dl_may hb i) hm (by omega) (by omega) (by omega)
   rw [List.append_assoc,← dr_take hi] at hlay
   refine posD (by rw [h.n];omega) (bnd (congr (fun K _ _ _ _=>rbase_eq hb K i) (now _)) (pos (by omega) ?_))
   rw [rd1N,w1 (by omega)]
   exact bnd hlay ih
 have e0:wr .i64 (g.N+1)=((g.Out.length+1:Nat):Int):=by rw [h.n,w1 (by omega)]
 have he:=(key 0 (by omega)).e1
 rw [List.take_zero,show dr b 0 []=[] from rfl,List.append_nil] at he
 refine congr (f:=fun K _ _ _ _=>(Al K ([]:List Int) 2 ((g.Out.length+1:Nat):Int)).bind fun r10=>Bz.l1 K b g K (0:Int) r10) (fun K _ _ _ _=>by unfold Bz;rw [e0]) ?_
 exact bnd (RWrite0_ev (by omega)) he
noncomputable def tkM (l:List Int) (b:Ab):Nat→Nat→Nat→Option (List (List Int) × Nat)
 | 0,_,at_=>some ([],at_)
 | d+1,v,at_=>match tkC l at_ (v:Int) (dl b v) with
  | none=>none
  | some (q,n)=>match tkM l b d (v+1) n with
   | none=>none
   | some (qs,m)=>some (q::qs,m)
theorem tkC_le {l:List Int} {at_:Nat} {v:Int} {ref q:List Int} {n:Nat} (hat:at_≤l.length) (h:tkC l at_ v ref=some (q,n)):MayP q∧n≤l.length:=by
 obtain ⟨⟨h1,h2⟩,rfl⟩:=tkC_some h
 have:=pre_len h2
 exact ⟨h1,by omega⟩
variable {b:Ab}
theorem tkM_none {l:List Int} {d v at_:Nat} (h:tkC l at_ (v:Int) (dl b v)=none):tkM l b (d+1) v at_=none:=by rw [tkM,h]
theorem tkM_bad {l:List Int} {d v at_ n:Nat} {q:List Int} (h:tkC l at_ (v:Int) (dl b v)=some (q,n)) (h2:tkM l b d (v+1) n=none):tkM l b (d+1) v at_=none:=by rw [tkM,h];simp only [h2]
theorem tkM_ok {l:List Int} {d v at_ n m:Nat} {q:List Int} {qs:List (List Int)} (h:tkC l at_ (v:Int) (dl b v)=some (q,n)) (h2:tkM l b d (v+1) n=some (qs,m)):tkM l b (d+1) v at_=some (q::qs,m):=by rw [tkM,h];simp only [h2]
theorem dlists_l1 {l:List Int} (h:Bt l) (hb:l.length≤1000000) (hG:GP b) {n f:Nat} (hf:f≤n) (hn:n≤16) {r:List (List Int)}:∀ (d v at_:Nat) (acc:List (List Int)),v+d=f→at_≤l.length→acc.length=n→(∀ y∈acc,y.length≤16) →
  E1 (fun K k=>A7.l1 K ((n:Int),r) (f:Int) k (at_:Int) (v:Int) (pack l).Data (pack l).N b.N b.Out 0 acc) (match tkM l b d v at_ with | none=>(G0,0,false,pack l,b) | some (qs,m)=>(((n:Int),acc.take v++qs++acc.drop (v+d)),(m:Int),decide (GraphP ((n:Int),acc.take v++qs++acc.drop (v+d))),pack l,b)):=by
 intro d
 induction d with
 | zero =>
  intro v at_ acc hv hat hl ha
  refine step1 (fun _ _ _ _ _=>A7.l1.eq_2 ..) ?_
  refine negD (by omega) (bnd (gmayG_ev ((n:Int),acc) (gsm16 (by omega) ha)) (nowE ?_))
  simp only [tkM,List.append_nil,Nat.add_zero,List.take_append_drop]
 | succ d ih =>
  intro v at_ acc hv hat hl ha
  obtain ⟨res,e1,e2⟩:=cread_tk h hb (v:=(v:Int)) (by omega) (by omega) (dl_may hG v) hat
  have r1:E0 (fun K=>D8 K (at_:Int) (v:Int) (pack l) b) (res.1,res.2.1,res.2.2,pack l,b):=bnd (congr (fun K _ _ _ _=>dlist_eq hG K v) (now _)) (bnd e1 (now _))
  refine step1 (fun _ _ _ _ _=>A7.l1.eq_2 ..) ?_
  refine posD (by omega) (bnd r1 ?_)
  cases ht:tkC l at_ (v:Int) (dl b v) with
  | none =>
   rw [ht] at e2
   rw [tkM_none ht]
   exact pos (by rw [e2];rfl) (now _)
  | some p =>
   obtain ⟨q,m⟩:=p
   rw [ht] at e2
   simp only at e2
   subst e2
   obtain ⟨h1,h2⟩:=tkC_le hat ht
   have hql:=h1.len
   have hi:=ih (v+1) m (acc.set v q) (by omega) h2 (by simp [hl]) (fun y hy=>by
    rcases List.mem_or_eq_of_mem_set hy with hy | rfl
    ·exact ha y hy
    ·exact hql)
   refine negB rfl (pos (by omega) ?_)
   rw [w1 (by omega),Int.toNat_natCast]
   refine ofEq hi ?_
   cases hT:tkM l b d (v+1) m with
   | none=>rw [tkM_bad ht hT]
   | some p =>
    obtain ⟨qs,m'⟩:=p
    rw [tkM_ok ht hT]
    simp only [splice_set (show v<acc.length by omega)]
noncomputable def tkD (l:List Int) (b:Ab):Option Ab:=match hdF l with
 | none=>none
 | some (n,at_)=>match tkM l b n 0 at_ with
  | none=>none
  | some (qs,m)=>if m=l.length∧GraphP ((n:Int),qs) then some ((n:Int),qs) else none
theorem tkD_G {l:List Int} {g:Ab} (h:tkD l b=some g):GraphP g:=by
 unfold tkD at h
 split at h
 ·cases h
 ·split at h
  ·cases h
  ·split at h
   ·rename_i hc;cases h;exact hc.2
   ·cases h
theorem dread_any {l:List Int} (h:Bt l) (hb:l.length≤1000000) (hG:GP b):∃ res:Ab × Bool,E0 (fun K=>Ep K b (pack l)) res∧(match tkD l b with | some g=>res=(g,true) | none=>res.2=false):=by
 have hh:=fhead_any h hb
 unfold tkD
 cases hd:hdF l with
 | none =>
  rw [hd] at hh
  exact ⟨(G0,false),bnd hh (pos rfl (now _)),rfl⟩
 | some p =>
  obtain ⟨n,at_⟩:=p
  rw [hd] at hh
  obtain ⟨hn,hat⟩:=hdF_le h hd
  have hl:=(dlists_l1 h hb hG (Nat.le_refl n) hn (r:=List.replicate n []) n 0 at_ (List.replicate n []) (by omega) hat (by simp) rep_len).e1
  have hl2:E0 (fun K=>A7 K (n:Int) (n:Int) (at_:Int) (pack l) b) _:=bnd (congr (fun K _ _ _ _=>empty_eq hn) (now _)) hl
  simp only
  cases ht:tkM l b n 0 at_ with
  | none =>
   rw [ht] at hl2
   exact ⟨(G0,false),bnd hh (negB rfl (bnd hl2 (negB rfl (now _)))),rfl⟩
  | some p =>
   obtain ⟨qs,m⟩:=p
   rw [ht] at hl2
   have hs:(List.replicate n ([]:List Int)).take 0++qs++(List.replicate n ([]:List Int)).drop (0+n)=qs:=by simp
   simp only [hs] at hl2
   simp only
   by_cases c:GraphP ((n:Int),qs)
   ·rw [decide_eq_true c] at hl2
    refine ⟨(((n:Int),qs),((m:Int) == (l.length:Int))),bnd hh (negB rfl (bnd hl2 (pos rfl (now _)))),?_⟩
    by_cases e:m=l.length
    ·rw [if_pos ⟨e,c⟩,e];simp
    ·rw [if_neg (fun z=>e z.1)]
     show (((m:Int) == (l.length:Int)))=false
     simp;omega
   ·rw [decide_eq_false c] at hl2
    rw [if_neg (fun z=>c z.2)]
    exact ⟨(((n:Int),qs),false),bnd hh (negB rfl (bnd hl2 (negB rfl (now _)))),rfl⟩
theorem rtd_l1 {l:List Int} (h:Bt l) (hb:l.length≤1000000) (hG:GP b) {n:Nat} (hn:n≤16) {r:List (List Int)}:∀ (d v at_:Nat) (acc:List (List Int)),v+d=n→at_≤l.length→acc.length=n→(∀ y∈acc,y.length≤16) →
  E1 (fun K k=>Bn.l1 K ((n:Int),r) b l k (at_:Int) (v:Int) 0 acc) (match tkM l b d v at_ with | none=>(G0,false) | some (qs,m)=>if m=l.length∧GraphP ((n:Int),acc.take v++qs) then (((n:Int),acc.take v++qs),true) else (G0,false)):=by
 intro d
 induction d with
 | zero =>
  intro v at_ acc hv hat hl ha
  refine step1 (fun _ _ _ _ _=>Bn.l1.eq_2 ..) ?_
  refine negD (show ¬ ((v:Int)<(n:Int)) by omega) ?_
  simp only [tkM,List.append_nil]
  rw [List.take_of_length_le (by omega)]
  by_cases c:at_=l.length
  ·refine negN (by omega) (bnd (rgraph_ev ((n:Int),acc) (gsm16 (by omega) ha)) ?_)
   by_cases g:GraphP ((n:Int),acc)
   ·rw [if_pos (show at_=l.length∧GraphP ((n:Int),acc) from ⟨c,g⟩)]
    exact negM g (now _)
   ·rw [if_neg (show ¬ (at_=l.length∧GraphP ((n:Int),acc)) from fun z=>g z.2)]
    exact posM g (now _)
  ·rw [if_neg (show ¬ (at_=l.length∧GraphP ((n:Int),acc)) from fun z=>c z.1)]
   exact posN (by omega) (now _)
 | succ d ih =>
  intro v at_ acc hv hat hl ha
  have r1:=rtb_tk h hb (v:=(v:Int)) (by omega) (by omega) (dl_may hG v) hat
  refine step1 (fun _ _ _ _ _=>Bn.l1.eq_2 ..) ?_
  refine posD (show ((v:Int)<(n:Int)) by omega) (bnd (congr (fun K _ _ _ _=>rbase_eq hG K v) (now _)) (bnd r1 ?_))
  cases ht:tkC l at_ (v:Int) (dl b v) with
  | none=>rw [tkM_none ht];exact pos rfl (now _)
  | some p =>
   obtain ⟨q,m⟩:=p
   obtain ⟨h1,h2⟩:=tkC_le hat ht
   have hql:=h1.len
   have hi:=ih (v+1) m (acc.set v q) (by omega) h2 (by simp [hl]) (fun y hy=>by
    rcases List.mem_or_eq_of_mem_set hy with hy | rfl
    ·exact ha y hy
    ·exact hql)
   refine negB rfl (pos (by omega) ?_)
   rw [w1 (by omega),Int.toNat_natCast]
   refine ofEq hi ?_
   cases hT:tkM l b d (v+1) m with
   | none=>rw [tkM_bad ht hT]
   | some p =>
    obtain ⟨qs,m'⟩:=p
    rw [tkM_ok ht hT]
    have h1:(acc.set v q).take (v+1)++qs=acc.take v++(q::qs):=by
     have:=splice_set (acc:=acc) (q:=q) (qs:=qs) (v:=v) (d:=d) (by omega)
     rw [List.drop_of_length_le (by simp;omega),List.drop_of_length_le (by omega),List.append_nil,List.append_nil] at this
     exact this
    simp only [h1]
theorem rtakeD {l:List Int} (h:Bt l) (hb:l.length≤1000000) (hG:GP b):E0 (fun K=>Bn K b l) (match tkD l b with | some g=>(g,true) | none=>(G0,false)):=by
 refine rhead h hb (fun e=>by unfold tkD;rw [e]) (fun n at_ e=>?_)
 obtain ⟨hn,hat⟩:=hdF_le h e
 simp only
 rw [show wr .i64 (((n+1:Nat):Int)-1)=(n:Int) by rw [w64 (by omega) (by omega)];omega]
 refine bnd (congr (fun K _ _ _ _=>rnew_eq hn) (now _)) ?_
 have:=(rtd_l1 h hb hG hn (r:=List.replicate n []) n 0 at_ (List.replicate n []) (by omega) hat (by simp) rep_len).e1
 refine ofEq this ?_
 unfold tkD
 rw [e]
 simp only
 cases tkM l b n 0 at_ with
 | none=>rfl
 | some p =>
  obtain ⟨qs,m⟩:=p
  show (if m=l.length∧GraphP ((n:Int),qs) then (((n:Int),qs),true) else (G0,false))=match (if m=l.length∧GraphP ((n:Int),qs) then some (((n:Int),qs):Ab) else none) with | some g=>(g,true) | none=>(G0,false)
  by_cases c:m=l.length∧GraphP ((n:Int),qs)
  ·rw [if_pos c,if_pos c]
  ·rw [if_neg c,if_neg c]
section
variable {ts:List Am} {x:Ck}
end
variable {x:Ck}
end Go.XL
end
section
namespace Go.XL
open Go.XM
def ixo (id:Int):List Aa→Nat→Int
 | [],_=>-1
 | o::l,i=>if o.ID=id then (i:Int) else ixo id l (i+1)
abbrev ix (l:List Aa) (id:Int):Int:=ixo id l 0
theorem ixo_spec {id:Int}:∀ (l:List Aa) (i:Nat),(ixo id l i=-1∧∀ o∈l,o.ID≠id)∨∃ j,ixo id l i=((i+j:Nat):Int)∧j<l.length∧(l.getD j default).ID=id
 | [],i=>.inl ⟨rfl,by simp⟩
 | o::l,i=>by
  unfold ixo
  by_cases e:o.ID=id
  ·rw [if_pos e]
   exact .inr ⟨0,by simp,by simp,by simpa using e⟩
  ·rw [if_neg e]
   rcases ixo_spec l (i+1) with ⟨h1,h2⟩ | ⟨j,h1,h2,h3⟩
   ·exact .inl ⟨h1,fun x hx=>(List.mem_cons.1 hx).elim (fun q=>q ▸ e) (h2 x)⟩
   ·exact .inr ⟨j+1,by rw [h1];congr 1;omega,by simpa using h2,by simpa using h3⟩
theorem ix_spec (l:List Aa) (id:Int):(ix l id=-1∧∀ o∈l,o.ID≠id)∨∃ j:Nat,ix l id=(j:Int)∧j<l.length∧(l.getD j default).ID=id:=by
 rcases ixo_spec (id:=id) l 0 with h | ⟨j,h⟩
 ·exact .inl h
 ·exact .inr ⟨j,by simpa using h⟩
theorem find_ev (l:List Aa) (id:Int) (hl:l.length≤1000000):E0 (fun K=>Dz K l id) (ix l id):=by
 have key:∀ i,i≤l.length→E1 (fun K k=>Ah.l1 K l k ((l.length:Nat):Int) (i:Int) id) (ixo id (l.drop i) i,id):=by
  refine upto ?_ ?_
  ·refine step1 (fun _ _ _ _ _=>Ah.l1.eq_2 ..) ?_
   rw [List.drop_length]
   exact negD (by omega) (now _)
  ·intro i hi ih
   refine step1 (fun _ _ _ _ _=>Ah.l1.eq_2 ..) ?_
   refine posD (by omega) (pos (by omega) (bnd (now _) ?_))
   rw [drop_getD (d:=default) hi,ixo]
   by_cases e:(l.getD i default).ID=id
   ·rw [if_pos e]
    refine pos ?_ (now _)
    rw [nthN];simp only [e,beq_self_eq_true]
   ·rw [if_neg e]
    refine neg ?_ ?_
    ·rw [nthN];simpa using e
    ·rw [w1 (by omega)];exact ih
 exact bnd (key 0 (by omega)).e1 (now _)
theorem At_ev (l:List Aa) (id:Int) (hl:l.length≤1000000):E0 (fun K=>Bo K l id) (ix l id):=by
 have key:∀ i,i≤l.length→E1 (fun K k=>Bo.l1 K l id k (i:Int)) (ixo id (l.drop i) i):=by
  refine upto ?_ ?_
  ·refine step1 (fun _ _ _ _ _=>Bo.l1.eq_2 ..) ?_
   rw [List.drop_length]
   exact negD (by omega) (now _)
  ·intro i hi ih
   refine step1 (fun _ _ _ _ _=>Bo.l1.eq_2 ..) ?_
   refine posD (by omega) (pos (by omega) ?_)
   rw [drop_getD (d:=default) hi,ixo]
   by_cases e:(l.getD i default).ID=id
   ·rw [if_pos e]
    refine posE (by rw [nthN];exact e) (now _)
   ·rw [if_neg e]
    refine negE (by rw [nthN];exact e) ?_
    rw [w1 (by omega)];exact ih
 exact (key 0 (by omega)).e1
def ObjP (l:List Aa) (i:Nat):Prop :=
 let o:=l.getD i default
 1≤o.ID∧o.ID≤1048576∧(0<i→(l.getD (i-1) default).ID<o.ID)∧o.Base≠o.ID∧(o.Base≠0→0≤ix l o.Base)∧MayB o.Data
def ObjsP (l:List Aa):Prop:=l.length≤12∧∀ i,i<l.length→ObjP l i
instance (l:List Aa) (i:Nat):Decidable (ObjP l i):=by unfold ObjP;infer_instance
instance (l:List Aa):Decidable (ObjsP l):=by unfold ObjsP;infer_instance
end Go.XL
end
section
namespace Go.XL
open Go.XM
abbrev AllP (l:List Aa) (i:Nat):Prop:=∀ j,j<l.length→i≤j→ObjP l j
theorem allP_no {l:List Aa} {i:Nat} (hi:i<l.length) (h:¬ ObjP l i):false=decide (AllP l i):=(decide_eq_false fun k=>h (k i hi (Nat.le_refl _))).symm
theorem allP_go {l:List Aa} {i:Nat} (h:ObjP l i):decide (AllP l (i+1))=decide (AllP l i) :=
 decide_eq_decide.2 ⟨fun k j hj hi=>by
  by_cases e:j=i
  ·subst e;exact h
  ·exact k j hj (by omega),fun k j hj hi=>k j hj (by omega)⟩
theorem cmay_l1 {l:List Aa} (hl:l.length≤1000000) (hs:∀ o∈l,o.Data.Data.size≤1000000):∀ i,i≤l.length→E1 (fun K k=>Cx.l1 K l k ((l.length:Nat):Int) (i:Int)) (decide (AllP l i)):=by
 refine upto ?_ ?_
 ·refine step1 (fun _ _ _ _ _=>Cx.l1.eq_2 ..) ?_
  refine negD (by omega) (nowE (decide_eq_true fun j hj hi=>by omega).symm)
 ·intro i hi ih
  refine step1 (fun _ _ _ _ _=>Cx.l1.eq_2 ..) ?_
  rw [w1 (by omega),nthN]
  generalize ho:l.getD i default=o
  have hP:ObjP l i↔1≤o.ID∧o.ID≤1048576∧(0<i→(l.getD (i-1) default).ID<o.ID)∧o.Base≠o.ID∧(o.Base≠0→0≤ix l o.Base)∧MayB o.Data:=by unfold ObjP;rw [ho]
  have hso:o.Data.Data.size≤1000000:=by rw [← ho];exact hs _ (getD_mem hi)
  refine posD (by omega) (pos (by omega) ?_)
  by_cases c1:o.ID<1
  ·exact posD c1 (nowE (allP_no hi fun h=>by have:=(hP.1 h).1;omega))
  refine negD c1 ?_
  by_cases c2:o.ID > 1048576
  ·exact posD c2 (nowE (allP_no hi fun h=>by have:=(hP.1 h).2.1;omega))
  refine negD c2 ?_
  have tail:(0<i→(l.getD (i-1) default).ID<o.ID)→∀ {go:Nat→Nat→Option Bool},E1 (fun K k=>go K k) (decide (AllP l (i+1))) →
    Ev (fun K k _ _ _=>(D6 K o.Data).bind fun r41=>if (!r41) then some false else if (o.Base == o.ID) then some false else if (o.Base != 0) then (Dz K l o.Base).bind fun r57=>if decide (r57<0) then some false else go K k else go K k) (decide (AllP l i)):=by
   intro c3 go hgo
   refine bnd (congr (fun K _ _ _ _=>bMay_eq hso K) (now _)) ?_
   by_cases c4:MayB o.Data
   ·refine negM c4 ?_
    by_cases c5:o.Base=o.ID
    ·exact posE c5 (nowE (allP_no hi fun h=>(hP.1 h).2.2.2.1 c5))
    refine negE c5 ?_
    by_cases c6:o.Base=0
    ·exact negN c6 (ofEq hgo (allP_go (hP.2 ⟨by omega,by omega,c3,c5,fun h=>absurd c6 h,c4⟩)))
    refine posN c6 (bnd (find_ev l _ hl) ?_)
    by_cases c7:ix l o.Base<0
    ·exact posD c7 (nowE (allP_no hi fun h=>by have:=(hP.1 h).2.2.2.2.1 c6;omega))
    ·exact negD c7 (ofEq hgo (allP_go (hP.2 ⟨by omega,by omega,c3,c5,fun _=>by omega,c4⟩)))
   ·exact posM c4 (nowE (allP_no hi fun h=>c4 (hP.1 h).2.2.2.2.2))
  by_cases c0:0<i
  ·have e1:wr .i64 ((i:Int)-1)=((i-1:Nat):Int):=by rw [w64 (by omega) (by omega)];omega
   rw [e1,nthN]
   refine posD (by omega) (pos (by omega) ?_)
   by_cases c3:o.ID≤(l.getD (i-1) default).ID
   ·exact posD c3 (nowE (allP_no hi fun h=>by have:=(hP.1 h).2.2.1 c0;omega))
   ·exact negD c3 (tail (fun _=>by omega) ih)
  ·exact negD (by omega) (tail (fun h=>absurd h c0) ih)
theorem cmay_ev {l:List Aa} (hl:l.length≤1000000) (hs:∀ o∈l,o.Data.Data.size≤1000000):E0 (fun K=>Cx K l) (decide (ObjsP l)):=by
 by_cases c:l.length≤12
 ·refine negD (by omega) (ofEq (cmay_l1 hl hs 0 (by omega)).e1 (decide_eq_decide.2 ⟨fun k=>⟨c,fun i hi=>k i hi (by omega)⟩,fun k j hj _=>k.2 j hj⟩))
 ·exact posD (by omega) (nowE (decide_eq_false fun h=>c h.1).symm)
theorem robj_l1 {l:List Aa} (hl:l.length≤1000000) (hs:∀ o∈l,o.Data.Data.size≤1000000):∀ i,i≤l.length→E1 (fun K k=>Bb.l1 K l k (i:Int)) (decide (AllP l i)):=by
 refine upto ?_ ?_
 ·refine step1 (fun _ _ _ _ _=>Bb.l1.eq_2 ..) ?_
  refine negD (by omega) (nowE (decide_eq_true fun j hj hi=>by omega).symm)
 ·intro i hi ih
  refine step1 (fun _ _ _ _ _=>Bb.l1.eq_2 ..) ?_
  rw [w1 (by omega),nthN]
  generalize ho:l.getD i default=o
  have hP:ObjP l i↔1≤o.ID∧o.ID≤1048576∧(0<i→(l.getD (i-1) default).ID<o.ID)∧o.Base≠o.ID∧(o.Base≠0→0≤ix l o.Base)∧MayB o.Data:=by unfold ObjP;rw [ho]
  have hso:o.Data.Data.size≤1000000:=by rw [← ho];exact hs _ (getD_mem hi)
  have btw:E0 (fun K=>Cn K o.ID 1 1048576) (decide (1≤o.ID∧o.ID≤1048576)):=by
   unfold Cn
   by_cases c:o.ID≥1
   ·exact posD c (nowE (decide_eq_decide.2 ⟨fun h=>⟨c,h⟩,fun h=>h.2⟩))
   ·exact negD c (nowE (decide_eq_false fun h=>c h.1).symm)
  refine posD (by omega) (pos (by omega) (bnd btw ?_))
  by_cases c1:1≤o.ID∧o.ID≤1048576
  ·refine negM c1 ?_
   have tail:(0<i→(l.getD (i-1) default).ID<o.ID)→∀ {go:Nat→Nat→Option Bool},E1 (fun K k=>go K k) (decide (AllP l (i+1))) →
     Ev (fun K k _ _ _=>if (o.Base == o.ID) then some false else if (o.Base != 0) then (Bo K l o.Base).bind fun r52=>if decide (r52<0) then some false else (Br K o.Data).bind fun r59=>if (!r59) then some false else go K k else (Br K o.Data).bind fun r59=>if (!r59) then some false else go K k) (decide (AllP l i)):=by
    intro c3 go hgo
    by_cases c5:o.Base=o.ID
    ·exact posE c5 (nowE (allP_no hi fun h=>(hP.1 h).2.2.2.1 c5))
    refine negE c5 ?_
    have last:(o.Base≠0→0≤ix l o.Base)→Ev (fun K k _ _ _=>(Br K o.Data).bind fun r59=>if (!r59) then some false else go K k) (decide (AllP l i)):=by
     intro c6
     refine bnd (rBits_ev hso) ?_
     by_cases c4:MayB o.Data
     ·exact negM c4 (ofEq hgo (allP_go (hP.2 ⟨c1.1,c1.2,c3,c5,c6,c4⟩)))
     ·exact posM c4 (nowE (allP_no hi fun h=>c4 (hP.1 h).2.2.2.2.2))
    by_cases c6:o.Base=0
    ·exact negN c6 (last fun h=>absurd c6 h)
    refine posN c6 (bnd (At_ev l _ hl) ?_)
    by_cases c7:ix l o.Base<0
    ·exact posD c7 (nowE (allP_no hi fun h=>by have:=(hP.1 h).2.2.2.2.1 c6;omega))
    ·exact negD c7 (last fun _=>by omega)
   by_cases c0:0<i
   ·have e1:wr .i64 ((i:Int)-1)=((i-1:Nat):Int):=by rw [w64 (by omega) (by omega)];omega
    rw [e1,nthN]
    refine posD (by omega) (pos (by omega) ?_)
    by_cases c3:(l.getD (i-1) default).ID≥o.ID
    ·exact posD c3 (nowE (allP_no hi fun h=>by have:=(hP.1 h).2.2.1 c0;omega))
    ·exact negD c3 (tail (fun _=>by omega) ih)
   ·exact negD (by omega) (tail (fun h=>absurd h c0) ih)
  ·exact posM c1 (nowE (allP_no hi fun h=>c1 ⟨(hP.1 h).1,(hP.1 h).2.1⟩))
theorem robj_ev {l:List Aa} (hl:l.length≤1000000) (hs:∀ o∈l,o.Data.Data.size≤1000000):E0 (fun K=>Bb K l) (decide (ObjsP l)):=by
 by_cases c:l.length≤12
 ·refine negD (by omega) (ofEq (robj_l1 hl hs 0 (by omega)).e1 (decide_eq_decide.2 ⟨fun k=>⟨c,fun i hi=>k i hi (by omega)⟩,fun k j hj _=>k.2 j hj⟩))
 ·exact posD (by omega) (nowE (decide_eq_false fun h=>c h.1).symm)
end Go.XL
end
section
namespace Go.XL
open Go.XM
abbrev ob (l:List Aa) (id:Int):Aa:=l.getD (ix l id).toNat default
def wayP (l:List Aa):Nat→Int→List Aa
 | 0,_=>[]
 | m+1,id=>if id=0 then [] else ob l id::wayP l m (ob l id).Base
def There (l:List Aa) (id:Int):Prop:=id=0∨0≤ix l id
theorem ix_lt {l:List Aa} {id:Int} (h:0≤ix l id):ix l id<(l.length:Int)∧(ix l id).toNat<l.length∧(ob l id).ID=id:=by
 rcases ix_spec l id with ⟨e,_⟩ | ⟨j,e,h1,h2⟩
 ·omega
 ·refine ⟨by omega,by omega,?_⟩
  show (l.getD (ix l id).toNat default).ID=id
  rw [e];exact h2
theorem there_base {l:List Aa} (h:ObjsP l) {id:Int} (hi:0≤ix l id):There l (ob l id).Base:=by
 by_cases c:(ob l id).Base=0
 ·exact .inl c
 ·exact .inr ((h.2 _ (ix_lt hi).2.1).2.2.2.2.1 c)
theorem ob_mem {l:List Aa} {id:Int} (hi:0≤ix l id):ob l id∈l:=getD_mem (ix_lt hi).2.1
theorem ob_mayB {l:List Aa} (h:ObjsP l) {id:Int} (hi:0≤ix l id):MayB (ob l id).Data:=(h.2 _ (ix_lt hi).2.1).2.2.2.2.2
theorem ix0 {l:List Aa} (h:ObjsP l):ix l 0<0:=by
 rcases ix_spec l 0 with ⟨e,_⟩ | ⟨j,e,h1,h2⟩
 ·omega
 ·have:=(h.2 j h1).1;omega
theorem way_l1 {l:List Aa} (h:ObjsP l) {m:Nat} (hm:m≤1000):∀ (d:Nat) (id:Int) (w:List Aa),w.length+d=m→There l id →
  E1 (fun K k=>Dl.l1 K l (m:Int) k id w) (w++wayP l d id)
 | 0,id,w,hd,hi=>by
  refine step1 (fun _ _ _ _ _=>Dl.l1.eq_2 ..) ?_
  rw [wayP,List.append_nil]
  by_cases c:id=0
  ·exact negN c (now _)
  ·exact posN c (negD (by omega) (now _))
 | d+1,id,w,hd,hi=>by
  refine step1 (fun _ _ _ _ _=>Dl.l1.eq_2 ..) ?_
  rw [wayP]
  by_cases c:id=0
  ·rw [if_pos c,List.append_nil];exact negN c (now _)
  ·rw [if_neg c]
   have hx:0≤ix l id:=hi.resolve_left c
   obtain ⟨x1,x2,x3⟩:=ix_lt hx
   refine posN c (posD (by omega) (bnd (find_ev l id (by have:=h.1;omega)) (pos ⟨hx,x1⟩ (pos (by simp;omega) ?_))))
   have e:nth l (ix l id)=ob l id:=rfl
   rw [e]
   have:=way_l1 h hm d (ob l id).Base (w++[ob l id]) (by simp;omega) (there_base h hx)
   rwa [List.append_assoc] at this
theorem way_ev {l:List Aa} (h:ObjsP l) {m:Nat} (hm:m≤1000) {id:Int} (hi:There l id):E0 (fun K=>Dl K l id (m:Int)) (wayP l m id):=by
 have:=(way_l1 h hm m id [] (by simp) hi).e1
 exact this
def Cl (l:List Aa):Prop:=l.length≤12∧∀ id,0≤ix l id→There l (ob l id).Base
theorem ObjsP.cl {l:List Aa} (h:ObjsP l):Cl l:=⟨h.1,fun _ hi=>there_base h hi⟩
def deepP (l:List Aa) (id:Int):Int × Int:=if ix l id<0 then (0,3) else if 3<(wayP l 4 id).length then (0,2) else (((wayP l 4 id).length:Int),0)
theorem deep_ev {l:List Aa} (h:ObjsP l) (id:Int):E0 (fun K=>D2 K l id) (deepP l id):=by
 unfold deepP
 refine bnd (find_ev l id (by have:=h.1;omega)) ?_
 by_cases c:ix l id<0
 ·rw [if_pos c];exact posD c (now _)
 ·rw [if_neg c]
  refine negD c (bnd (way_ev h (m:=4) (by omega) (.inr (by omega))) ?_)
  by_cases c2:3<(wayP l 4 id).length
  ·rw [if_pos c2];exact posD (by omega) (now _)
  ·rw [if_neg c2];exact negD (by omega) (now _)
theorem depth_ev {l:List Aa} (hl:l.length≤1000000) (hs:∀ o∈l,o.Data.Data.size≤1000000) (id:Int):E0 (fun K=>Eg K l id) (if ObjsP l then deepP l id else (0,1)):=by
 refine bnd (cmay_ev hl hs) ?_
 by_cases c:ObjsP l
 ·rw [if_pos c];exact negM c (bnd (deep_ev c id) (now _))
 ·rw [if_neg c];exact posM c (now _)
theorem nth_ob {l:List Aa} {id:Int}:nth l (ix l id)=ob l id:=rfl
theorem rdep_l1 {l:List Aa} (h:Cl l):∀ (d n:Nat) (id:Int),n+d=3→There l id →
  E1 (fun K k=>Bg.l1 K l k id (n:Int)) (if 3<n+(wayP l (d+1) id).length then (0,2) else (((n+(wayP l (d+1) id).length:Nat):Int),0)):=by
 intro d
 induction d with
 | zero =>
  intro n id hd hi
  refine step1 (fun _ _ _ _ _=>Bg.l1.eq_2 ..) ?_
  rw [wayP]
  by_cases c:id=0
  ·rw [if_pos c]
   refine negN c ?_
   rw [if_neg (by simp;omega)]
   exact nowE (by simp)
  ·rw [if_neg c]
   refine posN c ?_
   rw [w1 (by omega),if_pos (by simp [wayP];omega)]
   exact posD (by omega) (now _)
 | succ d ih =>
  intro n id hd hi
  refine step1 (fun _ _ _ _ _=>Bg.l1.eq_2 ..) ?_
  rw [wayP]
  by_cases c:id=0
  ·rw [if_pos c]
   refine negN c ?_
   rw [if_neg (by simp;omega)]
   exact nowE (by simp)
  ·rw [if_neg c]
   have hx:0≤ix l id:=hi.resolve_left c
   obtain ⟨x1,x2,x3⟩:=ix_lt hx
   refine posN c ?_
   rw [w1 (by omega)]
   refine negD (by omega) (bnd (At_ev l id (by have:=h.1;omega)) (pos ⟨hx,x1⟩ ?_))
   rw [nth_ob]
   have:=ih (n+1) (ob l id).Base (by omega) (h.2 _ hx)
   rw [List.length_cons,show n+((wayP l (d+1) (ob l id).Base).length+1)=n+1+(wayP l (d+1) (ob l id).Base).length by omega]
   exact this
theorem rdepth_c {l:List Aa} (h:Cl l) (id:Int):E0 (fun K=>Bg K l id) (deepP l id):=by
 unfold deepP
 refine bnd (At_ev l id (by have:=h.1;omega)) ?_
 by_cases c:ix l id<0
 ·rw [if_pos c];exact posD c (now _)
 ·rw [if_neg c]
  refine negD c ?_
  have:=(rdep_l1 h 3 0 id (by omega) (.inr (by omega))).e1
  simp only [Nat.zero_add] at this
  exact this
theorem rdepth_ev {l:List Aa} (h:ObjsP l) (id:Int):E0 (fun K=>Bg K l id) (deepP l id):=rdepth_c h.cl id
end Go.XL
end
section
namespace Go.XL
open Go.XM
def D (l:List Aa) (id:Int):Nat→Int→Option Nat
 | 0,_=>none
 | m+1,on=>if on=0 then none else if on=id then some 0 else (D l id m (ob l on).Base).map (·+1)
theorem D_ixo {l:List Aa} (h:Cl l) {id:Int}:∀ (m:Nat) (on:Int) (i:Nat),There l on→ixo id (wayP l m on) i=match D l id m on with | none=>-1 | some s=>((i+s:Nat):Int)
 | 0,on,i,_=>rfl
 | m+1,on,i,ht=>by
  rw [wayP,D]
  by_cases c:on=0
  ·rw [if_pos c,if_pos c];rfl
  ·have hx:0≤ix l on:=ht.resolve_left c
   rw [if_neg c,if_neg c,ixo,(ix_lt hx).2.2]
   by_cases e:on=id
   ·rw [if_pos e,if_pos e];rfl
   ·rw [if_neg e,if_neg e,D_ixo h m _ (i+1) (h.2 _ hx)]
    cases D l id m (ob l on).Base with
    | none=>rfl
    | some s=>show ((i+1+s:Nat):Int)=((i+(s+1):Nat):Int);congr 1;omega
theorem D_mono {l:List Aa} {id:Int}:∀ (m:Nat) (on:Int) (s:Nat),D l id m on=some s→s<m∧∀ k,s<k→D l id k on=some s
 | 0,_,_,h=>by cases h
 | m+1,on,s,h=>by
  rw [D] at h
  by_cases c:on=0
  ·rw [if_pos c] at h;cases h
  rw [if_neg c] at h
  by_cases e:on=id
  ·rw [if_pos e] at h;cases h
   refine ⟨by omega,fun k hk=>?_⟩
   obtain ⟨k,rfl⟩:∃ j,k=j+1:=⟨k-1,by omega⟩
   rw [D,if_neg c,if_pos e]
  rw [if_neg e] at h
  cases hd:D l id m (ob l on).Base with
  | none=>rw [hd] at h;cases h
  | some t =>
   rw [hd] at h
   have e2:t+1=s:=by simpa using h
   subst e2
   obtain ⟨h1,h2⟩:=D_mono m _ t hd
   refine ⟨by omega,fun k hk=>?_⟩
   obtain ⟨k,rfl⟩:∃ j,k=j+1:=⟨k-1,by omega⟩
   rw [D,if_neg c,if_neg e,h2 k (by omega)];rfl
theorem D_all {l:List Aa} (h:Cl l) {id:Int} {M:Nat}:∀ (s:Nat) (on:Int),There l on→D l id M on=some s→∀ k,k≤s→∃ o∈l,D l id M o.ID=some k:=by
 intro s
 induction s with
 | zero =>
  intro on ht hd k hk
  have h0:on≠0:=fun e=>by
   cases M with
   | zero=>cases hd
   | succ M=>rw [D,if_pos e] at hd;cases hd
  have hx:=ht.resolve_left h0
  refine ⟨ob l on,ob_mem hx,?_⟩
  rw [(ix_lt hx).2.2,hd];congr 1;omega
 | succ s ih =>
  intro on ht hd k hk
  have h0:on≠0:=fun e=>by
   cases M with
   | zero=>cases hd
   | succ M=>rw [D,if_pos e] at hd;cases hd
  have hx:=ht.resolve_left h0
  by_cases c:k=s+1
  ·refine ⟨ob l on,ob_mem hx,?_⟩
   rw [(ix_lt hx).2.2,hd,c]
  ·obtain ⟨M',rfl⟩:∃ j,M=j+1:=by
    cases M with
    | zero=>cases hd
    | succ M=>exact ⟨M,rfl⟩
   refine ih (ob l on).Base (h.2 _ hx) ?_ k (by omega)
   have hd':=hd
   rw [D,if_neg h0] at hd'
   by_cases e:on=id
   ·rw [if_pos e] at hd';cases hd'
   rw [if_neg e] at hd'
   cases hm:D l id M' (ob l on).Base with
   | none=>rw [hm] at hd';cases hd'
   | some t =>
    rw [hm] at hd'
    have:t=s:=by simpa using hd'
    subst this
    have:=D_mono _ _ _ hm
    exact this.2 _ (by omega)
theorem cover:∀ (n:Nat) (q:List Nat),(∀ k,k<n→k∈q)→n≤q.length
 | 0,_,_=>Nat.zero_le _
 | n+1,q,h=>by
  have h1:=h n (by omega)
  have h2:=cover n (q.erase n) fun k hk=>(List.mem_erase_of_ne (by omega)).2 (h k (by omega))
  rw [List.length_erase_of_mem h1] at h2
  have:=List.length_pos_of_mem h1
  omega
theorem D_len {l:List Aa} (h:Cl l) {id:Int} {M s:Nat} {on:Int} (ht:There l on) (hd:D l id M on=some s):s<l.length:=by
 have:=cover (s+1) (l.map fun o=>(D l id M o.ID).getD 0) fun k hk=>by
  obtain ⟨o,h1,h2⟩:=D_all h s on ht hd k (by omega)
  exact List.mem_map.2 ⟨o,h1,by rw [h2];rfl⟩
 rw [List.length_map] at this
 omega
theorem D_any {l:List Aa} (h:Cl l) {id:Int} {M:Nat} {on:Int} (ht:There l on) (hM:l.length≤M):D l id M on=D l id l.length on:=by
 cases hd:D l id M on with
 | some s=>exact ((D_mono _ _ _ hd).2 _ (D_len h ht hd)).symm
 | none =>
  cases he:D l id l.length on with
  | none=>rfl
  | some s =>
   have:=(D_mono _ _ _ he)
   rw [this.2 M (by omega)] at hd;cases hd
def Wk (l:List Aa) (id:Int):Nat→Int→Int
 | 0,on=>on
 | m+1,on=>if on=0 then on else if on=id then on else Wk l id m (ob l on).Base
theorem Wk_D {l:List Aa} {id:Int} (h0:id≠0):∀ (m:Nat) (on:Int),Wk l id m on=id↔(D l id (m+1) on).isSome
 | 0,on=>by
  rw [Wk,D]
  by_cases c:on=0
  ·rw [if_pos c,c];exact ⟨fun e=>absurd e.symm h0,fun e=>by cases e⟩
  ·rw [if_neg c]
   by_cases e:on=id
   ·rw [if_pos e];exact ⟨fun _=>rfl,fun _=>e⟩
   ·rw [if_neg e];exact ⟨fun k=>absurd k e,fun k=>by cases k⟩
 | m+1,on=>by
  rw [Wk,D]
  by_cases c:on=0
  ·rw [if_pos c,if_pos c,c];exact ⟨fun e=>absurd e.symm h0,fun e=>by cases e⟩
  ·rw [if_neg c,if_neg c]
   by_cases e:on=id
   ·rw [if_pos e,if_pos e];exact ⟨fun _=>rfl,fun _=>e⟩
   ·rw [if_neg e,if_neg e,Wk_D h0 m,Option.isSome_map]
def up (l:List Aa) (id b:Int) (d:Am):List Aa:=l.set (ix l id).toNat ((ob l id).ID,b,d)
theorem ixo_map {id:Int}:∀ (l l':List Aa) (i:Nat),l.map (fun o=>o.ID)=l'.map (fun o=>o.ID)→ixo id l i=ixo id l' i
 | [],[],_,_=>rfl
 | [],_::_,_,h=>by cases h
 | _::_,[],_,h=>by cases h
 | a::l,a'::l',i,h=>by
  obtain ⟨h1,h2⟩:=List.cons_eq_cons.1 h
  rw [ixo,ixo,ixo_map l l' _ h2]
  have h1:a.ID=a'.ID:=h1
  rw [h1]
theorem up_len {l:List Aa} {id b:Int} {d:Am}:(up l id b d).length=l.length:=List.length_set ..
theorem up_ix {l:List Aa} {id b:Int} {d:Am} (j:Int):ix (up l id b d) j=ix l j:=by
 refine ixo_map _ _ _ (List.ext_getElem (by simp [up]) fun k h1 h2=>?_)
 rw [List.getElem_map,List.getElem_map]
 show ((l.set _ _)[k]'(by simpa [up] using h1)).ID=_
 rw [List.getElem_set]
 split
 ·rename_i e
  subst e
  have h3:(ix l id).toNat<l.length:=by simpa using h2
  show (ob l id).ID=_
  rw [show ob l id=l.getD (ix l id).toNat default from rfl,getD_lt h3]
 ·rfl
theorem up_ob {l:List Aa} {id b:Int} {d:Am} (hi:0≤ix l id) {j:Int} (hj:0≤ix l j):ob (up l id b d) j=if j=id then (id,b,d) else ob l j:=by
 obtain ⟨a1,a2,a3⟩:=ix_lt hi
 obtain ⟨b1,b2,b3⟩:=ix_lt hj
 show (up l id b d).getD (ix (up l id b d) j).toNat default=_
 rw [up_ix,List.getD_eq_getElem?_getD,up,List.getElem?_set]
 by_cases c:j=id
 ·subst c
  rw [if_pos rfl,if_pos rfl,if_pos a2,a3];rfl
 ·have:(ix l id).toNat≠(ix l j).toNat:=fun e=>c (by
   have:ix l id=ix l j:=by omega
   rw [← a3,← b3]
   show (l.getD _ _).ID=(l.getD _ _).ID
   rw [this])
  rw [if_neg this,if_neg c,← List.getD_eq_getElem?_getD]
theorem up_there {l:List Aa} {id b:Int} {d:Am} {j:Int}:There (up l id b d) j↔There l j:=by unfold There;rw [up_ix]
theorem up_cl {l:List Aa} (h:Cl l) {id b:Int} {d:Am} (hi:0≤ix l id) (hb:There l b):Cl (up l id b d):=by
 refine ⟨by rw [up_len];exact h.1,fun j hj=>?_⟩
 rw [up_ix] at hj
 rw [up_there,up_ob hi hj]
 split
 ·exact hb
 ·exact h.2 _ hj
theorem up_Wk {l:List Aa} (h:Cl l) {id b:Int} {d:Am} (hi:0≤ix l id):∀ (m:Nat) (on:Int),There l on→Wk (up l id b d) id m on=Wk l id m on
 | 0,_,_=>rfl
 | m+1,on,ht=>by
  rw [Wk,Wk]
  by_cases c:on=0
  ·rw [if_pos c,if_pos c]
  have hx:=ht.resolve_left c
  rw [if_neg c,if_neg c]
  by_cases e:on=id
  ·rw [if_pos e,if_pos e]
  ·rw [if_neg e,if_neg e,up_ob hi hx,if_neg e]
   exact up_Wk h hi m _ (h.2 _ hx)
theorem way_loop {l:List Aa} (h:Cl l) {id b:Int} {d:Am} (h0:id≠0) (hi:0≤ix l id) (hb:There l b) {t:Nat} {M:Nat} (hbt:D l id M b=some t) :
  ∀ (m:Nat) (on:Int),There l on→(∃ s,D l id M on=some s)→(wayP (up l id b d) m on).length=m
 | 0,_,_,_=>rfl
 | m+1,on,ht,⟨s,hs⟩=>by
  have h1:=(D_mono _ _ _ hs).2
  have hD:=h1 (s+1) (by omega)
  have c:on≠0:=fun e=>by rw [D,if_pos e] at hD;cases hD
  have hx:=ht.resolve_left c
  rw [wayP,if_neg c,up_ob hi hx,List.length_cons]
  by_cases e:on=id
  ·rw [if_pos e]
   rw [way_loop h h0 hi hb hbt m b hb ⟨t,hbt⟩]
  ·rw [if_neg e]
   rw [D,if_neg c,if_neg e] at hD
   cases hn:D l id s (ob l on).Base with
   | none=>rw [hn] at hD;cases hD
   | some u =>
    have hM:=(D_mono _ _ _ hs).1
    have:=(D_mono _ _ _ hn)
    rw [way_loop h h0 hi hb hbt m _ (h.2 _ hx) ⟨u,this.2 M (by omega)⟩]
theorem way_no {l:List Aa} (h:Cl l) {id b:Int} {d:Am} (hi:0≤ix l id):∀ (m:Nat) (on:Int),There l on→D l id m on=none→wayP (up l id b d) m on=wayP l m on
 | 0,_,_,_=>rfl
 | m+1,on,ht,hd=>by
  rw [wayP,wayP]
  by_cases c:on=0
  ·rw [if_pos c,if_pos c]
  have hx:=ht.resolve_left c
  rw [D,if_neg c] at hd
  by_cases e:on=id
  ·rw [if_pos e] at hd;cases hd
  rw [if_neg e] at hd
  rw [if_neg c,if_neg c,up_ob hi hx,if_neg e]
  congr 1
  refine way_no h hi m _ (h.2 _ hx) ?_
  cases hn:D l id m (ob l on).Base with
  | none=>rfl
  | some u=>rw [hn] at hd;cases hd
theorem way_to {l:List Aa} (h:Cl l) {id b:Int} {d:Am} (hi:0≤ix l id) {M:Nat}:∀ (s:Nat) (on:Int) (k:Nat),There l on→D l id M on=some s →
  (wayP (up l id b d) (s+k) on).length=s+(wayP (up l id b d) k id).length:=by
 intro s
 induction s with
 | zero =>
  intro on k ht hd
  have hD:=(D_mono _ _ _ hd).2 1 (by omega)
  have c:on≠0:=fun e=>by rw [D,if_pos e] at hD;cases hD
  rw [D,if_neg c] at hD
  by_cases e:on=id
  ·subst e;simp
  ·rw [if_neg e,D] at hD;cases hD
 | succ s ih =>
  intro on k ht hd
  have hD:=(D_mono _ _ _ hd).2 (s+2) (by omega)
  have c:on≠0:=fun e=>by rw [D,if_pos e] at hD;cases hD
  have hx:=ht.resolve_left c
  rw [D,if_neg c] at hD
  by_cases e:on=id
  ·rw [if_pos e] at hD;cases hD
  rw [if_neg e] at hD
  cases hn:D l id (s+1) (ob l on).Base with
  | none=>rw [hn] at hD;cases hD
  | some u =>
   rw [hn] at hD
   have:u=s:=by simpa using hD
   subst this
   have hM:=(D_mono _ _ _ hd).1
   rw [show u+1+k=u+k+1 by omega,wayP,if_neg c,up_ob hi hx,if_neg e,List.length_cons,ih _ k (h.2 _ hx) ((D_mono _ _ _ hn).2 M (by omega))]
   omega
theorem way_take {l:List Aa}:∀ (k j:Nat) (on:Int),(wayP l k on).length=min k (wayP l (k+j) on).length
 | 0,_,_=>by simp [wayP]
 | k+1,j,on=>by
  rw [show k+1+j=k+j+1 by omega,wayP,wayP]
  by_cases c:on=0
  ·simp [c]
  ·rw [if_neg c,if_neg c,List.length_cons,List.length_cons,way_take k j];omega
theorem way_up {l:List Aa} (h:Cl l) {id b:Int} {d:Am} (h0:id≠0) (hi:0≤ix l id) (hb:There l b) {M s:Nat} {on:Int} (ht:There l on) (hd:D l id M on=some s)
  (hn:D l id l.length b=none) (h3:(wayP l 4 b).length≤3):3<(wayP (up l id b d) 4 on).length↔3<s+((wayP l 4 b).length+1):=by
 have hnk:∀ k,D l id k b=none:=fun k=>by
  cases e:D l id k b with
  | none=>rfl
  | some u=>rw [(D_mono _ _ _ e).2 _ (D_len h hb e)] at hn;cases hn
 by_cases c:s≤3
 ·have e1:=way_to (b:=b) (d:=d) h hi s on (4-s) ht hd
  have e4:(wayP (up l id b d) (4-s) id).length=(wayP (up l id b d) (3-s) b).length+1:=by
   rw [show 4-s=(3-s)+1 by omega,wayP,if_neg h0,up_ob hi hi,if_pos rfl,List.length_cons]
  rw [show s+(4-s)=4 by omega,e4] at e1
  have e2:(wayP (up l id b d) (3-s) b).length=min (3-s) (wayP l 4 b).length:=by
   rw [way_no h hi _ _ hb (hnk _),way_take (3-s) (4-(3-s)) b,show 3-s+(4-(3-s))=4 by omega]
  rw [e2] at e1
  rw [e1];omega
 ·have e1:=way_to (b:=b) (d:=d) h hi s on 0 ht hd
  have e2:=way_take (l:=up l id b d) 4 (s-4) on
  rw [show 4+(s-4)=s+0 by omega,e1] at e2
  rw [e2];simp [wayP];omega
end Go.XL
end
section
namespace Go.XL
open Go.XM
theorem stepK {α:Type} {f g:Nat→Option α} {r:α} (e:∀ K,g (K+1)=f K) (h:E0 f r):E0 g r:=by
 obtain ⟨m,hm⟩:=h
 refine ⟨m+1,fun K a b c d h1 _ _ _ _=>?_⟩
 obtain ⟨K',rfl⟩:∃ K',K=K'+1:=⟨K-1,by omega⟩
 show g (K'+1)=some r
 rw [e]
 exact hm K' K' K' K' K' (by omega) (by omega) (by omega) (by omega) (by omega)
noncomputable def stepG (g:Ab) (o:Aa):Option Ab:=if o.Base=0 then tkF (ofb o.Data) else tkD (ofb o.Data) g
noncomputable def foldG:Ab→List Aa→Option Ab
 | g,[]=>some g
 | g,o::r=>match stepG g o with
  | some g'=>foldG g' r
  | none=>none
noncomputable def tell (x:Option Ab):Ab × Int:=match x with
 | some g=>(g,0)
 | none=>(G0,9)
theorem foldG_snoc (o:Aa):∀ (w:List Aa) (g:Ab),foldG g (w++[o])=match foldG g w with | some g'=>stepG g' o | none=>none
 | [],g=>by
  simp only [List.nil_append,foldG]
  cases stepG g o <;> rfl
 | x::w,g=>by
  simp only [List.cons_append,foldG]
  cases stepG g x with
  | none=>rfl
  | some g'=>exact foldG_snoc o w g'
theorem stepG_G {g g':Ab} {o:Aa} (h:stepG g o=some g'):GraphP g':=by
 unfold stepG at h
 split at h
 ·exact tkF_G h
 ·exact tkD_G h
theorem foldG_G:∀ {w:List Aa} {g g':Ab},foldG g w=some g'→w≠[]→GraphP g'
 | [],g,g',h,hn=>absurd rfl hn
 | o::w,g,g',h,_=>by
  simp only [foldG] at h
  cases hs:stepG g o with
  | none=>rw [hs] at h;cases h
  | some g1 =>
   rw [hs] at h
   cases w with
   | nil=>simp only [foldG,Option.some.injEq] at h;subst h;exact stepG_G hs
   | cons x w=>exact foldG_G h (by simp)
theorem of_l1:∀ (w:List Aa) (g:Ab),(∀ o∈w,MayB o.Data)→(∀ o r,w=o::r→o.Base≠0→GP g)→E0 (fun K=>Dt.l1 K w 0 0 g.N g.Out) (tell (foldG g w))
 | [],g,_,_=>now _
 | o::w,g,hw,hg=>by
  have hb:=hw o List.mem_cons_self
  have hB:Bt (ofb o.Data):=ofb_Bt _
  have hl:(ofb o.Data).length≤1000000:=by rw [ofb_len];have:=hb.2.1;omega
  have hp:pack (ofb o.Data)=o.Data:=pack_ofb hb
  have next:∀ {g':Ab},stepG g o=some g'→E0 (fun K=>Dt.l1 K w 0 0 g'.N g'.Out) (tell (foldG g (o::w))):=by
   intro g' hs
   have:foldG g (o::w)=foldG g' w:=by simp only [foldG,hs]
   rw [this]
   exact of_l1 w g' (fun x hx=>hw x (List.mem_cons_of_mem _ hx)) (fun _ _ _ _=>(stepG_G hs).gp)
  have stop:stepG g o=none→tell (foldG g (o::w))=(G0,9):=fun hs=>by simp only [foldG,hs,tell]
  by_cases c:o.Base=0
  ·obtain ⟨res,h1,h2⟩:=fread_any hB hl
   rw [hp] at h1
   refine posE c (bnd h1 ?_)
   cases ht:tkF (ofb o.Data) with
   | none =>
    rw [ht] at h2
    rw [stop (by unfold stepG;rw [if_pos c,ht])]
    exact pos (by rw [h2];rfl) (now _)
   | some g' =>
    rw [ht] at h2
    subst h2
    exact negB rfl (next (by unfold stepG;rw [if_pos c,ht]))
  ·obtain ⟨res,h1,h2⟩:=dread_any hB hl (hg o w rfl c)
   rw [hp] at h1
   refine negE c (bnd h1 ?_)
   cases ht:tkD (ofb o.Data) g with
   | none =>
    rw [ht] at h2
    rw [stop (by unfold stepG;rw [if_neg c,ht])]
    exact pos (by rw [h2];rfl) (now _)
   | some g' =>
    rw [ht] at h2
    subst h2
    exact negB rfl (next (by unfold stepG;rw [if_neg c,ht]))
theorem way_end {l:List Aa}:∀ (m:Nat) (id:Int),id≠0→(wayP l (m+1) id).length≤m→(∀ k,wayP l (m+k) id=wayP l m id)∧∃ o r,(wayP l m id).reverse=o::r∧o.Base=0
 | 0,id,h0,h=>by
  rw [wayP,if_neg h0] at h
  simp at h
 | m+1,id,h0,h=>by
  rw [wayP,if_neg h0,List.length_cons] at h
  have e:∀ k,wayP l (k+1) id=ob l id::wayP l k (ob l id).Base:=fun k=>by rw [wayP,if_neg h0]
  by_cases c:(ob l id).Base=0
  ·have z:∀ k,wayP l k 0=[]:=fun k=>by cases k <;> simp [wayP]
   refine ⟨fun k=>?_,ob l id,[],?_,c⟩
   ·rw [show m+1+k=m+k+1 by omega,e,e,c,z,z]
   ·rw [e,c,z];rfl
  ·obtain ⟨h1,o,r,h2,h3⟩:=way_end (l:=l) m (ob l id).Base c (by omega)
   refine ⟨fun k=>?_,o,r++[ob l id],?_,h3⟩
   ·rw [show m+1+k=m+k+1 by omega,e,e,h1]
   ·rw [e,List.reverse_cons,h2];rfl
noncomputable def resP (l:List Aa) (id:Int):Ab × Int:=if (deepP l id).2≠0 then (G0,(deepP l id).2) else tell (foldG G0 (wayP l 3 id).reverse)
theorem deep_ok {l:List Aa} {id:Int} (h:(deepP l id).2=0):0≤ix l id∧(wayP l 4 id).length≤3∧(deepP l id).1=((wayP l 4 id).length:Int):=by
 unfold deepP at h ⊢
 split at h
 ·cases h
 ·split at h
  ·cases h
  ·rename_i c1 c2
   exact ⟨by omega,by omega,by rw [if_neg c1,if_neg c2]⟩
theorem way_mem {l:List Aa} (h:ObjsP l):∀ (m:Nat) (id:Int),There l id→∀ o∈wayP l m id,MayB o.Data
 | 0,id,hi,o,ho=>by simp [wayP] at ho
 | m+1,id,hi,o,ho=>by
  rw [wayP] at ho
  by_cases c:id=0
  ·rw [if_pos c] at ho;cases ho
  ·rw [if_neg c] at ho
   have hx:0≤ix l id:=hi.resolve_left c
   rcases List.mem_cons.1 ho with rfl | ho
   ·exact ob_mayB h hx
   ·exact way_mem h m _ (there_base h hx) o ho
theorem way_len {l:List Aa}:∀ (m:Nat) (id:Int),(wayP l m id).length≤m
 | 0,id=>by simp [wayP]
 | m+1,id=>by
  rw [wayP]
  split
  ·simp
  ·have:=way_len (l:=l) m (ob l id).Base
   simp only [List.length_cons];omega
theorem cof_ev {l:List Aa} (h:ObjsP l) (id:Int):E0 (fun K=>Dt K l id) (resP l id):=by
 unfold resP
 refine bnd (deep_ev h id) ?_
 by_cases c:(deepP l id).2=0
 ·rw [if_neg (by simpa using c)]
  obtain ⟨h1,h2,h3⟩:=deep_ok c
  have h0:id≠0:=fun e=>by subst e;have:=ix0 h;omega
  obtain ⟨_,o,r,h4,h5⟩:=way_end 3 id h0 h2
  have hw:=way_len (l:=l) 3 id
  refine negN c (bnd (way_ev h (m:=3) (by omega) (.inr h1)) (pos (by omega) ?_))
  refine of_l1 _ G0 (fun o ho=>way_mem h 3 id (.inr h1) o (List.mem_reverse.1 ho)) (fun o' r' e hb=>?_)
  rw [h4] at e
  cases e
  exact absurd h5 hb
 ·rw [if_pos (by simpa using c)]
  exact posN c (now _)
theorem rres_j1 {K:Nat} {rec_:List Aa→Int→Option (Ab × Int)} {t:Int} (x:Option Ab):Ar.j1 K rec_ (match x with | some g=>(g,true) | none=>(G0,false)).2 t (match x with | some g=>(g,true) | none=>(G0,false)).1.N (match x with | some g=>(g,true) | none=>(G0,false)).1.Out=some (tell x):=by
 cases x <;> rfl
theorem deep_of {l:List Aa} {id:Int} {m:Nat} (hm:m≤3) (hx:0≤ix l id) (h0:id≠0) (hw:(wayP l (m+1) id).length≤m):(deepP l id).2=0:=by
 obtain ⟨h1,_⟩:=way_end m id h0 hw
 have h4:wayP l 4 id=wayP l m id:=by have:=h1 (4-m);rwa [show m+(4-m)=4 by omega] at this
 have:=way_len (l:=l) m id
 unfold deepP
 rw [if_neg (by omega),if_neg (by rw [h4];omega)]
theorem rres_w {l:List Aa} (h:ObjsP l):∀ (m:Nat) (id:Int),m≤3→0≤ix l id→(wayP l (m+1) id).length≤m→E0 (fun K=>Ar K l id) (tell (foldG G0 (wayP l m id).reverse))
 | 0,id,_,hx,hw=>by
  have h0:id≠0:=fun e=>by subst e;have:=ix0 h;omega
  rw [wayP,if_neg h0] at hw
  simp at hw
 | m+1,id,hm,hx,hw=>by
  have h0:id≠0:=fun e=>by subst e;have:=ix0 h;omega
  have hd:=deep_of hm hx h0 hw
  obtain ⟨x1,x2,x3⟩:=ix_lt hx
  have hb:=ob_mayB h hx
  have hB:Bt (ofb (ob l id).Data):=ofb_Bt _
  have hl:(ofb (ob l id).Data).length≤1000000:=by rw [ofb_len];have:=hb.2.1;omega
  refine stepK (fun K=>Ar.eq_2 ..) ?_
  refine bnd (rdepth_ev h id) (negN hd (bnd (At_ev l id (by have:=h.1;omega)) (pos ⟨hx,x1⟩ ?_)))
  rw [nth_ob]
  refine bnd (rOf_ev hb) ?_
  have e:wayP l (m+1) id=ob l id::wayP l m (ob l id).Base:=by rw [wayP,if_neg h0]
  rw [wayP,if_neg h0,List.length_cons] at hw
  rw [e,List.reverse_cons,foldG_snoc]
  by_cases c:(ob l id).Base=0
  ·have z:wayP l m (ob l id).Base=[]:=by rw [c];cases m <;> simp [wayP]
   rw [z]
   refine posE c (bnd (rtakeF hB hl) ?_)
   simp only [List.reverse_nil,foldG,stepG,if_pos c]
   exact congr (fun K _ _ _ _=>rres_j1 _) (now _)
  ·have hx2:=(there_base h hx).resolve_left c
   have ih:=rres_w h m (ob l id).Base (by omega) hx2 (by omega)
   refine negE c (bnd ih ?_)
   cases hf:foldG G0 (wayP l m (ob l id).Base).reverse with
   | none=>exact posN (by decide) (now _)
   | some g =>
    have hg:GP g:=by
     refine (foldG_G hf fun e=>?_).gp
     obtain ⟨_,o,r,h4,_⟩:=way_end (l:=l) m (ob l id).Base c (by omega)
     rw [h4] at e;cases e
    refine negN rfl (bnd (rtakeD hB hl hg) ?_)
    simp only [stepG,if_neg c]
    exact congr (fun K _ _ _ _=>rres_j1 _) (now _)
theorem rres_ev {l:List Aa} (h:ObjsP l) (id:Int):E0 (fun K=>Ar K l id) (resP l id):=by
 unfold resP
 by_cases c:(deepP l id).2=0
 ·rw [if_neg (by simpa using c)]
  obtain ⟨h1,h2,h3⟩:=deep_ok c
  exact rres_w h 3 id (by omega) h1 h2
 ·rw [if_pos (by simpa using c)]
  refine stepK (fun K=>Ar.eq_2 ..) ?_
  exact bnd (rdepth_ev h id) (posN c (now _))
theorem cgraph_ev {l:List Aa} (hl:l.length≤1000000) (hs:∀ o∈l,o.Data.Data.size≤1000000) (id:Int):E0 (fun K=>D4 K l id) (if ObjsP l then resP l id else (G0,1)):=by
 refine bnd (cmay_ev hl hs) ?_
 by_cases c:ObjsP l
 ·rw [if_pos c];exact negM c (bnd (cof_ev c id) (now _))
 ·rw [if_neg c];exact posM c (now _)
theorem resP_G {l:List Aa} {id:Int} (ho:ObjsP l) (h:(resP l id).2=0):GraphP (resP l id).1:=by
 unfold resP at h ⊢
 split at h
 ·rename_i c;exact absurd h c
 ·rename_i c
  have c:(deepP l id).2=0:=by simpa using c
  rw [if_neg (by simpa using c)]
  obtain ⟨h1,h2,h3⟩:=deep_ok c
  cases hf:foldG G0 (wayP l 3 id).reverse with
  | none=>rw [hf] at h;cases h
  | some g =>
   refine foldG_G hf fun e=>?_
   have h0:id≠0:=fun e=>by subst e;have:=ix0 ho;omega
   obtain ⟨_,o,r,h4,_⟩:=way_end (l:=l) 3 id h0 h2
   rw [h4] at e;cases e
theorem resP_bad {l:List Aa} {id:Int} (h:(resP l id).2≠0):(resP l id).1=G0:=by
 unfold resP at h ⊢
 split
 ·rfl
 ·rename_i c
  rw [if_neg c] at h
  cases hf:foldG G0 (wayP l 3 id).reverse with
  | none=>rfl
  | some g=>rw [hf] at h;exact absurd rfl h
end Go.XL
end
section
namespace Go.XL
open Go.XM
theorem rby_ev {l:List Aa} (h:ObjsP l) {p:Int} {g:Ab} (hg:GraphP g) (hp:p≠0→(resP l p).2=0):E0 (fun K=>Dx K l p g) (if p=0 then pack (frb g) else pack (drb (resP l p).1 g)):=by
 by_cases c:p=0
 ·rw [if_pos c]
  exact posE c (bnd (RFrame_ev hg.gp) (bnd (rPack_ev (frb_Bt _) (by have:=frb_len hg.gp;show (frb g).length≤1000000;omega)) (now _)))
 ·rw [if_neg c]
  refine negE c (bnd (rres_ev h p) (bnd (RDelta_ev (resP_G h (hp c)).gp hg.gp) (bnd (rPack_ev (drb_Bt _ _) (by have:=drb_len (resP_G h (hp c)).gp hg.gp;omega)) (now _))))
end Go.XL
end
section
namespace Go.XL
open Go.XM
theorem oweight_ev (bs:List Aa) (hl:bs.length≤17592186044416) (hx:∀ b∈bs,b.Data.Data.size≤140737488351232) :
  ∃ r:Int,E0 (fun K=>A5 K bs) r∧0≤r∧r≤52776558133248∧(r<1048576→(bs.length:Int)≤r∧∀ b∈bs,(b.Data.Data.size:Int)≤4*r+3):=by
 have key:∀ i,i≤bs.length→∀ s:Int,0≤s→s≤40000000000000→∃ r:Int,E1 (fun K k=>A5.l1 K bs k s (i:Int)) r∧0≤r∧r≤52776558133248∧s≤r∧(r<1048576→∀ b∈bs.drop i,(b.Data.Data.size:Int)≤4*r+3):=by
  refine upto ?_ ?_
  ·intro s h0 h1
   refine ⟨s,?_,h0,by omega,by omega,fun _=>by simp⟩
   refine step1 (fun _ _ _ _ _=>A5.l1.eq_2 ..) ?_
   exact negD (by omega) (now s)
  ·intro i hi ih s h0 h1
   by_cases hs:s<1048576
   ·have hb:=hx _ (getD_mem (d:=default) hi)
    have e4:(((bs.getD i default).Data.Data.size:Nat):Int).tdiv 4=(((bs.getD i default).Data.Data.size / 4:Nat):Int):=Int.ofNat_tdiv _ 4 |>.symm
    obtain ⟨r,h,a,b,l,c⟩:=ih (s+(((bs.getD i default).Data.Data.size / 4:Nat):Int)) (by omega) (by omega)
    refine ⟨r,?_,a,b,by omega,fun hr=>?_⟩
    ·refine step1 (fun _ _ _ _ _=>A5.l1.eq_2 ..) ?_
     refine posD (by omega) (posD hs (pos (by omega) (pos (by decide) ?_)))
     rw [nthN,e4,w64 (i:=(((bs.getD i default).Data.Data.size / 4:Nat):Int)) (by omega) (by omega),w64 (by omega) (by omega),w1 (by omega)]
     exact h
    ·rw [drop_getD (d:=default) hi]
     intro g hg'
     rcases List.mem_cons.1 hg' with rfl | hg'
     ·omega
     ·exact c hr g hg'
   ·refine ⟨s,?_,h0,by omega,by omega,fun h=>by omega⟩
    refine step1 (fun _ _ _ _ _=>A5.l1.eq_2 ..) ?_
    exact posD (by omega) (negD hs (now s))
 obtain ⟨r,h,a,b,l,c⟩:=key 0 (by omega) bs.length (by omega) (by omega)
 exact ⟨r,h.e1,a,b,fun hr=>⟨l,by simpa using c hr⟩⟩
def ObSm (l:List Aa):Prop:=l.length≤1000∧∀ o∈l,o.Data.Data.size≤1000000
theorem heavy9_ev (x:Cv) (h1:x.L.length≤17592186044416) (h2:∀ l∈x.L,l.length≤17592186044416∧∀ o∈l,o.Data.Data.size≤140737488351232) (h3:x.N.length≤17592186044416)
  (hl:x.G.G.length≤17592186044416) (hx:∀ g∈x.G.G,Gfit g) (ha:x.G.A.length≤17592186044416) :
  ∃ b:Bool,E0 (fun K=>Bp K x) b∧(b=false→x.L.length≤1000∧x.N.length≤1000∧(∀ l∈x.L,ObSm l)∧∀ g∈x.G.G,wt g≤1200):=by
 obtain ⟨b6,e6,g6⟩:=heavy6_ev x.G hl hx ha
 have fin:∀ {s:Int},∃ b:Bool,Ev (fun K _ _ _ _=>if decide (s > 700) then some true else (Dg K x.G).bind fun r36=>some r36) b∧(b=false→s≤700∧b6=false):=by
  intro s
  by_cases c:s > 700
  ·exact ⟨true,posD c (now _),fun h=>by cases h⟩
  ·exact ⟨b6,negD c (bnd e6 (now _)),fun h=>⟨by omega,h⟩⟩
 have key:∀ i,i≤x.L.length→∀ s:Int,0≤s→s≤40000000000000→∃ b:Bool,E1 (fun K k=>Bp.l1 K x k s (i:Int)) b∧(b=false→s≤700∧b6=false∧∀ l∈x.L.drop i,ObSm l):=by
  refine upto ?_ ?_
  ·intro s h0 h1
   obtain ⟨b,q1,q2⟩:=fin (s:=s)
   refine ⟨b,?_,fun h=>⟨(q2 h).1,(q2 h).2,by simp⟩⟩
   refine step1 (fun _ _ _ _ _=>Bp.l1.eq_2 ..) ?_
   exact negD (by omega) q1
  ·intro i hi ih s h0 hs1
   by_cases hs:s<1048576
   ·have hb:=h2 _ (getD_mem (d:=default) hi)
    obtain ⟨r,w1',w2,w3,w4⟩:=oweight_ev (x.L.getD i default) hb.1 hb.2
    by_cases hr:s+r≤40000000000000
    ·obtain ⟨b,q1,q2⟩:=ih (s+r) (by omega) hr
     refine ⟨b,?_,fun h=>?_⟩
     ·refine step1 (fun _ _ _ _ _=>Bp.l1.eq_2 ..) ?_
      refine posD (by omega) (posD hs (pos (by omega) ?_))
      rw [nthN]
      refine bnd w1' ?_
      rw [w64 (by omega) (by omega),w1 (by omega)]
      exact q1
     ·obtain ⟨p1,p2,p3⟩:=q2 h
      obtain ⟨p4,p5⟩:=w4 (by omega)
      refine ⟨by omega,p2,fun l hl=>?_⟩
      rw [drop_getD (d:=default) hi] at hl
      rcases List.mem_cons.1 hl with rfl | hl
      ·exact ⟨by omega,fun o ho=>by have:=p5 o ho;omega⟩
      ·exact p3 l hl
    ·-- the next round says: too heavy
     have big:E1 (fun K k=>Bp.l1 K x k (s+r) ((i+1:Nat):Int)) true:=by
      refine step1 (fun _ _ _ _ _=>Bp.l1.eq_2 ..) ?_
      by_cases c:i+1<x.L.length
      ·exact posD (by omega) (negD (by omega) (posD (by omega) (now _)))
      ·exact negD (by omega) (posD (by omega) (now _))
     refine ⟨true,?_,fun h=>by cases h⟩
     refine step1 (fun _ _ _ _ _=>Bp.l1.eq_2 ..) ?_
     refine posD (by omega) (posD hs (pos (by omega) ?_))
     rw [nthN]
     refine bnd w1' ?_
     rw [w64 (by omega) (by omega),w1 (by omega)]
     exact big
   ·refine ⟨true,?_,fun h=>by cases h⟩
    refine step1 (fun _ _ _ _ _=>Bp.l1.eq_2 ..) ?_
    exact posD (by omega) (negD hs (posD (by omega) (now _)))
 have hst:wr .i64 (((x.N.length:Nat):Int)+((x.L.length:Nat):Int))=(x.N.length:Int)+(x.L.length:Int):=w64 (by omega) (by omega)
 obtain ⟨b,q1,q2⟩:=key 0 (by omega) ((x.N.length:Int)+(x.L.length:Int)) (by omega) (by omega)
 refine ⟨b,?_,fun h=>?_⟩
 ·unfold Bp
  rw [hst];exact q1.e1
 ·obtain ⟨p1,p2,p3⟩:=q2 h
  exact ⟨by omega,by omega,by simpa using p3,(g6 p2).2.2⟩
theorem copyO_ev (xs:List Aa) (hl:xs.length≤1000000):E0 (fun K=>Ay K xs) xs:=by
 have key:∀ i,i≤xs.length→E1 (fun K k=>Ay.l1 K xs k (i:Int) (xs.take i)) xs:=by
  refine upto ?_ ?_
  ·refine step1 (fun _ _ _ _ _=>Ay.l1.eq_2 ..) ?_
   rw [List.take_length]
   exact negD (by omega) (now _)
  ·intro i hi ih
   refine step1 (fun _ _ _ _ _=>Ay.l1.eq_2 ..) ?_
   refine posD (by omega) (pos (by omega) (pos (by simp;omega) ?_))
   rw [nthN,w1 (by omega),← take_getD hi]
   exact ih
 exact (key 0 (by omega)).e1
theorem eqO_ev (xs:List Aa) (hl:xs.length≤1000000):E0 (fun K=>Bh K xs xs) true:=by
 have key:∀ i,i≤xs.length→E1 (fun K k=>Bh.l1 K xs xs k (i:Int)) true:=by
  refine upto ?_ ?_
  ·refine step1 (fun _ _ _ _ _=>Bh.l1.eq_2 ..) ?_
   exact negD (by omega) (now _)
  ·intro i hi ih
   refine step1 (fun _ _ _ _ _=>Bh.l1.eq_2 ..) ?_
   refine posD (by omega) (pos (by omega) (pos (by omega) (negB ?_ ?_)))
   ·rw [baEq'];simp
   ·rw [w1 (by omega)];exact ih
 exact negN rfl (key 0 (by omega)).e1
theorem ids_ev (x:Cv) (l:List Aa) (hn:x.N.length≤1000) (hl:l.length≤1000):∃ q:List Int,E0 (fun K=>Bf K x l) q∧q.length≤2000:=by
 have key:∀ i,i≤l.length→∀ y:List Int,y.length≤5+i→∃ q:List Int,E1 (fun K k=>Bf.l2 K l k (i:Int) y) q∧q.length≤2000:=by
  refine upto ?_ ?_
  ·intro y hy
   refine ⟨y,?_,by omega⟩
   refine step1 (fun _ _ _ _ _=>Bf.l2.eq_2 ..) ?_
   exact negD (by omega) (now _)
  ·intro i hi ih y hy
   by_cases c:i<8
   ·obtain ⟨q,q1,q2⟩:=ih (y++[(nth l (i:Int)).ID]) (by simp;omega)
    refine ⟨q,?_,q2⟩
    refine step1 (fun _ _ _ _ _=>Bf.l2.eq_2 ..) ?_
    refine posD (by omega) (posD (by omega) (pos (by omega) (pos (by simp;omega) ?_)))
    rw [w1 (by omega)];exact q1
   ·refine ⟨y,?_,by omega⟩
    refine step1 (fun _ _ _ _ _=>Bf.l2.eq_2 ..) ?_
    exact posD (by omega) (negD (by omega) (now _))
 by_cases c:5<([0,(-1),99]++x.N:List Int).length
 ·obtain ⟨q,q1,q2⟩:=key 0 (by omega) (([0,(-1),99]++x.N:List Int).take 5) (by simp;omega)
  refine ⟨q,pos (by simp;omega) (posD (by omega) (pos (by omega) q1.e1)),q2⟩
 ·obtain ⟨q,q1,q2⟩:=key 0 (by omega) ([0,(-1),99]++x.N:List Int) (by omega)
  refine ⟨q,pos (by simp;omega) (negD (by omega) q1.e1),q2⟩
end Go.XL
end
section
namespace Go.XL
open Go.XM
abbrev stpO (l:List Aa) (on id:Int):Int:=ixo id (wayP l l.length on) 0
theorem stpO_D {l:List Aa} (h:Cl l) {on id:Int} (ht:There l on):stpO l on id=match D l id l.length on with | none=>-1 | some s=>(s:Int):=by
 show ixo _ _ _=_
 rw [D_ixo h _ _ _ ht]
 cases D l id l.length on with
 | none=>rfl
 | some s=>show ((0+s:Nat):Int)=_;rw [Nat.zero_add]
theorem ixf_ev (l:List Aa) (id:Int) (hl:l.length≤1000000):E0 (fun K=>Ag K l id) (ix l id,id):=by
 have key:∀ i,i≤l.length→E1 (fun K k=>Ag.l1 K l k ((l.length:Nat):Int) (i:Int) id) (ixo id (l.drop i) i,id):=by
  refine upto ?_ ?_
  ·refine step1 (fun _ _ _ _ _=>Ag.l1.eq_2 ..) ?_
   rw [List.drop_length]
   exact negD (by omega) (now _)
  ·intro i hi ih
   refine step1 (fun _ _ _ _ _=>Ag.l1.eq_2 ..) ?_
   refine posD (by omega) (pos (by omega) (bnd (now _) ?_))
   rw [drop_getD (d:=default) hi,ixo]
   by_cases e:(l.getD i default).ID=id
   ·rw [if_pos e]
    refine pos ?_ (now _)
    rw [nthN];simp only [e,beq_self_eq_true]
   ·rw [if_neg e]
    refine neg ?_ ?_
    ·rw [nthN];simpa using e
    ·rw [w1 (by omega)];exact ih
 exact (key 0 (by omega)).e1
theorem stpO_ev {l:List Aa} (h:ObjsP l) {on id:Int} (ht:There l on):E0 (fun K=>Ea K l on id) (stpO l on id):=by
 have hl:=h.1
 have hw:=way_len (l:=l) l.length on
 exact bnd (way_ev h (m:=l.length) (by omega) ht) (bnd (ixf_ev _ id (by omega)) (now _))
theorem ix_mem {l:List Aa} {o:Aa} (h:o∈l):0≤ix l o.ID:=by
 rcases ix_spec l o.ID with ⟨_,h2⟩ | ⟨j,e,_⟩
 ·exact absurd rfl (h2 o h)
 ·omega
theorem up_up {l:List Aa} {id b:Int} {d d':Am} (hi:0≤ix l id):(up l id b d).set (ix l id).toNat ((nth (up l id b d) (ix l id)).ID,(nth (up l id b d) (ix l id)).Base,d')=up l id b d':=by
 have e:nth (up l id b d) (ix l id)=(id,b,d):=by
  have:=up_ob (b:=b) (d:=d) hi hi
  rw [if_pos rfl] at this
  rw [← this]
  show (up l id b d).getD (ix l id).toNat default=(up l id b d).getD (ix (up l id b d) id).toNat default
  rw [up_ix]
 rw [e]
 unfold up
 rw [List.set_set,(ix_lt hi).2.2]
theorem up_id {l:List Aa} {id b:Int} {d:Am} (hi:0≤ix l id) (j:Nat):((up l id b d).getD j default).ID=(l.getD j default).ID:=by
 obtain ⟨a1,a2,a3⟩:=ix_lt hi
 rw [List.getD_eq_getElem?_getD,up,List.getElem?_set]
 split
 ·rename_i e;subst e
  rfl
 ·rw [← List.getD_eq_getElem?_getD]
def OkRb (l:List Aa) (id dp:Int) (i:Nat):Prop:=∀ j,j<l.length→i≤j→¬ (3<stpO l (l.getD j default).ID id+dp∧0≤stpO l (l.getD j default).ID id)
instance (l:List Aa) (id dp:Int) (i:Nat):Decidable (OkRb l id dp i):=by unfold OkRb;infer_instance
theorem stpO_b {l:List Aa} (h:Cl l) {on id:Int} (ht:There l on):-1≤stpO l on id∧stpO l on id≤12:=by
 rw [stpO_D h ht]
 have:=h.1
 cases hd:D l id l.length on with
 | none=>exact ⟨by simp,by simp⟩
 | some s=>have:=(D_mono _ _ _ hd).1;exact ⟨by simp only;omega,by simp only;omega⟩
theorem creb_l2 {l:List Aa} (h:ObjsP l) {id b dp:Int} {dd:ByteArray} {dn:Int} (hi:0≤ix l id) (hd:0≤dp∧dp≤10):∀ i,i≤l.length →
  E1 (fun K k=>Ci.l2 K dd dn dp l id b k ((l.length:Nat):Int) (i:Int)) (if OkRb l id dp i then (up l id b (dd,dn),0) else ([],2)):=by
 have hl:=h.1
 refine upto ?_ ?_
 ·refine step1 (fun _ _ _ _ _=>Ci.l2.eq_2 ..) ?_
  rw [if_pos (show OkRb l id dp l.length from fun j hj hi=>by omega)]
  obtain ⟨x1,x2,x3⟩:=ix_lt hi
  refine negD (by omega) (bnd (pos (by simp;omega) (nowE (List.nil_append l))) (bnd (find_ev l id (by omega)) (pos ⟨hi,x1⟩ (pos (by rw [List.length_set];exact ⟨hi,x1⟩) ?_))))
  exact nowE (by rw [← up_up (d:=(ob l id).Data) hi];rfl)
 ·intro i hi' ih
  refine step1 (fun _ _ _ _ _=>Ci.l2.eq_2 ..) ?_
  have hm:l.getD i default∈l:=getD_mem hi'
  have ht:There l (l.getD i default).ID:=.inr (ix_mem hm)
  have hs:=stpO_b h.cl (id:=id) ht
  refine posD (by omega) (pos (by omega) ?_)
  rw [nthN]
  refine bnd (stpO_ev h ht) ?_
  rw [w64 (by omega) (by omega),w1 (by omega)]
  have next:¬ (3<stpO l (l.getD i default).ID id+dp∧0≤stpO l (l.getD i default).ID id)→(if OkRb l id dp (i+1) then (up l id b (dd,dn),(0:Int)) else ([],2))=if OkRb l id dp i then (up l id b (dd,dn),0) else ([],2):=by
   intro hn
   have:OkRb l id dp (i+1)↔OkRb l id dp i:=⟨fun k j hj hij=>by
    by_cases e:j=i
    ·subst e;exact hn
    ·exact k j hj (by omega),fun k j hj hij=>k j hj (by omega)⟩
   by_cases c:OkRb l id dp i
   ·rw [if_pos c,if_pos (this.2 c)]
   ·rw [if_neg c,if_neg (fun z=>c (this.1 z))]
  by_cases c1:3<stpO l (l.getD i default).ID id+dp
  ·refine posD c1 (bnd (stpO_ev h ht) ?_)
   by_cases c2:0≤stpO l (l.getD i default).ID id
   ·rw [if_neg (fun z=>z i hi' (Nat.le_refl _) ⟨c1,c2⟩)]
    exact posD c2 (now _)
   ·exact negD c2 (ofEq ih (next fun z=>c2 z.2))
  ·exact negD c1 (ofEq ih (next fun z=>c1 z.1))
abbrev dpB (l:List Aa) (b:Int):Int:=if b=0 then 1 else (deepP l b).1+1
noncomputable abbrev dtB (l:List Aa) (b:Int) (g:Ab):Am:=if b=0 then pack (frb g) else pack (drb (resP l b).1 g)
noncomputable def rebP (l:List Aa) (id b:Int):List Aa × Int :=
 if (resP l id).2≠0 then ([],(resP l id).2) else if b≠0∧(resP l b).2≠0 then ([],(resP l b).2) else
 if b≠0∧0≤stpO l b id then ([],2) else if OkRb l id (dpB l b) 0 then (up l id b (dtB l b (resP l id).1),0) else ([],2)
theorem resP_deep {l:List Aa} {id:Int} (h:(resP l id).2=0):(deepP l id).2=0:=by
 unfold resP at h
 split at h
 ·rename_i c;exact absurd h c
 ·rename_i c;simpa using c
theorem creb_ev {l:List Aa} (hl:l.length≤1000000) (hs:∀ o∈l,o.Data.Data.size≤1000000) (id b:Int):E0 (fun K=>Ci K l id b) (if ObjsP l then rebP l id b else ([],1)):=by
 refine bnd (cmay_ev hl hs) ?_
 by_cases c1:ObjsP l
 ·rw [if_pos c1]
  refine negM c1 (bnd (cof_ev c1 id) ?_)
  unfold rebP
  by_cases c2:(resP l id).2=0
  ·rw [if_neg (by simpa using c2)]
   have hg:=resP_G c1 c2
   have hi:=(deep_ok (resP_deep c2)).1
   refine negN c2 (bnd (FBits2_ev hg.gp) ?_)
   by_cases c3:b=0
   ·subst c3
    rw [if_neg (fun z=>z.1 rfl),if_neg (fun z=>z.1 rfl)]
    have:=(creb_l2 c1 (b:=0) (dd:=(pack (frb (resP l id).1)).Data) (dn:=(pack (frb (resP l id).1)).N) hi (dp:=1) (by omega) 0 (by omega)).e1
    exact negN rfl this
   ·refine posN c3 (bnd (cof_ev c1 b) ?_)
    by_cases c4:(resP l b).2=0
    ·rw [if_neg (fun z=>z.2 c4)]
     obtain ⟨b1,b2,b3⟩:=deep_ok (resP_deep c4)
     refine negN c4 (bnd (stpO_ev c1 (.inr b1)) ?_)
     by_cases c5:0≤stpO l b id
     ·rw [if_pos ⟨c3,c5⟩];exact posD c5 (now _)
     ·rw [if_neg (fun z=>c5 z.2)]
      refine negD c5 (bnd (deep_ev c1 b) (bnd (dbits_ev (resP_G c1 c4).gp hg.gp) ?_))
      have e1:dpB l b=(deepP l b).1+1:=if_neg c3
      have e2:dtB l b (resP l id).1=pack (drb (resP l b).1 (resP l id).1):=if_neg c3
      rw [w64 (by omega) (by omega),e1,e2]
      exact (creb_l2 c1 (b:=b) hi (dp:=(deepP l b).1+1) (by omega) 0 (by omega)).e1
    ·rw [if_pos ⟨c3,c4⟩];exact posN c4 (now _)
  ·rw [if_pos (by simpa using c2)];exact posN c2 (now _)
 ·rw [if_neg c1];exact posM c1 (now _)
def OkXb (x:List Aa) (id:Int) (i:Nat):Prop:=∀ j,j<x.length→i≤j→¬ (Wk x id (x.length+1) (x.getD j default).ID=id∧(deepP x (x.getD j default).ID).2≠0)
instance (x:List Aa) (id:Int) (i:Nat):Decidable (OkXb x id i):=by unfold OkXb;infer_instance
theorem rreb_l3 {x l:List Aa} (h:Cl x) {id b:Int} {r:Ab × Int} {i:Nat} (hi:i<x.length) {go:Nat→Nat→Int→List Aa→Option (List Aa × Int)} {v:List Aa × Int} :
  ∀ (m n:Nat) (on:Int),n+m=x.length+1→There x on →
   (Wk x id m on=id→E2 (fun K a _=>(Bg K x ((nth x (i:Int)).ID)).bind fun r90=>if (r90.2 != 0) then some (([]:List Aa),2) else go K a (wr .i64 ((i:Int)+1)) x) v) →
   (Wk x id m on≠id→E2 (fun K a _=>go K a (wr .i64 ((i:Int)+1)) x) v) →
   E2 (fun K a c=>Aq.l3 K (go K a) r x (i:Int) l id b c on (n:Int)) v
 | 0,n,on,hn,ht,h1,h2=>by
  refine step2 (fun _ _ _ _ _=>Aq.l3.eq_2 ..) ?_
  rw [Wk] at h1 h2
  by_cases c0:on=0
  ·refine negN c0 ?_
   by_cases c1:on=id
   ·exact negN c1 (pos (by omega) (h1 c1))
   ·exact posN c1 (h2 c1)
  ·refine posN c0 ?_
   by_cases c1:on=id
   ·exact negN c1 (negN c1 (pos (by omega) (h1 c1)))
   ·exact posN c1 (negD (by omega) (posN c1 (h2 c1)))
 | m+1,n,on,hn,ht,h1,h2=>by
  refine step2 (fun _ _ _ _ _=>Aq.l3.eq_2 ..) ?_
  rw [Wk] at h1 h2
  by_cases c0:on=0
  ·rw [if_pos c0] at h1 h2
   refine negN c0 ?_
   by_cases c1:on=id
   ·exact negN c1 (pos (by omega) (h1 c1))
   ·exact posN c1 (h2 c1)
  ·rw [if_neg c0] at h1 h2
   refine posN c0 ?_
   by_cases c1:on=id
   ·rw [if_pos c1] at h1 h2
    exact negN c1 (negN c1 (pos (by omega) (h1 c1)))
   ·rw [if_neg c1] at h1 h2
    have hx:=ht.resolve_left c0
    have hl:=h.1
    refine posN c1 (posD (by omega) (bnd (At_ev x on (by omega)) (pos ⟨hx,(ix_lt hx).1⟩ ?_)))
    rw [nth_ob,w1 (by omega)]
    exact rreb_l3 h hi m (n+1) _ (by omega) (h.2 _ hx) h1 h2
theorem rreb_l2 {x l:List Aa} (h:Cl x) {id b:Int} {r:Ab × Int} (hix:0≤ix x id) {d:Am} (hb:E0 (fun K=>Dx K l b r.1) d):∀ i,i≤x.length →
  E1 (fun K a=>Aq.l2 K r l id b a (i:Int) x) (if OkXb x id i then (x.set (ix x id).toNat ((nth x (ix x id)).ID,(nth x (ix x id)).Base,d),0) else ([],2)):=by
 have hl:=h.1
 refine upto ?_ ?_
 ·refine step1 (fun _ _ _ _ _=>Aq.l2.eq_2 ..) ?_
  rw [if_pos (show OkXb x id x.length from fun j hj hi=>by omega)]
  exact negD (by omega) (bnd (At_ev x id (by omega)) (bnd hb (pos ⟨hix,(ix_lt hix).1⟩ (now _))))
 ·intro i hi ih
  refine step1 (fun _ _ _ _ _=>Aq.l2.eq_2 ..) ?_
  have hm:x.getD i default∈x:=getD_mem hi
  refine posD (by omega) (pos (by omega) ?_)
  rw [nthN]
  rw [← w1 (by omega)] at ih
  have next:¬ (Wk x id (x.length+1) (x.getD i default).ID=id∧(deepP x (x.getD i default).ID).2≠0)→(OkXb x id (i+1)↔OkXb x id i):=fun hn=>⟨fun k j hj hij=>by
    by_cases e:j=i
    ·subst e;exact hn
    ·exact k j hj (by omega),fun k j hj hij=>k j hj (by omega)⟩
  have nx:∀ {A B:List Aa × Int},(OkXb x id (i+1)↔OkXb x id i)→(if OkXb x id (i+1) then A else B)=if OkXb x id i then A else B:=by
   intro A B e
   by_cases c:OkXb x id i
   ·rw [if_pos c,if_pos (e.2 c)]
   ·rw [if_neg c,if_neg (fun z=>c (e.1 z))]
  refine (rreb_l3 (go:=fun K a=>Aq.l2 K r l id b a) h hi (x.length+1) 0 _ (by omega) (.inr (ix_mem hm)) ?_ ?_).e2
  ·intro hw
   rw [nthN]
   refine bnd (rdepth_c h _) ?_
   by_cases c:(deepP x (x.getD i default).ID).2=0
   ·exact negN c (ofEq ih (nx (next fun z=>z.2 c)))
   ·rw [if_neg (fun z=>z i hi (Nat.le_refl _) ⟨hw,c⟩)]
    exact posN c (now _)
  ·intro hw
   exact ofEq ih (nx (next fun z=>hw z.1))
theorem deep_err {x:List Aa} {on:Int} (h:0≤ix x on):(deepP x on).2≠0↔3<(wayP x 4 on).length:=by
 unfold deepP
 rw [if_neg (by omega)]
 split
 ·rename_i c;exact ⟨fun _=>c,fun _=>by decide⟩
 ·rename_i c;exact ⟨fun z=>absurd rfl z,fun z=>absurd z c⟩
theorem okX_iff {l:List Aa} (h:Cl l) {id b:Int} {d:Am} (h0:id≠0) (hi:0≤ix l id) (hb:There l b) (hd:b≠0→(deepP l b).2=0) :
  OkXb (up l id b d) id 0↔¬ (b≠0∧0≤stpO l b id)∧OkRb l id (dpB l b) 0:=by
 have hlen:(up l id b d).length=l.length:=up_len
 have hWk:∀ on,There l on→(Wk (up l id b d) id (l.length+1) on=id↔(D l id l.length on).isSome):=fun on ht=>by
  rw [up_Wk h hi _ _ ht,Wk_D h0,D_any h ht (by omega)]
 have hstp:∀ on,There l on→((0≤stpO l on id)↔(D l id l.length on).isSome):=fun on ht=>by
  rw [stpO_D h ht]
  cases D l id l.length on with
  | none=>simp
  | some s=>simp
 have hb0:D l id l.length 0=none:=by
  cases l.length with
  | zero=>rfl
  | succ n=>rw [D,if_pos rfl]
 cases hdb:D l id l.length b with
 | some t =>
  have hbn:b≠0:=fun e=>by rw [e,hb0] at hdb;cases hdb
  refine ⟨fun k=>?_,fun k=>absurd ⟨hbn,(hstp b hb).2 (by rw [hdb];rfl)⟩ k.1⟩
  exfalso
  obtain ⟨a1,a2,a3⟩:=ix_lt hi
  have hD:D l id l.length id=some 0:=by
   obtain ⟨n,hn⟩:∃ n,l.length=n+1:=⟨l.length-1,by omega⟩
   rw [hn,D,if_neg h0,if_pos rfl]
  refine k (ix l id).toNat (by rw [hlen];exact a2) (Nat.zero_le _) ?_
  rw [hlen,up_id hi]
  have e:(l.getD (ix l id).toNat default).ID=id:=a3
  rw [e]
  refine ⟨(hWk id (.inr hi)).2 (by rw [hD];rfl),?_⟩
  rw [deep_err (by rw [up_ix];exact hi),way_loop h h0 hi hb hdb 4 id (.inr hi) ⟨0,hD⟩]
  omega
 | none =>
  have hw3:(wayP l 4 b).length≤3∧dpB l b=((wayP l 4 b).length:Int)+1:=by
   by_cases c:b=0
   ·subst c;exact ⟨by simp [wayP],by simp [wayP,dpB]⟩
   ·obtain ⟨q1,q2,q3⟩:=deep_ok (hd c)
    exact ⟨q2,by show (if b=0 then (1:Int) else (deepP l b).1+1)=_;rw [if_neg c,q3]⟩
  have one:∀ j,j<l.length→((Wk (up l id b d) id ((up l id b d).length+1) ((up l id b d).getD j default).ID=id∧(deepP (up l id b d) ((up l id b d).getD j default).ID).2≠0)↔(3<stpO l (l.getD j default).ID id+dpB l b∧0≤stpO l (l.getD j default).ID id)):=by
   intro j hj
   have hm:l.getD j default∈l:=getD_mem hj
   have hx:=ix_mem hm
   have ht:There l (l.getD j default).ID:=.inr hx
   rw [hlen,up_id hi,hWk _ ht,deep_err (by rw [up_ix];exact hx),stpO_D h ht]
   cases hs:D l id l.length (l.getD j default).ID with
   | none=>simp
   | some s =>
    rw [way_up h h0 hi hb ht hs hdb hw3.1,hw3.2]
    simp only [Option.isSome_some,true_and]
    omega
  refine ⟨fun k=>⟨fun z=>?_,fun j hj _ z=>k j (by rw [hlen];exact hj) (Nat.zero_le _) ((one j hj).2 z)⟩,fun k j hj _ z=>k.2 j (by rw [hlen] at hj;exact hj) (Nat.zero_le _) ((one j (by rw [hlen] at hj;exact hj)).1 z)⟩
  have:=(hstp b hb).1 z.2
  rw [hdb] at this;cases this
theorem rreb_j1 {l:List Aa} (h:ObjsP l) {id b:Int} (h1:(resP l id).2=0) (h2:b≠0→(resP l b).2=0):E0 (fun K=>Aq.j1 K (resP l id) l id b)
  (if b≠0∧0≤stpO l b id then ([],2) else if OkRb l id (dpB l b) 0 then (up l id b (dtB l b (resP l id).1),0) else ([],2)):=by
 have hl:=h.1
 have hi:=(deep_ok (resP_deep h1)).1
 have h0:id≠0:=fun e=>by subst e;have:=ix0 h;omega
 have hb:There l b:=by
  by_cases c:b=0
  ·exact .inl c
  ·exact .inr (deep_ok (resP_deep (h2 c))).1
 refine bnd (copyO_ev l (by omega)) (bnd (At_ev l id (by omega)) (pos ⟨hi,(ix_lt hi).1⟩ ?_))
 have hcl:=up_cl h.cl (d:=(ob l id).Data) hi hb
 have hxi:0≤ix (up l id b (ob l id).Data) id:=by rw [up_ix];exact hi
 have key:=(rreb_l2 hcl hxi (rby_ev h (resP_G h h1) h2) 0 (by omega)).e1
 rw [up_ix,up_up hi] at key
 refine ofEq key ?_
 have hiff:=okX_iff h.cl (d:=(ob l id).Data) h0 hi hb (fun c=>resP_deep (h2 c))
 by_cases c1:b≠0∧0≤stpO l b id
 ·rw [if_pos c1,if_neg (fun z=>(hiff.1 z).1 c1)]
 ·rw [if_neg c1]
  by_cases c2:OkRb l id (dpB l b) 0
  ·rw [if_pos c2,if_pos (hiff.2 ⟨c1,c2⟩)]
  ·rw [if_neg c2,if_neg (fun z=>c2 (hiff.1 z).2)]
theorem rreb_ev {l:List Aa} (h:ObjsP l) (id b:Int):E0 (fun K=>Aq K l id b) (rebP l id b):=by
 unfold rebP
 refine bnd (rres_ev h id) ?_
 by_cases c2:(resP l id).2=0
 ·rw [if_neg (by simpa using c2)]
  refine negN c2 ?_
  by_cases c3:b=0
  ·rw [if_neg (fun z=>z.1 c3)]
   exact negN c3 (rreb_j1 h c2 (fun z=>absurd c3 z))
  ·refine posN c3 (bnd (rres_ev h b) ?_)
   by_cases c4:(resP l b).2=0
   ·rw [if_neg (fun z=>z.2 c4)]
    exact negN c4 (rreb_j1 h c2 (fun _=>c4))
   ·rw [if_pos ⟨c3,c4⟩];exact posN c4 (now _)
 ·rw [if_pos (by simpa using c2)];exact posN c2 (now _)
end Go.XL
end
section
namespace Go.XL
open Go.XM
theorem wakes9j (j:Nat):Da (j+40)=some true:=by kernel_rfl
theorem wakes9_ev:E0 (fun K=>Da K) true :=
 ⟨40,fun K _ _ _ _ h _ _ _ _=>by
  obtain ⟨j,rfl⟩:∃ j,K=j+40:=⟨K-40,by omega⟩
  exact wakes9j j⟩
variable {x:Cv} {l:List Aa} {q:List Int} {i t:Nat}
end Go.XL
end
section
namespace Go.XL
open Go.XM
theorem lawO_ev (xs:List Aa) (hl:xs.length≤1000000):E0 (fun K=>B4 K xs) ():=by
 have key:∀ i,i≤xs.length→∀ ys:List Aa,ys.length=xs.length→E1 (fun K k=>B4.l1 K k (i:Int) ys) ():=by
  refine upto ?_ ?_
  ·intro ys hy
   refine step1 (fun _ _ _ _ _=>B4.l1.eq_2 ..) ?_
   exact negD (by omega) (now _)
  ·intro i hi ih ys hy
   refine step1 (fun _ _ _ _ _=>B4.l1.eq_2 ..) ?_
   refine posD (by omega) (pos (by omega) ?_)
   rw [w1 (by omega)]
   exact ih _ (by rw [List.length_set];exact hy)
 exact (key 0 (by omega) xs rfl).e1
theorem ccheck_ev {l:List Aa} (hl:l.length≤1000000) (hs:∀ o∈l,o.Data.Data.size≤1000000):E0 (fun K=>En K l) (if ObjsP l then 0 else 1):=by
 refine bnd (cmay_ev hl hs) ?_
 by_cases c:ObjsP l
 ·rw [if_pos c];exact negM c (now _)
 ·rw [if_neg c];exact posM c (now _)
theorem rebP_len {l:List Aa} {id b:Int} (hl:l.length≤1000):(rebP l id b).1.length≤1000000:=by
 unfold rebP
 split
 ·simp
 ·split
  ·simp
  ·split
   ·simp
   ·split
    ·show (up _ _ _ _).length≤_;rw [up_len];omega
    ·simp
theorem resP_sm {l:List Aa} {id:Int} (h:ObjsP l):GSm (resP l id).1:=by
 by_cases c:(resP l id).2=0
 ·exact (resP_G h c).sm
 ·rw [resP_bad c];decide
variable {x:Cv} {l:List Aa} {q:List Int} {i t:Nat}
theorem ct_j5 {go1:Nat→Nat→Int→Option Bool} {go2:Nat→Nat→Nat→Int→Option Bool} {go4:Nat→Nat→Nat→Nat→Int→Option Bool} (hi:i<x.L.length) (hl:x.L.getD i default=l) (hs:ObSm l) (r:List Aa × Int) (hr:r.1.length≤1000000) {m:Bool} {j:Nat} (hj:j<3000)
  (h3:E3 (fun K a b c=>go4 K a b c ((j+1:Nat):Int)) true) :
  E3 (fun K a b c=>Ac.j5 K (go1 K a) (go2 K a b) (go4 K a b c) r l m q (i:Int) (t:Int) (j:Int) x r.2 r.1) true:=by
 refine bnd (now _) (negN rfl (bnd (eqO_ev r.1 hr) (negB rfl (pos (by omega) ?_))))
 rw [nthN,hl]
 refine bnd (eqO_ev l (by have:=hs.1;omega)) (negB rfl (bnd (lawO_ev r.1 hr) (pos (by omega) (bnd (eqO_ev l (by have:=hs.1;omega)) (negB rfl ?_)))))
 rw [w1 (by omega)]
 exact h3
theorem ct_l4 {go1:Nat→Nat→Int→Option Bool} {go2:Nat→Nat→Nat→Int→Option Bool} (hi:i<x.L.length) (hl:x.L.getD i default=l) (hs:ObSm l) (ht:t<q.length) (hq:q.length≤2000)
  (h2:E2 (fun K a b=>go2 K a b (wr .i64 ((t:Int)+1))) true):∀ j:Nat,j≤q.length→E3 (fun K a b c=>Ac.l4 K (go1 K a) (go2 K a b) l (decide (ObjsP l)) q (i:Int) (t:Int) x c (j:Int)) true:=by
 have out:E3 (fun K a b _=>go2 K a b (wr .i64 ((t:Int)+1))) true:=h2
 have hll:l.length≤1000000:=by have:=hs.1;omega
 refine upto ?_ ?_
 ·refine step3 (fun _ _ _ _ _=>Ac.l4.eq_2 ..) ?_
  exact negD (by omega) out
 ·intro j hj ih
  refine step3 (fun _ _ _ _ _=>Ac.l4.eq_2 ..) ?_
  refine posD (by omega) (pos (by omega) (pos (by omega) (bnd (creb_ev hll hs.2 _ _) ?_)))
  by_cases c1:ObjsP l
  ·rw [if_pos c1]
   refine pos (by simpa using c1) (pos (by omega) (pos (by omega) (pos (by omega) ?_)))
   rw [nthN x.L,hl]
   exact bnd (rreb_ev c1 _ _) (ct_j5 hi hl hs _ (rebP_len hs.1) (by omega) ih)
  ·rw [if_neg c1]
   refine neg (by simpa using c1) ?_
   exact ct_j5 hi hl hs ([],1) (by decide) (by omega) ih
theorem ct_j3 {go1:Nat→Nat→Int→Option Bool} {go2:Nat→Nat→Nat→Int→Option Bool} (hi:i<x.L.length) (hl:x.L.getD i default=l) (hs:ObSm l) (ht:t<q.length) (hq:q.length≤2000)
  (h2:E2 (fun K a b=>go2 K a b (wr .i64 ((t:Int)+1))) true) (r:Int × Int) (r2:Ab × Int) (hg:GSm r2.1) :
  E2 (fun K a b=>Ac.j3 K (go1 K a) (go2 K a b) l (decide (ObjsP l)) q r r2 (i:Int) (t:Int) x r.2 r2.2 r.1 r2.1.N r2.1.Out) true:=by
 refine bnd (now _) (negN rfl (negN rfl (bnd (now _) (negN rfl ?_))))
 refine bnd (eqG_ev r2.1 hg) (negB rfl (bnd (lawG_ev r2.1 hg) ?_))
 exact (ct_l4 hi hl hs ht hq h2 0 (by omega)).e3
theorem ct_l2 {go1:Nat→Nat→Int→Option Bool} (hi:i<x.L.length) (hl:x.L.getD i default=l) (hs:ObSm l) (hq:q.length≤2000)
  (h1:E1 (fun K a=>go1 K a (wr .i64 ((i:Int)+1))) true):∀ t:Nat,t≤q.length→E2 (fun K a b=>Ac.l2 K (go1 K a) l (decide (ObjsP l)) q (i:Int) x b (t:Int)) true:=by
 have out:E2 (fun K a _=>go1 K a (wr .i64 ((i:Int)+1))) true:=h1
 have hll:l.length≤1000000:=by have:=hs.1;omega
 refine upto ?_ ?_
 ·refine step2 (fun _ _ _ _ _=>Ac.l2.eq_2 ..) ?_
  exact negD (by omega) out
 ·intro t ht ih
  refine step2 (fun _ _ _ _ _=>Ac.l2.eq_2 ..) ?_
  rw [← w1 (by omega)] at ih
  refine posD (by omega) (pos (by omega) (bnd (depth_ev hll hs.2 _) (pos (by omega) (bnd (cgraph_ev hll hs.2 _) ?_))))
  by_cases c1:ObjsP l
  ·rw [if_pos c1,if_pos c1]
   refine pos (by simpa using c1) (pos (by omega) (pos (by omega) ?_))
   rw [nthN x.L,hl]
   refine bnd (rdepth_ev c1 _) (pos (by omega) (pos (by omega) (bnd (rres_ev c1 _) ?_)))
   exact ct_j3 (go2:=fun K a b=>Ac.l2 K (go1 K a) l (decide (ObjsP l)) q (i:Int) x b) hi hl hs ht hq ih _ _ (resP_sm c1)
  ·rw [if_neg c1,if_neg c1]
   refine neg (by simpa using c1) ?_
   exact ct_j3 (go2:=fun K a b=>Ac.l2 K (go1 K a) l (decide (ObjsP l)) q (i:Int) x b) hi hl hs ht hq ih (0,1) (G0,1) (by decide)
theorem ct_l1 (hN:x.N.length≤1000) (hL:∀ l∈x.L,ObSm l):∀ i:Nat,i≤4→E1 (fun K a=>Ac.l1 K x a (i:Int)) true:=by
 refine upto ?_ ?_
 ·refine step1 (fun _ _ _ _ _=>Ac.l1.eq_2 ..) ?_
  by_cases c:4<x.L.length
  ·exact posD (by omega) (negD (by omega) (bnd wakes9_ev (now _)))
  ·exact negD (by omega) (bnd wakes9_ev (now _))
 ·intro i hi ih
  refine step1 (fun _ _ _ _ _=>Ac.l1.eq_2 ..) ?_
  by_cases c:i<x.L.length
  ·have hs:=hL _ (getD_mem (d:=default) c)
   have hll:(x.L.getD i default).length≤1000000:=by have:=hs.1;omega
   obtain ⟨q,q1,q2⟩:=ids_ev x (x.L.getD i default) hN hs.1
   refine posD (by omega) (posD (by omega) (pos (by omega) ?_))
   rw [nthN]
   refine bnd (copyO_ev _ hll) (pos (by omega) (bnd (robj_ev hll hs.2) (bnd (ccheck_ev hll hs.2) (bnd (now _) (negB ?_ (bnd q1 ?_))))))
   ·by_cases c1:ObjsP (x.L.getD i default)
    ·rw [if_pos c1,decide_eq_true c1];rfl
    ·rw [if_neg c1,decide_eq_false c1];rfl
   ·rw [← w1 (by omega)] at ih
    exact (ct_l2 (go1:=fun K a=>Ac.l1 K x a) c rfl hs q2 ih 0 (by omega)).e2
  ·exact negD (by omega) (bnd wakes9_ev (now _))
theorem chainTells_pure (x:Cv) (h1:x.L.length≤17592186044416) (h2:∀ l∈x.L,l.length≤17592186044416∧∀ o∈l,o.Data.Data.size≤140737488351232) (h3:x.N.length≤17592186044416)
  (hl:x.G.G.length≤17592186044416) (hx:∀ g∈x.G.G,Gfit g) (ha:x.G.A.length≤17592186044416):∃ K,Ac K x=some true:=by
 obtain ⟨b,e,hb⟩:=heavy9_ev x h1 h2 h3 hl hx ha
 refine Ev.get (g:=fun K=>Ac K x) (r:=true) (bnd e ?_)
 cases b with
 | true=>exact pos rfl (now _)
 | false =>
  obtain ⟨a1,a2,a3,a4⟩:=hb rfl
  exact negB rfl (ct_l1 a2 a3 0 (by omega)).e1
end Go.XL
end
