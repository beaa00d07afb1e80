import Derived.Test.YtdcicijfcbhgnaaGreatSrP0
set_option linter.all false
section
namespace Go.XL
open Go.XM
noncomputable def stepG (g:Aa) (o:Ab):Option Aa:=if o.Base=0 then tkF (ofb o.Data) else tkD (ofb o.Data) g
noncomputable def foldG:Aa→List Ab→Option Aa
 | g,[]=>some g
 | g,o::r=>match stepG g o with
  | some g'=>foldG g' r
  | none=>none
noncomputable def tell (x:Option Aa):Aa × Int:=match x with
 | some g=>(g,0)
 | none=>(G0,9)
theorem foldG_snoc (o:Ab):∀ (w:List Ab) (g:Aa),foldG g (w++[o])=match foldG g w with | some g'=>stepG g' o | none=>none
 | [],g=>by
  simp only [List.nil_append,foldG]
  cases stepG g o <;> rfl
 | x::w,g=>by
  simp only [List.cons_append,foldG]
  cases stepG g x with
  | none=>rfl
  | some g'=>exact foldG_snoc o w g'
theorem stepG_G {g g':Aa} {o:Ab} (h:stepG g o=some g'):GraphP g':=by
 unfold stepG at h
 split at h
 ·exact tkF_G h
 ·exact tkD_G h
theorem foldG_G:∀ {w:List Ab} {g g':Aa},foldG g w=some g'→w≠[]→GraphP g'
 | [],g,g',h,hn=>absurd rfl hn
 | o::w,g,g',h,_=>by
  simp only [foldG] at h
  cases hs:stepG g o with
  | none=>rw [hs] at h;cases h
  | some g1 =>
   rw [hs] at h
   cases w with
   | nil=>simp only [foldG,Option.some.injEq] at h;subst h;exact stepG_G hs
   | cons x w=>exact foldG_G h (by simp)
theorem of_l1:∀ (w:List Ab) (g:Aa),(∀ o∈w,MayB o.Data)→(∀ o r,w=o::r→o.Base≠0→GP g)→E0 (fun K=>Dl.l1 K w 0 0 g.N g.Out) (tell (foldG g w))
 | [],g,_,_=>now _
 | o::w,g,hw,hg=>by
  have hb:=hw o List.mem_cons_self
  have hB:Bt (ofb o.Data):=ofb_Bt _
  have hl:(ofb o.Data).length≤1000000:=by rw [ofb_len];have:=hb.2.1;omega
  have hp:pack (ofb o.Data)=o.Data:=pack_ofb hb
  have next:∀ {g':Aa},stepG g o=some g'→E0 (fun K=>Dl.l1 K w 0 0 g'.N g'.Out) (tell (foldG g (o::w))):=by
   intro g' hs
   have:foldG g (o::w)=foldG g' w:=by simp only [foldG,hs]
   rw [this]
   exact of_l1 w g' (fun x hx=>hw x (List.mem_cons_of_mem _ hx)) (fun _ _ _ _=>(stepG_G hs).gp)
  have stop:stepG g o=none→tell (foldG g (o::w))=(G0,9):=fun hs=>by simp only [foldG,hs,tell]
  by_cases c:o.Base=0
  ·obtain ⟨res,h1,h2⟩:=fread_any hB hl
   rw [hp] at h1
   refine posE c (bnd h1 ?_)
   cases ht:tkF (ofb o.Data) with
   | none =>
    rw [ht] at h2
    rw [stop (by unfold stepG;rw [if_pos c,ht])]
    exact pos (by rw [h2];rfl) (now _)
   | some g' =>
    rw [ht] at h2
    subst h2
    exact negB rfl (next (by unfold stepG;rw [if_pos c,ht]))
  ·obtain ⟨res,h1,h2⟩:=dread_any hB hl (hg o w rfl c)
   rw [hp] at h1
   refine negE c (bnd h1 ?_)
   cases ht:tkD (ofb o.Data) g with
   | none =>
    rw [ht] at h2
    rw [stop (by unfold stepG;rw [if_neg c,ht])]
    exact pos (by rw [h2];rfl) (now _)
   | some g' =>
    rw [ht] at h2
    subst h2
    exact negB rfl (next (by unfold stepG;rw [if_neg c,ht]))
theorem way_end {l:List Ab}:∀ (m:Nat) (id:Int),id≠0→(wayP l (m+1) id).length≤m→(∀ k,wayP l (m+k) id=wayP l m id)∧∃ o r,(wayP l m id).reverse=o::r∧o.Base=0
 | 0,id,h0,h=>by
  rw [wayP,if_neg h0] at h
  simp at h
 | m+1,id,h0,h=>by
  rw [wayP,if_neg h0,List.length_cons] at h
  have e:∀ k,wayP l (k+1) id=ob l id::wayP l k (ob l id).Base:=fun k=>by rw [wayP,if_neg h0]
  by_cases c:(ob l id).Base=0
  ·have z:∀ k,wayP l k 0=[]:=fun k=>by cases k <;> simp [wayP]
   refine ⟨fun k=>?_,ob l id,[],?_,c⟩
   ·rw [show m+1+k=m+k+1 by omega,e,e,c,z,z]
   ·rw [e,c,z];rfl
  ·obtain ⟨h1,o,r,h2,h3⟩:=way_end (l:=l) m (ob l id).Base c (by omega)
   refine ⟨fun k=>?_,o,r++[ob l id],?_,h3⟩
   ·rw [show m+1+k=m+k+1 by omega,e,e,h1]
   ·rw [e,List.reverse_cons,h2];rfl
noncomputable def resP (l:List Ab) (id:Int):Aa × Int:=if (deepP l id).2≠0 then (G0,(deepP l id).2) else tell (foldG G0 (wayP l 3 id).reverse)
theorem deep_ok {l:List Ab} {id:Int} (h:(deepP l id).2=0):0≤ix l id∧(wayP l 4 id).length≤3∧(deepP l id).1=((wayP l 4 id).length:Int):=by
 unfold deepP at h ⊢
 split at h
 ·cases h
 ·split at h
  ·cases h
  ·rename_i c1 c2
   exact ⟨by omega,by omega,by rw [if_neg c1,if_neg c2]⟩
theorem way_mem {l:List Ab} (h:ObjsP l):∀ (m:Nat) (id:Int),There l id→∀ o∈wayP l m id,MayB o.Data
 | 0,id,hi,o,ho=>by simp [wayP] at ho
 | m+1,id,hi,o,ho=>by
  rw [wayP] at ho
  by_cases c:id=0
  ·rw [if_pos c] at ho;cases ho
  ·rw [if_neg c] at ho
   have hx:0≤ix l id:=hi.resolve_left c
   rcases List.mem_cons.1 ho with rfl | ho
   ·exact ob_mayB h hx
   ·exact way_mem h m _ (there_base h hx) o ho
theorem way_len {l:List Ab}:∀ (m:Nat) (id:Int),(wayP l m id).length≤m
 | 0,id=>by simp [wayP]
 | m+1,id=>by
  rw [wayP]
  split
  ·simp
  ·have:=way_len (l:=l) m (ob l id).Base
   simp only [List.length_cons];omega
theorem cof_ev {l:List Ab} (h:ObjsP l) (id:Int):E0 (fun K=>Dl K l id) (resP l id):=by
 unfold resP
 refine bnd (deep_ev h id) ?_
 by_cases c:(deepP l id).2=0
 ·rw [if_neg (by simpa using c)]
  obtain ⟨h1,h2,h3⟩:=deep_ok c
  have h0:id≠0:=fun e=>by subst e;have:=ix0 h;omega
  obtain ⟨_,o,r,h4,h5⟩:=way_end 3 id h0 h2
  have hw:=way_len (l:=l) 3 id
  refine negN c (bnd (way_ev h (m:=3) (by omega) (.inr h1)) (pos (by omega) ?_))
  refine of_l1 _ G0 (fun o ho=>way_mem h 3 id (.inr h1) o (List.mem_reverse.1 ho)) (fun o' r' e hb=>?_)
  rw [h4] at e
  cases e
  exact absurd h5 hb
 ·rw [if_pos (by simpa using c)]
  exact posN c (now _)
theorem resP_G {l:List Ab} {id:Int} (ho:ObjsP l) (h:(resP l id).2=0):GraphP (resP l id).1:=by
 unfold resP at h ⊢
 split at h
 ·rename_i c;exact absurd h c
 ·rename_i c
  have c:(deepP l id).2=0:=by simpa using c
  rw [if_neg (by simpa using c)]
  obtain ⟨h1,h2,h3⟩:=deep_ok c
  cases hf:foldG G0 (wayP l 3 id).reverse with
  | none=>rw [hf] at h;cases h
  | some g =>
   refine foldG_G hf fun e=>?_
   have h0:id≠0:=fun e=>by subst e;have:=ix0 ho;omega
   obtain ⟨_,o,r,h4,_⟩:=way_end (l:=l) 3 id h0 h2
   rw [h4] at e;cases e
end Go.XL
end
section
namespace Go.XL
open Go.XM
abbrev Zo:Ab:=(0,0,((ByteArray.empty,0):Ao))
def nextId (l:List Ab):Int:=if 0<l.length then (l.getD (l.length-1) default).ID+1 else 1
noncomputable def makeP (l:List Ab) (p:Int) (g:Aa):Ab × Int :=
 if 12≤l.length then (Zo,2) else if 1048576<nextId l then (Zo,2) else
 if p=0 then ((nextId l,0,pack (frb g)),0) else if (resP l p).2≠0 then (Zo,(resP l p).2) else
 if (deepP l p).1<3∧((drb (resP l p).1 g).length:Int)<((frb g).length:Int) then ((nextId l,p,pack (drb (resP l p).1 g)),0) else ((nextId l,0,pack (frb g)),0)
theorem cmake_j1 {l:List Ab} {p:Int} {g:Aa} (h:ObjsP l) (hg:GraphP g) {a b c:Int} {s:ByteArray}:E0 (fun K=>De.j1 K (pack (frb g)) l p g a b s c (nextId l) 0) (makeP l p g):=by
 unfold makeP
 by_cases c1:12≤l.length
 ·rw [if_pos c1];exact posD (by omega) (now _)
 rw [if_neg c1]
 refine negD (by omega) ?_
 by_cases c2:1048576<nextId l
 ·rw [if_pos c2];exact posD c2 (now _)
 rw [if_neg c2]
 refine negD c2 ?_
 by_cases c3:p=0
 ·rw [if_pos c3];exact posE c3 (now _)
 rw [if_neg c3]
 refine negE c3 (bnd (cof_ev h p) ?_)
 by_cases c4:(resP l p).2=0
 ·rw [if_neg (by simpa using c4)]
  refine negN c4 (bnd (deep_ev h p) (bnd (dbits_ev (resP_G h c4).gp hg.gp) ?_))
  by_cases c5:(deepP l p).1<3
  ·refine posD c5 ?_
   by_cases c6:((drb (resP l p).1 g).length:Int)<((frb g).length:Int)
   ·exact posD c6 (nowE (by rw [if_pos ⟨c5,c6⟩]))
   ·exact negD c6 (nowE (by rw [if_neg (fun z=>c6 z.2)]))
  ·exact negD c5 (nowE (by rw [if_neg (fun z=>c5 z.1)]))
 ·rw [if_pos (by simpa using c4)]
  exact posN c4 (now _)
theorem next_wr {l:List Ab} (h:ObjsP l) (hl:0<l.length):wr .i64 ((nth l (wr .i64 (((l.length:Nat):Int)-1))).ID+1)=nextId l∧(0:Int)≤wr .i64 (((l.length:Nat):Int)-1)∧wr .i64 (((l.length:Nat):Int)-1)<((l.length:Nat):Int):=by
 have h1:=h.1
 have e:wr .i64 (((l.length:Nat):Int)-1)=((l.length-1:Nat):Int):=by rw [w64 (by omega) (by omega)];omega
 rw [e,nthN]
 have h2:=h.2 (l.length-1) (by omega)
 have a1:=h2.1
 have a2:=h2.2.1
 refine ⟨?_,by omega,by omega⟩
 unfold nextId
 rw [if_pos hl,w64 (by omega) (by omega)]
theorem cmake_ev {l:List Ab} (hl:l.length≤1000000) (hs:∀ o∈l,o.Data.Data.size≤1000000) (p:Int) {g:Aa} (hg:GSm g):E0 (fun K=>De K l p g) (if ObjsP l∧GraphP g then makeP l p g else (Zo,1)):=by
 refine bnd (cmay_ev hl hs) ?_
 by_cases c1:ObjsP l
 ·refine negM c1 (bnd (gmayG_ev g hg) ?_)
  by_cases c2:GraphP g
  ·rw [if_pos ⟨c1,c2⟩]
   refine negM c2 (bnd (FBits2_ev c2.gp) ?_)
   by_cases c3:0<l.length
   ·obtain ⟨e1,e2,e3⟩:=next_wr c1 c3
    refine posD (by omega) (pos ⟨e2,e3⟩ ?_)
    rw [e1]
    exact cmake_j1 c1 c2
   ·have e:nextId l=1:=by unfold nextId;rw [if_neg c3]
    refine negD (by omega) ?_
    rw [← e]
    exact cmake_j1 c1 c2
  ·rw [if_neg (fun z=>c2 z.2)];exact posM c2 (now _)
 ·rw [if_neg (fun z=>c1 z.1)];exact posM c1 (now _)
end Go.XL
end
section
namespace Go.XL
open Go.XM
def HasE (g:Aa) (a b:Int):Prop:=0≤a∧a<g.N∧b∈g.Out.getD a.toNat []
instance (g:Aa) (a b:Int):Decidable (HasE g a b):=by unfold HasE;infer_instance
noncomputable def grP (l:List Ab):List Ab→List Aa→List Aa × Int
 | [],acc=>(acc,0)
 | o::r,acc=>if (resP l o.ID).2≠0 then ([],(resP l o.ID).2) else grP l r (acc++[(resP l o.ID).1])
theorem grP_ok {l:List Ab}:∀ (r:List Ab) (acc:List Aa),(∀ o∈r,(resP l o.ID).2=0)→grP l r acc=(acc++r.map (fun o=>(resP l o.ID).1),0)
 | [],acc,_=>by simp [grP]
 | o::r,acc,h=>by
  have h1:=h o List.mem_cons_self
  rw [grP,if_neg (by simpa using h1),grP_ok r _ fun x hx=>h x (List.mem_cons_of_mem _ hx)]
  simp
theorem graphs_l1 {l:List Ab} (h:ObjsP l):∀ i,i≤l.length→∀ acc:List Aa,acc.length≤i→E1 (fun K k=>Bz.l1 K l k ((l.length:Nat):Int) (i:Int) acc) (grP l (l.drop i) acc):=by
 have hl:=h.1
 refine upto ?_ ?_
 ·intro acc _
  refine step1 (fun _ _ _ _ _=>Bz.l1.eq_2 ..) ?_
  rw [List.drop_length]
  exact negD (by omega) (now _)
 ·intro i hi ih acc ha
  refine step1 (fun _ _ _ _ _=>Bz.l1.eq_2 ..) ?_
  refine posD (by omega) (pos (by omega) ?_)
  rw [nthN,drop_getD (d:=default) hi,grP]
  refine bnd (cof_ev h _) ?_
  by_cases c:(resP l (l.getD i default).ID).2=0
  ·rw [if_neg (by simpa using c)]
   refine negN c (pos (by simp;omega) ?_)
   rw [w1 (by omega)]
   exact ih _ (by simp;omega)
  ·rw [if_pos (by simpa using c)]
   exact posN c (now _)
theorem graphs_ev {l:List Ab} (hl:l.length≤1000000) (hs:∀ o∈l,o.Data.Data.size≤1000000):E0 (fun K=>Bz K l) (if ObjsP l then grP l l [] else ([],1)):=by
 refine bnd (cmay_ev hl hs) ?_
 by_cases c:ObjsP l
 ·rw [if_pos c];exact negM c ((graphs_l1 c 0 (by omega) [] (by simp)).e1)
 ·rw [if_neg c];exact posM c (now _)
theorem gIs_ev (g:Aa) (a:Int):E0 (fun K=>Ea K g a) (decide (0≤a∧a<g.N)):=by
 unfold Ea
 by_cases c:a≥0
 ·exact posD c (nowE (decide_eq_decide.2 ⟨fun h=>⟨c,h⟩,fun h=>h.2⟩))
 ·exact negD c (nowE (decide_eq_false fun h=>c h.1).symm)
theorem gpIs_ev {a:Int} (h:0≤a∧a<16):E0 (fun K=>Ds K a) true:=by
 unfold Ds
 exact posD (by omega) (nowE (decide_eq_true h.2))
theorem gout_len {g:Aa} (h:GraphP g) (i:Nat):(g.Out.getD i []).length≤1000000:=by
 by_cases c:i<g.Out.length
 ·have h1:=lsum_mem (getD_mem (d:=[]) c)
  have h2:=h.2.2.2.2
  omega
 ·rw [List.getD_eq_getElem?_getD,List.getElem?_eq_none (by omega)];simp
theorem rhas_ev {g:Aa} (h:GraphP g) (a b:Int):E0 (fun K=>Dj K g a b) (decide (HasE g a b)):=by
 have hgl:=gout_len h
 obtain ⟨h0,h1,h2,_⟩:=h
 have num:E0 (fun K=>Ci K a (wr .i64 (g.N-1))) (decide (0≤a∧a<g.N)):=by
  unfold Ci
  rw [w64 (by omega) (by omega)]
  by_cases c:a≥0
  ·exact posD c (nowE (decide_eq_decide.2 ⟨fun h=>⟨c,by omega⟩,fun h=>by omega⟩))
  ·exact negD c (nowE (decide_eq_false fun h=>c h.1).symm)
 refine bnd num ?_
 by_cases c:0≤a∧a<g.N
 ·refine pos (by simpa using c) (pos (by omega) ?_)
  obtain ⟨r,hr,hr2⟩:=in_ev (g.Out.getD a.toNat []) b (hgl _)
  rw [rd1I]
  exact bnd hr (nowE (decide_eq_decide.2 ⟨fun k=>⟨c.1,c.2,hr2.1 k⟩,fun k=>hr2.2 k.2.2⟩))
 ·exact neg (by simpa using c) (nowE (decide_eq_false fun k=>c ⟨k.1,k.2.1⟩).symm)
def edgeL (a b:Int):List Ab→List Aa→List Int
 | o::l,g::gs=>if HasE g a b then o.ID::edgeL a b l gs else edgeL a b l gs
 | _,_=>[]
theorem edge_l1 {l:List Ab} {gs:List Aa} (hl:l.length≤12) (hlen:gs.length=l.length) (hG:∀ g∈gs,GraphP g) {a b:Int}:∀ i,i≤gs.length→∀ acc:List Int,acc.length≤i →
  E1 (fun K k=>B8.l1 K (gs,0) l a b k ((gs.length:Nat):Int) (i:Int) acc) (acc++edgeL a b (l.drop i) (gs.drop i),0):=by
 refine upto ?_ ?_
 ·intro acc _
  refine step1 (fun _ _ _ _ _=>B8.l1.eq_2 ..) ?_
  rw [List.drop_length]
  refine negD (by omega) (nowE ?_)
  cases l.drop gs.length <;> simp [edgeL]
 ·intro i hi ih acc ha
  refine step1 (fun _ _ _ _ _=>B8.l1.eq_2 ..) ?_
  have hg:=hG _ (getD_mem (d:=default) hi)
  have hi2:i<l.length:=by omega
  refine posD (by omega) (pos (show (0:Int)≤(i:Int)∧(i:Int)<((gs.length:Nat):Int) by omega) ?_)
  rw [nthN gs,drop_getD (d:=default) hi2,drop_getD (d:=default) hi]
  generalize gs.getD i default=g at hg
  rw [edgeL]
  have no:¬ HasE g a b→Ev (fun K k _ _ _=>B8.j2 K (B8.l1 K (gs,0) l a b k) acc (gs,0) ((gs.length:Nat):Int) (i:Int) l a b false) (acc++if HasE g a b then (l.getD i default).ID::edgeL a b (l.drop (i+1)) (gs.drop (i+1)) else edgeL a b (l.drop (i+1)) (gs.drop (i+1)),0):=by
   intro c
   rw [if_neg c]
   refine negB rfl ?_
   rw [w1 (by omega)]
   exact ih acc (by omega)
  refine bnd (gIs_ev g a) ?_
  by_cases c1:0≤a∧a<g.N
  ·have h2:=hg.2.2.1
   refine pos (by simpa using c1) (pos (by omega) ?_)
   rw [rd1I]
   refine bnd (contains_ev _ b (gout_len hg _)) ?_
   by_cases c2:b∈g.Out.getD a.toNat []
   ·rw [decide_eq_true c2,if_pos ⟨c1.1,c1.2,c2⟩]
    refine pos rfl (pos (by omega) (pos (by simp;omega) ?_))
    rw [w1 (by omega),nthN]
    have:=ih (acc++[(l.getD i default).ID]) (by simp;omega)
    rwa [List.append_assoc] at this
   ·rw [decide_eq_false c2]
    exact no fun k=>c2 k.2.2
  ·exact neg (by simpa using c1) (no fun k=>c1 ⟨k.1,k.2.1⟩)
theorem edge_ev {l:List Ab} {gs:List Aa} (hl:l.length≤12) (hlen:gs.length=l.length) (hG:∀ g∈gs,GraphP g) (hg:E0 (fun K=>Bz K l) (gs,0)) {a b:Int} (ha:0≤a∧a<16) (hb:0≤b∧b<16) :
  E0 (fun K=>B8 K l a b) (edgeL a b l gs,0) :=
 bnd (gpIs_ev ha) (negB rfl (bnd (gpIs_ev hb) (negB rfl (bnd hg (negN rfl (edge_l1 hl hlen hG 0 (by omega) [] (by simp)).e1)))))
def bst (g:Aa) (p:Int × Int) (o:Ab × Aa):Int × Int:=if ((drb o.2 g).length:Int)<p.2 then (o.1.ID,((drb o.2 g).length:Int)) else p
def bi (l:List Ab) (gs:List Aa) (i:Nat):Int:=(((l.zip gs).take i).foldl (bst (gs.getD i default)) (0,((frb (gs.getD i default)).length:Int))).1
theorem bst_spec (g:Aa) (m:Int):∀ (ps:List (Ab × Aa)) (id least:Int),(∀ p∈ps,1≤p.1.ID∧p.1.ID≤m)→0≤id→id≤m →
  0≤(ps.foldl (bst g) (id,least)).1∧(ps.foldl (bst g) (id,least)).1≤m∧(id≠0→(ps.foldl (bst g) (id,least)).1≠0)∧((ps.foldl (bst g) (id,least)).1=0→∀ p∈ps,¬ ((drb p.2 g).length:Int)<least)
 | [],id,least,_,h0,h1=>⟨h0,h1,fun h=>h,fun _ p hp=>by cases hp⟩
 | q::ps,id,least,h,h0,h1=>by
  have hq:=h q List.mem_cons_self
  have ht:∀ p∈ps,1≤p.1.ID∧p.1.ID≤m:=fun p hp=>h p (List.mem_cons_of_mem _ hp)
  rw [List.foldl_cons]
  by_cases c:((drb q.2 g).length:Int)<least
  ·have e:bst g (id,least) q=(q.1.ID,((drb q.2 g).length:Int)):=if_pos c
   rw [e]
   obtain ⟨a1,a2,a3,a4⟩:=bst_spec g m ps q.1.ID ((drb q.2 g).length:Int) ht (by omega) hq.2
   have:=a3 (by omega)
   exact ⟨a1,a2,fun _=>this,fun z=>absurd z this⟩
  ·have e:bst g (id,least) q=(id,least):=if_neg c
   rw [e]
   obtain ⟨a1,a2,a3,a4⟩:=bst_spec g m ps id least ht h0 h1
   refine ⟨a1,a2,a3,fun z p hp=>?_⟩
   rcases List.mem_cons.1 hp with rfl | hp
   ·exact c
   ·exact a4 z p hp
theorem best_l2 {l:List Ab} {gs:List Aa} (hl:l.length≤12) (hlen:gs.length=l.length) (hG:∀ g∈gs,GraphP g) {go:Nat→Nat→List Aa→Int→Int→List Int→Option (List Int × Int)} {i:Nat} (hi:i<gs.length) {best:List Int} (hb:best.length≤12) {g:Aa} (hg:GraphP g) {v:List Int × Int} :
  ∀ k:Nat,k≤i→∀ id least:Int,E2 (fun K a _=>go K a gs ((gs.length:Nat):Int) ((i+1:Nat):Int) (best++[((((l.zip gs).take i).drop k).foldl (bst g) (id,least)).1])) v →
   E2 (fun K a b=>B9.l2 K (go K a) (gs,0) ((gs.length:Nat):Int) (i:Int) l b gs id least (gs.take i) (((gs.take i).length:Nat):Int) (k:Int) best g.N g.Out) v:=by
 have hz:((l.zip gs).take i).length=i:=by simp;omega
 have ht:(gs.take i).length=i:=by simp;omega
 refine upto ?_ ?_
 ·intro id least hv
  refine step2 (fun _ _ _ _ _=>B9.l2.eq_2 ..) ?_
  rw [List.drop_eq_nil_of_le (by omega)] at hv
  refine negD (by omega) (pos (by simp;omega) ?_)
  rw [w1 (by omega)]
  exact hv
 ·intro k hk ih id least hv
  refine step2 (fun _ _ _ _ _=>B9.l2.eq_2 ..) ?_
  have hk2:k<((l.zip gs).take i).length:=by omega
  have e1:((l.zip gs).take i).getD k default=(l.getD k default,gs.getD k default):=by
   rw [getD_lt hk2,getD_lt (by omega),getD_lt (by omega)];simp
  have e2:nth (gs.take i) (k:Int)=gs.getD k default:=by
   rw [nthN,getD_lt (by omega),getD_lt (by omega)];simp
  rw [drop_getD (d:=default) hk2,List.foldl_cons,e1] at hv
  have hgk:=hG _ (getD_mem (d:=default) (show k<gs.length by omega))
  refine posD (by omega) (pos (by omega) ?_)
  rw [e2]
  refine bnd (dbits_ev hgk.gp hg.gp) ?_
  rw [w1 (by omega)]
  by_cases c:((drb (gs.getD k default) g).length:Int)<least
  ·have e:bst g (id,least) (l.getD k default,gs.getD k default)=((l.getD k default).ID,((drb (gs.getD k default) g).length:Int)):=if_pos c
   rw [e] at hv
   refine posD c (pos (by omega) ?_)
   rw [nthN]
   exact ih _ _ hv
  ·have e:bst g (id,least) (l.getD k default,gs.getD k default)=(id,least):=if_neg c
   rw [e] at hv
   exact negD c (ih _ _ hv)
theorem best_l1 {l:List Ab} {gs:List Aa} (hl:l.length≤12) (hlen:gs.length=l.length) (hG:∀ g∈gs,GraphP g):∀ i,i≤gs.length →
  E1 (fun K a=>B9.l1 K (gs,0) l a gs ((gs.length:Nat):Int) (i:Int) ((List.range i).map (bi l gs))) ((List.range gs.length).map (bi l gs),0):=by
 refine upto ?_ ?_
 ·refine step1 (fun _ _ _ _ _=>B9.l1.eq_2 ..) ?_
  exact negD (by omega) (now _)
 ·intro i hi ih
  refine step1 (fun _ _ _ _ _=>B9.l1.eq_2 ..) ?_
  have hg:=hG _ (getD_mem (d:=default) hi)
  refine posD (by omega) (pos (show (0:Int)≤(i:Int)∧(i:Int)<((gs.length:Nat):Int) by omega) ?_)
  rw [nthN]
  refine bnd (FBits2_ev hg.gp) (pos (by omega) ?_)
  have et:(gs.drop (0:Int).toNat).take ((i:Int).toNat-(0:Int).toNat)=gs.take i:=by simp
  rw [et]
  refine (best_l2 (go:=fun K a=>B9.l1 K (gs,0) l a) hl hlen hG hi (best:=(List.range i).map (bi l gs)) (by simp;omega) hg 0 (by omega) 0 ((frb (gs.getD i default)).length:Int) ?_).e2
  rw [List.range_succ,List.map_append] at ih
  exact ih
theorem best_ev {l:List Ab} {gs:List Aa} (hl:l.length≤12) (hlen:gs.length=l.length) (hG:∀ g∈gs,GraphP g) (hg:E0 (fun K=>Bz K l) (gs,0)):E0 (fun K=>B9 K l) ((List.range gs.length).map (bi l gs),0) :=
 bnd hg (negN rfl (best_l1 hl hlen hG 0 (by omega)).e1)
end Go.XL
end
section
namespace Go.XL
open Go.XM
theorem FRead_ev {g:Aa} (hg:GraphP g):E0 (fun K=>D5 K (pack (frb g))) (g,true):=by
 have h:=hg.gp
 have hlen:=frb_len h
 have hl:=flists_ev hg (Nat.le_refl g.Out.length)
 rw [part_all,posn_all] at hl
 refine bnd (head_ev h) (negB rfl (bnd hl (pos rfl (nowE ?_))))
 show (g,(((frb g).length:Int) == ((frb g).length:Int)))=_
 simp
theorem DRead_ev {b g:Aa} (hbg:GraphP b) (hg:GraphP g):E0 (fun K=>D6 K b (pack (drb b g))) (g,true):=by
 have h:=hg.gp
 have hle:=h.le
 have hlen:=drb_len hbg.gp h
 have r:=reads (n:=g.Out.length+1) (a:=[]) (b:=dr b 0 g.Out) (by omega) (by omega) Bt.nil (dr_Bt _ _ _) (by show (drb b g).length≤_;omega)
 have r:E0 (fun K=>Cb K (pack (drb b g)) 0 2) (((g.Out.length+1:Nat):Int),(posd b g 0:Int),true):=by
  refine ofEq r ?_
  simp [posd,dr]
 have hh:E0 (fun K=>Du K (pack (drb b g))) ((g.Out.length:Int),(posd b g 0:Int),true):=by
  refine bnd r (negB rfl (negD ?_ (nowE ?_)))
  ·show ¬ (((g.Out.length+1:Nat):Int) > 17);omega
  ·simp only
   rw [w64 (by omega) (by omega)]
   congr 1;omega
 refine bnd hh (negB rfl (bnd (dlists_ev hbg hg) (pos rfl (nowE ?_))))
 show (g,(((drb b g).length:Int) == ((drb b g).length:Int)))=_
 simp
theorem tkF_frb {g:Aa} (h:GraphP g):tkF (frb g)=some g:=by
 have:=frb_len h.gp
 obtain ⟨res,h1,h2⟩:=fread_any (frb_Bt g) (by omega)
 have e:=(FRead_ev h).uniq h1
 subst e
 cases ht:tkF (frb g) with
 | none=>rw [ht] at h2;cases h2
 | some g'=>rw [ht] at h2;rw [show g=g' from congrArg Prod.fst h2]
theorem tkD_drb {b g:Aa} (hb:GraphP b) (h:GraphP g):tkD (drb b g) b=some g:=by
 have:=drb_len hb.gp h.gp
 obtain ⟨res,h1,h2⟩:=dread_any (b:=b) (drb_Bt b g) (by omega) hb.gp
 have e:=(DRead_ev hb h).uniq h1
 subst e
 cases ht:tkD (drb b g) b with
 | none=>rw [ht] at h2;cases h2
 | some g'=>rw [ht] at h2;rw [show g=g' from congrArg Prod.fst h2]
theorem resP_deep0 {l:List Ab} {id:Int} {g:Aa} (h:resP l id=(g,0)):(deepP l id).2=0:=by
 unfold resP at h
 split at h
 ·rename_i c;exact absurd (congrArg Prod.snd h) c
 ·rename_i c;simpa using c
theorem way_take' {l:List Ab}:∀ (k j:Nat) (on:Int),(wayP l k on).length=min k (wayP l (k+j) on).length
 | 0,_,_=>by simp [wayP]
 | k+1,j,on=>by
  rw [show k+1+j=k+j+1 by omega,wayP,wayP]
  by_cases c:on=0
  ·simp [c]
  ·rw [if_neg c,if_neg c,List.length_cons,List.length_cons,way_take' k j];omega
structure Row (l:List Ab) (gs:List Aa):Prop where
 obj:ObjsP l
 len:gs.length=l.length
 id:∀ i,i<l.length→(l.getD i default).ID=(i:Int)+1
 res:∀ i,i<l.length→resP l ((i:Int)+1)=(gs.getD i default,0)
 gr:∀ g∈gs,GraphP g
theorem ix_row {l:List Ab} (h:∀ i,i<l.length→(l.getD i default).ID=(i:Int)+1) (j:Int):ix l j=if 1≤j∧j≤(l.length:Int) then j-1 else -1:=by
 rcases ix_spec l j with ⟨e,h2⟩ | ⟨k,e,h1,h2⟩
 ·rw [e,if_neg]
  rintro ⟨a,b⟩
  obtain ⟨n,rfl⟩:=Int.eq_ofNat_of_zero_le (show 0≤j by omega)
  have hn:n-1<l.length:=by omega
  exact h2 _ (getD_mem (d:=default) hn) (by rw [h _ hn];omega)
 ·rw [h k h1] at h2
  rw [e,if_pos (by omega)];omega
theorem app_get {α:Type} {d:α} (l:List α) (x:α) {i:Nat} (h:i<l.length):(l++[x]).getD i d=l.getD i d:=by
 rw [List.getD_eq_getElem?_getD,List.getD_eq_getElem?_getD,List.getElem?_append_left h]
theorem app_last {α:Type} {d:α} (l:List α) (x:α):(l++[x]).getD l.length d=x:=by
 rw [List.getD_eq_getElem?_getD,List.getElem?_append_right (Nat.le_refl _)];simp
section
variable {l:List Ab} (h:∀ i,i<l.length→(l.getD i default).ID=(i:Int)+1) {q:Int} {d:Ao}
include h
theorem app_id:∀ i,i<(l++[(((l.length:Int)+1,q,d):Ab)]).length→((l++[(((l.length:Int)+1,q,d):Ab)]).getD i default).ID=(i:Int)+1:=by
 intro i hi
 rw [List.length_append,List.length_singleton] at hi
 by_cases c:i<l.length
 ·rw [app_get _ _ c];exact h i c
 ·have:i=l.length:=by omega
  subst this
  rw [app_last]
theorem app_ix {j:Int} (hj:0≤ix l j):ix (l++[(((l.length:Int)+1,q,d):Ab)]) j=ix l j∧ob (l++[(((l.length:Int)+1,q,d):Ab)]) j=ob l j:=by
 have e:ix (l++[(((l.length:Int)+1,q,d):Ab)]) j=ix l j:=by
  rw [ix_row h] at hj ⊢
  rw [ix_row (app_id h)]
  split at hj
  ·rename_i c
   rw [if_pos c,if_pos ⟨c.1,by rw [List.length_append];simp;omega⟩]
  ·omega
 refine ⟨e,?_⟩
 show (l++_).getD (ix (l++_) j).toNat default=_
 rw [e]
 exact app_get _ _ (ix_lt hj).2.1
theorem app_way (hc:∀ id,0≤ix l id→There l (ob l id).Base):∀ (m:Nat) (j:Int),There l j→wayP (l++[(((l.length:Int)+1,q,d):Ab)]) m j=wayP l m j
 | 0,_,_=>rfl
 | m+1,j,ht=>by
  rw [wayP,wayP]
  by_cases c:j=0
  ·rw [if_pos c,if_pos c]
  ·have hx:=ht.resolve_left c
   rw [if_neg c,if_neg c,(app_ix h hx).2,app_way hc m _ (hc _ hx)]
theorem app_deep (hc:∀ id,0≤ix l id→There l (ob l id).Base) {j:Int} (hj:0≤ix l j):deepP (l++[(((l.length:Int)+1,q,d):Ab)]) j=deepP l j:=by
 unfold deepP
 rw [(app_ix h hj).1,app_way h hc _ _ (.inr hj)]
theorem app_res (hc:∀ id,0≤ix l id→There l (ob l id).Base) {j:Int} (hj:0≤ix l j):resP (l++[(((l.length:Int)+1,q,d):Ab)]) j=resP l j:=by
 unfold resP
 rw [app_deep h hc hj,app_way h hc _ _ (.inr hj)]
end
theorem way0 {l:List Ab}:∀ k,wayP l k 0=[]
 | 0=>rfl
 | k+1=>by rw [wayP,if_pos rfl]
theorem Row.add {l:List Ab} {gs:List Aa} (r:Row l gs) (hn:l.length<12) {g:Aa} (hg:GraphP g) :
  ∃ o,makeP l (l.length:Int) g=(o,0)∧Row (l++[o]) (gs++[g]):=by
 have hnext:nextId l=(l.length:Int)+1:=by
  unfold nextId
  split
  ·rw [r.id _ (by omega)];omega
  ·omega
 have hc:=r.obj.cl.2
 have hlast:∀ c:l.length≠0,resP l (l.length:Int)=(gs.getD (l.length-1) default,0)∧GraphP (gs.getD (l.length-1) default)∧0≤ix l (l.length:Int):=fun c=>by
  have:=r.res (l.length-1) (by omega)
  rw [show ((l.length-1:Nat):Int)+1=(l.length:Int) by omega] at this
  refine ⟨this,r.gr _ (getD_mem (by have:=r.len;omega)),?_⟩
  rw [ix_row r.id,if_pos (by omega)];omega
 have key:∃ q d,makeP l (l.length:Int) g=(((l.length:Int)+1,q,d),0)∧MayB d∧((q=0∧tkF (ofb d)=some g)∨(l.length≠0∧q=(l.length:Int)∧(deepP l (l.length:Int)).1<3∧tkD (ofb d) (gs.getD (l.length-1) default)=some g)):=by
  have f1:=frb_len hg.gp
  have own:MayB (pack (frb g))∧tkF (ofb (pack (frb g)))=some g:=⟨mayB_pack (frb_Bt _) (by omega),by rw [ofb_pack (frb_Bt _) (by omega)];exact tkF_frb hg⟩
  unfold makeP
  rw [if_neg (by omega),if_neg (by omega),hnext]
  by_cases c:(l.length:Int)=0
  ·rw [if_pos c]
   exact ⟨0,_,rfl,own.1,.inl ⟨rfl,own.2⟩⟩
  ·obtain ⟨k1,k2,k3⟩:=hlast (by omega)
   rw [if_neg c,k1,if_neg (by simp)]
   split
   ·rename_i c2
    have f2:=drb_len k2.gp hg.gp
    refine ⟨_,_,rfl,mayB_pack (drb_Bt _ _) (by show (drb _ g).length≤6000;omega),.inr ⟨by omega,rfl,c2.1,?_⟩⟩
    rw [ofb_pack (drb_Bt _ _) (by show (drb _ g).length≤6000;omega)]
    exact tkD_drb k2 hg
   ·exact ⟨0,_,rfl,own.1,.inl ⟨rfl,own.2⟩⟩
 obtain ⟨q,d,hm,hb,hq⟩:=key
 refine ⟨_,hm,?_⟩
 have hid:=app_id r.id (q:=q) (d:=d)
 have hlen:(l++[(((l.length:Int)+1,q,d):Ab)]).length=l.length+1:=by simp
 have hqb:q≠(l.length:Int)+1∧(q≠0→0≤ix (l++[(((l.length:Int)+1,q,d):Ab)]) q):=by
  rcases hq with ⟨e,_⟩ | ⟨a,e,_⟩
  ·exact ⟨by omega,fun z=>absurd e z⟩
  ·refine ⟨by omega,fun _=>?_⟩
   rw [e] at *
   rw [(app_ix r.id (hlast a).2.2).1];exact (hlast a).2.2
 have hob:ObjsP (l++[(((l.length:Int)+1,q,d):Ab)]):=by
  refine ⟨by omega,fun i hi=>?_⟩
  by_cases c:i<l.length
  ·obtain ⟨a1,a2,a3,a4,a5,a6⟩:=r.obj.2 i c
   unfold ObjP
   rw [app_get _ _ c]
   refine ⟨a1,a2,fun hi0=>?_,a4,fun hne=>?_,a6⟩
   ·rw [app_get _ _ (by omega)];exact a3 hi0
   ·rw [(app_ix r.id (a5 hne)).1];exact a5 hne
  ·have:i=l.length:=by omega
   subst this
   unfold ObjP
   rw [app_last]
   refine ⟨by show 1≤(l.length:Int)+1;omega,by show (l.length:Int)+1≤1048576;omega,fun hi0=>?_,hqb.1,hqb.2,hb⟩
   rw [app_get _ _ (by omega),r.id _ (by omega)]
   show _<(l.length:Int)+1;omega
 refine ⟨hob,by rw [hlen];simp [r.len],hid,fun i hi=>?_,fun x hx=>?_⟩
 ·by_cases c:i<l.length
  ·have hx:0≤ix l ((i:Int)+1):=by rw [ix_row r.id,if_pos (by omega)];omega
   rw [app_res r.id hc hx,r.res i c,app_get _ _ (by rw [r.len];exact c)]
  ·have:i=l.length:=by omega
   subst this
   have hx:0≤ix (l++[(((l.length:Int)+1,q,d):Ab)]) ((l.length:Int)+1):=by rw [ix_row hid,if_pos (by rw [hlen];omega)];omega
   have ho:ob (l++[(((l.length:Int)+1,q,d):Ab)]) ((l.length:Int)+1)=((l.length:Int)+1,q,d):=by
    show (l++_).getD (ix (l++_) _).toNat default=_
    rw [ix_row hid,if_pos (by rw [hlen];omega),show ((l.length:Int)+1-1).toNat=l.length by omega]
    exact app_last _ _
   have hw:∀ m,wayP (l++[(((l.length:Int)+1,q,d):Ab)]) (m+1) ((l.length:Int)+1)=((l.length:Int)+1,q,d)::wayP (l++[(((l.length:Int)+1,q,d):Ab)]) m q:=fun m=>by
    rw [wayP,if_neg (by omega),ho]
   have hlg:(gs++[g]).getD l.length default=g:=by rw [← r.len];exact app_last _ _
   rw [hlg]
   rcases hq with ⟨e,ht⟩ | ⟨a,e,h3,ht⟩
   ·subst e
    have hdp:(deepP (l++[(((l.length:Int)+1,0,d):Ab)]) ((l.length:Int)+1)).2=0:=by
     unfold deepP
     rw [if_neg (by omega),hw,way0,if_neg (by simp)]
    unfold resP
    rw [if_neg (by simpa using hdp),hw,way0]
    show tell (match tkF (ofb d) with | some g'=>some g' | none=>none)=_
    rw [ht];rfl
   ·subst e
    obtain ⟨k1,k2,k3⟩:=hlast a
    obtain ⟨d1,d2,d3⟩:=deep_ok (resP_deep0 k1)
    have hn0:(l.length:Int)≠0:=by omega
    have e4:(wayP l 3 (l.length:Int)).length=min 3 (wayP l 4 (l.length:Int)).length:=way_take' (l:=l) 3 1 (l.length:Int)
    have hl2:(wayP l 3 (l.length:Int)).length≤2:=by rw [e4];omega
    have e5:=(way_end 2 _ hn0 hl2).1 1
    have hdp:(deepP (l++[(((l.length:Int)+1,(l.length:Int),d):Ab)]) ((l.length:Int)+1)).2=0:=by
     unfold deepP
     rw [if_neg (by omega),hw,app_way r.id hc _ _ (.inr k3),if_neg (by rw [List.length_cons];omega)]
    unfold resP
    rw [if_neg (by simpa using hdp),hw,app_way r.id hc _ _ (.inr k3),List.reverse_cons,foldG_snoc,← e5]
    have hf:foldG G0 (wayP l (2+1) (l.length:Int)).reverse=some (gs.getD (l.length-1) default):=by
     have k1':=k1
     unfold resP at k1'
     rw [if_neg (by simpa using resP_deep0 k1)] at k1'
     cases hf:foldG G0 (wayP l 3 (l.length:Int)).reverse with
     | none=>rw [hf] at k1';exact absurd (show (9:Int)=0 from congrArg Prod.snd k1') (by decide)
     | some g'=>rw [hf] at k1';have:=congrArg Prod.fst k1';rw [show g'=_ from this]
    rw [hf]
    show tell (stepG _ _)=_
    unfold stepG
    rw [if_neg (show ¬ (Ab.Base ((l.length:Int)+1,(l.length:Int),d)=0) from hn0)]
    show tell (tkD (ofb d) _)=_
    rw [ht];rfl
 ·rcases List.mem_append.1 hx with hx | hx
  ·exact r.gr x hx
  ·have:x=g:=by simpa using hx
   subst this;exact hg
theorem Row.graphs {l:List Ab} {gs:List Aa} (r:Row l gs):E0 (fun K=>Bz K l) (gs,0):=by
 have h1:=r.obj.1
 have hs:∀ o∈l,o.Data.Data.size≤1000000:=fun o ho=>by
  obtain ⟨i,hi,rfl⟩:=List.mem_iff_getElem.1 ho
  have:=(r.obj.2 i hi).2.2.2.2.2
  rw [getD_lt hi] at this
  obtain ⟨a,b,c,_⟩:=this
  omega
 have:=graphs_ev (l:=l) (by omega) hs
 rw [if_pos r.obj] at this
 refine ofEq this ?_
 have hr:∀ i,i<l.length→resP l (l.getD i default).ID=(gs.getD i default,0):=fun i hi=>by rw [r.id i hi];exact r.res i hi
 rw [grP_ok l [] fun o ho=>by
  obtain ⟨i,hi,rfl⟩:=List.mem_iff_getElem.1 ho
  have:=hr i hi
  rw [getD_lt hi] at this
  rw [this]]
 rw [List.nil_append]
 refine Prod.ext (List.ext_getElem (by simp [r.len]) fun i a1 a2=>?_) rfl
 rw [List.getElem_map]
 have hi:i<l.length:=by simpa using a1
 have:=hr i hi
 rw [getD_lt hi,getD_lt (by rw [r.len];exact hi)] at this
 rw [this]
end Go.XL
end
section
namespace Go.XL
open Go.XM
set_option maxRecDepth 100000
theorem wakes12j (j:Nat):C4 (j+40)=some true:=by kernel_rfl
theorem wakes12_ev:E0 (fun K=>C4 K) true :=
 ⟨40,fun K _ _ _ _ h _ _ _ _=>by
  obtain ⟨j,rfl⟩:∃ j,K=j+40:=⟨K-40,by omega⟩
  exact wakes12j j⟩
theorem rshort_ev {a g:Aa} (ha:GraphP a) (hg:GraphP g):E0 (fun K=>Cj K a g) (decide (((drb a g).length:Int)<((frb g).length:Int))) :=
 bnd (RFrame_ev hg.gp) (bnd (RDelta_ev ha.gp hg.gp) (now _))
def wantL (a b:Int):Nat→List Aa→List Int
 | i,g::gs=>if HasE g a b then ((i:Int)+1)::wantL a b (i+1) gs else wantL a b (i+1) gs
 | _,[]=>[]
theorem wantL_eq {l:List Ab} {gs:List Aa} (r:Row l gs) (a b:Int):∀ i,i≤l.length→edgeL a b (l.drop i) (gs.drop i)=wantL a b i (gs.drop i):=by
 have hlen:=r.len
 refine upto ?_ ?_
 ·rw [List.drop_length,← hlen,List.drop_length];simp [edgeL,wantL]
 ·intro i hi ih
  rw [drop_getD (d:=default) hi,drop_getD (d:=default) (show i<gs.length by omega),edgeL,wantL,ih,r.id i hi]
variable {x:Dn} {l:List Ab} {gs:List Aa}
theorem sr_l6 (r:Row l gs) (h6:l.length=6):∀ i:Nat,i≤6→1≤i→E1 (fun K a=>Ae.l6 K ((List.range gs.length).map (bi l gs),0) a (i:Int) gs) true:=by
 have hlen:=r.len
 refine upto ?_ ?_
 ·intro _
  refine step1 (fun _ _ _ _ _=>Ae.l6.eq_2 ..) ?_
  exact negD (by omega) (bnd wakes12_ev (now _))
 ·intro i hi ih h1
  refine step1 (fun _ _ _ _ _=>Ae.l6.eq_2 ..) ?_
  have eL:((List.range gs.length).map (bi l gs)).length=6:=by simp;omega
  have en:nth ((List.range gs.length).map (bi l gs)) (i:Int)=bi l gs i:=by
   rw [nthN,getD_lt (by omega)];simp
  have hz:((l.zip gs).take i).length=i:=by simp;omega
  have hp:∀ p∈(l.zip gs).take i,1≤p.1.ID∧p.1.ID≤(i:Int):=fun p hp=>by
   obtain ⟨k,hk,rfl⟩:=List.mem_iff_getElem.1 hp
   rw [hz] at hk
   have:=r.id k (by omega)
   rw [getD_lt (by omega)] at this
   rw [List.getElem_take,List.getElem_zip,this]
   omega
  obtain ⟨b1,b2,b3,b4⟩:=bst_spec (gs.getD i default) (i:Int) _ 0 ((frb (gs.getD i default)).length:Int) hp (by omega) (by omega)
  have b1:0≤bi l gs i:=b1
  have b2:bi l gs i≤(i:Int):=b2
  have ih:=ih (by omega)
  refine posD (by omega) (pos (by rw [eL];omega) ?_)
  rw [en]
  refine negD (by omega) (pos (by rw [eL];omega) (negD (by omega) (pos (by rw [eL];omega) ?_)))
  rw [w1 (by omega)]
  by_cases c:bi l gs i=0
  ·have e1:wr .i64 ((i:Int)-1)=((i-1:Nat):Int):=by rw [w64 (by omega) (by omega)];omega
   refine posE c ?_
   rw [e1,nthN,nthN]
   refine pos (by omega) (pos (by omega) (bnd (rshort_ev (r.gr _ (getD_mem (by omega))) (r.gr _ (getD_mem (by omega)))) (neg ?_ ih)))
   have hk:i-1<((l.zip gs).take i).length:=by omega
   have:=b4 c (((l.zip gs).take i).getD (i-1) default) (getD_mem hk)
   rw [getD_lt hk,List.getElem_take,List.getElem_zip] at this
   rw [getD_lt (show i-1<gs.length by omega)]
   simpa using this
  ·exact negE c ih
theorem sr_l5 (r:Row l gs) (h6:l.length=6) {go3:Nat→Nat→Int→List Ab→List Aa→Option Bool} {go4:Nat→Nat→Nat→Int→List Ab→List Aa→Option Bool} {a b:Nat} (hb:b<8)
  (h4:E2 (fun K p q=>go4 K p q ((b+1:Nat):Int) l gs) true):∀ i:Nat,i≤6→∀ w:List Int,w.length≤i→w++wantL (a:Int) (b:Int) i (gs.drop i)=edgeL (a:Int) (b:Int) l gs →
   E3 (fun K p q c=>Ae.l5 K (go3 K p) (go4 K p q) (edgeL (a:Int) (b:Int) l gs,0) (a:Int) (b:Int) l gs c (i:Int) w) true:=by
 have hlen:=r.len
 refine upto ?_ ?_
 ·intro w hw he
  refine step3 (fun _ _ _ _ _=>Ae.l5.eq_2 ..) ?_
  rw [show (6:Nat)=gs.length by omega,List.drop_length] at he
  have he:w=edgeL (a:Int) (b:Int) l gs:=by simpa [wantL] using he
  refine negD (by omega) (bnd (now _) (negN rfl (bnd (eqn_ev _ _ (by rw [← he];show w.length≤1000000;omega)) (negM he.symm ?_))))
  rw [w1 (by omega)]
  exact h4
 ·intro i hi ih w hw he
  refine step3 (fun _ _ _ _ _=>Ae.l5.eq_2 ..) ?_
  rw [drop_getD (d:=default) (show i<gs.length by omega),wantL] at he
  refine posD (by omega) (pos (by omega) ?_)
  rw [nthN,w1 (by omega)]
  refine bnd (rhas_ev (r.gr _ (getD_mem (by omega))) _ _) ?_
  by_cases c:HasE (gs.getD i default) (a:Int) (b:Int)
  ·rw [if_pos c] at he
   refine pos (by simpa using c) (pos (by simp;omega) ?_)
   have e1:wr .i64 (1+(i:Int))=(i:Int)+1:=by rw [w64 (by omega) (by omega)];omega
   rw [e1]
   exact ih _ (by simp;omega) (by rw [List.append_assoc];exact he)
  ·rw [if_neg c] at he
   exact neg (by simpa using c) (ih w (by omega) he)
theorem sr_l4 (r:Row l gs) (h6:l.length=6) {go3:Nat→Nat→Int→List Ab→List Aa→Option Bool} {a:Nat} (ha:a<8)
  (h3:E1 (fun K p=>go3 K p ((a+1:Nat):Int) l gs) true):∀ b:Nat,b≤8→E2 (fun K p q=>Ae.l4 K (go3 K p) (a:Int) q (b:Int) l gs) true:=by
 have hlen:=r.len
 have hgr:=r.graphs
 refine upto ?_ ?_
 ·refine step2 (fun _ _ _ _ _=>Ae.l4.eq_2 ..) ?_
  refine negD (by omega) ?_
  rw [w1 (by omega)]
  exact h3
 ·intro b hb ih
  refine step2 (fun _ _ _ _ _=>Ae.l4.eq_2 ..) ?_
  refine posD (by omega) (bnd (edge_ev (by omega) hlen r.gr hgr (by omega) (by omega)) ?_)
  exact (sr_l5 (go3:=go3) (go4:=fun K p q=>Ae.l4 K (go3 K p) (a:Int) q) r h6 hb ih 0 (by omega) [] (by simp) (by
   have:=wantL_eq r (a:Int) (b:Int) 0 (by omega)
   simpa using this.symm)).e3
theorem sr_l3 (r:Row l gs) (h6:l.length=6):∀ a:Nat,a≤8→E1 (fun K p=>Ae.l3 K p (a:Int) l gs) true:=by
 have hlen:=r.len
 have hgr:=r.graphs
 refine upto ?_ ?_
 ·refine step1 (fun _ _ _ _ _=>Ae.l3.eq_2 ..) ?_
  have eL:((List.range gs.length).map (bi l gs)).length=6:=by simp;omega
  have e0:nth ((List.range gs.length).map (bi l gs)) 0=0:=by
   rw [show (0:Int)=((0:Nat):Int) from rfl,nthN,getD_lt (by omega)];simp [bi]
  refine negD (by omega) (bnd (best_ev (by omega) hlen r.gr hgr) (bnd (now _) (negN rfl (negN (by show (((List.range gs.length).map (bi l gs)).length:Int)=6;rw [eL];rfl) (pos (by rw [eL];omega) (negN e0 ?_))))))
  exact (sr_l6 r h6 1 (by omega) (by omega)).e1
 ·intro a ha ih
  refine step1 (fun _ _ _ _ _=>Ae.l3.eq_2 ..) ?_
  exact posD (by omega) ((sr_l4 (go3:=fun K p=>Ae.l3 K p) r h6 ha ih 0 (by omega)).e2)
theorem row_s {l:List Ab} {gs:List Aa} (r:Row l gs):∀ o∈l,o.Data.Data.size≤1000000:=fun o ho=>by
 obtain ⟨i,hi,rfl⟩:=List.mem_iff_getElem.1 ho
 have:=(r.obj.2 i hi).2.2.2.2.2
 rw [getD_lt hi] at this
 obtain ⟨a,b,c,_⟩:=this
 omega
theorem sr_l1 (hN:x.N.length≤17592186044416):∀ i:Nat,i≤6→∀ (l:List Ab) (gs:List Aa),Row l gs→l.length=i→E1 (fun K p=>Ae.l1 K x p (i:Int) l gs) true:=by
 refine upto ?_ ?_
 ·intro l gs r hl
  refine step1 (fun _ _ _ _ _=>Ae.l1.eq_2 ..) ?_
  exact negD (by omega) ((sr_l3 r hl 0 (by omega)).e1)
 ·intro i hi ih l gs r hl
  refine step1 (fun _ _ _ _ _=>Ae.l1.eq_2 ..) ?_
  have e1:(wr .i64 ((i:Int)+((x.N.length:Nat):Int))).tmod 4=(((i+x.N.length) % 4:Nat):Int):=by
   rw [w64 (by omega) (by omega),← Int.natCast_add];exact (Int.ofNat_tmod _ 4).symm
  have hk:(i+x.N.length) % 4<4:=Nat.mod_lt _ (by decide)
  obtain ⟨hg,_⟩:=mg_ok (n:=8) (k:=(i+x.N.length) % 4) (by decide) hk
  have hlen:=r.len
  have hmk:=cmake_ev (l:=l) (by omega) (row_s r) (i:Int) hg.sm
  rw [if_pos ⟨r.obj,hg⟩] at hmk
  obtain ⟨o,ho,hr⟩:=r.add (by omega) hg
  rw [hl] at ho
  rw [ho] at hmk
  refine posD (by omega) (pos (by decide) ?_)
  rw [e1]
  refine bnd (made_ev (n:=8) (by decide) hk) ?_
  have fin:Ev (fun K p _ _ _=>Ae.j2 K (Ae.l1 K x p) (mg 8 ((i+x.N.length) % 4)) (i:Int) l gs x (i:Int)) true:=by
   refine bnd hmk (bnd (now _) (negN rfl (pos (by simp;omega) (pos (by simp;omega) ?_))))
   rw [w1 (by omega)]
   exact ih (l++[o]) (gs++[mg 8 ((i+x.N.length) % 4)]) hr (by simp;omega)
  by_cases c:(i:Int) > 0
  ·exact posD c fin
  ·refine negD c ?_
   have:i=0:=by omega
   subst this
   exact fin
theorem storyRow_pure (x:Dn) (h3:x.N.length≤17592186044416):∃ K,Ae K x=some true:=by
 refine Ev.get (g:=fun K=>Ae K x) (r:=true) ?_
 exact (sr_l1 h3 0 (by omega) [] [] ⟨⟨by decide,fun i hi=>absurd hi (by simp)⟩,rfl,fun i hi=>absurd hi (by simp),fun i hi=>absurd hi (by simp),fun g hg=>absurd hg (by simp)⟩ rfl).e1
end Go.XL
end
