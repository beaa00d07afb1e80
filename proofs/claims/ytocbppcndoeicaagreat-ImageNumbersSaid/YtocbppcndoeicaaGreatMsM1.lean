import Derived.Test.YtocbppcndoeicaaGreatMsM0
import Derived.ChangeSlices
import Derived.Lib.ConvBytes
import Derived.Scope
import Derived.SizedLaws
set_option linter.all false
section
namespace Go.XM
open Go.RowKit
theorem pCall_right {P:Program} {σ:St} {o:Oper} {fo:Operand} {d:Nat} {xs:Array Operand} {ts:Array TypeId} {H:CallH} (hd:o.dst=some d) (ho:o.op=.call ⟨.value fo,xs,ts⟩):Right P o σ (pCall P σ fo d xs ts H):=by
 intro ft c hr hc
 unfold pCall at hr
 split at hr
 ·rename_i l ks f ex k2 res' hl hcal hres
  split at hr
  ·rename_i hchk
   simp only [Bool.and_eq_true] at hchk
   obtain ⟨⟨hfn,hnm⟩,htr⟩:=hchk
   cases hr
   obtain ⟨c1,c2,c3,c4⟩:Ct P f H.svs (ofL H.O0) H.res (ofL H.O1)∧amS H.m1 H.lent σ.O H.svs (l++ex)∧hand σ.O (ofL H.O0) H.m1 H.m1∧(H.lent=[]∨nsSV H.res∧nsAll H H.m2):=hc
   have hro:okL (roOf σ.O H) σ.O:=by
    rw [okL_mem]
    intro x hx
    simp only [roOf,List.mem_append,List.mem_map] at hx
    rcases hx with ⟨y,_,rfl⟩ | ⟨y,_,rfl⟩ | ⟨y,_,rfl⟩ <;> rfl
   refine ⟨⟨okL_append.2 ⟨rdAll_ok hl,calleeOf_ok hcal⟩,hro⟩,fun ro m Γ g σ' a w hf hn hg next Q hK=>?_⟩
   obtain ⟨hf1,hf2⟩:=hf
   obtain ⟨hf1,hf3⟩:=okL_append.1 hf1
   obtain ⟨arr,hfo,harr,hcap⟩:=calleeOf_R hcal hf3 hg
   have hO:∀ r,(r∈H.m1.map (·.2)∨r∈H.lent∨r∈H.m2.map (·.2))→σ'.O r=σ.O r:=by
    intro r hr
    have:=okL_mem.1 hf2 (r,σ.O r) (by
     simp only [roOf,List.mem_append,List.mem_map]
     rcases hr with hr | hr | hr
     ·obtain ⟨x,hx,rfl⟩:=List.mem_map.1 hr;exact .inl ⟨x,hx,rfl⟩
     ·exact .inr (.inl ⟨r,hr,rfl⟩)
     ·obtain ⟨x,hx,rfl⟩:=List.mem_map.1 hr;exact .inr (.inr ⟨x,hx,rfl⟩))
    exact this
   obtain ⟨r1,r2⟩:=rdAll_R hg hl hf1
   have hnm':namesOk σ'.O H=true:=by
    have:(H.m2.all fun x=>(memNm x H.m1 && isBox (ofL H.O0 x.1) && isBox (ofL H.O1 x.1)) || (isFresh (σ'.O x.2) && !(H.m1.map (·.2)).elem x.2)) =
      (H.m2.all fun x=>(memNm x H.m1 && isBox (ofL H.O0 x.1) && isBox (ofL H.O1 x.1)) || (isFresh (σ.O x.2) && !(H.m1.map (·.2)).elem x.2)):=by
     rw [Bool.eq_iff_iff]
     simp only [List.all_eq_true]
     exact ⟨fun h x hx=>by rw [← hO x.2 (.inr (.inr (List.mem_map.2 ⟨x,hx,rfl⟩)))];exact h x hx,fun h x hx=>by rw [hO x.2 (.inr (.inr (List.mem_map.2 ⟨x,hx,rfl⟩)))];exact h x hx⟩
    unfold namesOk at hnm ⊢
    rw [this];exact hnm
   have hhand':hand σ'.O (ofL H.O0) H.m1 H.m1:=by
    have key:∀ l:Nm,(∀ x∈l,x∈H.m1)→hand σ.O (ofL H.O0) H.m1 l→hand σ'.O (ofL H.O0) H.m1 l:=by
     intro l
     induction l with
     | nil=>intro _ _;trivial
     | cons x l ih =>
      intro hx h
      exact ⟨by rw [hO x.2 (.inl (List.mem_map.2 ⟨x,hx x List.mem_cons_self,rfl⟩))];exact h.1,ih (fun y hy=>hx y (List.mem_cons_of_mem _ hy)) h.2⟩
    exact key _ (fun _ h=>h) c3
   have hcv:∀ x y,amCV H.m1 H.lent σ.O x y→amCV H.m1 H.lent σ'.O x y:=by
    intro x y h
    unfold amCV at h ⊢
    split at h
    ·trivial
    ·rename_i sz L r e n
     refine ⟨h.1,?_⟩
     rw [hO r (.inr (.inl (by simpa using h.1)))]
     exact h.2
    ·exact h
    ·exact h
   have hL':∀ l l',amL H.m1 H.lent σ.O l l'→amL H.m1 H.lent σ'.O l l':=by
    intro l
    induction l with
    | nil=>intro l' h;cases l' <;> first | trivial | exact h.elim
    | cons x l ih=>intro l' h;cases l' with
     | nil=>exact h.elim
     | cons y l'=>exact ⟨hcv x y h.1,ih l' h.2⟩
   have ham':∀ l l',amS H.m1 H.lent σ.O l l'→amS H.m1 H.lent σ'.O l l':=by
    intro l
    induction l with
    | nil=>intro l' h;cases l' <;> first | trivial | exact h.elim
    | cons x l ih=>intro l' h;cases l' with
     | nil=>exact h.elim
     | cons y l' =>
      refine ⟨?_,ih l' h.2⟩
      have h1:=h.1
      cases x <;> cases y <;> simp only [amSV] at h1 ⊢
      rename_i x y
      cases x <;> cases y <;> simp only [amAV] at h1 ⊢
      ·exact hcv _ _ h1
      ·exact hL' _ _ h1
      ·exact h1
   refine ⟨fun _ _=>trivial,?_⟩
   rw [semAt_val (exec_call ho hfo hfn w) (by simp),Oper.uponIn_enter]
   refine ⟨fun h=>by simp [Fz] at h,?_⟩
   show CallsIn Fence.wide _ P _ _ w _
   rw [callsIn_wide]
   have hxl:xs.size=l.length:=by simpa using r1
   refine (hg.call c1 hnm' htr (ham' _ _ c2) hhand' c4 hres (by simp [hxl,harr]) (fun i sv hi=>?_)).mono ?_
   ·by_cases hlt:i<l.length
    ·rw [List.getElem?_append_left hlt] at hi
     obtain ⟨x,h1,h2⟩:=r2 i sv hi
     have:(xs.map a.eval++arr).getD i undef=a.eval x:=by
      have h1':xs[i]?=some x:=by simpa using h1
      have hlt':i<(xs.map a.eval).size:=by simp [hxl,hlt]
      rw [Array.getD_eq_getD_getElem?,Array.getElem?_append_left hlt']
      simp [h1']
     rw [this];exact h2
    ·rw [List.getElem?_append_right (by omega)] at hi
     obtain ⟨x,h1,h2⟩:=hcap _ sv hi
     have:(xs.map a.eval++arr).getD i undef=x:=by
      have hge:(xs.map a.eval).size≤i:=by simp [hxl];omega
      rw [Array.getD_eq_getD_getElem?,Array.getElem?_append_right hge]
      simp only [Array.size_map,hxl,h1,Option.getD_some]
     rw [this];exact h2
   ·rintro e w' ⟨v,g',rfl,k1,k2⟩
    rw [hd]
    refine hK _ _ g' ?_
    exact k1.put (hn d (by simp [keys])) k2
  ·cases hr
 ·cases hr
section
variable {F:Fence} {n:Nat} {P:Program} {b:Frame} {a:Act} {k:List Item} {cs:List Frame} {w:World} {Q:Exit→Act→World→Prop}
theorem stepR_scope {c:Code}:step P (lone (b.atR a (.code (.scope c)::k)) cs w)=.next (lone (b.atR a (.code c::.inScope c::k)) cs w) :=
 step_lone_go (by simp [stepG,stepG.exec,Frame.atR])
theorem stepR_inScope {c:Code}:step P (lone (b.atR a (.inScope c::k)) cs w)=.next (lone (b.atR a k) cs w) :=
 step_lone_go (by simp [stepG,stepG.exec,Frame.atR])
theorem wpIn_scope_straight {c:Code} (h:c.wpIn F n P (Exit.noGoto Q) a w):(Code.scope c).wpIn F n P Q a w:=by
 intro b k cs hro hb hr
 have h0:(lone (b.atR a (.code (.scope c)::k)) cs w).fenced P F:=fenced_calm hb hr rfl
 obtain ⟨e,a₁,w₁,hq,harr⟩:=h b (.inScope c::k) cs hro hb hr
 cases e with
 | normal=>exact ⟨.normal,a₁,w₁,hq,.head h0 stepR_scope (StepsIn.trans harr (.one (fenced_calm hb hr rfl) stepR_inScope))⟩
 | exit id=>exact ⟨.exit id,a₁,w₁,hq,.of_steps (.one h0 stepR_scope) ⟨fun k' hk=>harr.1 k' (by simp [exitTo,hk]),fun hr' hk=>harr.2 hr' (by simpa [exitTo] using hk)⟩⟩
 | goto l=>exact hq.elim
 | ret=>exact ⟨_,a₁,w₁,hq,.of_steps (.one h0 stepR_scope) harr⟩
 | panic ch=>exact ⟨_,a₁,w₁,hq,.of_steps (.one h0 stepR_scope) harr⟩
 | outgrown=>exact ⟨_,a₁,w₁,hq,.of_steps (.one h0 stepR_scope) harr⟩
end
section
variable {P:Program} {Γ:Ctx}
theorem Tr.mono {c:Code} {Q Q':Exit→St→Prop} {σ:St} (h:Tr P Γ c Q σ) (hq:∀ e σ,Q e σ→Q' e σ):Tr P Γ c Q' σ :=
 fun ro m g a w hg=>wpIn_mono (h ro m g a w hg) fun e a' w' ⟨σ',g',h1,h2⟩=>⟨σ',g',hq e σ' h1,h2⟩
theorem tr_seq {x y:Code} {Q:Exit→St→Prop} {σ:St} (M:St→Prop) (hx:Tr P Γ x (fun e σ'=>match e with | .normal=>M σ' | e=>Q e σ') σ) (hy:∀ σ',M σ'→Tr P Γ y Q σ'):Tr P Γ (.seq x y) Q σ:=by
 intro ro m g a w hg
 refine wpIn_seq (wpIn_mono (hx ro m g a w hg) fun e a' w' h=>?_)
 obtain ⟨σ',g',h1,h2⟩:=h
 cases e with
 | normal=>exact hy σ' h1 ro m g' a' w' h2
 | _=>exact ⟨σ',g',h1,h2⟩
theorem tr_skip {Q:Exit→St→Prop} {σ:St} (h:Q .normal σ):Tr P Γ .skip Q σ:=fun ro m g a w hg=>wpIn_skip ⟨σ,g,h,hg⟩
theorem tr_ret {Q:Exit→St→Prop} {σ:St} (h:Q .ret σ):Tr P Γ .ret Q σ:=fun ro m g a w hg=>wpIn_ret ⟨σ,g,h,hg⟩
theorem tr_exit {id:Nat} {Q:Exit→St→Prop} {σ:St} (h:Q (.exit id) σ):Tr P Γ (.exit id) Q σ:=fun ro m g a w hg=>wpIn_exit ⟨σ,g,h,hg⟩
theorem tr_label {l:Nat} {Q:Exit→St→Prop} {σ:St} (h:Q .normal σ):Tr P Γ (.label l) Q σ:=fun ro m g a w hg=>wpIn_label ⟨σ,g,h,hg⟩
theorem tr_block {id:Nat} {c:Code} {Q:Exit→St→Prop} {σ:St} (h:Tr P Γ c (fun e σ'=>match e with | .exit id'=>if id'=id then Q .normal σ' else Q (.exit id') σ' | e=>Q e σ') σ):Tr P Γ (.block id c) Q σ:=by
 intro ro m g a w hg
 refine wpIn_block (wpIn_mono (h ro m g a w hg) fun e a' w' h=>?_)
 obtain ⟨σ',g',h1,h2⟩:=h
 cases e with
 | exit id' =>
  simp only [Exit.inBlock] at h1 ⊢
  split
  ·rename_i e;rw [if_pos e] at h1;exact ⟨σ',g',h1,h2⟩
  ·rename_i e;rw [if_neg e] at h1;exact ⟨σ',g',h1,h2⟩
 | _=>exact ⟨σ',g',h1,h2⟩
theorem tr_cond {c:Operand} {x y:Code} {Q:Exit→St→Prop} {σ:St} (b:Bool) (hb:rd P σ 0 c=some (pl (.bool b))) (ht:b=true→Tr P Γ x Q σ) (hf:b=false→Tr P Γ y Q σ):Tr P Γ (.cond c x y) Q σ:=by
 intro ro m g a w hg
 have hv:=rd_pl hb (evk_ok σ c) hg
 exact wpIn_cond_split hv (fun h=>ht h ro m g a w hg) (fun h=>hf h ro m g a w hg)
theorem tr_loop {c:Code} {Q:Exit→St→Prop} {σ:St} {α:Type} (I:α→St→Prop) (μ:α→Nat) (x0:α) (h0:I x0 σ)
  (round:∀ x σ,I x σ→Tr P Γ c (fun e σ'=>match e with | .normal=>∃ y,I y σ'∧μ y<μ x | e=>Q e σ') σ):Tr P Γ (.loop c) Q σ:=by
 intro ro m g a w hg b k cs hro hb hr
 have key:∀ n x σ g a w,μ x=n→I x σ→Good Γ g σ a w →
   ∃ e a' w',(∃ σ' g',Q e σ'∧Good Γ g' σ' a' w')∧ArrivesIn (Machine.fenced P (Fz ro)) P (lone (b.atR a (.code c::.inLoop c::k)) cs w) b k cs e a' w':=by
  intro n
  induction n using Nat.strongRecOn with
  | _ n ih =>
   intro x σ g a w hn hI hg
   obtain ⟨e,a₁,w₁,⟨σ₁,g₁,hq,hg₁⟩,harr⟩:=round x σ hI ro m g a w hg b (.inLoop c::k) cs hro hb hr
   cases e with
   | normal =>
    obtain ⟨y,hI₁,hlt⟩:=hq
    obtain ⟨e₂,a₂,w₂,hq₂,harr₂⟩:=ih (μ y) (hn ▸ hlt) y σ₁ g₁ a₁ w₁ rfl hI₁ hg₁
    exact ⟨e₂,a₂,w₂,hq₂,.of_steps (StepsIn.trans harr (.one (fenced_calm hb hr rfl) stepR_inLoop)) harr₂⟩
   | exit id=>exact ⟨_,a₁,w₁,⟨σ₁,g₁,hq,hg₁⟩,.pass (x:=.inLoop c) rfl (fun _ _=>.inl (by simp)) harr⟩
   | goto l=>exact ⟨_,a₁,w₁,⟨σ₁,g₁,hq,hg₁⟩,.pass (x:=.inLoop c) rfl (fun _ _=>.inl (by simp)) harr⟩
   | ret=>exact ⟨_,a₁,w₁,⟨σ₁,g₁,hq,hg₁⟩,.pass (x:=.inLoop c) rfl (fun _ _=>.inl (by simp)) harr⟩
   | panic ch=>exact ⟨_,a₁,w₁,⟨σ₁,g₁,hq,hg₁⟩,.pass (x:=.inLoop c) rfl (fun _ _=>.inl (by simp)) harr⟩
   | outgrown=>exact ⟨_,a₁,w₁,⟨σ₁,g₁,hq,hg₁⟩,.pass (x:=.inLoop c) rfl (fun _ _=>.inl (by simp)) harr⟩
 obtain ⟨e,a',w',hq,harr⟩:=key _ x0 σ g a w rfl h0 hg
 exact ⟨e,a',w',hq,.of_steps (.one (fenced_calm hb hr rfl) stepR_loop) harr⟩
end
end Go.XM
end
section
namespace Go.XM
open Go.RowKit
def mk (l:List (Nat × SV)) (o:List (Nat × RS)):St:=⟨upd l fun _=>.a (.c .any),ofL o⟩
def Sub (Γ:Ctx) (σ σ':St):Prop:=∀ g a w,Good Γ g σ a w→∃ g',Good Γ g' σ' a w
theorem Sub.refl {Γ:Ctx} {σ:St}:Sub Γ σ σ:=fun g _ _ h=>⟨g,h⟩
theorem Sub.trans {Γ:Ctx} {σ σ' σ'':St} (h:Sub Γ σ σ') (k:Sub Γ σ' σ''):Sub Γ σ σ'':=fun g a w hg=>let ⟨g',h'⟩:=h g a w hg;k g' a w h'
def fitT (m:Nm) (fz:List Nat) (σ:St):List (Nat × SV)→Prop
 | []=>True
 | (i,sv)::l=>amSV m fz σ.O sv (σ.T i)∧fitT m fz σ l
def fitO (m:Nm) (fz:List Nat) (O:Nat→RS):List (Nat × RS)→Nm→Prop
 | [],[]=>True
 | (k,.row sz l)::o,(k',r)::m'=>k=k'∧O r=.row sz l∧fitO m fz O o m'
 | (k,.box l)::o,(k',r)::m'=>k=k'∧(match O r with | .box l'=>amL m fz O l l' | _=>False)∧fitO m fz O o m'
 | _,_=>False
def fitB (m:Nm) (fz hs:List Nat):Bool :=
 nodup (m.map (·.1)) && nodup (m.map (·.2)) && (fz.all fun r=>!(m.map (·.2)).elem r) && (hs.all fun k=>memNm (k,k) m)
theorem fitT_spec {m:Nm} {fz:List Nat} {σ:St}:∀ {l:List (Nat × SV)},fitT m fz σ l→∀ i,upd l (fun _=>.a (.c .any)) i=.a (.c .any)∨amSV m fz σ.O (upd l (fun _=>.a (.c .any)) i) (σ.T i)
 | [],_,i=>.inl rfl
 | (k,sv)::l,h,i=>by
  simp only [upd]
  by_cases e:i=k
  ·subst e;rw [if_pos rfl];exact .inr h.1
  ·rw [if_neg e];exact fitT_spec h.2 i
theorem fitO_spec {m:Nm} {fz:List Nat} {O:Nat→RS}:∀ {o:List (Nat × RS)} {m':Nm},fitO m fz O o m'→(∀ k,look m' k=none→ofL o k=.fresh) ∧
  ∀ k r,look m' k=some r→(∃ sz l,ofL o k=.row sz l∧O r=.row sz l)∨∃ l l',ofL o k=.box l∧O r=.box l'∧amL m fz O l l'
 | [],[],_=>⟨fun _ _=>rfl,fun k r h=>by simp [look] at h⟩
 | (k,.row sz l)::o,(k',r)::m',h=>by
  obtain ⟨rfl,h1,h2⟩:=h
  obtain ⟨i1,i2⟩:=fitO_spec h2
  refine ⟨fun x hx=>?_,fun x y hx=>?_⟩
  ·simp only [look] at hx
   split at hx
   ·cases hx
   ·rename_i e
    simp only [ofL,upd];rw [if_neg e];exact i1 x hx
  ·simp only [look] at hx
   split at hx
   ·rename_i e
    cases hx
    simp only [ofL,upd];rw [if_pos e];exact .inl ⟨sz,l,rfl,h1⟩
   ·rename_i e
    simp only [ofL,upd];rw [if_neg e];exact i2 x y hx
 | (k,.box l)::o,(k',r)::m',h=>by
  obtain ⟨rfl,h1,h2⟩:=h
  obtain ⟨i1,i2⟩:=fitO_spec h2
  refine ⟨fun x hx=>?_,fun x y hx=>?_⟩
  ·simp only [look] at hx
   split at hx
   ·cases hx
   ·rename_i e
    simp only [ofL,upd];rw [if_neg e];exact i1 x hx
  ·simp only [look] at hx
   split at hx
   ·rename_i e
    cases hx
    simp only [ofL,upd];rw [if_pos e]
    split at h1
    ·rename_i l' ho;exact .inr ⟨l,l',rfl,ho,h1⟩
    ·exact h1.elim
   ·rename_i e
    simp only [ofL,upd];rw [if_neg e];exact i2 x y hx
 | (k,.fresh)::o,m',h=>by cases m' <;> exact h.elim
 | (k,.dead)::o,m',h=>by cases m' <;> exact h.elim
 | [],_::_,h=>h.elim
 | (k,.row _ _)::_,[],h=>h.elim
 | (k,.box _)::_,[],h=>h.elim
theorem Heap.part {w:World} {g:G} {O:Nat→RS} (h:Heap w g O) (m:Nm) (fz:List Nat) (n2:nodup (m.map (·.2))=true) (n3:∀ r,fz.elem r=true→back m r=none) {o:List (Nat × RS)} (ho:fitO m fz O o m) :
  ∃ g0:G,(∀ b,g0.own b=(g.own b).bind (bkOwner m))∧(∀ b,g0.Im b↔g.Im b∨∃ r,fz.elem r=true∧(g.own b=some (.root r)∨∃ i j,g.own b=some (.cell r i j)))∧(∀ k r,look m k=some r→g0.β k=g.β r) ∧
   Tie m w g0 (ofL o) g O∧Heap w g0 (ofL o):=by
 obtain ⟨f1,f2⟩:=fitO_spec ho
 let g0:G:=⟨fun k=>(look m k).bind g.β,fun b=>(g.own b).bind (bkOwner m),fun b=>g.Im b∨∃ r,fz.elem r=true∧(g.own b=some (.root r)∨∃ i j,g.own b=some (.cell r i j))⟩
 have t:Tie m w g0 (ofL o) g O:=⟨fun k r hk=>by
  rcases f2 k r hk with h | ⟨l,l',h1,h2,_⟩
  ·exact .inl h
  ·exact .inr ⟨l,l',h1,h2⟩,fun k r hk=>by simp [g0,hk],fun b hb=>.inl hb⟩
 refine ⟨g0,fun _=>rfl,fun _=>Iff.rfl,fun k r hk=>by simp [g0,hk],t,⟨fun k=>?_,fun b hb=>?_,fun b o hb=>?_⟩⟩
 ·cases hk:look m k with
  | none=>rw [f1 k hk];trivial
  | some r =>
   have hb:=back_of n2 (look_mem hk)
   refine t.rs' hk (fun l l' h1 h2=>?_) (fun b=>⟨fun h=>by simp [g0,h,bkOwner,hb],fun i j h=>by simp [g0,h,bkOwner,hb]⟩) (h.O r)
   rcases f2 k r hk with ⟨sz,l2,q1,_⟩ | ⟨l2,l3,q1,q2,q3⟩
   ·rw [h1] at q1;cases q1
   ·rw [h1] at q1;rw [h2] at q2;cases q1;cases q2
    exact amL_R t h.O (fun r hr b hb=>.inr ⟨r,hr,hb⟩) q3
 ·have hb:g.Im b∨∃ r,fz.elem r=true∧(g.own b=some (.root r)∨∃ i j,g.own b=some (.cell r i j)):=hb
  show b<w.heap.size∧(g.own b).bind (bkOwner m)=none
  rcases hb with hb | ⟨r,hr,hb⟩
  ·obtain ⟨h1,h2⟩:=h.im b hb
   exact ⟨h1,by rw [h2];rfl⟩
  ·rcases hb with hb | ⟨i,j,hb⟩
   ·exact ⟨h.lt b _ hb,by rw [hb];simp [bkOwner,n3 r hr]⟩
   ·exact ⟨h.lt b _ hb,by rw [hb];simp [bkOwner,n3 r hr]⟩
 ·have hb':(g.own b).bind (bkOwner m)=some o:=hb
  rw [Option.bind_eq_some_iff] at hb'
  obtain ⟨o',h1,_⟩:=hb'
  exact h.lt b o' h1
theorem amSV_R {m:Nm} {lent:List Nat} {O O0:Nat→RS} {x y:SV} (h:amSV m lent O x y) {w:World} {g g0:G} (t:Tie m w g0 O0 g O) (hO:∀ r,rsR w g O r (O r))
  (hl:∀ r,lent.elem r=true→∀ b,(g.own b=some (.root r)∨∃ i j,g.own b=some (.cell r i j))→g0.Im b) {u:Value} (hu:svR w g O y u):svR w g0 O0 x u:=by
 cases x <;> cases y <;> simp only [amSV] at h
 exact amAV_R h t hO hl hu
theorem back_none {m:Nm} {r:Nat} (h:(m.map (·.2)).elem r=false):back m r=none:=by
 cases hb:back m r with
 | none=>rfl
 | some k =>
  exfalso
  have:(m.map (·.2)).elem r=true:=by simp only [List.elem_eq_mem,decide_eq_true_eq];exact List.mem_map.2 ⟨_,back_mem hb,rfl⟩
  rw [h] at this;cases this
theorem sub_fit {Γ:Ctx} {σ:St} {l:List (Nat × SV)} {o:List (Nat × RS)} (m:Nm) (fz:List Nat) {hs:List Nat} (hH:∀ k,Γ.H k→k∈hs) (hB:fitB m fz hs=true) (hT:fitT m fz σ l) (hO:fitO m fz σ.O o m):Sub Γ σ (mk l o):=by
 intro g a w hg
 simp only [fitB,Bool.and_eq_true,List.all_eq_true] at hB
 obtain ⟨⟨⟨b1,b2⟩,b3⟩,b4⟩:=hB
 obtain ⟨g0,e1,e2,e3,t,hp⟩:=hg.heap.part m fz b2 (fun r hr=>back_none (by have:=b3 r (by simpa using hr);simpa using this)) hO
 have hlk:∀ k,Γ.H k→look m k=some k:=fun k hk=>look_of b1 (memNm_spec (b4 k (hH k hk)))
 obtain ⟨f1,f2⟩:=fitO_spec hO
 refine ⟨g0,⟨fun i=>?_,hp.O,hp.im,hg.nt,hg.df,hg.os,hg.tape,hg.out,hg.size,hg.blk,fun b o ho=>?_,hp.lt,fun b hb=>?_,fun k hk=>?_,fun k l' hk ho=>?_⟩⟩
 ·rcases fitT_spec hT i with h | h
  ·show svR w g0 _ (upd l _ i) _
   rw [h];trivial
  ·exact amSV_R h t hg.O (fun r hr b hb=>(e2 b).2 (.inr ⟨r,hr,hb⟩)) (hg.T i)
 ·rw [e1,Option.bind_eq_some_iff] at ho
  obtain ⟨o',h1,_⟩:=ho
  exact hg.mine b o' h1
 ·rcases (e2 b).1 hb with h | ⟨r,hr,h⟩
  ·exact hg.imf b h
  ·have:∃ o,g.own b=some o:=by rcases h with h | ⟨i,j,h⟩ <;> exact ⟨_,h⟩
   obtain ⟨o,ho⟩:=this
   rcases hg.mine b o ho with h1 | h1
   ·exact .inl h1
   ·exact .inr (.inl h1)
 ·show ofL o k≠.fresh
  rcases f2 k k (hlk k hk) with ⟨sz,l2,q1,_⟩ | ⟨l2,l3,q1,_⟩ <;> rw [q1] <;> simp
 ·have ho:ofL o k=.box l':=ho
  rw [e3 k k (hlk k hk)]
  rcases f2 k k (hlk k hk) with ⟨sz,l2,q1,_⟩ | ⟨l2,l3,q1,q2,_⟩
  ·rw [ho] at q1;cases q1
  ·exact hg.bx k l3 hk q2
theorem sub_nil {Γ:Ctx} {σ:St} {i d:Nat} {sz:Nat} (sz':Nat) (hT:σ.T i=cv (.nl sz)) (hd:σ.O d=.fresh):Sub Γ σ ⟨upd [(i,cv (.vw d 0 0))] σ.T,upd [(d,.row sz' [])] σ.O⟩:=by
 intro g a w hg
 obtain ⟨g',k1,k2,k3⟩:=hg.nilRoot sz' hd
 refine ⟨g',⟨fun j=>?_,k1.O,k1.im,k1.nt,k1.df,k1.os,k1.tape,k1.out,k1.size,k1.blk,k1.mine,k1.lt,k1.imf,k1.nf,k1.bx⟩⟩
 show svR w g' _ (upd _ σ.T j) _
 simp only [upd]
 by_cases e:j=i
 ·subst e
  rw [if_pos rfl]
  have:=hg.T j
  rw [hT] at this
  have:a.tmps.getD j undef=.slice none 0 0:=this
  rw [this];exact k3
 ·rw [if_neg e];exact k1.T j
section
variable {P:Program} {Γ:Ctx}
theorem tr_sub {c:Code} {Q:Exit→St→Prop} {σ σ':St} (h:Sub Γ σ σ') (k:Tr P Γ c Q σ'):Tr P Γ c Q σ:=fun ro m g a w hg=>let ⟨g',hg'⟩:=h g a w hg;k ro m g' a w hg'
theorem tr_post {c:Code} {Q Q':Exit→St→Prop} {σ:St} (h:Tr P Γ c Q σ) (hq:∀ e σ',Q e σ'→∃ σ'',Sub Γ σ' σ''∧Q' e σ''):Tr P Γ c Q' σ :=
 fun ro m g a w hg=>wpIn_mono (h ro m g a w hg) fun e a' w' ⟨σ',g',h1,h2⟩=>let ⟨σ'',k1,k2⟩:=hq e σ' h1;let ⟨g'',k3⟩:=k1 g' a' w' h2;⟨σ'',g'',k2,k3⟩
theorem tr_rounds {c:Code} {Q:Exit→St→Prop} {α:Type} (S:α→St) (A:α→Prop) (μ:α→Nat)
  (round:∀ x,A x→Tr P Γ c (fun e σ'=>match e with | .normal=>∃ y,A y∧μ y<μ x∧Sub Γ σ' (S y) | e=>Q e σ') (S x)):∀ x,A x→Tr P Γ (.loop c) Q (S x):=by
 intro x hA
 refine tr_loop (fun (y:α) σ=>A y∧Sub Γ σ (S y)) μ x ⟨hA,Sub.refl⟩ fun y σ ⟨hy,hs⟩=>?_
 refine tr_sub hs (Tr.mono (round y hy) fun e σ' h=>?_)
 cases e with
 | normal=>obtain ⟨z,h1,h2,h3⟩:=h;exact ⟨z,⟨h1,h3⟩,h2⟩
 | _=>exact h
end
def rvOf (P:Program) (σ:St):ResultVar→Option SV
 | .tmp t=>some (σ.T t)
 | .cell a t=>if hasT P t then match σ.T a with
  | .a (.c (.bx r 0))=>match σ.O r with
   | .box l=>ldCV P t l 0
   | _=>none
  | _=>none
  else none
def rvs (P:Program) (σ:St):List ResultVar→Option (List SV)
 | []=>some []
 | r::rs=>match rvOf P σ r,rvs P σ rs with
  | some x,some l=>some (x::l)
  | _,_=>none
def tupOf:List SV→Option (List AV)
 | []=>some []
 | .a x::l=>(tupOf l).map (x::·)
 | .tup _::_=>none
def resOf (P:Program) (σ:St) (rs:List ResultVar):Option SV:=match rvs P σ rs with
 | some [x]=>some x
 | some l=>(tupOf l).map .tup
 | none=>none
theorem run_rv {P:Program} {Γ:Ctx} {g:G} {σ:St} {a:Act} {w:World} (hg:Good Γ g σ a w) {r:ResultVar} {sv:SV} (h:rvOf P σ r=some sv) :
  ∃ u,(match r with | .tmp t=>pure (a.tmps.getD t undef) | .cell x t=>do loadVar t (← asAddr (a.tmps.getD x undef)):Sem Value).run P w=.ok u w∧svR w g σ.O sv u:=by
 cases r with
 | tmp t=>cases h;exact ⟨_,rfl,hg.T t⟩
 | cell x t =>
  simp only [rvOf] at h
  split at h
  ·rename_i ht
   split at h
   ·rename_i r hT
    split at h
    ·rename_i l hO
     have hv:=hg.T x
     rw [hT] at hv
     have hv:cvR w g σ.O (.bx r 0) (a.tmps.getD x undef):=hv
     simp only [cvR,hO] at hv
     obtain ⟨b,hb,hv⟩:=hv
     have hbox:=hg.O r
     rw [hO] at hbox
     obtain ⟨b',cs,h1,h2,h3,h4,h5⟩:=hbox
     obtain rfl:b'=b:=by rw [hb] at h1;exact (Option.some.inj h1).symm
     obtain ⟨u,k1,k2⟩:=ld_R ht h (w:=w) (g:=g) (O:=σ.O) (b:=b') (off:=0) (fun j y hy=>by
      obtain ⟨u,a1,a2,a3⟩:=h5 _ y hy
      exact ⟨u,by rw [h3.cell];exact a1,a2,a3⟩)
     exact ⟨u,by simp [hv,asAddr,k1],k2⟩
    ·cases h
   ·cases h
  ·cases h
theorem run_rvs {P:Program} {Γ:Ctx} {g:G} {σ:St} {a:Act} {w:World} (hg:Good Γ g σ a w):∀ {rs:List ResultVar} {l:List SV},rvs P σ rs=some l →
  ∃ us:List Value,(rs.mapM fun (r:ResultVar)=>match r with | .tmp t=>pure (a.tmps.getD t undef) | .cell x t=>do loadVar t (← asAddr (a.tmps.getD x undef)):Sem (List Value)).run P w=.ok us w∧us.length=l.length∧∀ (j:Nat) (sv:SV),l[j]?=some sv→∃ u,us[j]?=some u∧svR w g σ.O sv u
 | [],l,h=>by simp only [rvs,Option.some.injEq] at h;subst h;exact ⟨[],rfl,rfl,by simp⟩
 | r::rs,l,h=>by
  simp only [rvs] at h
  split at h
  ·rename_i x l' h1 h2
   cases h
   obtain ⟨u,k1,k2⟩:=run_rv hg h1
   obtain ⟨us,k3,k4,k5⟩:=run_rvs hg h2
   refine ⟨u::us,?_,by simp [k4],fun j sv hj=>?_⟩
   ·rw [List.mapM_cons]
    simp only [Sem.run_bind,k1,k3,Result.andThen_ok,Sem.run_pure]
   ·cases j with
    | zero=>simp at hj;subst hj;exact ⟨u,rfl,k2⟩
    | succ j=>simpa using k5 j sv (by simpa using hj)
  ·cases h
theorem tupOf_spec:∀ {l:List SV} {m:List AV},tupOf l=some m→m.length=l.length∧∀ (j:Nat) (x:AV),m[j]?=some x→l[j]?=some (.a x)
 | [],m,h=>by simp only [tupOf,Option.some.injEq] at h;subst h;simp
 | .a x::l,m,h=>by
  simp only [tupOf,Option.map_eq_some_iff] at h
  obtain ⟨m',h1,rfl⟩:=h
  obtain ⟨k1,k2⟩:=tupOf_spec h1
  refine ⟨by simp [k1],fun j y hj=>?_⟩
  cases j with
  | zero=>simp at hj;subst hj;rfl
  | succ j=>simpa using k2 j y (by simpa using hj)
 | .tup _::_,m,h=>by cases h
theorem run_results {P:Program} {Γ:Ctx} {g:G} {σ:St} {a:Act} {w:World} (hg:Good Γ g σ a w) {fn:Func} {sv:SV} (h:resOf P σ fn.results.toList=some sv):∃ v,(results fn a.tmps).run P w=.ok v w∧svR w g σ.O sv v:=by
 unfold resOf at h
 have hmap:∀ us:List Value,((fn.results.toList.mapM fun (r:ResultVar)=>match r with | .tmp t=>pure (a.tmps.getD t undef) | .cell x t=>do loadVar t (← asAddr (a.tmps.getD x undef)):Sem (List Value)).run P w=.ok us w) →
   (results fn a.tmps).run P w=.ok (if h:us.toArray.size=1 then us.toArray[0] else .tuple us.toArray) w:=by
  intro us hu
  unfold results
  rw [Array.mapM_eq_mapM_toList]
  simp only [Sem.run_bind,Sem.run_map]
  refine (congrArg (fun z:Result (List Value)=>(z.andThen fun a w'=>Result.ok a.toArray w').andThen fun vs w'=>(Pure.pure (if h:vs.size=1 then vs[0] else Value.tuple vs):Sem Value).run P w') hu).trans ?_
  rfl
 split at h
 ·rename_i x hx
  cases h
  obtain ⟨us,k1,k2,k3⟩:=run_rvs hg hx
  obtain ⟨u,hu1,hu2⟩:=k3 0 _ rfl
  have:us=[u]:=by
   cases us with
   | nil=>simp at k2
   | cons a l=>cases l with
    | nil=>simp at hu1;rw [hu1]
    | cons=>simp at k2
  subst this
  exact ⟨u,by rw [hmap _ k1];simp,hu2⟩
 ·rename_i l hne hx
  rw [Option.map_eq_some_iff] at h
  obtain ⟨m,hm,rfl⟩:=h
  obtain ⟨us,k1,k2,k3⟩:=run_rvs hg hx
  obtain ⟨t1,t2⟩:=tupOf_spec hm
  refine ⟨.tuple us.toArray,?_,us.toArray,rfl,by simp [k2,t1],fun j x hj=>?_⟩
  ·rw [hmap _ k1]
   have:us.toArray.size≠1:=by
    simp only [List.size_toArray,k2]
    intro h1
    match l,h1,hne with
    | [y],_,hne=>exact hne y rfl
   rw [dif_neg this]
  ·obtain ⟨u,h1,h2⟩:=k3 j _ (t2 j x hj)
   exact ⟨u,by simpa using h1,h2⟩
 ·cases h
def Out (P:Program) (fn:Func) (hs:List Nat) (res:SV) (O1:List (Nat × RS)) (σ:St):Prop :=
 ∃ (m:Nm) (fz:List Nat) (sv:SV),resOf P σ fn.results.toList=some sv∧fitB m fz hs=true∧fitO m fz σ.O O1 m∧((trSV m res=some sv)∨amSV m fz σ.O res sv)
theorem ct_intro {P:Program} {f:FuncId} {fn:Func} {c:Code} (hf:P.funcs[f]?=some fn) (hb:fn.body=some c) {args:List SV} {O0:List (Nat × RS)} {res:SV} {O1:List (Nat × RS)} (hs:List Nat)
  (hlen:args.length≤fn.ntmps) (hbx:∀ k l,ofL O0 k=.box l→k∈hs) (hb2:∀ k,k∈hs→∃ l,ofL O0 k=.box l)
  (h:∀ Γ:Ctx,Γ.nt=fn.ntmps→Γ.df=[]→(∀ k,Γ.H k→k∈hs)→Tr P Γ c (fun e σ'=>(e=.normal∨e=.ret)∧Out P fn hs res O1 σ') ⟨fun i=>args.getD i (.a (.c .any)),ofL O0⟩):Ct P f args (ofL O0) res (ofL O1):=by
 intro w g vals hp hsz hv
 refine calls_of_wp hf hb ?_
 let Γ:Ctx:={ w0:=w,L:=fun b=>∃ o,g.own b=some o,I:=g.Im,nt:=fn.ntmps,H:=fun k=>k∈hs,β0:=g.β }
 have hg:Good Γ g ⟨fun i=>args.getD i (.a (.c .any)),ofL O0⟩ { tmps:=vals++Array.replicate (fn.ntmps-vals.size) undef,defers:=[] } w:=by
  refine ⟨fun i=>?_,hp.O,hp.im,?_,rfl,rfl,rfl,rfl,Nat.le_refl _,fun _ _ _=>rfl,fun b o ho=>.inr ⟨o,ho⟩,hp.lt,fun b hb=>.inr (.inr hb),fun k hk=>?_,fun k l hk ho=>rfl⟩
  ·show svR w g (ofL O0) (args.getD i _) _
   rw [List.getD_eq_getElem?_getD]
   cases hi:args[i]? with
   | none=>trivial
   | some sv =>
    have hlt:=idx_lt hi
    have:(vals++Array.replicate (fn.ntmps-vals.size) undef).getD i undef=vals.getD i undef:=by
     have hlt':i<vals.size:=by omega
     simp [Array.getElem?_append,hlt']
    show svR w g (ofL O0) sv ((vals++Array.replicate (fn.ntmps-vals.size) undef).getD i undef)
    rw [this];exact hv i sv hi
  ·show _=fn.ntmps
   simp;omega
  ·obtain ⟨l,hl⟩:=hb2 k hk
   show ofL O0 k≠_
   rw [hl];simp
 refine wp_mono (wpIn_wide.1 (h Γ rfl rfl (fun k hk=>hk) none 0 g _ w hg)) fun e a' w' hpost=>?_
 obtain ⟨σ',g',⟨he,m,fz,sv,hres,hB,hO,hsv⟩,hg'⟩:=hpost
 simp only [fitB,Bool.and_eq_true,List.all_eq_true] at hB
 obtain ⟨⟨⟨b1,b2⟩,b3⟩,b4⟩:=hB
 obtain ⟨v,k1,k2⟩:=run_results hg' hres
 obtain ⟨g0,e1,e2,e3,t,hp0⟩:=hg'.heap.part m fz b2 (fun r hr=>back_none (by have:=b3 r (by simpa using hr);simpa using this)) hO
 have hpost:a'.defers=[]∧∃ v,(results fn a'.tmps).run P w'=.ok v w'∧(∃ v_1 g',Ending.returned v=.returned v_1∧svR w' g' (ofL O1) res v_1∧Heap w' g' (ofL O1)∧Fr w g w' g'∧∀ k l l',ofL O0 k=.box l→ofL O1 k=.box l'→g'.β k=g.β k):=by
  refine ⟨hg'.df,v,k1,v,g0,rfl,?_,hp0,⟨hg'.os,hg'.tape,hg'.out,hg'.size,fun b hb hn=>hg'.blk b hb (fun ⟨o,ho⟩=>by rw [hn] at ho;cases ho),fun b o ho=>?_,fun b hb=>?_⟩,fun k l l' h1 h2=>?_⟩
  ·rcases hsv with hsv | hsv
   ·exact t.sv hsv k2
   ·exact amSV_R hsv t hg'.O (fun r hr b hb=>(e2 b).2 (.inr ⟨r,hr,hb⟩)) k2
  ·rw [e1,Option.bind_eq_some_iff] at ho
   obtain ⟨o',h1,_⟩:=ho
   exact hg'.mine b o' h1
  ·rcases (e2 b).1 hb with h | ⟨r,hr,h⟩
   ·rcases hg'.imf b h with h | h | h
    ·exact .inr (.inl h)
    ·exact .inr (.inr h)
    ·exact .inl h
   ·have:∃ o,g'.own b=some o:=by rcases h with h | ⟨i,j,h⟩ <;> exact ⟨_,h⟩
    obtain ⟨o,ho⟩:=this
    rcases hg'.mine b o ho with h1 | h1
    ·exact .inr (.inl h1)
    ·exact .inr (.inr h1)
  ·have hk:=hbx k l h1
   have hlk:=look_of b1 (memNm_spec (b4 k hk))
   rw [e3 k k hlk]
   obtain ⟨f1,f2⟩:=fitO_spec hO
   rcases f2 k k hlk with ⟨sz,l2,q1,_⟩ | ⟨l2,l3,q1,q2,_⟩
   ·rw [h2] at q1;cases q1
   ·exact hg'.bx k l3 hk q2
 rcases he with rfl | rfl
 ·exact hpost
 ·exact hpost
end Go.XM
end
section
namespace Go.XM
open Go.RowKit
def isNilC:Operand→Bool
 | .const (.slice none 0 0)=>true
 | _=>false
def nilOf (σ:St):SV→Option (Bool × List (Nat × RS) × PC)
 | .a (.c (.nl _))=>some (true,[],none)
 | .a (.c (.p (.v (.slice none _ _))))=>some (true,[],none)
 | .a (.c (.p (.v (.slice (some _) _ _))))=>some (false,[],none)
 | .a (.c (.p (.sl _ l)))=>some (false,[],some (l≠[]))
 | .a (.c (.vw r _ n))=>match σ.O r with
  | .row sz l=>some (false,[(r,.row sz l)],some (n≠0))
  | _=>none
 | _=>none
def pNilCmp (P:Program) (σ:St) (op:BinOp) (t:TypeId) (d:Nat) (x y:Operand):PR :=
 if isNilC y then match P.underlying t,rd P σ t x with
  | some (.slice _),some sv=>match nilOf σ sv with
   | some (b,ro,c)=>match op with
    | .eql=>some ({ rt:=evk σ x,ro:=ro,wt:=[(d,pl (.bool b))] },c)
    | .neq=>some ({ rt:=evk σ x,ro:=ro,wt:=[(d,pl (.bool (!b)))] },c)
    | _=>none
   | none=>none
  | _,_=>none
 else none
theorem nilOf_R {σ0:St} {sv:SV} {b:Bool} {ro:List (Nat × RS)} {c:PC} (h:nilOf σ0 sv=some (b,ro,c)) (hc:c.holds):okL ro σ0.O∧∀ {Γ:Ctx} {g:G} {σ:St} {a:Act} {w:World},okL ro σ.O→Good Γ g σ a w→∀ {u:Value},svR w g σ.O sv u→∃ ad n cp,u=.slice ad n cp∧ad.isNone=b:=by
 unfold nilOf at h
 split at h
 ·cases h;exact ⟨trivial,fun _ _ u hu=>⟨none,0,0,hu,rfl⟩⟩
 ·cases h;refine ⟨trivial,fun _ _ u hu=>?_⟩;cases (show spR _ _ (.v _) u from hu);exact ⟨_,_,_,rfl,rfl⟩
 ·cases h;refine ⟨trivial,fun _ _ u hu=>?_⟩;cases (show spR _ _ (.v _) u from hu);exact ⟨_,_,_,rfl,rfl⟩
 ·rename_i sz l
  cases h
  refine ⟨trivial,fun _ _ u hu=>?_⟩
  have hl:l≠[]:=hc
  cases (show spR _ _ (.sl sz l) u from hu) with
  | nil=>exact absurd rfl hl
  | sl b off cap=>exact ⟨_,_,_,rfl,rfl⟩
 ·rename_i r e n
  split at h
  ·rename_i sz l hO
   cases h
   refine ⟨⟨hO,trivial⟩,fun {Γ g σ a w} hro hg u hu=>?_⟩
   have hn:n≠0:=hc
   have hu:cvR w g σ.O (.vw r e n) u:=hu
   simp only [cvR,hro.1] at hu
   split at hu
   ·exact absurd hu.2.1 hn
   ·obtain ⟨cap,_,off,q,_⟩:=hu;exact ⟨_,_,_,q,rfl⟩
  ·cases h
 ·cases h
theorem run_eq_nil {P:Program} {t e:TypeId} (ht:P.underlying t=some (.slice e)) (ad:Option Addr) (n c:Nat) (w:World):(Op.equal t (.slice ad n c) (.slice none 0 0)).run P w=.ok ad.isNone w:=by
 unfold Op.equal
 show (Op.equalIn (9999+1) t _ _).run P w=_
 unfold Op.equalIn
 cases ad <;> simp [run_underlying ht]
theorem pNilCmp_right {P:Program} {σ:St} {o:Oper} {op:BinOp} {t t' d:Nat} {x y:Operand} (hd:o.dst=some d) (ho:o.op=.binOp op t x y t'):Right P o σ (pNilCmp P σ op t d x y):=by
 intro f c hr hc
 unfold pNilCmp at hr
 split at hr
 ·rename_i hy
  have hy':y=.const (.slice none 0 0):=by
   unfold isNilC at hy
   split at hy
   ·rfl
   ·cases hy
  subst hy'
  split at hr
  ·rename_i e sv hu hx
   split at hr
   ·rename_i b ro c' hn
    have key:∀ (v:Bool),(∀ (ad:Option Addr) (n cp:Nat) (w:World),ad.isNone=b→((do eqGuard op t x (.const (.slice none 0 0)) (.slice ad n cp) (.slice none 0 0);binOp op t (.slice ad n cp) (.slice none 0 0):Sem Value)).run P w=.ok (.bool v) w) →
      c'.holds→({ rt:=evk σ x,ro:=ro,wt:=[(d,pl (.bool v))] }:Ft).ok σ∧Sound P o { rt:=evk σ x,ro:=ro,wt:=[(d,pl (.bool v))] }:=by
     intro v hv hc'
     obtain ⟨k1,k2⟩:=nilOf_R hn hc'
     refine ⟨⟨evk_ok _ _,k1⟩,sound_val hd rfl rfl fun Γ g σ' a w hf hg=>⟨.bool v,?_,spR.v _ rfl⟩⟩
     obtain ⟨ad,n,cp,h1,h2⟩:=k2 hf.2 hg (rd_R hx hf.1 hg)
     have h3:a.eval (.const (.slice none 0 0))=.slice none 0 0:=rfl
     simp only [execOp,ho,h1,h3]
     rw [Sem.run_bind,hv ad n cp w h2]
     rfl
    split at hr
    ·cases hr
     exact key b (fun ad n cp w hb=>by simp [eqGuard,binOp,run_eq_nil hu,hb]) hc
    ·cases hr
     exact key (!b) (fun ad n cp w hb=>by simp [eqGuard,binOp,run_eq_nil hu,hb]) hc
    ·cases hr
   ·cases hr
  ·cases hr
 ·cases hr
theorem Good.cut {Γ:Ctx} {g:G} {σ:St} {a:Act} {w:World} (hg:Good Γ g σ a w) {r d sz:Nat} {l:List (List RC)} (hr:σ.O r=.row sz l) (hd:σ.O d=.fresh) (m:Nat) :
  ∃ g':G,Good Γ g' ⟨σ.T,upd [(d,.row sz (l.take m)),(r,.dead)] σ.O⟩ a w∧g'.Im=g.Im∧(∀ e n u,e+n≤(l.take m).length→cvR w g σ.O (.vw r e n) u→cvR w g' (upd [(d,.row sz (l.take m)),(r,.dead)] σ.O) (.vw d e n) u):=by
 have hrd:r≠d:=by intro e;rw [e,hd] at hr;cases hr
 let O':=upd [(d,RS.row sz (l.take m)),(r,RS.dead)] σ.O
 have hOd:O' d=.row sz (l.take m):=by simp [O',upd]
 have hOr:O' r=.dead:=by simp [O',upd,hrd]
 have hO:∀ k,k≠d→k≠r→O' k=σ.O k:=fun k h1 h2=>by simp [O',upd,h1,h2]
 let g':G:={ β:=upF g.β d (g.β r),own:=fun b=>(g.own b).map (ren r d),Im:=g.Im }
 have hle:Le w g σ.O w g' O':=by
  refine ⟨fun b hb=>⟨hb,rfl⟩,fun k hk=>?_,fun k sz' l' hk hr'=>?_,fun k l' hk hr'=>?_⟩
  ·by_cases e1:k=d
   ·rw [e1,hOd];simp
   ·by_cases e2:k=r
    ·rw [e2,hOr];simp
    ·rw [hO k e1 e2];exact hk
  ·have hkd:k≠d:=fun e=>hk (e ▸ hd)
   by_cases e2:k=r
   ·rw [e2,hOr] at hr';cases hr'
   ·rw [hO k hkd e2] at hr'
    exact ⟨sz',l',hr',rfl,Nat.le_refl _,upF_ne hkd,fun b _ c hc=>⟨c,hc,rfl⟩⟩
  ·have hkd:k≠d:=fun e=>hk (e ▸ hd)
   by_cases e2:k=r
   ·rw [e2,hOr] at hr';cases hr'
   ·rw [hO k hkd e2] at hr'
    exact ⟨l',hr',upF_ne hkd⟩
 have hgr:=hg.O r
 rw [hr] at hgr
 refine ⟨g',hg.step hle (fun k=>?_) (fun b hb=>⟨(hg.im b hb).1,by show (g.own b).map _=none;rw [(hg.im b hb).2];rfl⟩) rfl rfl rfl (Nat.le_refl _) (fun _ _ _=>rfl) (fun b o ho=>?_) (fun b hb=>.inl hb),rfl,?_⟩
 ·show rsR w g' O' k (O' k)
  by_cases e1:k=d
  ·subst e1
   rw [hOd]
   show match g'.β k with | none=>_ | some b=>_
   simp only [rsR] at hgr
   simp only [g',upF_same]
   cases hb:g.β r with
   | none=>simp only [hb] at hgr;simp [hgr]
   | some b =>
    simp only [hb] at hgr ⊢
    obtain ⟨c,h2,h3,h4,h6,h5⟩:=hgr
    refine ⟨c,by rw [h2];simp [ren],h3,fun e he=>h4 e (List.mem_of_mem_take he),Nat.le_trans (Nat.mul_le_mul_right _ (by simp;omega)) h6,fun i e j rc hi hj=>?_⟩
    replace hi:l[i]?=some e:=by rw [List.getElem?_take] at hi;split at hi <;> first | exact hi | cases hi
    obtain ⟨u,a1,a2,a3⟩:=h5 i e j rc hi hj
    refine ⟨u,a1,a2,?_⟩
    cases rc with
    | s x=>exact a3
    | hole=>trivial
    | o sz2 l2 =>
     rcases a3 with a3 | ⟨b2,cap2,c2,z1,z2,z3,z4⟩
     ·exact .inl a3
     ·exact .inr ⟨b2,cap2,c2,z1,z2,by show (g.own b2).map _=_;rw [z3];simp [ren],z4⟩
  ·by_cases e2:k=r
   ·rw [e2,hOr];trivial
   ·rw [hO k e1 e2]
    refine hle.keep (upF_ne e1) (fun b hb=>⟨rfl,?_⟩) (hg.O k)
    show (g.own b).map _=_
    rcases hb with hb | ⟨i,j,hb⟩ <;> rw [hb] <;> simp [ren,e2]
 ·have ho':(g.own b).map (ren r d)=some o:=ho
  rw [Option.map_eq_some_iff] at ho'
  obtain ⟨o',h1,_⟩:=ho'
  exact ⟨hg.lt b o' h1,.inr ⟨o',h1⟩⟩
 ·intro e n u hen hu
  show cvR w g' O' (.vw d e n) u
  simp only [cvR,hr] at hu
  simp only [cvR,hOd,g',upF_same]
  cases hb:g.β r with
  | none=>simp only [hb] at hu ⊢;exact hu
  | some b =>
   simp only [hb] at hu ⊢
   obtain ⟨cap,c,off,z1,z2,z3,z4,z5⟩:=hu
   exact ⟨cap,c,off,z1,z2,z3,hen,z5⟩
def pCut (P:Program) (σ:St) (t:TypeId) (d:Nat) (x:Operand) (hi:Option Operand):PR :=
 match P.underlying t,rd P σ t x,σ.O d with
 | some (.slice e),some (.a (.c (.vw r 0 n))),.fresh=>match σ.O r,rdB P σ n hi with
  | .row sz ll,some (h,k2)=>if hasT P e && Nat.beq (szT P e) sz then some ({ rt:=evk σ x++k2,ro:=[(r,.row sz ll),(d,.fresh)],wt:=[(d,cv (.vw d 0 h.toNat))],wo:=[(d,.row sz (ll.take h.toNat)),(r,.dead)] },some (0≤h∧h≤n)) else none
  | _,_=>none
 | _,_,_=>none
theorem pCut_right {P:Program} {σ:St} {o:Oper} {t d:Nat} {x:Operand} {hi:Option Operand} (hd:o.dst=some d) (ho:o.op=.slice t x none hi none):Right P o σ (pCut P σ t d x hi):=by
 intro ft c hr hc
 unfold pCut at hr
 split at hr
 ·rename_i e r n hu hx hdf
  split at hr
  ·rename_i sz ll h k2 hO hhi
   split at hr
   ·rename_i hsz
    simp only [Bool.and_eq_true] at hsz
    obtain ⟨hte,hsz⟩:=hsz
    have hsz:szT P e=sz:=Nat.eq_of_beq_eq_true hsz
    cases hr
    obtain ⟨h1,h2⟩:0≤h∧h≤n:=hc
    refine ⟨⟨okL_append.2 ⟨evk_ok _ _,rdB_ok hhi⟩,hO,hdf,trivial⟩,sound_step hd rfl fun Γ g σ' a w hf hg=>?_⟩
    obtain ⟨hf1,hf3⟩:=okL_append.1 hf.1
    have hOr:σ'.O r=.row sz ll:=hf.2.1
    have hOd:σ'.O d=.fresh:=hf.2.2.1
    have hv:cvR w g σ'.O (.vw r 0 n) (a.eval x):=rd_R hx hf1 hg
    have b2:=toNat_bound (m:=n) (by omega) (rdB_R hhi hf3 hg) rfl
    obtain ⟨aa,cap,hval,hcap,hnl⟩:∃ aa cap,a.eval x=.slice aa n cap∧n≤cap∧n≤ll.length:=by
     have hv:=hv
     simp only [cvR,hOr] at hv
     split at hv
     ·obtain ⟨_,q2,a0,h0'⟩:=hv;exact ⟨a0,0,by rw [h0',q2],by omega,by omega⟩
     ·obtain ⟨cap,_,off,h,_,h3,h4,_⟩:=hv;exact ⟨_,cap,h,h3,by omega⟩
    have hrun:=run_bounds (P:=P) (w:=w) true n cap none _ 0 _ (.inl ⟨rfl,rfl⟩) b2 (by omega) (by simp;omega) hcap
    obtain ⟨g',k1,_,k3⟩:=hg.cut hOr hOd h.toNat
    refine ⟨.slice (if cap=0 then aa else aa.map (·.add (0*sz))) (h.toNat-0) (cap-0),w,g',?_,k1,?_⟩
    ·simp only [execOp,ho,Option.map_none,Instr.sliceAt,Sem.run_bind,run_underlying hu,Result.andThen_ok,Instr.slice,hval,hrun,run_sizeOf hte,hsz,Sem.run_pure]
    ·have hlen:h.toNat≤(ll.take h.toNat).length:=by simp;omega
     have hcut:cvR w g σ'.O (.vw r 0 h.toNat) (.slice aa h.toNat cap):=by
      rw [hval] at hv
      simp only [cvR,hOr] at hv ⊢
      cases hβ:g.β r with
      | none =>
       simp only [hβ] at hv ⊢
       obtain ⟨_,q2,a0,q3⟩:=hv
       cases q3
       exact ⟨trivial,by omega,aa,by congr 1;omega⟩
      | some b =>
       simp only [hβ] at hv ⊢
       obtain ⟨cap',c,off,e1,e2,e3,e4,e5,e6⟩:=hv
       cases e1
       exact ⟨cap,c,off,rfl,e2,by omega,by omega,e5,e6⟩
     have:=k3 0 h.toNat _ (by omega) hcut
     have hval2:(Value.slice (if cap=0 then aa else aa.map (·.add (0*sz))) (h.toNat-0) (cap-0))=.slice aa h.toNat cap:=by
      have:aa.map (·.add (0*sz))=aa:=by cases aa with | none=>rfl | some q=>obtain ⟨q1,q2,q3⟩:=q;simp [Addr.add]
      rw [this];simp
     rw [hval2]
     exact this
   ·cases hr
  ·cases hr
 ·cases hr
end Go.XM
end
section
namespace Go.XM
open Go.RowKit
theorem sp_first {P:Program} {w:World} {Im:Nat→Prop} {sz:Nat} {N:List (List SP)} {u:Value} (hv:spR w Im (.sl sz N) u) {m:Nat} (hm:m≤N.length) :
  ∃ arr:Array Value,(Builtin.firstCells sz m u).run P w=.ok arr w∧arr.size=m*sz∧(Builtin.lenOf u).run P w=.ok N.length w∧(∀ v∈arr.toList,v.oneCell'=true)∧(∀ e∈N,m=0∨e.length=sz) ∧
   ∀ (i:Nat) (e:List SP) (j:Nat) (p:SP),i<m→N[i]?=some e→e[j]?=some p→∃ v,arr[i*sz+j]?=some v∧spR w Im p v:=by
 cases hv with
 | nil _ a0 =>
  have:m=0:=by simpa using hm
  subst this
  exact ⟨#[],firstCells_nil0 _ _ _,by simp,rfl,by simp,fun e he=>.inl rfl,fun i e j p hi=>absurd hi (by omega)⟩
 | sl b off cap _ _ us hb hcap hzz k1 k2 =>
  have hk:∀ k,k<m*sz→∃ u,w.cell? ⟨b,off+k,none⟩=some u∧u.oneCell'=true:=by
   intro k hk
   have hsz0:0<sz:=by rcases Nat.eq_zero_or_pos sz with h | h;· rw [h] at hk;simp at hk
                      ·exact h
   have hk1:k / sz<N.length:=Nat.lt_of_lt_of_le ((Nat.div_lt_iff_lt_mul hsz0).2 hk) hm
   have hel:=List.getElem?_eq_getElem hk1
   have hl:=hzz _ (List.mem_of_getElem? hel)
   have hmod:k % sz<(N[k / sz]).length:=by rw [hl];exact Nat.mod_lt _ hsz0
   have y1:=k1 _ _ _ _ hel (List.getElem?_eq_getElem hmod)
   have y2:=k2 _ _ _ _ hel (List.getElem?_eq_getElem hmod)
   rw [Nat.add_assoc,show k / sz*sz+k % sz=k by rw [Nat.mul_comm];exact Nat.div_add_mod k sz] at y1
   exact ⟨_,y1,y2.one⟩
  refine ⟨((List.range (m*sz)).map fun k=>(w.cell? ⟨b,off+k,none⟩).getD undef).toArray,?_,by simp,by simp [Builtin.lenOf],?_,fun e he=>.inr (hzz e he),?_⟩
  ·simp only [Builtin.firstCells]
   refine run_loadCells fun j hj=>?_
   obtain ⟨u,hu,_⟩:=hk j hj
   rw [hu];rfl
  ·intro u hu
   simp only [List.mem_map,List.mem_range] at hu
   obtain ⟨k,hk',rfl⟩:=hu
   obtain ⟨u,y1,y2⟩:=hk k hk'
   rw [y1];exact y2
  ·intro i1 e2 j p him h1 h2
   have y1:=k1 _ _ _ _ h1 h2
   have y2:=k2 _ _ _ _ h1 h2
   have hjs:j<sz:=by have:=idx_lt h2;rwa [hzz _ (List.mem_of_getElem? h1)] at this
   have h3:=Nat.mul_le_mul_right sz him
   rw [Nat.succ_mul] at h3
   rw [Nat.add_assoc] at y1
   exact ⟨us i1 j,by simp [show i1*sz+j<m*sz by omega,y1],y2⟩
def ovl (l:List (List RC)) (e:Nat) (N:List (List SP)):List (List RC):=l.take e++spRow N++l.drop (e+N.length)
theorem ovl_len {l:List (List RC)} {e:Nat} {N:List (List SP)} (h:e+N.length≤l.length):(ovl l e N).length=l.length:=by
 simp [ovl,spRow];omega
theorem ovl_get {l:List (List RC)} {e:Nat} {N:List (List SP)} (h:e+N.length≤l.length) (i:Nat) :
  (ovl l e N)[i]?=if e≤i∧i<e+N.length then (spRow N)[i-e]? else l[i]?:=by
 unfold ovl
 have h1:(l.take e).length=e:=by simp;omega
 have h2:(spRow N).length=N.length:=by simp [spRow]
 rw [List.append_assoc,List.getElem?_append,h1]
 by_cases c1:i<e
 ·rw [if_pos c1,if_neg (by omega),List.getElem?_take,if_pos c1]
 ·rw [if_neg c1,List.getElem?_append,h2]
  by_cases c2:i<e+N.length
  ·rw [if_pos (by omega),if_pos ⟨by omega,c2⟩]
  ·rw [if_neg (by omega),if_neg (by omega),List.getElem?_drop];congr 1;omega
theorem Good.over {P:Program} {Γ:Ctx} {g:G} {σ:St} {a:Act} {w:World} (hg:Good Γ g σ a w) {r b e sz:Nat} {l:List (List RC)} {N:List (List SP)} {arr:Array Value}
  (hO:σ.O r=.row sz l) (hb:g.β r=some b) (hle:e+N.length≤l.length) (hs:arr.size=N.length*sz) (h1:∀ v∈arr.toList,v.oneCell'=true) (hN:∀ x∈N,x.length=sz)
  (hel:∀ (i:Nat) (x:List SP) (j:Nat) (p:SP),N[i]?=some x→x[j]?=some p→∃ v,arr[i*sz+j]?=some v∧spR w g.Im p v) :
  ∃ w',(storeCells ⟨b,e*sz,none⟩ arr.toList 0).run P w=.ok () w'∧Good Γ g ⟨σ.T,upd [(r,.row sz (ovl l e N))] σ.O⟩ a w':=by
 have hrow:=hg.O r
 rw [hO] at hrow
 simp only [rsR,hb] at hrow
 obtain ⟨cs,h2,h3,h4,h6,h5⟩:=hrow
 have hsum:(e+N.length)*sz=e*sz+N.length*sz:=Nat.add_mul _ _ _
 have hbound:e*sz+N.length*sz≤cs.size:=by
  have:=Nat.mul_le_mul_right sz hle
  omega
 obtain ⟨w',k1,k2⟩:=run_storeCells (P:=P) (off:=e*sz) arr.toList 0 w cs h3 (by simp [hs];omega) h1
 refine ⟨w',k1,hg.write k2 h2 _ (.inr ⟨sz,l,_,hO,rfl,by rw [ovl_len hle];exact Nat.le_refl _⟩) fun hle'=>?_⟩
 show match g.β r with | none=>_ | some b=>_
 rw [hb]
 refine ⟨_,h2,k2.new,?_,by rw [k2.sz,ovl_len hle];exact h6,fun i e' j rc hi hj=>?_⟩
 ·intro e' he'
  simp only [ovl,List.mem_append] at he'
  rcases he' with (h | h) | h
  ·exact h4 e' (List.mem_of_mem_take h)
  ·simp only [spRow,List.mem_map] at h
   obtain ⟨x,hx,rfl⟩:=h
   simp [hN x hx]
  ·exact h4 e' (List.mem_of_mem_drop h)
 ·rw [ovl_get hle] at hi
  have hal:arr.toList.length=N.length*sz:=by simp [hs]
  rw [Nat.add_zero,setsA_get _ _ _ _ (by rw [hal];omega),hal]
  by_cases c:e≤i∧i<e+N.length
  ·rw [if_pos c] at hi
   obtain ⟨x,p,y1,y2,rfl⟩:=spRow_get hi hj
   have hjs:j<sz:=by have:=idx_lt y2;rwa [hN x (List.mem_of_getElem? y1)] at this
   obtain ⟨v,z1,z2⟩:=hel _ _ _ _ y1 y2
   have q1:i*sz=e*sz+(i-e)*sz:=by rw [← Nat.add_mul];congr 1;omega
   have q2:=Nat.mul_le_mul_right sz (show (i-e)+1≤N.length by omega)
   rw [Nat.succ_mul] at q2
   rw [if_pos (by omega),show i*sz+j-e*sz=(i-e)*sz+j by omega]
   refine ⟨v,by simpa using z1,z2.one,z2.mono hle'.im⟩
  ·rw [if_neg c] at hi
   have hjs:j<sz:=by have:=idx_lt hj;rwa [h4 e' (List.mem_of_getElem? hi)] at this
   have hlt:=idx_lt hi
   have q0:=Nat.mul_le_mul_right sz (show i+1≤l.length by omega)
   rw [Nat.succ_mul] at q0
   have hnot:¬ (e*sz≤i*sz+j∧i*sz+j<e*sz+N.length*sz):=by
    intro ⟨z1,z2⟩
    rcases Nat.lt_or_ge i e with z | z
    ·have:=Nat.mul_le_mul_right sz (show i+1≤e by omega)
     rw [Nat.succ_mul] at this;omega
    ·have z3:e+N.length≤i:=by omega
     have:=Nat.mul_le_mul_right sz z3
     omega
   rw [if_neg hnot]
   obtain ⟨u,a1,a2,a3⟩:=h5 i e' j rc hi hj
   refine ⟨u,a1,a2,?_⟩
   cases rc with
   | s y=>exact spR.mono (p:=y) a3 hle'.im
   | hole=>trivial
   | o sz2 l2 =>
    rcases a3 with hu | ⟨b2,cap2,c2,z1,z2,z3,z4,z5,z6,z7⟩
    ·exact .inl hu
    ·have hb2:b2≠b:=by intro e;rw [e,h2] at z3;cases z3
     exact .inr ⟨b2,cap2,c2,z1,z2,z3,z4.congr (k2.other b2 hb2),z5,z6,fun i e j p hi hj=>let ⟨u,y1,y2⟩:=z7 i e j p hi hj;⟨u,y1,y2.mono hle'.im⟩⟩
def cpSrc (σ:St) (sz:Nat) (S:List (List SP)):SV→Option (List (Nat × RS) × PC)
 | .a (.c (.p (.sl sz' N)))=>if sz'=sz then some ([],some (N=S)) else none
 | .a (.c (.vw r e n))=>match σ.O r with
  | .row sz' l=>if sz'=sz then some ([(r,.row sz' l)],some (((l.drop e).take n).map (·.map frc)=S.map (·.map some)∧∀ x∈S,∀ p∈x,nsSP p)) else none
  | _=>none
 | .a (.c (.nl _))=>some ([],some (S=[]))
 | _=>none
theorem cpSrc_R {σ0:St} {sz:Nat} {S:List (List SP)} {sv:SV} {ro:List (Nat × RS)} {c:PC} (h:cpSrc σ0 sz S sv=some (ro,c)) (hc:c.holds):okL ro σ0.O ∧
  ∀ {P:Program} {Γ:Ctx} {g:G} {σ:St} {a:Act} {w:World},okL ro σ.O→Good Γ g σ a w→∀ {u:Value},svR w g σ.O sv u→∀ {m:Nat},m≤S.length →
   ∃ arr:Array Value,(Builtin.firstCells sz m u).run P w=.ok arr w∧arr.size=m*sz∧(Builtin.lenOf u).run P w=.ok S.length w∧(∀ v∈arr.toList,v.oneCell'=true)∧(∀ e∈S,m=0∨e.length=sz) ∧
    ∀ (i:Nat) (e:List SP) (j:Nat) (p:SP),i<m→S[i]?=some e→e[j]?=some p→∃ v,arr[i*sz+j]?=some v∧spR w g.Im p v:=by
 unfold cpSrc at h
 split at h
 ·rename_i sz' N
  split at h
  ·rename_i e
   cases h
   have e2:N=S:=hc
   subst e;subst e2
   exact ⟨trivial,fun _ hg u hu m hm=>sp_first (show spR _ _ (.sl sz' N) u from hu) hm⟩
  ·cases h
 ·rename_i r e n
  split at h
  ·rename_i sz' l hO
   split at h
   ·rename_i e
    cases h
    subst e
    obtain ⟨h1,h2⟩:(((l.drop _).take n).map (·.map frc)=S.map (·.map some))∧∀ x∈S,∀ p∈x,nsSP p:=hc
    refine ⟨⟨hO,trivial⟩,fun {P Γ g σ a w} hro hg u hu m hm=>?_⟩
    have hOr:=hro.1
    have hrow:=hg.O r
    rw [hOr] at hrow
    have hl:=lend_R (Im0:=fun b=>g.Im b∨(g.own b=some (.root r)∨∃ i j,g.own b=some (.cell r i j))) hOr hrow hu h1 (fun b hb=>.inl hb) (fun b hb=>.inr hb)
    obtain ⟨arr,q1,q2,q3,q4,q5,q6⟩:=sp_first (P:=P) hl hm
    refine ⟨arr,q1,q2,q3,q4,q5,fun i e j p hi h3 h4=>?_⟩
    obtain ⟨v,z1,z2⟩:=q6 i e j p hi h3 h4
    exact ⟨v,z1,nsSP_R (h2 e (List.mem_of_getElem? h3) p (List.mem_of_getElem? h4)) z2⟩
   ·cases h
  ·cases h
 ·cases h
  have e:S=[]:=hc
  subst e
  refine ⟨trivial,fun {P Γ g σ a w} _ hg u hu m hm=>?_⟩
  have hu:u=.slice none 0 0:=hu
  subst hu
  exact sp_first (.nil _ none) hm
 ·cases h
def pCopy (P:Program) (σ:St) (t tx:TypeId) (d:Nat) (x y:Operand) (S:List (List SP)):PR :=
 match elT P t,rd P σ t x,rd P σ tx y with
 | some e,some (.a (.c (.vw r e0 n))),some sv=>match σ.O r with
  | .row sz l=>if szT P e=sz then match cpSrc σ sz S sv with
   | some (ro,c)=>some ({ rt:=evk σ x++evk σ y,ro:=(r,.row sz l)::ro,wt:=[(d,pl (.int .i64 ((min S.length n:Nat):Int)))],wo:=[(r,.row sz (ovl l e0 (S.take n)))] },c.and (some (e0+n≤l.length)))
   | none=>none
   else none
  | _=>none
 | _,_,_=>none
theorem pCopy_right {P:Program} {σ:St} {o:Oper} {t tx d:Nat} {x y:Operand} {S:List (List SP)} (hd:o.dst=some d) (ho:o.op=.call ⟨.builtin .copy,#[x,y],#[t,tx]⟩):Right P o σ (pCopy P σ t tx d x y S):=by
 intro ft c hr hc
 unfold pCopy at hr
 split at hr
 ·rename_i e r e0 n sv hel hx hy
  split at hr
  ·rename_i sz l hO
   split at hr
   ·rename_i hsz
    split at hr
    ·rename_i ro c1 hcp
     cases hr
     obtain ⟨hc1,hc2⟩:=PC.and_holds.1 hc
     have hc2:e0+n≤l.length:=hc2
     obtain ⟨k1,k2⟩:=cpSrc_R hcp hc1
     obtain ⟨hu,hte⟩:=elT_spec hel
     refine ⟨⟨okL_append.2 ⟨evk_ok _ _,evk_ok _ _⟩,hO,k1⟩,sound_step hd rfl fun Γ g σ' a w hf hg=>?_⟩
     obtain ⟨hf1,hf2⟩:=okL_append.1 hf.1
     have hOr:σ'.O r=.row sz l:=hf.2.1
     have hv:cvR w g σ'.O (.vw r e0 n) (a.eval x):=rd_R hx hf1 hg
     have hm:min S.length n≤S.length:=Nat.min_le_left _ _
     obtain ⟨arr,q1,q2,q3,q4,q5,q6⟩:=k2 (P:=P) hf.2.2 hg (rd_R hy hf2 hg) hm
     have hlen:(S.take n).length=min S.length n:=by simp;omega
     have hdst:∃ base cap,a.eval x=.slice base n cap∧∃ w' ,(match base with | some ad=>storeCells ad arr.toList 0 | none=>pure ()).run P w=.ok () w'∧Good Γ g ⟨σ'.T,upd [(r,.row sz (ovl l e0 (S.take n)))] σ'.O⟩ a w':=by
      simp only [cvR,hOr] at hv
      cases hβ:g.β r with
      | none =>
       simp only [hβ] at hv
       obtain ⟨rfl,rfl,a0,hv⟩:=hv
       refine ⟨a0,0,hv,w,?_,?_⟩
       ·have:arr=#[]:=Array.eq_empty_of_size_eq_zero (by rw [q2];simp)
        subst this
        cases a0 <;> simp [storeCells]
       ·have:upd [(r,RS.row sz (ovl l 0 (S.take 0)))] σ'.O=σ'.O:=by
         funext k
         by_cases e:k=r
         ·subst e;simp [upd,hOr,ovl,spRow]
         ·simp [upd,e]
        rw [this];exact hg
      | some b =>
       simp only [hβ] at hv
       obtain ⟨cap,cs,off,e1,e2,e3,e4,e5,e6⟩:=hv
       by_cases hcap:cap=0
       ·have hn0:n=0:=by omega
        refine ⟨_,cap,e1,w,?_,?_⟩
        ·have:arr=#[]:=Array.eq_empty_of_size_eq_zero (by rw [q2,hn0];simp)
         subst this
         simp [storeCells]
        ·have:upd [(r,RS.row sz (ovl l e0 (S.take n)))] σ'.O=σ'.O:=by
          funext k
          by_cases e:k=r
          ·subst e;simp [upd,hOr,ovl,spRow,hn0]
          ·simp [upd,e]
         rw [this];exact hg
       ·have hoff:off=e0*sz:=by rcases e2 with h | h;· exact absurd h hcap
                                ·exact h
        subst hoff
        obtain ⟨w',z1,z2⟩:=hg.over (P:=P) (N:=S.take n) (arr:=arr) (e:=e0) hOr hβ (by rw [hlen];omega) (by rw [q2,hlen]) q4 (fun x hx=>by
          rcases q5 x (List.mem_of_mem_take hx) with h | h
          ·have:(S.take n).length=0:=by rw [hlen];exact h
           rw [List.length_eq_zero_iff] at this
           rw [this] at hx;simp at hx
          ·exact h) (fun i x j p hi hj=>by
           have hlt:=idx_lt hi
           rw [hlen] at hlt
           rw [List.getElem?_take] at hi
           split at hi
           ·exact q6 i x j p hlt hi hj
           ·cases hi)
        exact ⟨_,cap,e1,w',z1,z2⟩
     obtain ⟨base,cap,hval,w',z1,z2⟩:=hdst
     refine ⟨.int .i64 ((min S.length n:Nat):Int),w',g,?_,z2,spR.v _ rfl⟩
     refine exec_builtin ho ?_
     have hmin:S.length.min n=min S.length n:=rfl
     cases base with
     | none =>
      simp only at z1
      simp [builtin,Builtin.copy_,run_underlying hu,hval,q3,run_sizeOf hte,hsz,hmin,q1,goInt]
      simpa using z1
     | some ad =>
      simp only at z1
      simp [builtin,Builtin.copy_,run_underlying hu,hval,q3,run_sizeOf hte,hsz,hmin,q1,goInt,z1]
    ·cases hr
   ·cases hr
  ·cases hr
 ·cases hr
end Go.XM
end
section
namespace Go.XM
open Go.RowKit
def thaw (r:Nat):Owner→Option Owner
 | .root k=>if k=r then none else some (.root k)
 | .cell k i j=>if k=r then none else some (.cell k i j)
theorem thaw_some {r:Nat} {o o':Owner} (h:thaw r o=some o'):o=o':=by
 cases o <;> simp only [thaw] at h <;> split at h <;> cases h <;> rfl
theorem Good.freeze {Γ:Ctx} {g:G} {σ:St} {a:Act} {w:World} (hg:Good Γ g σ a w) {r sz:Nat} {l:List (List RC)} (hr:σ.O r=.row sz l) :
  ∃ g':G,Good Γ g' ⟨σ.T,upd [(r,.dead)] σ.O⟩ a w∧Le w g σ.O w g' (upd [(r,.dead)] σ.O) ∧
   ∀ e n u L,cvR w g σ.O (.vw r e n) u→((l.drop e).take n).map (·.map frc)=L.map (·.map some)→spR w g'.Im (.sl sz L) u:=by
 let O':=upd [(r,RS.dead)] σ.O
 have hOr:O' r=.dead:=by simp [O',upd]
 have hO:∀ k,k≠r→O' k=σ.O k:=fun k h=>by simp [O',upd,h]
 let g':G:={ β:=g.β,own:=fun b=>(g.own b).bind (thaw r),Im:=fun b=>g.Im b∨(g.own b=some (.root r)∨∃ i j,g.own b=some (.cell r i j)) }
 have hle:Le w g σ.O w g' O':=by
  refine ⟨fun b hb=>⟨.inl hb,rfl⟩,fun k hk=>?_,fun k sz' l' hk hr'=>?_,fun k l' hk hr'=>?_⟩
  ·by_cases e:k=r
   ·rw [e,hOr];simp
   ·rw [hO k e];exact hk
  ·by_cases e:k=r
   ·rw [e,hOr] at hr';cases hr'
   ·rw [hO k e] at hr';exact ⟨sz',l',hr',rfl,Nat.le_refl _,rfl,fun b _ c hc=>⟨c,hc,rfl⟩⟩
  ·by_cases e:k=r
   ·rw [e,hOr] at hr';cases hr'
   ·rw [hO k e] at hr';exact ⟨l',hr',rfl⟩
 have hgr:=hg.O r
 rw [hr] at hgr
 refine ⟨g',⟨fun i=>hle.sv (hg.T i),fun k=>?_,fun b hb=>?_,hg.nt,hg.df,hg.os,hg.tape,hg.out,hg.size,hg.blk,fun b o ho=>?_,fun b o ho=>?_,fun b hb=>?_,fun k hk=>?_,fun k l2 hk h2=>?_⟩,hle,?_⟩
 ·show rsR w g' O' k (O' k)
  by_cases e:k=r
  ·rw [e,hOr];trivial
  ·rw [hO k e]
   refine hle.keep rfl (fun b hb=>⟨rfl,?_⟩) (hg.O k)
   show (g.own b).bind (thaw r)=_
   rcases hb with hb | ⟨i,j,hb⟩ <;> rw [hb] <;> simp [thaw,e]
 ·rcases hb with hb | hb
  ·obtain ⟨h1,h2⟩:=hg.im b hb
   exact ⟨h1,by show (g.own b).bind _=none;rw [h2];rfl⟩
  ·rcases hb with hb | ⟨i,j,hb⟩
   ·exact ⟨hg.lt b _ hb,by show (g.own b).bind _=none;rw [hb];simp [thaw]⟩
   ·exact ⟨hg.lt b _ hb,by show (g.own b).bind _=none;rw [hb];simp [thaw]⟩
 ·obtain ⟨o',h1,_⟩:=Option.bind_eq_some_iff.1 (show (g.own b).bind (thaw r)=some o from ho)
  exact hg.mine b o' h1
 ·obtain ⟨o',h1,_⟩:=Option.bind_eq_some_iff.1 (show (g.own b).bind (thaw r)=some o from ho)
  exact hg.lt b o' h1
 ·rcases hb with hb | hb
  ·exact hg.imf b hb
  ·have:∃ o,g.own b=some o:=by rcases hb with h | ⟨_,_,h⟩ <;> exact ⟨_,h⟩
   obtain ⟨o,ho⟩:=this
   rcases hg.mine b o ho with h | h
   ·exact .inl h
   ·exact .inr (.inl h)
 ·show O' k≠_
  by_cases e:k=r
  ·rw [e,hOr];simp
  ·rw [hO k e];exact hg.nf k hk
 ·have h2':O' k=.box l2:=h2
  by_cases e:k=r
  ·rw [e,hOr] at h2';cases h2'
  ·rw [hO k e] at h2';exact hg.bx k l2 hk h2'
 ·intro e n u L hu hL
  exact lend_R hr hgr hu hL (fun b hb=>.inl hb) (fun b hb=>.inr hb)
def frzL (r:Nat) (x:SP):List CV→Option (List CV × Nat × Nat)
 | []=>none
 | .vw k e n::l=>if k=r then some (.p x::l,e,n) else (frzL r x l).map fun (q,e',n')=>(.vw k e n::q,e',n')
 | c::l=>(frzL r x l).map fun (q,e',n')=>(c::q,e',n')
theorem frzL_spec {r:Nat} {x:SP}:∀ {l l':List CV} {e n:Nat},frzL r x l=some (l',e,n)→l'.length=l.length∧∀ (j:Nat) (cv:CV),l'[j]?=some cv→l[j]?=some cv∨(l[j]?=some (.vw r e n)∧cv=.p x)
 | [],l',e,n,h=>by cases h
 | c::l,l',e,n,h=>by
  have key:∀ (q:List CV) (e' n':Nat),frzL r x l=some (q,e',n')→l'=c::q→e=e'→n=n'→l'.length=(c::l).length∧∀ (j:Nat) (cv:CV),l'[j]?=some cv→(c::l)[j]?=some cv∨((c::l)[j]?=some (.vw r e n)∧cv=.p x):=by
   intro q e' n' hq hl he hn
   subst hl;subst he;subst hn
   obtain ⟨h1,h2⟩:=frzL_spec hq
   refine ⟨by simp [h1],fun j cv hj=>?_⟩
   cases j with
   | zero=>exact .inl hj
   | succ j=>exact h2 j cv hj
  cases c with
  | vw k e1 n1 =>
   simp only [frzL] at h
   split at h
   ·rename_i ek
    cases h
    subst ek
    refine ⟨by simp,fun j cv hj=>?_⟩
    cases j with
    | zero=>refine .inr ⟨rfl,?_⟩;simpa using hj.symm
    | succ j=>exact .inl hj
   ·simp only [Option.map_eq_some_iff,Prod.mk.injEq] at h
    obtain ⟨⟨q,e',n'⟩,hq,h1,h2,h3⟩:=h
    exact key q e' n' hq h1.symm h2.symm h3.symm
  | _ =>
   simp only [frzL,Option.map_eq_some_iff,Prod.mk.injEq] at h
   obtain ⟨⟨q,e',n'⟩,hq,h1,h2,h3⟩:=h
   exact key q e' n' hq h1.symm h2.symm h3.symm
def frzSV (r:Nat) (x:SP):SV→Option (SV × Nat × Nat)
 | .a (.c (.vw k e n))=>if k=r then some (cv (.p x),e,n) else none
 | .a (.agg l)=>(frzL r x l).map fun (q,e,n)=>(.a (.agg q),e,n)
 | _=>none
def pFrz (σ:St) (s r:Nat) (L:List (List SP)):PR :=
 match σ.O r with
 | .row sz l=>match frzSV r (.sl sz L) (σ.T s) with
  | some (sv,e,n)=>some ({ rt:=[(s,σ.T s)],ro:=[(r,.row sz l)],wt:=[(s,sv)],wo:=[(r,.dead)] },some (((l.drop e).take n).map (·.map frc)=L.map (·.map some)))
  | none=>none
 | _=>none
def Ghost (f:Ft):Prop:=∀ (Γ:Ctx) (g:G) (σ:St) (a:Act) (w:World),f.ok σ→Good Γ g σ a w→∃ g',Good Γ g' (f.app σ) a w
theorem pFrz_right {σ:St} {s r:Nat} {L:List (List SP)} {f:Ft} {c:PC} (h:pFrz σ s r L=some (f,c)) (hc:c.holds):f.ok σ∧Ghost f:=by
 unfold pFrz at h
 split at h
 ·rename_i sz l hO
  split at h
  ·rename_i sv e n hs
   cases h
   have hc:((l.drop e).take n).map (·.map frc)=L.map (·.map some):=hc
   refine ⟨⟨⟨rfl,trivial⟩,hO,trivial⟩,fun Γ g σ' a w hf hg=>?_⟩
   have hT:σ'.T s=σ.T s:=hf.1.1
   have hOr:σ'.O r=.row sz l:=hf.2.1
   obtain ⟨g',k1,k2,k3⟩:=hg.freeze hOr
   refine ⟨g',⟨fun i=>?_,k1.O,k1.im,k1.nt,k1.df,k1.os,k1.tape,k1.out,k1.size,k1.blk,k1.mine,k1.lt,k1.imf,k1.nf,k1.bx⟩⟩
   show svR w g' _ (upd _ σ'.T i) _
   simp only [upd]
   by_cases ei:i=s
   ·subst ei
    rw [if_pos rfl]
    have hi:=hg.T i
    rw [hT] at hi
    unfold frzSV at hs
    split at hs
    ·rename_i k e' n' hsv
     split at hs
     ·rename_i ek
      cases hs
      rw [hsv] at hi
      subst ek
      exact k3 e n _ L hi hc
     ·cases hs
    ·rename_i cs hsv
     simp only [Option.map_eq_some_iff,Prod.mk.injEq] at hs
     obtain ⟨⟨q,e',n'⟩,hq,rfl,rfl,rfl⟩:=hs
     rw [hsv] at hi
     obtain ⟨arr,h1,h2,h3⟩:=hi
     obtain ⟨z1,z2⟩:=frzL_spec hq
     refine ⟨arr,h1,by rw [h2,z1],fun j cv hj=>?_⟩
     rcases z2 j cv hj with h | ⟨h,rfl⟩
     ·obtain ⟨x,y1,y2,y3⟩:=h3 j cv h
      exact ⟨x,y1,y2,k2.cv y3⟩
     ·obtain ⟨x,y1,y2,y3⟩:=h3 j _ h
      exact ⟨x,y1,y2,k3 _ _ _ L y3 hc⟩
    ·cases hs
   ·rw [if_neg ei];exact k1.T i
  ·cases h
 ·cases h
def pDrop (σ:St) (a c:Nat):PR:=match σ.O a with
 | .box l=>some ({ ro:=[(a,.box l)],wo:=[(a,.box (l.set c .any))] },none)
 | _=>none
theorem pDrop_right {σ:St} {a c:Nat} {f:Ft} {q:PC} (h:pDrop σ a c=some (f,q)):f.ok σ∧Ghost f:=by
 unfold pDrop at h
 split at h
 ·rename_i l hO
  cases h
  refine ⟨⟨trivial,hO,trivial⟩,fun Γ g σ' act w hf hg=>⟨g,?_⟩⟩
  have hOa:σ'.O a=.box l:=hf.2.1
  have eO:∀ r,r≠a→upd [(a,RS.box (l.set c .any))] σ'.O r=σ'.O r:=by intro r h;simp [upd,h]
  have eA:upd [(a,RS.box (l.set c .any))] σ'.O a=.box (l.set c .any):=by simp [upd]
  have hle:Le w g σ'.O w g (upd [(a,RS.box (l.set c .any))] σ'.O):=by
   refine ⟨fun b h=>⟨h,rfl⟩,fun r h=>?_,fun r sz2 l2 h h2=>?_,fun r l2 h h2=>?_⟩
   ·by_cases e:r=a
    ·subst e;rw [eA];simp
    ·rw [eO r e];exact h
   ·by_cases e:r=a
    ·subst e;rw [eA] at h2;cases h2
    ·rw [eO r e] at h2;exact ⟨sz2,l2,h2,rfl,Nat.le_refl _,rfl,fun b _ c hc=>⟨c,hc,rfl⟩⟩
   ·by_cases e:r=a
    ·subst e;exact ⟨l,hOa,rfl⟩
    ·rw [eO r e] at h2;exact ⟨l2,h2,rfl⟩
  refine ⟨fun j=>hle.sv (hg.T j),fun r=>?_,hg.im,hg.nt,hg.df,hg.os,hg.tape,hg.out,hg.size,hg.blk,hg.mine,hg.lt,hg.imf,fun k hk=>?_,fun k l2 hk h2=>?_⟩
  ·have hr:=hg.O r
   by_cases e:r=a
   ·subst e
    show rsR w g _ r (upd _ σ'.O r)
    rw [eA]
    rw [hOa] at hr
    obtain ⟨b,ce,h1,h2,h3,h4,h5⟩:=hr
    refine ⟨b,ce,h1,h2,h3,by simp [h4],fun j cv hj=>?_⟩
    by_cases ej:j=c
    ·subst ej
     have hlt:j<l.length:=by have:=idx_lt hj;simpa using this
     obtain ⟨u,q1,q2,q3⟩:=h5 j _ (List.getElem?_eq_getElem hlt)
     have:cv=.any:=by simp [hlt] at hj;exact hj.symm
     subst this
     exact ⟨u,q1,q2,trivial⟩
    ·rw [List.getElem?_set_ne (Ne.symm ej)] at hj
     obtain ⟨u,q1,q2,q3⟩:=h5 j cv hj
     exact ⟨u,q1,q2,hle.cv q3⟩
   ·show rsR w g _ r (upd _ σ'.O r)
    rw [eO r e]
    exact hle.keep rfl (fun b _=>⟨rfl,rfl⟩) hr
  ·by_cases e:k=a
   ·subst e;show upd _ σ'.O k≠_;rw [eA];simp
   ·show upd _ σ'.O k≠_;rw [eO k e];exact hg.nf k hk
  ·by_cases e:k=a
   ·subst e;exact hg.bx k l hk hOa
   ·have h2':upd [(a,RS.box (l.set c .any))] σ'.O k=.box l2:=h2
    rw [eO k e] at h2';exact hg.bx k l2 hk h2'
 ·cases h
def out1 {α:Type} (ks:List Nat) (l:List (Nat × α)):List (Nat × α):=l.filter fun x=>!ks.elem x.1
def comp (f1 f2:Ft):Ft:={ rt:=f1.rt++out1 (keys f1.wt) f2.rt,ro:=f1.ro++out1 (keys f1.wo) f2.ro,wt:=f2.wt++f1.wt,wo:=f2.wo++f1.wo }
theorem upd_app {α:Type}:∀ (l m:List (Nat × α)) (f:Nat→α),upd (l++m) f=upd l (upd m f)
 | [],m,f=>rfl
 | (k,x)::l,m,f=>by
  funext i
  show (if i=k then x else upd (l++m) f i)=if i=k then x else upd l (upd m f) i
  rw [upd_app l m f]
theorem upd_key {α:Type}:∀ {l:List (Nat × α)} {f f':Nat→α} {k:Nat},k∈keys l→upd l f k=upd l f' k
 | [],_,_,k,h=>by cases h
 | (a,x)::l,f,f',k,h=>by
  simp only [upd]
  by_cases e:k=a
  ·rw [if_pos e,if_pos e]
  ·rw [if_neg e,if_neg e]
   refine upd_key ?_
   simp only [keys,List.map_cons,List.mem_cons] at h
   rcases h with h | h
   ·exact absurd h e
   ·exact h
theorem upd_nokey {α:Type}:∀ {l:List (Nat × α)} {f:Nat→α} {k:Nat},k ∉ keys l→upd l f k=f k
 | [],_,k,h=>rfl
 | (a,x)::l,f,k,h=>by
  simp only [keys,List.map_cons,List.mem_cons,not_or] at h
  simp only [upd,if_neg h.1]
  exact upd_nokey h.2
theorem okL_out {α:Type} {ks:List (Nat × α)} {f f0:Nat→α}:∀ {l:List (Nat × α)},okL (out1 (keys ks) l) f→okL l (upd ks f0)→okL l (upd ks f)
 | [],_,_=>trivial
 | (k,x)::l,h,h0=>by
  by_cases e:k∈keys ks
  ·have:out1 (keys ks) ((k,x)::l)=out1 (keys ks) l:=by simp [out1,e]
   rw [this] at h
   exact ⟨(upd_key e).trans h0.1,okL_out h h0.2⟩
  ·have:out1 (keys ks) ((k,x)::l)=(k,x)::out1 (keys ks) l:=by simp [out1,e]
   rw [this] at h
   exact ⟨(upd_nokey e).trans h.1,okL_out h.2 h0.2⟩
theorem okL_out0 {α:Type} {ks:List (Nat × α)} {f:Nat→α}:∀ {l:List (Nat × α)},okL l (upd ks f)→okL (out1 (keys ks) l) f
 | [],_=>trivial
 | (k,x)::l,h=>by
  by_cases e:k∈keys ks
  ·have:out1 (keys ks) ((k,x)::l)=out1 (keys ks) l:=by simp [out1,e]
   rw [this]
   exact okL_out0 h.2
  ·have:out1 (keys ks) ((k,x)::l)=(k,x)::out1 (keys ks) l:=by simp [out1,e]
   rw [this]
   exact ⟨(upd_nokey e).symm.trans h.1,okL_out0 h.2⟩
theorem comp_right {P:Program} {o:Oper} {σ:St} {f1 f2:Ft} (h1:f1.ok σ∧Ghost f1) (h2:f2.ok (f1.app σ)∧Sound P o f2):(comp f1 f2).ok σ∧Sound P o (comp f1 f2):=by
 refine ⟨⟨okL_append.2 ⟨h1.1.1,okL_out0 h2.1.1⟩,okL_append.2 ⟨h1.1.2,okL_out0 h2.1.2⟩⟩,fun ro m Γ g σ' a w hf hn hg next Q hK=>?_⟩
 obtain ⟨a1,a2⟩:=okL_append.1 hf.1
 obtain ⟨b1,b2⟩:=okL_append.1 hf.2
 obtain ⟨g',hg'⟩:=h1.2 Γ g σ' a w ⟨a1,b1⟩ hg
 refine h2.2 ro m Γ g' (f1.app σ') a w ⟨okL_out a2 h2.1.1,okL_out b2 h2.1.2⟩ (fun i hi=>hn i (by simp only [comp,keys,List.map_append,List.mem_append];exact .inl hi)) hg' next Q fun a' w' g2 hg2=>hK a' w' g2 ?_
 have:(comp f1 f2).app σ'=f2.app (f1.app σ'):=by
  simp only [Ft.app,comp,upd_app]
 rw [this];exact hg2
end Go.XM
end
section
namespace Go.XM
open Go.RowKit
def partP (P:Program) (t:TypeId) (cs:Array Value) (off:Nat):Option Value :=
 if hasT P t then (if isAg P t then some (.agg (cs.extract off (off+szT P t))) else cs[off]?) else none
theorem run_part {P:Program} {t:TypeId} {cs:Array Value} {off:Nat} {v:Value} (h:partP P t cs off=some v) (w:World):(part t cs off).run P w=.ok v w:=by
 unfold partP at h
 split at h
 ·rename_i ht
  split at h
  ·rename_i ha
   cases h
   simp [part,run_isAgg ht,ha,run_sizeOf ht]
  ·rename_i ha
   simp [part,run_isAgg ht,ha,h]
 ·cases h
def eqF (P:Program) (e:TypeId→Value→Value→Option Bool) (f:Field) (xs ys:Array Value):Option Bool :=
 if f.name="_" then none else match partP P f.type xs f.offset,partP P f.type ys f.offset with
  | some u,some v=>e f.type u v
  | _,_=>none
def eqFs (P:Program) (e:TypeId→Value→Value→Option Bool):List Field→Array Value→Array Value→Option Bool
 | [],_,_=>some true
 | f::fs,xs,ys=>match eqF P e f xs ys,eqFs P e fs xs ys with
  | some a,some b=>some (a && b)
  | _,_=>none
def eqP (P:Program):Nat→TypeId→Value→Value→Option Bool
 | 0,_,_,_=>none
 | d+1,t,x,y=>match P.underlying t,x,y with
  | some .bool,.bool a,.bool b=>some (a == b)
  | some (.int _),.int k a,.int k' b=>if k=k' then some (a == b) else none
  | some .string,.string a,.string b=>some (a == b)
  | some (.struct fs),.agg xs,.agg ys=>if P.stoodInHeld t then none else eqFs P (eqP P d) fs.toList xs ys
  | _,_,_=>none
theorem run_eqFs {P:Program} {d:Nat} {e:TypeId→Value→Value→Option Bool} {xs ys:Array Value} (he:∀ t u v b,e t u v=some b→∀ w,(Op.equalIn d t u v).run P w=.ok b w):∀ (fs:List Field) (b:Bool),eqFs P e fs xs ys=some b→∀ w,
  (forIn fs ((none:Option Bool),()) fun (f:Field) (__s:Option Bool × Unit)=>if f.name="_" then (pure (ForInStep.yield (none,())):Sem _) else do
   let u ← part f.type xs f.offset
   let v ← part f.type ys f.offset
   let r ← Op.equalIn d f.type u v
   if r=false then pure (ForInStep.done (some false,())) else pure (ForInStep.yield (none,()))).run P w=.ok (if b then (none,()) else (some false,())) w
 | [],b,h,w=>by cases h;simp
 | f::fs,b,h,w=>by
  unfold eqFs at h
  split at h
  ·rename_i a c h1 h2
   cases h
   unfold eqF at h1
   split at h1
   ·cases h1
   ·rename_i hn
    split at h1
    ·rename_i u v p1 p2
     have ih:=run_eqFs he fs c h2 w
     rw [List.forIn_cons]
     simp only [if_neg hn,Sem.run_bind,run_part p1,run_part p2,he _ _ _ _ h1,Result.andThen_ok]
     cases a with
     | false=>simp
     | true=>simpa using ih
    ·cases h1
  ·cases h
theorem run_eqP {P:Program}:∀ (d:Nat) (t:TypeId) (x y:Value) (b:Bool),eqP P d t x y=some b→∀ (e:Nat) (w:World),(Op.equalIn (d+e) t x y).run P w=.ok b w
 | 0,_,_,_,_,h,_,_=>by cases h
 | d+1,t,x,y,b,h,e,w=>by
  rw [show d+1+e=(d+e)+1 by omega]
  unfold eqP at h
  unfold Op.equalIn
  split at h
  ·rename_i hu;cases h;simp [run_underlying hu]
  ·rename_i hu
   split at h
   ·rename_i hk;cases h;simp [run_underlying hu,hk]
   ·cases h
  ·rename_i hu;cases h;simp [run_underlying hu]
  ·rename_i fs xs ys hu
   split at h
   ·cases h
   ·rename_i hs
    have:=run_eqFs (d:=d+e) (e:=eqP P d) (fun t u v b hb w=>run_eqP d t u v b hb e w) fs.toList b h w
    simp [run_underlying hu,hs]
    rw [Array.forIn_toList] at this
    rw [this]
    cases b <;> simp
  ·cases h
def plV:List CV→Option (List Value)
 | []=>some []
 | .p (.v v)::l=>match plV l with
  | some vs=>some (v::vs)
  | none=>none
 | _::_=>none
theorem plV_R {w:World} {g:G} {O:Nat→RS}:∀ {l:List CV} {vs:List Value} {cs:List Value},plV l=some vs→cs.length=l.length→(∀ (i:Nat) c,l[i]?=some c→∃ u,cs[i]?=some u∧cvR w g O c u)→cs=vs
 | [],vs,cs,h,hl,_=>by cases h;exact List.eq_nil_of_length_eq_zero hl
 | c::l,vs,cs,h,hl,hr=>by
  unfold plV at h
  split at h
  ·rename_i he;cases he
  ·rename_i v l' he
   cases he
   split at h
   ·rename_i vs' h1
    cases h
    cases cs with
    | nil=>cases hl
    | cons u us =>
     obtain ⟨u',e1,e2⟩:=hr 0 _ rfl
     cases e1
     have:=plV_R (cs:=us) h1 (by simpa using hl) (fun i c hc=>by simpa using hr (i+1) c (by simpa using hc))
     cases (show spR _ _ (.v v) u from e2)
     rw [this]
   ·cases h
  ·cases h
def pAgEq (P:Program) (σ:St) (op:BinOp) (t:TypeId) (d:Nat) (x y:Operand):PR :=
 match rd P σ t x,rd P σ t y with
 | some (.a (.agg lx)),some (.a (.agg ly))=>match plV lx,plV ly with
  | some vx,some vy=>match P.eqGuardType P.depth t,eqP P 10 t (.agg vx.toArray) (.agg vy.toArray) with
   | false,some b=>match op with
    | .eql=>some ({ rt:=evk σ x++evk σ y,wt:=[(d,pl (.bool b))] },none)
    | .neq=>some ({ rt:=evk σ x++evk σ y,wt:=[(d,pl (.bool !b))] },none)
    | _=>none
   | _,_=>none
  | _,_=>none
 | _,_=>none
theorem pAgEq_right {P:Program} {σ:St} {o:Oper} {op:BinOp} {t t' d:Nat} {x y:Operand} (hd:o.dst=some d) (ho:o.op=.binOp op t x y t'):Right P o σ (pAgEq P σ op t d x y):=by
 intro f c hr hc
 unfold pAgEq at hr
 split at hr
 ·rename_i lx ly hx hy
  split at hr
  ·rename_i vx vy h1 h2
   split at hr
   ·rename_i b hgd he
    have key:∀ v:Bool,(∀ w,((do eqGuard op t x y (.agg vx.toArray) (.agg vy.toArray);binOp op t (.agg vx.toArray) (.agg vy.toArray):Sem Value)).run P w=.ok (.bool v) w) →
      ({ rt:=evk σ x++evk σ y,wt:=[(d,pl (.bool v))] }:Ft).ok σ∧Sound P o { rt:=evk σ x++evk σ y,wt:=[(d,pl (.bool v))] }:=by
     intro v hv
     refine ⟨⟨okL_append.2 ⟨evk_ok _ _,evk_ok _ _⟩,trivial⟩,sound_val hd rfl rfl fun Γ g σ' a w hf hg=>⟨.bool v,?_,spR.v _ rfl⟩⟩
     obtain ⟨hf1,hf2⟩:=okL_append.1 hf.1
     have e1:=rd_R hx hf1 hg
     have e2:=rd_R hy hf2 hg
     obtain ⟨cx,ex,sx,kx⟩:=e1
     obtain ⟨cy,ey,sy,ky⟩:=e2
     have hx2:cx=vx.toArray:=by
      have:=plV_R (cs:=cx.toList) h1 (by simpa using sx) (fun i c hc=>by
       obtain ⟨u,q1,_,q2⟩:=kx i c hc
       exact ⟨u,by simpa using q1,q2⟩)
      rw [← this]
     have hy2:cy=vy.toArray:=by
      have:=plV_R (cs:=cy.toList) h2 (by simpa using sy) (fun i c hc=>by
       obtain ⟨u,q1,_,q2⟩:=ky i c hc
       exact ⟨u,by simpa using q1,q2⟩)
      rw [← this]
     simp only [execOp,ho,ex,ey,hx2,hy2]
     rw [Sem.run_bind,hv w]
     rfl
    split at hr
    ·cases hr
     exact key b fun w=>by
      have:=run_eqP 10 t _ _ b he 9990 w
      have e:(Op.equal t (.agg vx.toArray) (.agg vy.toArray)).run P w=.ok b w:=this
      simp [eqGuard,binOp,hgd,e]
    ·cases hr
     exact key (!b) fun w=>by
      have:=run_eqP 10 t _ _ b he 9990 w
      have e:(Op.equal t (.agg vx.toArray) (.agg vy.toArray)).run P w=.ok b w:=this
      simp [eqGuard,binOp,hgd,e]
    ·cases hr
   ·cases hr
  ·cases hr
 ·cases hr
end Go.XM
end
section
namespace Go.XM
open Go.RowKit
def bytesOf (ns:List Int):ByteArray:=ns.foldl (fun s n=>s.push (UInt8.ofNat n.toNat)) .empty
def byL:List (List RC)→Option (List Int)
 | []=>some []
 | [.s (.v (.int .u8 n))]::l=>match byL l with
  | some ns=>some (n::ns)
  | none=>none
 | _::_=>none
theorem byL_get:∀ {L:List (List RC)} {ns:List Int},byL L=some ns→L=ns.map fun n=>[.s (.v (.int .u8 n))]
 | [],ns,h=>by cases h;rfl
 | e::L,ns,h=>by
  unfold byL at h
  split at h
  ·rename_i he;cases he
  ·rename_i n l he
   cases he
   split at h
   ·rename_i ns' h1
    cases h
    rw [byL_get h1];rfl
   ·cases h
  ·cases h
theorem run_b2s {P:Program} {ns:List Int} {ad:Option Addr} {cap:Nat} {w:World} (h:∀ a,ad=some a→(loadCells a ns.length).run P w=.ok (ns.map fun n=>Value.int .u8 n).toArray w) (h0:ad=none→ns=[]) :
  (Conv.bytesToString (.slice ad ns.length cap)).run P w=.ok (.string (bytesOf ns)) w:=by
 unfold Conv.bytesToString
 cases ad with
 | none=>rw [h0 rfl];rfl
 | some a =>
  have e:=h a rfl
  simp [e]
  rfl
theorem srcOf_sl {P:Program} {σ0 σ:St} {tx e e':TypeId} {i:TypeInfo} {x:Operand} {h:Nh} {L:List (List RC)} {rt:List (Nat × SV)} {ro:List (Nat × RS)} {c:PC} (htx:P.underlying tx=some (.slice e'))
  (hs:srcOf P σ0 tx e i x h=some (L,rt,ro,c)) {Γ:Ctx} {g:G} {a:Act} {w:World} (hg:Good Γ g σ a w) (hrt:okL rt σ.T) (hro:okL ro σ.O) (hc:c.holds):∃ ad n cap,a.eval x=.slice ad n cap:=by
 unfold srcOf at hs
 rw [htx] at hs
 simp only at hs
 split at hs
 ·rename_i r e0 n hx
  split at hs
  ·rename_i sz l N hO
   split at hs
   ·cases hs
    have hu:cvR w g σ.O (.vw r e0 n) (a.eval x):=rd_R hx hrt hg
    have hOr:σ.O r=.row sz l:=hro.1
    simp only [cvR,hOr] at hu
    split at hu
    ·obtain ⟨_,_,a0,q⟩:=hu;exact ⟨a0,_,_,q⟩
    ·obtain ⟨cap,_,off,q,_⟩:=hu;exact ⟨_,_,_,q⟩
   ·cases hs
  ·cases hs
 ·rename_i sz N hx
  split at hs
  ·cases hs
   have hu:spR w g.Im (.sl sz N) (a.eval x):=rd_R hx hrt hg
   generalize a.eval x=u at hu
   cases hu with
   | nil=>exact ⟨_,_,_,rfl⟩
   | sl=>exact ⟨_,_,_,rfl⟩
  ·cases hs
 ·rename_i hx
  cases hs
  exact ⟨_,_,_,(show a.eval x=.slice none 0 0 from rd_R hx hrt hg)⟩
 ·rename_i hx
  cases hs
  have hu:spR w g.Im (.v (.slice _ 0 _)) (a.eval x):=rd_R hx hrt hg
  generalize a.eval x=u at hu
  cases hu with
  | v=>exact ⟨_,_,_,rfl⟩
 ·cases hs
def pBS (P:Program) (σ:St) (s t:TypeId) (d:Nat) (x:Operand) (h:Nh):PR :=
 match P.underlying s,P.underlying t with
 | some (.slice e),some .string=>match P.underlying e,P.info? e with
  | some (.int .u8),some i=>match i.zero with
   | some _=>if i.size=1 then match srcOf P σ s e i x h with
    | some (L,rt,ro,c)=>match byL L with
     | some ns=>some ({ rt:=rt,ro:=ro,wt:=[(d,pl (.string (bytesOf ns)))] },c)
     | none=>none
    | none=>none
    else none
   | none=>none
  | _,_=>none
 | _,_=>none
theorem pBS_right {P:Program} {σ:St} {o:Oper} {s t d:Nat} {x:Operand} {h:Nh} (hd:o.dst=some d) (ho:o.op=.convert s t x):Right P o σ (pBS P σ s t d x h):=by
 intro ft c hr hc
 unfold pBS at hr
 split at hr
 ·rename_i e hs ht
  split at hr
  ·rename_i i he hi
   split at hr
   ·rename_i z hz
    split at hr
    ·rename_i hsz
     split at hr
     ·rename_i L rt ro c' hsrc
      split at hr
      ·rename_i ns hns
       cases hr
       obtain ⟨k1,k2⟩:=srcOf_ok hsrc
       refine ⟨⟨k1,k2⟩,sound_val hd rfl rfl fun Γ g σ' a w hf hg=>⟨_,?_,spR.v _ rfl⟩⟩
       obtain ⟨ad,n,cap,hx⟩:=srcOf_sl hs hsrc hg hf.1 hf.2 hc
       obtain ⟨news,hS,f1,f2,f3,f4⟩:=srcOf_R hi hz hsrc hc hg hf.1 hf.2
       rw [hx] at hS
       have hL:=byL_get hns
       have hLl:L.length=ns.length:=by rw [hL];simp
       cases hS with
       | vals hdx hk hl hfc =>
        have hn:n=L.length:=by
         simp [Builtin.lenOf] at hl
         exact hl
        have hnews:news=(ns.map fun n=>Value.int .u8 n).toArray:=by
         apply Array.ext
         ·rw [f1,hsz,Nat.mul_one,hLl];simp
         ·intro j h1 h2
          have hj:j<ns.length:=by simpa using h2
          obtain ⟨u,q1,q2⟩:=f4 j [.s (.v (.int .u8 ns[j]))] 0 (.s (.v (.int .u8 ns[j]))) (by rw [hL];simp [hj]) rfl
          rw [hsz,Nat.mul_one,Nat.add_zero,Array.getElem?_eq_getElem h1] at q1
          cases q1
          have:=q2 w g 0 0 0 (fun b hb=>⟨hb,rfl⟩)
          generalize news[j]=u at this
          cases (show spR w g.Im (.v (.int .u8 ns[j])) u from this)
          simp
        have hf2:=hfc w rfl
        subst hn
        have:=run_b2s (P:=P) (ns:=ns) (ad:=ad) (cap:=cap) (w:=w) (fun b hb=>by
         subst hb
         have e2:(loadCells b (L.length*i.size)).run P w=.ok news w:=hf2
         rw [hsz,Nat.mul_one,hLl,hnews] at e2
         exact e2) (fun hb=>by
         subst hb
         have e2:(pure #[]:Sem (Array Value)).run P w=.ok news w:=hf2
         simp at e2
         rw [hnews] at e2
         have:=congrArg Array.size e2
         simp at this
         exact this)
        rw [← hLl] at this
        simp [execOp,ho,convert,run_underlying hs,run_underlying ht,run_underlying he,hx,this]
      ·cases hr
     ·cases hr
    ·cases hr
   ·cases hr
  ·cases hr
 ·cases hr
end Go.XM
end
section
namespace Go.XM
open Go.RowKit
def cvsOf:List SV→Option (List CV)
 | []=>some []
 | .a (.c c)::l=>match cvsOf l with
  | some m=>some (c::m)
  | none=>none
 | _::_=>none
theorem cvsOf_spec:∀ {l:List SV} {m:List CV},cvsOf l=some m→l=m.map (fun c=>.a (.c c))
 | [],m,h=>by simp only [cvsOf,Option.some.injEq] at h;subst h;rfl
 | .a (.c c)::l,m,h=>by
  simp only [cvsOf] at h
  split at h
  ·rename_i m' h1;cases h;simp [cvsOf_spec h1]
  ·cases h
 | .a (.agg _)::_,_,h=>by cases h
 | .a (.fn _ _)::_,_,h=>by cases h
 | .tup _::_,_,h=>by cases h
def pMakeFunc (P:Program) (σ:St) (d:Nat) (f:Fn) (first cap:Array Operand):PR :=
 match f,first.toList,rdAll P σ cap.toList [] with
 | .func f,[],some (l,ks)=>match cvsOf l with
  | some cs=>some ({ rt:=ks,wt:=[(d,.a (.fn f cs))] },none)
  | none=>none
 | _,_,_=>none
theorem pMakeFunc_right {P:Program} {σ:St} {o:Oper} {d:Nat} {f:Fn} {first cap:Array Operand} (hd:o.dst=some d) (ho:o.op=.makeFunc f first cap):Right P o σ (pMakeFunc P σ d f first cap):=by
 intro ft c hr hc
 unfold pMakeFunc at hr
 split at hr
 ·rename_i f' l ks hfi hl
  split at hr
  ·rename_i cs hcs
   cases hr
   have hfirst:first=#[]:=by cases first;simp at hfi;subst hfi;rfl
   subst hfirst
   refine ⟨⟨rdAll_ok hl,trivial⟩,sound_val hd rfl rfl fun Γ g σ' a w hf hg=>?_⟩
   obtain ⟨r1,r2⟩:=rdAll_R hg hl hf.1
   have hlen:cap.size=l.length:=by simpa using r1
   refine ⟨.func (.func f') #[] (cap.map a.eval),?_,?_⟩
   ·simp only [execOp,ho,Instr.makeFunc,Array.map_empty];rfl
   ·refine ⟨cap.map a.eval,rfl,?_,fun j cv hj=>?_⟩
    ·rw [Array.size_map,hlen,cvsOf_spec hcs,List.length_map]
    ·have:l[j]?=some (.a (.c cv)):=by rw [cvsOf_spec hcs,List.getElem?_map,hj];rfl
     obtain ⟨x,h1,h2⟩:=r2 j _ this
     have h1':cap[j]?=some x:=by simpa using h1
     exact ⟨a.eval x,by simp [h1'],h2⟩
  ·cases hr
 ·cases hr
end Go.XM
end
section
namespace Go.XM
open Go.RowKit
theorem sound_vnone {P:Program} {o:Oper} {f:Ft} (hd:o.dst=none) (ht:f.wt=[])
  (h:∀ (Γ:Ctx) (g:G) (σ:St) (a:Act) (w:World),f.ok σ→Good Γ g σ a w→∃ u w' g',(execOp a.eval o).run P w=.ok (.value u) w'∧Good Γ g' ⟨σ.T,upd f.wo σ.O⟩ a w'):Sound P o f:=by
 intro ro m Γ g σ a w hf hn hg next Q hK
 obtain ⟨u,w',g',h1,h2⟩:=h Γ g σ a w hf hg
 refine ⟨fun _ _=>trivial,?_⟩
 rw [semAt_val h1 (by simp),Oper.uponIn_value,hd]
 refine hK _ _ g' ?_
 simp only [Ft.app,ht,upd,Act.put]
 exact h2
def pClear (P:Program) (σ:St) (t:TypeId) (x:Operand):PR :=
 match elT P t,rd P σ t x with
 | some e,some (.a (.c (.vw r e0 n)))=>match σ.O r,zcs P e with
  | .row sz l,some ps=>if szT P e=sz∧ps.length=sz then
    some ({ rt:=evk σ x,ro:=[(r,.row sz l)],wo:=[(r,.row sz (ovl l e0 (List.replicate n ps)))] },some (e0+n≤l.length)) else none
  | _,_=>none
 | _,_=>none
theorem pClear_right {P:Program} {σ:St} {o:Oper} {t:TypeId} {x:Operand} (hd:o.dst=none) (ho:o.op=.call ⟨.builtin .clear,#[x],#[t]⟩):Right P o σ (pClear P σ t x):=by
 intro ft c hr hc
 unfold pClear at hr
 split at hr
 ·rename_i e r e0 n hel hx
  split at hr
  ·rename_i sz l ps hO hz
   split at hr
   ·rename_i hsz
    obtain ⟨hsz,hps⟩:=hsz
    cases hr
    have hle:e0+n≤l.length:=hc
    obtain ⟨hu,hte⟩:=elT_spec hel
    obtain ⟨i,z,hi,hzz,hzs,hzR⟩:=zcs_spec hz
    refine ⟨⟨evk_ok _ _,hO,trivial⟩,sound_vnone hd rfl fun Γ g σ' a w hf hg=>?_⟩
    have hOr:σ'.O r=.row sz l:=hf.2.1
    have hv:cvR w g σ'.O (.vw r e0 n) (a.eval x):=rd_R hx hf.1 hg
    have same:n=0→upd [(r,RS.row sz (ovl l e0 (List.replicate n ps)))] σ'.O=σ'.O:=by
     intro hn
     subst hn
     funext k
     by_cases e:k=r
     ·subst e;simp [upd,hOr,ovl,spRow]
     ·simp [upd,e]
    simp only [cvR,hOr] at hv
    cases hβ:g.β r with
    | none =>
     simp only [hβ] at hv
     obtain ⟨rfl,rfl,a0,hv⟩:=hv
     refine ⟨.tuple #[],w,g,?_,by rw [same rfl];exact hg⟩
     refine exec_builtin ho ?_
     cases a0 <;> simp [builtin,Builtin.clear_,run_underlying hu,hv]
    | some b =>
     simp only [hβ] at hv
     obtain ⟨cap,cs,off,e1,e2,e3,e4,e5,e6⟩:=hv
     by_cases hn:n=0
     ·refine ⟨.tuple #[],w,g,?_,by rw [same hn];exact hg⟩
      subst hn
      refine exec_builtin ho ?_
      simp [builtin,Builtin.clear_,run_underlying hu,e1]
     ·have hoff:off=e0*sz:=by rcases e2 with h | h;· omega
                              ·exact h
      subst hoff
      have hzc:∀ (j:Nat),(Builtin.zeroCells z.cells n)[j]?=if j<n*sz then z.cells[j % sz]? else none:=by
       intro j
       by_cases hj:j<n*sz
       ·rw [if_pos hj]
        have hs0:0<sz:=by rcases Nat.eq_zero_or_pos sz with h | h
                          ·rw [h] at hj;omega
                          ·exact h
        have:j % sz<z.cells.size:=by rw [hzs,hps];exact Nat.mod_lt _ hs0
        have h2:z.cells[j % sz]! = z.cells[j % sz]:=getElem!_pos z.cells (j % sz) this
        simp [Builtin.zeroCells,hzs,hps,hj,h2,this]
       ·rw [if_neg hj]
        simp [Builtin.zeroCells,hzs,hps];omega
      have hsize:(Builtin.zeroCells z.cells n).size=n*sz:=by simp [Builtin.zeroCells,hzs,hps]
      obtain ⟨w',z1,z2⟩:=hg.over (P:=P) (N:=List.replicate n ps) (arr:=Builtin.zeroCells z.cells n) (e:=e0) hOr hβ (by simpa using hle) (by simpa using hsize) (fun v hv=>by
        have hv:v∈Builtin.zeroCells z.cells n:=by simpa using hv
        obtain ⟨j,hj,rfl⟩:=Array.mem_iff_getElem.1 hv
        have hj2:j<n*sz:=by rw [← hsize];exact hj
        have hs0:0<sz:=by rcases Nat.eq_zero_or_pos sz with h | h
                          ·rw [h] at hj2;omega
                          ·exact h
        have hm:j % sz<ps.length:=by rw [hps];exact Nat.mod_lt _ hs0
        obtain ⟨u,u1,u2⟩:=hzR w g.Im (j % sz) _ (List.getElem?_eq_getElem hm)
        have:=hzc j
        rw [if_pos hj2,u1,Array.getElem?_eq_getElem hj] at this
        cases this
        exact u2.one) (fun x hx=>by rw [(List.mem_replicate.1 hx).2];exact hps) (fun i2 x2 j p hi2 hj=>by
        have hlt:=idx_lt hi2
        have hx2:x2=ps:=(List.mem_replicate.1 (List.mem_of_getElem? hi2)).2
        subst hx2
        have hjl:j<sz:=by have:=idx_lt hj;omega
        obtain ⟨u,u1,u2⟩:=hzR w g.Im j p hj
        refine ⟨u,?_,u2⟩
        have hi3:i2<n:=by simpa using hlt
        have:i2*sz+j<n*sz:=by
         have:=Nat.mul_le_mul_right sz (show i2+1≤n by omega)
         rw [Nat.succ_mul] at this;omega
        rw [hzc,if_pos this,← u1]
        congr 1
        rw [Nat.mul_comm,Nat.mul_add_mod,Nat.mod_eq_of_lt hjl])
      refine ⟨.tuple #[],w',g,?_,z2⟩
      refine exec_builtin ho ?_
      have hcon:(Builtin.clear_ #[t] o.type #[.slice (some ⟨b,e0*sz,none⟩) n cap]).run P w=.ok (.tuple #[]) w':=by
       have hn':n≠0:=hn
       unfold Builtin.clear_
       simp only [List.getElem?_toArray,List.getElem?_cons_zero,Sem.run_bind,run_underlying hu,Result.andThen_ok]
       cases n with
       | zero=>exact absurd rfl hn'
       | succ n=>simp only [zeroValue,typeInfo,Sem.run_bind,run_program,hi,hzz,Sem.run_pure,Result.andThen_ok,z1]
      simp only [List.map_toArray,List.map_cons,List.map_nil,e1,builtin,Sem.run_bind,hcon,Result.andThen_ok,Sem.run_pure]
   ·cases hr
  ·cases hr
 ·cases hr
def pFillN (P:Program) (σ:St) (t:TypeId) (x y:Operand) (es:List RC):PR :=
 if hasT P t && Nat.beq (szT P t) 1 then
  match rd P σ 0 x,rd P σ t y with
  | some (.a (.c (.ad r e c))),some (.a (.c (.nl sz2)))=>match σ.O r with
   | .row sz l=>if c<es.length then
     some ({ rt:=evk σ x++evk σ y,ro:=[(r,.row sz l)],wo:=[(r,.row sz (l.set e (es.set c (.o sz2 []))))] },some (l[e]?=some es)) else none
   | _=>none
  | _,_=>none
 else none
theorem pFillN_right {P:Program} {σ:St} {o:Oper} {t:TypeId} {x y:Operand} {es:List RC} (hd:o.dst=none) (ho:o.op=.store t x y):Right P o σ (pFillN P σ t x y es):=by
 intro f c hr hc
 unfold pFillN at hr
 split at hr
 ·rename_i ht
  simp only [Bool.and_eq_true] at ht
  obtain ⟨ht,ht1⟩:=ht
  have ht1:szT P t=1:=Nat.eq_of_beq_eq_true ht1
  split at hr
  ·rename_i r e c' sz2 hx hy
   split at hr
   ·rename_i sz l hO
    split at hr
    ·rename_i hce
     cases hr
     have hle:l[e]?=some es:=hc
     refine ⟨⟨okL_append.2 ⟨evk_ok _ _,evk_ok _ _⟩,hO,trivial⟩,sound_unit hd rfl fun Γ g σ' a w hf hg=>?_⟩
     obtain ⟨hf1,hf2⟩:=okL_append.1 hf.1
     have hOr:σ'.O r=.row sz l:=hf.2.1
     have hv:cvR w g σ'.O (.ad r e c') (a.eval x):=rd_R hx hf1 hg
     simp only [cvR,hOr] at hv
     obtain ⟨b,hb,hv⟩:=hv
     have hrow:=hg.O r
     rw [hOr] at hrow
     simp only [rsR,hb] at hrow
     obtain ⟨cs,h2,h3,h4,h6,h5⟩:=hrow
     have hyR:a.eval y=.slice none 0 0:=rd_R hy hf2 hg
     have hes:es.length=sz:=h4 es (List.mem_of_getElem? hle)
     have hlt:e<l.length:=idx_lt hle
     have hbound:e*sz+sz≤cs.size:=by
      have:(e+1)*sz≤l.length*sz:=Nat.mul_le_mul_right _ hlt
      rw [Nat.succ_mul] at this;omega
     obtain ⟨w',k1,k2⟩:=run_storeCells (P:=P) (off:=e*sz+c') [Value.slice none 0 0] 0 w cs h3 (by simp;omega) (by simp [Value.oneCell'])
     simp only [Nat.add_zero] at k2
     refine ⟨w',g,exec_store ho ht hv (by rw [hyR,ht1];rfl) (by rw [hyR];exact k1),hg.write k2 h2 _ (.inr ⟨sz,l,_,hOr,rfl,by simp⟩) fun hle'=>?_⟩
     show match g.β r with | none=>_ | some b=>_
     rw [hb]
     refine ⟨_,h2,k2.new,?_,by rw [k2.sz];simpa using h6,fun i e' j rc hi hj=>?_⟩
     ·intro e' he'
      rcases List.mem_or_eq_of_mem_set he' with h | rfl
      ·exact h4 e' h
      ·simpa using hes
     ·have keep:∀ (u:Value) (rc:RC),rcR w g r i j rc u→rcR w' g r i j rc u:=by
       intro u rc hu
       cases rc with
       | s y=>exact spR.mono (p:=y) hu hle'.im
       | hole=>trivial
       | o sz3 l3 =>
        rcases hu with hu | ⟨b3,cap3,c3,z1,z2,z3,z4,z5,z6,z7⟩
        ·exact .inl hu
        ·have hb3:b3≠b:=by intro e;rw [e,h2] at z3;cases z3
         exact .inr ⟨b3,cap3,c3,z1,z2,z3,z4.congr (k2.other b3 hb3),z5,z6,fun i e j p hi hj=>let ⟨u,y1,y2⟩:=z7 i e j p hi hj;⟨u,y1,y2.mono hle'.im⟩⟩
      rw [List.getElem?_set] at hi
      have hjs:j<sz:=by
       by_cases ei:e=i
       ·rw [if_pos ei,if_pos hlt] at hi
        obtain rfl:=Option.some.inj hi
        have:=idx_lt hj
        simp only [List.length_set] at this;omega
       ·rw [if_neg ei] at hi
        have:=idx_lt hj
        rw [h4 e' (List.mem_of_getElem? hi)] at this;exact this
      rw [setsA_get _ _ _ _ (by simp;omega)]
      simp only [List.length_singleton]
      by_cases ei:e=i
      ·subst ei
       rw [if_pos rfl,if_pos hlt] at hi
       obtain rfl:=Option.some.inj hi
       rw [List.getElem?_set] at hj
       by_cases ej:c'=j
       ·subst ej
        rw [if_pos rfl,if_pos hce] at hj
        obtain rfl:=Option.some.inj hj
        rw [if_pos (by omega)]
        exact ⟨.slice none 0 0,by simp,rfl,.inl ⟨rfl,none,rfl⟩⟩
       ·rw [if_neg ej] at hj
        rw [if_neg (by omega)]
        obtain ⟨v,y1,y2,y3⟩:=h5 e es j rc hle hj
        exact ⟨v,y1,y2,keep v rc y3⟩
      ·rw [if_neg ei] at hi
       have:=lin_ne (Ne.symm ei) hjs (k:=sz) (Nat.le_refl _)
       rw [if_neg (by omega)]
       obtain ⟨v,y1,y2,y3⟩:=h5 i e' j rc hi hj
       exact ⟨v,y1,y2,keep v rc y3⟩
    ·cases hr
   ·cases hr
  ·cases hr
 ·cases hr
end Go.XM
end
section
namespace Go.XM
open Go.RowKit
theorem Good.grow0 {Γ:Ctx} {g:G} {σ:St} {a:Act} {w:World} (hg:Good Γ g σ a w) (c:Array Value) (el:TypeId) :
  ∃ g',Good Γ g' ⟨σ.T,σ.O⟩ a (w.alloc (.cells c el))∧g'.Im w.heap.size∧Le w g σ.O (w.alloc (.cells c el)) g' σ.O:=by
 let g':G:={ β:=g.β,own:=g.own,Im:=fun b=>g.Im b∨b=w.heap.size }
 have hold:∀ k,k<w.heap.size→(w.alloc (.cells c el)).heap[k]?=w.heap[k]?:=fun k hk=>Below.heap_alloc w _ k hk
 have hle:Le w g σ.O (w.alloc (.cells c el)) g' σ.O:=by
  refine ⟨fun b hb=>⟨.inl hb,hold b (hg.im b hb).1⟩,fun r hr=>hr,fun r sz' l' hr hr'=>?_,fun r l' hr hr'=>⟨l',hr',rfl⟩⟩
  exact ⟨sz',l',hr',rfl,Nat.le_refl _,rfl,fun b hb c1 hc1=>⟨c1,hc1.congr (hold b hc1.lt),rfl⟩⟩
 refine ⟨g',hg.step hle (fun r=>?_) (fun b hb=>?_) rfl rfl rfl (by simp) (fun b hb _=>hold b hb) (fun b o ho=>?_) (fun b hb=>?_),.inr rfl,hle⟩
 ·refine hle.keep rfl (fun b hb=>?_) (hg.O r)
  have hlt:b<w.heap.size:=by
   rcases hb with hb | ⟨i,j,hb⟩ <;> exact hg.lt b _ hb
  exact ⟨hold b hlt,rfl⟩
 ·rcases hb with hb | rfl
  ·have:=hg.im b hb
   exact ⟨by simp;omega,this.2⟩
  ·refine ⟨by simp,?_⟩
   show g.own w.heap.size=none
   cases ho:g.own w.heap.size with
   | none=>rfl
   | some o=>exact absurd (hg.lt _ _ ho) (Nat.lt_irrefl _)
 ·have:=hg.lt b o ho
  exact ⟨by simp;omega,.inr ⟨o,ho⟩⟩
 ·rcases hb with hb | rfl
  ·exact .inl hb
  ·exact .inr (.inl (Nat.le_refl _))
def pBuildLit (P:Program) (σ:St) (t:TypeId) (d len:Nat) (parts:Array (Nat × Operand)):PR :=
 match elT P t,len,parts.toList with
 | some e,1,[(0,x)]=>match zcs P e,P.info? e,rd P σ e x with
  | some ps,some i,some (.a (.c (.p (.v v))))=>if i.size=ps.length∧i.size=1 then some ({ rt:=evk σ x,wt:=[(d,cv (.li v))] },none) else none
  | _,_,_=>none
 | _,_,_=>none
theorem pBuildLit_right {P:Program} {σ:St} {o:Oper} {t d len:Nat} {parts:Array (Nat × Operand)} (hd:o.dst=some d) (ho:o.op=.buildSlice t len parts):Right P o σ (pBuildLit P σ t d len parts):=by
 intro ft c hr _
 unfold pBuildLit at hr
 split at hr
 ·rename_i e x het hpl
  obtain ⟨ht,hhe⟩:=elT_spec het
  split at hr
  ·rename_i ps i v hps hi hx
   split at hr
   ·rename_i hsz
    obtain ⟨hs1,hs2⟩:=hsz
    cases hr
    refine ⟨⟨evk_ok _ _,trivial⟩,sound_step hd rfl fun Γ g σ' a w hf hg=>?_⟩
    obtain ⟨i',z,hi',hz,hzs,_⟩:=zcs_spec hps
    rw [hi] at hi';cases hi'
    have hv:=rd_pl hx hf.1 hg
    have hone:v.oneCell'=true:=by
     have:spR w g.Im (.v v) (a.eval x):=rd_R hx hf.1 hg
     cases this;assumption
    obtain ⟨g',k1,k2,k3⟩:=hg.grow0 (c:=#[v]) e
    refine ⟨.slice (some ⟨w.heap.size,0,none⟩) 1 1,_,g',?_,k1,?_⟩
    ·have hp:parts=#[(0,x)]:=by cases parts;simp at hpl;subst hpl;rfl
     subst hp
     have hszT:szT P e=i.size:=by simp [szT,hi]
     have hzz:z.cells.size=1:=by rw [hzs,← hs1,hs2]
     obtain ⟨z0,hz0⟩:∃ z0,z.cells=#[z0]:=by
      cases hc:z.cells with
      | mk l=>cases l with
       | nil=>rw [hc] at hzz;cases hzz
       | cons z0 l=>cases l with
        | nil=>exact ⟨z0,rfl⟩
        | cons=>rw [hc] at hzz;simp at hzz
     have hcells:v.cells=#[v]:=by cases v <;> first | rfl | simp [Value.oneCell'] at hone
     simp [execOp,ho,Instr.buildSlice,Sem.run_bind,run_underlying ht,run_sizeOf hhe,hszT,hs2,zeroValue,typeInfo,run_program,hi,hz,hz0,hv,Instr.fill,hcells,newRow,run_newObj]
     have h1:Array.range 1=#[0]:=rfl
     have h2:(Array.map (fun x=>[z0][x % 1]?.getD default) (Array.range 1)).setIfInBounds 0 v=#[v]:=by rw [h1];simp
     rw [h2]
    ·refine ⟨w.heap.size,e,rfl,k2,hone,?_⟩
     obtain ⟨el',fr,h1,_⟩:=Blk.new w #[v] e
     simp only [World.alloc,Array.getElem?_push_size]
   ·cases hr
  ·cases hr
 ·cases hr
end Go.XM
end
section
namespace Go.XM
open Go.RowKit
def bytesL (s:ByteArray):List Int:=s.data.toList.map fun b=>(b.toNat:Int)
theorem Good.growF {Γ:Ctx} {g:G} {σ:St} {a:Act} {w w':World} (hg:Good Γ g σ a w) {d:Nat} (hfr:σ.O d=.fresh) (c:Array Value) (rs:RS)
  (hos:w'.os=w.os) (ht:w'.tape=w.tape) (hout:w'.output=w.output) (hsz:w'.heap.size=w.heap.size+1) (hold:∀ k,k<w.heap.size→w'.heap[k]?=w.heap[k]?) (hB:Blk w' w.heap.size c)
  (hrs:∀ g',g'.β d=some w.heap.size→g'.own w.heap.size=some (.root d)→Le w g σ.O w' g' (upd [(d,rs)] σ.O)→rsR w' g' (upd [(d,rs)] σ.O) d rs) :
  ∃ g',Good Γ g' ⟨σ.T,upd [(d,rs)] σ.O⟩ a w'∧g'.β d=some w.heap.size:=by
 let g':G:={ β:=upF g.β d (some w.heap.size),own:=upF g.own w.heap.size (some (.root d)),Im:=g.Im }
 have hO:∀ k,k≠d→upd [(d,rs)] σ.O k=σ.O k:=fun k hk=>by simp [upd,hk]
 have hle:Le w g σ.O w' g' (upd [(d,rs)] σ.O):=by
  refine ⟨fun b hb=>⟨hb,hold b (hg.im b hb).1⟩,fun r hr=>?_,fun r sz' l' hr hr'=>?_,fun r l' hr hr'=>?_⟩
  ·have:r≠d:=fun e=>hr (e ▸ hfr)
   rw [hO r this];exact hr
  ·have hrd:r≠d:=fun e=>hr (e ▸ hfr)
   rw [hO r hrd] at hr'
   refine ⟨sz',l',hr',rfl,Nat.le_refl _,upF_ne hrd,fun b hb c1 hc1=>⟨c1,hc1.congr (hold b hc1.lt),rfl⟩⟩
  ·have hrd:r≠d:=fun e=>hr (e ▸ hfr)
   rw [hO r hrd] at hr'
   exact ⟨l',hr',upF_ne hrd⟩
 refine ⟨g',hg.step hle (fun r=>?_) (fun b hb=>?_) hos ht hout (by omega) (fun b hb _=>hold b hb) (fun b o ho=>?_) (fun b hb=>.inl hb),upF_same _ _ _⟩
 ·by_cases e:r=d
  ·subst e
   have:upd [(r,rs)] σ.O r=rs:=by simp [upd]
   rw [this]
   exact hrs _ (upF_same _ _ _) (upF_same _ _ _) hle
  ·rw [hO r e]
   refine hle.keep (upF_ne e) (fun b hb=>?_) (hg.O r)
   have hlt:b<w.heap.size:=by
    rcases hb with hb | ⟨i,j,hb⟩ <;> exact hg.lt b _ hb
   exact ⟨hold b hlt,upF_ne (by omega)⟩
 ·have:=hg.im b hb
  refine ⟨by omega,?_⟩
  show upF g.own _ _ b=_
  rw [upF_ne (by omega)];exact this.2
 ·by_cases e:b=w.heap.size
  ·subst e;exact ⟨by omega,.inl (Nat.le_refl _)⟩
  ·have ho':g.own b=some o:=by
    have:upF g.own w.heap.size (some (.root d)) b=some o:=ho
    rwa [upF_ne e] at this
   have:=hg.lt b o ho'
   exact ⟨by omega,.inr ⟨o,ho'⟩⟩
def pSB (P:Program) (σ:St) (s t:TypeId) (d:Nat) (x:Operand):PR :=
 match P.underlying s,P.underlying t,rd P σ s x,σ.O d with
 | some .string,some (.slice e),some (.a (.c (.p (.v (.string b))))),.fresh=>match P.underlying e with
  | some (.int .u8)=>some ({ rt:=evk σ x,ro:=[(d,.fresh)],wt:=[(d,cv (.vw d 0 (bytesL b).length))],wo:=[(d,.row 1 ((bytesL b).map fun n=>[.s (.v (.int .u8 n))]))] },none)
  | _=>none
 | _,_,_,_=>none
theorem pSB_right {P:Program} {σ:St} {o:Oper} {s t d:Nat} {x:Operand} (hd:o.dst=some d) (ho:o.op=.convert s t x):Right P o σ (pSB P σ s t d x):=by
 intro ft c hr _
 unfold pSB at hr
 split at hr
 ·rename_i e b hs ht hx hfr
  split at hr
  ·rename_i he
   cases hr
   refine ⟨⟨evk_ok _ _,hfr,trivial⟩,sound_step hd rfl fun Γ g σ' a w hf hg=>?_⟩
   have hfr':σ'.O d=.fresh:=hf.2.1
   have hv:=rd_pl hx hf.1 hg
   have hrun:=Go.Lib.run_convert_string_bytes (P:=P) w s t e b hs ht he
   have hcap:b.size≤grownCap w b.size 0 e:=by simp [grownCap,Question.cut]
   have hcs:(Go.Lib.bytesCells w e b).size=grownCap w b.size 0 e:=by
    simp [Go.Lib.bytesCells];omega
   have hB:Blk (Go.Lib.bytesWorld w e b) w.heap.size (Go.Lib.bytesCells w e b) :=
    ⟨e,_,Go.Lib.bytesWorld_at_new w e b,fun k hk=>by simp;omega⟩
   have hlen:(bytesL b).length=b.size:=by simp [bytesL]
   obtain ⟨g',k1,k2⟩:=hg.growF hfr' (w':=Go.Lib.bytesWorld w e b) (Go.Lib.bytesCells w e b) (.row 1 ((bytesL b).map fun n=>[.s (.v (.int .u8 n))])) rfl rfl rfl (Go.Lib.bytesWorld_size w e b) (fun k hk=>Go.Lib.bytesWorld_at_old w e b k hk) hB (fun g' h1 h2 hle=>by
    show match g'.β d with | none=>_ | some b=>_
    rw [h1]
    refine ⟨_,h2,hB,?_,by rw [List.length_map,hlen,hcs];omega,fun i1 e1 j rc hi1 hj=>?_⟩
    ·intro y hy
     obtain ⟨n,_,rfl⟩:=List.mem_map.1 hy
     rfl
    ·rw [List.getElem?_map,Option.map_eq_some_iff] at hi1
     obtain ⟨n,hn,rfl⟩:=hi1
     have hj0:j=0:=by have:=idx_lt hj;simp at this;omega
     subst hj0
     have hrc:RC.s (.v (.int .u8 n))=rc:=by simpa using hj
     subst hrc
     refine ⟨.int .u8 n,?_,rfl,spR.v _ rfl⟩
     have hlt:=idx_lt hn
     rw [hlen] at hlt
     rw [bytesL,List.getElem?_map,Option.map_eq_some_iff] at hn
     obtain ⟨y,hy,rfl⟩:=hn
     have:=Go.Lib.bytesWorld_cell w e b i1 hlt
     rw [hB.cell] at this
     rw [Nat.mul_one,Nat.add_zero,this,List.getD_eq_getElem?_getD,hy]
     rfl)
   refine ⟨.slice (some ⟨w.heap.size,0,none⟩) b.size (grownCap w b.size 0 e),_,g',?_,k1,?_⟩
   ·simp only [execOp,ho,hv,Sem.run_bind,hrun,Result.andThen_ok,Sem.run_pure]
   ·show cvR _ g' _ (.vw d 0 (bytesL b).length) _
    have hOd:upd [(d,RS.row 1 ((bytesL b).map fun n=>[RC.s (.v (.int .u8 n))]))] σ'.O d=.row 1 ((bytesL b).map fun n=>[.s (.v (.int .u8 n))]):=by simp [upd]
    simp only [cvR,hOd,k2]
    exact ⟨grownCap w b.size 0 e,_,0,by rw [hlen],.inr (by simp),by rw [hlen];exact hcap,by simp,hB,by rw [hcs];simp⟩
  ·cases hr
 ·cases hr
end Go.XM
end
section
namespace Go.XM
open Go.RowKit
def arT (P:Program) (t:TypeId):Option (Nat × TypeId):=match P.underlying t with
 | some (.array n e)=>if hasT P e && Nat.beq (szT P e) 1 then some (n,e) else none
 | _=>none
theorem arT_spec {P:Program} {t:TypeId} {n:Nat} {e:TypeId} (h:arT P t=some (n,e)):P.underlying t=some (.array n e)∧hasT P e=true∧szT P e=1:=by
 unfold arT at h
 split at h
 ·rename_i n' e' hu
  split at h
  ·rename_i hb
   simp only [Bool.and_eq_true] at hb
   cases h
   exact ⟨hu,hb.1,Nat.eq_of_beq_eq_true hb.2⟩
  ·cases h
 ·cases h
def arZ (P:Program) (t:TypeId):Option (List SP):=match arT P t,P.info? t with
 | some (n,e),some i=>match i.zero with
  | some z=>zipZ P z.cells.toList (List.replicate n e)
  | none=>none
 | _,_=>none
def pAllocA (P:Program) (σ:St) (t:TypeId) (d:Nat):PR :=
 match arZ P t,σ.O d with
 | some ps,.fresh=>some ({ ro:=[(d,.fresh)],wt:=[(d,cv (.ad d 0 0))],wo:=[(d,.row 1 (ps.map fun p=>[.s p]))] },none)
 | _,_=>none
theorem pAllocA_right {P:Program} {σ:St} {o:Oper} {t:TypeId} {d:Nat} (hd:o.dst=some d) (ho:o.op=.alloc t):Right P o σ (pAllocA P σ t d):=by
 intro f c hr _
 unfold pAllocA at hr
 split at hr
 ·rename_i ps hps hfr
  cases hr
  unfold arZ at hps
  split at hps
  ·rename_i n e i hn hi
   split at hps
   ·rename_i z hz
    refine ⟨⟨trivial,hfr,trivial⟩,sound_step hd rfl fun Γ g σ' a w hf hg=>?_⟩
    have hfr':σ'.O d=.fresh:=hf.2.1
    obtain ⟨g',k1,k2,k3⟩:=hg.grow hfr' z.cells t (.row 1 (ps.map fun p=>[.s p])) (fun w' g' h1 h2 h3 _=>by
     show match g'.β d with | none=>_ | some b=>_
     rw [h1]
     obtain ⟨y1,y2⟩:=zipZ_R (w:=w') (Im:=g'.Im) hps
     refine ⟨z.cells,h2,h3,?_,?_,fun i1 e1 j rc hi1 hj=>?_⟩
     ·intro y hy
      obtain ⟨p,_,rfl⟩:=List.mem_map.1 hy
      rfl
     ·have:z.cells.size=ps.length:=by simpa using y1
      rw [List.length_map,Nat.mul_one,this];exact Nat.le_refl _
     ·rw [List.getElem?_map,Option.map_eq_some_iff] at hi1
      obtain ⟨p,hp,rfl⟩:=hi1
      have hj0:j=0:=by have:=idx_lt hj;simp at this;omega
      subst hj0
      have hrc:RC.s p=rc:=by simpa using hj
      subst hrc
      obtain ⟨v,e1,e2⟩:=y2 i1 p hp
      refine ⟨v,by simpa using e1,e2.one,e2⟩)
    refine ⟨.pointer (some ⟨w.heap.size,0,none⟩),w.alloc (.cells z.cells t),g',?_,k1,?_⟩
    ·simp [execOp,ho,Instr.alloc,zeroValue,typeInfo,hi,hz,newVar,newRow]
    ·show cvR (w.alloc (.cells z.cells t)) g' (upd [(d,RS.row 1 (ps.map fun p=>[RC.s p]))] σ'.O) (.ad d 0 0) _
     have hOd:upd [(d,RS.row 1 (ps.map fun p=>[RC.s p]))] σ'.O d=.row 1 (ps.map fun p=>[.s p]):=by simp [upd]
     simp only [cvR,hOd]
     exact ⟨w.heap.size,k2,by simp⟩
   ·cases hps
  ·cases hps
 ·cases hr
def pIdxA (P:Program) (σ:St) (t:TypeId) (d:Nat) (x y:Operand):PR :=
 match arT P t,rd P σ 0 y,rd P σ 0 x with
 | some (m,_),some (.a (.c (.p (.v (.int _ i))))),some (.a (.c (.ad r 0 0)))=>match σ.O r with
  | .row 1 l=>some ({ rt:=evk σ x++evk σ y,ro:=[(r,.row 1 l)],wt:=[(d,cv (.ad r i.toNat 0))] },some (0≤i∧i<m))
  | _=>none
 | _,_,_=>none
theorem pIdxA_right {P:Program} {σ:St} {o:Oper} {t d:Nat} {x y:Operand} (hd:o.dst=some d) (ho:o.op=.indexAddr t x y):Right P o σ (pIdxA P σ t d x y):=by
 intro ft c hr hc
 unfold pIdxA at hr
 split at hr
 ·rename_i m e k i r hm hy hx
  obtain ⟨hu,hte,hsz⟩:=arT_spec hm
  split at hr
  ·rename_i l hO
   cases hr
   obtain ⟨h0,h1⟩:0≤i∧i<m:=hc
   refine ⟨⟨okL_append.2 ⟨evk_ok _ _,evk_ok _ _⟩,hO,trivial⟩,sound_val hd rfl rfl fun Γ g σ' a w hf' hg=>?_⟩
   obtain ⟨hf1,hf2⟩:=okL_append.1 hf'.1
   have hOr:σ'.O r=.row 1 l:=hf'.2.1
   have hv:cvR w g σ'.O (.ad r 0 0) (a.eval x):=rd_R hx hf1 hg
   simp only [cvR,hOr] at hv
   obtain ⟨b,hb,hv⟩:=hv
   have hy':=rd_pl hy hf2 hg
   refine ⟨.pointer (some ⟨b,i.toNat*1+0,none⟩),?_,?_⟩
   ·simp only [execOp,ho,hv,hy',Instr.indexAt,asIntOf,Sem.run_bind,Sem.run_pure,run_underlying hu,Result.andThen_ok,Instr.sureAddr,h0,h1,and_self,if_true,run_sizeOf hte,hsz,add_mk]
    simp
   ·show cvR w g σ'.O (.ad r i.toNat 0) _
    simp only [cvR,hOr]
    exact ⟨b,hb,rfl⟩
  ·cases hr
 ·cases hr
end Go.XM
end
section
namespace Go.XM
open Go.RowKit
structure WrG (w w':World) (b:Nat) (c c':Array Value):Prop where
 old:Blk w b c
 new:Blk w' b c'
 sz:c'.size=c.size
 size:w.heap.size≤w'.heap.size
 other:∀ k,k<w.heap.size→k≠b→w'.heap[k]?=w.heap[k]?
 os:w'.os=w.os
 tape:w'.tape=w.tape
 out:w'.output=w.output
theorem WrG.blk {w w':World} {b:Nat} {c c':Array Value} (h:WrG w w' b c c') {b2:Nat} {c2:Array Value} (k:Blk w b2 c2):∃ c3,Blk w' b2 c3∧c3.size=c2.size:=by
 by_cases e:b2=b
 ·subst e
  obtain rfl:=h.old.uniq k
  exact ⟨c',h.new,h.sz⟩
 ·exact ⟨c2,k.congr (h.other b2 k.lt e),rfl⟩
theorem Good.writeG {Γ:Ctx} {g:G} {σ:St} {a:Act} {w:World} (hg:Good Γ g σ a w) {r b:Nat} {c c':Array Value} {w':World} (hw:WrG w w' b c c') (hown:g.own b=some (.root r)) (rs:RS)
  (hk:∃ sz l l',σ.O r=.row sz l∧rs=.row sz l'∧l.length≤l'.length)
  (hrs:Le w g σ.O w' g (upd [(r,rs)] σ.O)→rsR w' g (upd [(r,rs)] σ.O) r rs):Good Γ g ⟨σ.T,upd [(r,rs)] σ.O⟩ a w':=by
 have hne:∀ k,g.own k≠some (.root r)→k≠b:=fun k hk e=>hk (e ▸ hown)
 have hO:∀ k,k≠r→upd [(r,rs)] σ.O k=σ.O k:=fun k hk=>by simp [upd,hk]
 have hOr:upd [(r,rs)] σ.O r=rs:=by simp [upd]
 have hle:Le w g σ.O w' g (upd [(r,rs)] σ.O):=by
  refine ⟨fun k hk'=>⟨hk',hw.other k (hg.im k hk').1 (hne k (by rw [(hg.im k hk').2];simp))⟩,fun k hk'=>?_,fun k sz' l' hk' hr'=>?_,fun k l' hk' hr'=>?_⟩
  ·by_cases e:k=r
   ·subst e;rw [hOr]
    obtain ⟨sz,l,l',_,rfl,_⟩:=hk
    simp
   ·rw [hO k e];exact hk'
  ·by_cases e:k=r
   ·subst e
    rw [hOr] at hr'
    subst hr'
    obtain ⟨sz,l,l2,h1,h,h2⟩:=hk
    cases h
    exact ⟨_,l,h1,rfl,h2,rfl,fun b2 _ c2 hc2=>hw.blk hc2⟩
   ·rw [hO k e] at hr'
    exact ⟨sz',l',hr',rfl,Nat.le_refl _,rfl,fun b2 _ c2 hc2=>hw.blk hc2⟩
  ·by_cases e:k=r
   ·subst e
    rw [hOr] at hr'
    subst hr'
    obtain ⟨sz,l,l2,h1,h,h2⟩:=hk
    cases h
   ·rw [hO k e] at hr'
    exact ⟨l',hr',rfl⟩
 refine hg.step hle (fun k=>?_) (fun k hk'=>⟨Nat.lt_of_lt_of_le (hg.im k hk').1 hw.size,(hg.im k hk').2⟩) hw.os hw.tape hw.out hw.size
  (fun k hlt hn=>hw.other k hlt (hne k (hn _))) (fun k o ho=>⟨Nat.lt_of_lt_of_le (hg.lt k o ho) hw.size,.inr ⟨o,ho⟩⟩) (fun k hk'=>.inl hk')
 by_cases e:k=r
 ·subst e;rw [hOr];exact hrs hle
 ·rw [hO k e]
  refine hle.keep rfl (fun b2 hb2=>⟨hw.other b2 ?_ (hne b2 ?_),rfl⟩) (hg.O k)
  ·rcases hb2 with hb2 | ⟨i,j,hb2⟩ <;> exact hg.lt _ _ hb2
  ·rcases hb2 with hb2 | ⟨i,j,hb2⟩ <;> rw [hb2] <;> simp
   exact e
def rowI (xs:List Int):List (List RC):=xs.map fun x=>[.s (.v (.int .i64 x))]
def CtN (P:Program) (f:FuncId) (as bs:List Int):Prop :=
 bs.length=as.length ∧
 (∀ (w:World) (b:Nat) (c:Array Value),Blk w b c→as.length≤c.size→(∀ (i:Nat) (x:Int),as[i]?=some x→c[i]?=some (.int .i64 x)) →
  Calls P f #[.slice (some ⟨b,0,none⟩) as.length c.size] w fun e w'=>e=.returned (.tuple #[])∧∃ c',WrG w w' b c c'∧∀ (i:Nat) (x:Int),bs[i]?=some x→c'[i]?=some (.int .i64 x)) ∧
 (as=[]→∀ (w:World) (a:Option Addr) (cap:Nat),Calls P f #[.slice a 0 cap] w fun e w'=>e=.returned (.tuple #[])∧w'=w)
def pInp (P:Program) (σ:St) (fo:Operand) (d:Nat) (xs:List Operand) (ts:List TypeId) (as bs:List Int):PR:=match fo,xs,ts with
 | .func f,[x],[t]=>match rd P σ t x with
  | some (.a (.c (.vw r 0 n)))=>match σ.O r with
   | .row 1 l=>if fnOk P f && Nat.beq n as.length then some ({ rt:=evk σ x,ro:=[(r,.row 1 l)],wt:=[(d,.tup [])],wo:=[(r,.row 1 (rowI bs))] },some (l=rowI as∧CtN P f as bs)) else none
   | _=>none
  | _=>none
 | _,_,_=>none
theorem pInp_right {P:Program} {σ:St} {o:Oper} {fo:Operand} {d:Nat} {xs:Array Operand} {ts:Array TypeId} {as bs:List Int} (hd:o.dst=some d) (ho:o.op=.call ⟨.value fo,xs,ts⟩):Right P o σ (pInp P σ fo d xs.toList ts.toList as bs):=by
 intro ft c hr hc
 unfold pInp at hr
 split at hr
 ·rename_i f x t hxs hts
  obtain ⟨xs⟩:=xs
  obtain ⟨ts⟩:=ts
  simp only at hxs hts
  subst hxs hts
  split at hr
  ·rename_i r n hx
   split at hr
   ·rename_i l hO
    split at hr
    ·rename_i hb
     simp only [Bool.and_eq_true] at hb
     obtain ⟨hfn,hn⟩:=hb
     have hn:=Nat.eq_of_beq_eq_true hn
     subst hn
     cases hr
     obtain ⟨rfl,h1,h2,h3⟩:l=rowI as∧CtN P f as bs:=hc
     refine ⟨⟨evk_ok _ _,hO,trivial⟩,fun ro m Γ g σ' a w hf hn hg next Q hK=>?_⟩
     have hOr:σ'.O r=.row 1 (rowI as):=hf.2.1
     have hv:cvR w g σ'.O (.vw r 0 as.length) (a.eval x):=rd_R hx hf.1 hg
     have hrs:=hg.O r
     rw [hOr] at hrs
     refine ⟨fun _ _=>trivial,?_⟩
     rw [semAt_val (exec_call ho (arr:=#[]) rfl hfn w) (by simp),Oper.uponIn_enter]
     refine ⟨fun h=>by simp [Fz] at h,?_⟩
     show CallsIn Fence.wide _ P _ _ w _
     rw [callsIn_wide]
     have key:Calls P f #[a.eval x] w fun e w'=>e=.returned (.tuple #[])∧Good Γ g ⟨σ'.T,upd [(r,.row 1 (rowI bs))] σ'.O⟩ a w':=by
      have nil:as=[]→upd [(r,RS.row 1 (rowI bs))] σ'.O=σ'.O:=by
       intro e
       have:bs=[]:=List.eq_nil_of_length_eq_zero (by rw [h1,e];rfl)
       subst e this
       funext k
       by_cases e:k=r
       ·subst e;simp [upd,hOr]
       ·simp [upd,e]
      simp only [cvR,hOr] at hv
      simp only [rsR] at hrs
      cases hβ:g.β r with
      | none =>
       simp only [hβ] at hv
       obtain ⟨_,q2,a0,q3⟩:=hv
       have hnil:as=[]:=List.eq_nil_of_length_eq_zero q2
       rw [q3]
       refine (h3 hnil w a0 0).mono ?_
       rintro e w' ⟨rfl,rfl⟩
       exact ⟨rfl,by rw [nil hnil];exact hg⟩
      | some b =>
       simp only [hβ] at hv hrs
       obtain ⟨cap,cs,off,e1,e2,e3,e4,e5,e6⟩:=hv
       obtain ⟨cs',q2,q3,q4,q6,q5⟩:=hrs
       obtain rfl:=e5.uniq q3
       by_cases hnil:as=[]
       ·subst hnil
        rw [e1]
        refine (h3 rfl w _ cap).mono ?_
        rintro e w' ⟨rfl,rfl⟩
        exact ⟨rfl,by rw [nil rfl];exact hg⟩
       ·have hpos:0<as.length:=List.length_pos_iff.2 hnil
        have hs:cs.size=cap:=by simpa using e6
        have hoff:off=0:=by rcases e2 with h | h <;> omega
        subst hoff
        have hcs:∀ (i:Nat) (x:Int),as[i]?=some x→cs[i]?=some (.int .i64 x):=by
         intro i x hi
         obtain ⟨v,a1,a2,a3⟩:=q5 i [.s (.v (.int .i64 x))] 0 (.s (.v (.int .i64 x))) (by simp [rowI,hi]) rfl
         have a3:spR w g.Im (.v (.int .i64 x)) v:=a3
         cases a3
         simpa using a1
        rw [e1,← hs]
        refine (h2 w b cs e5 (by omega) hcs).mono ?_
        rintro e w' ⟨rfl,c',k1,k2⟩
        refine ⟨rfl,hg.writeG k1 q2 _ ⟨1,rowI as,rowI bs,hOr,rfl,by simp [rowI,h1]⟩ fun _=>?_⟩
        simp only [rsR,hβ]
        refine ⟨c',q2,k1.new,?_,by rw [k1.sz];simp [rowI,h1];omega,fun i e j rc hi hj=>?_⟩
        ·intro e he
         obtain ⟨y,_,rfl⟩:=List.mem_map.1 he
         rfl
        ·rw [rowI,List.getElem?_map,Option.map_eq_some_iff] at hi
         obtain ⟨y,hy,rfl⟩:=hi
         have hj0:j=0:=by have:=idx_lt hj;simp at this;omega
         subst hj0
         have hrc:RC.s (.v (.int .i64 y))=rc:=by simpa using hj
         subst hrc
         exact ⟨.int .i64 y,by simpa using k2 i y hy,rfl,spR.v _ rfl⟩
     refine (show Calls P f (Array.map a.eval { toList:=[x] }++#[]) w _ from by simpa using key).mono ?_
     rintro e w' ⟨rfl,k1⟩
     rw [hd]
     refine hK _ _ g ?_
     exact k1.put (hn d (by simp [keys])) ⟨#[],rfl,rfl,fun j x hj=>by simp at hj⟩
    ·cases hr
   ·cases hr
  ·cases hr
 ·cases hr
end Go.XM
end
section
namespace Go.XM
open Go.RowKit
inductive Hn where
 | no
 | val (v:Value)
 | rcs (l:List RC)
 | sps (l:List SP)
 | take (l:List RC)
 | fill (l:List RC) (N:List (List SP))
 | news (N:List (List SP))
 | own (b:Bool)
 | call (H:CallH)
 | inp (as bs:List Int)
 | is (b:Bool) (h:Hn)
 | frz (s r:Nat) (L:List (List SP)) (h:Hn)
 | drp (a c:Nat) (h:Hn)
def pBin (P:Program) (σ:St) (op:BinOp) (t:TypeId) (d:Nat) (x y:Operand) (h:Hn):PR :=
 match rd P σ t x,rd P σ t y with
 | some (.a (.c (.p (.v vx)))),some (.a (.c (.p (.v vy))))=>match bop (P.underlying t) op vx vy with
  | some (r,c)=>match h with
   | .val v=>some ({ rt:=evk σ x++evk σ y,wt:=[(d,pl v)] },c.and (some (r=v)))
   | _=>some ({ rt:=evk σ x++evk σ y,wt:=[(d,pl r)] },c)
  | none=>none
 | _,_=>none
theorem pBin_right {P:Program} {σ:St} {o:Oper} {op:BinOp} {t t' d:Nat} {x y:Operand} {h:Hn} (hd:o.dst=some d) (ho:o.op=.binOp op t x y t'):Right P o σ (pBin P σ op t d x y h):=by
 intro f c hr hc
 have key:∀ {vx vy r:Value} {c:PC},rd P σ t x=some (pl vx)→rd P σ t y=some (pl vy)→bop (P.underlying t) op vx vy=some (r,c)→c.holds→({ rt:=evk σ x++evk σ y,wt:=[(d,pl r)] }:Ft).ok σ∧Sound P o { rt:=evk σ x++evk σ y,wt:=[(d,pl r)] }:=by
  intro vx vy r c hx hy hb hc
  refine ⟨⟨okL_append.2 ⟨evk_ok _ _,evk_ok _ _⟩,trivial⟩,sound_val hd rfl rfl fun Γ g σ' a w hf hg=>⟨r,?_,?_⟩⟩
  ·obtain ⟨hf1,hf2⟩:=okL_append.1 hf.1
   have e1:=rd_pl hx hf1 hg
   have e2:=rd_pl hy hf2 hg
   have:=bop_run (x:=x) (y:=y) hb hc w
   simp only [execOp,ho,e1,e2]
   rw [Sem.run_bind,this]
   rfl
  ·refine spR.v _ ?_
   unfold bop at hb
   split at hb
   all_goals try (split at hb)
   all_goals cases hb
   all_goals rfl
 unfold pBin at hr
 split at hr
 ·rename_i vx vy hx hy
  split at hr
  ·rename_i r c1 hb
   split at hr
   ·rename_i v
    cases hr
    obtain ⟨h1,rfl⟩:=PC.and_holds.1 hc
    exact key hx hy hb h1
   ·cases hr
    exact key hx hy hb hc
  ·cases hr
 ·cases hr
def hSps:Hn→Hint
 | .sps l=>.sps l
 | _=>.no
def hVal:Hn→Option Value
 | .val v=>some v
 | _=>none
def hOwn:Hn→Bool
 | .own b=>b
 | _=>false
def hNh:Hn→Nh
 | .news N=>.news N
 | .own b=>.own b
 | _=>.no
def pLoadH (P:Program) (σ:St) (t:TypeId) (d:Nat) (x:Operand):Hn→PR
 | .take es=>pTake P σ t d x es
 | .rcs es=>pLoad P σ t d x (.rcs es)
 | _=>pLoad P σ t d x .no
def pStoreH (P:Program) (σ:St) (t:TypeId) (x y:Operand):Hn→PR
 | .fill es N=>pFill P σ t x y es N
 | .take es=>pFillN P σ t x y es
 | .rcs es=>pStore P σ t x y (.rcs es)
 | _=>pStore P σ t x y .no
def pCallH (P:Program) (σ:St) (fo:Operand) (d:Nat) (xs:Array Operand) (ts:Array TypeId):Hn→PR
 | .call H=>pCall P σ fo d xs ts H
 | .inp as bs=>pInp P σ fo d xs.toList ts.toList as bs
 | _=>none
theorem pLoadH_right {P:Program} {σ:St} {o:Oper} {t d:Nat} {x:Operand} {h:Hn} (hd:o.dst=some d) (ho:o.op=.load t x):Right P o σ (pLoadH P σ t d x h):=by
 unfold pLoadH;split
 ·exact pTake_right hd ho
 ·exact pLoad_right hd ho
 ·exact pLoad_right hd ho
theorem pStoreH_right {P:Program} {σ:St} {o:Oper} {t:Nat} {x y:Operand} {h:Hn} (hd:o.dst=none) (ho:o.op=.store t x y):Right P o σ (pStoreH P σ t x y h):=by
 unfold pStoreH;split
 ·exact pFill_right hd ho
 ·exact pFillN_right hd ho
 ·exact pStore_right hd ho
 ·exact pStore_right hd ho
theorem pCallH_right {P:Program} {σ:St} {o:Oper} {fo:Operand} {d:Nat} {xs:Array Operand} {ts:Array TypeId} {h:Hn} (hd:o.dst=some d) (ho:o.op=.call ⟨.value fo,xs,ts⟩):Right P o σ (pCallH P σ fo d xs ts h):=by
 unfold pCallH;split
 ·exact pCall_right hd ho
 ·exact pInp_right hd ho
 ·intro f c hr;cases hr
def pBI (P:Program) (σ:St) (d:Nat) (b:Builtin) (xs:List Operand) (ts:List TypeId) (h:Hn):PR :=
 match b with
 | .len=>match xs,ts with
  | [x],[t]=>pLen P σ t d x (hVal h)
  | _,_=>none
 | .append=>match xs,ts with
  | [s,x],[t,tx]=>pAppend P σ t tx d s x (hNh h)
  | _,_=>none
 | .min=>match xs with
  | [x,y]=>pMM P σ .min 0 d x y
  | _=>none
 | .max=>match xs with
  | [x,y]=>pMM P σ .max 0 d x y
  | _=>none
 | .copy=>match xs,ts,h with
  | [x,y],[t,tx],.news S=>pCopy P σ t tx d x y S
  | _,_,_=>none
 | _=>none
def pCallC (P:Program) (σ:St) (d:Nat) (c:Call) (h:Hn):PR :=
 match c.callee with
 | .value fo=>pCallH P σ fo d c.args c.argTypes h
 | .builtin b=>pBI P σ d b c.args.toList c.argTypes.toList h
 | _=>none
theorem pCallC_right {P:Program} {σ:St} {o:Oper} {d:Nat} {c:Call} {h:Hn} (hd:o.dst=some d) (ho:o.op=.call c):Right P o σ (pCallC P σ d c h):=by
 obtain ⟨ca,⟨xs⟩,⟨ts⟩⟩:=c
 unfold pCallC
 cases ca with
 | value f=>exact pCallH_right hd ho
 | invoke r m=>intro f c hr;cases hr
 | builtin b =>
  show Right P o σ (pBI P σ d b xs ts h)
  unfold pBI
  split
  ·split
   ·exact pLen_right hd ho
   ·intro f c hr;cases hr
  ·split
   ·exact pAppend_right hd ho
   ·intro f c hr;cases hr
  ·split
   ·exact pMM_right hd ho
   ·intro f c hr;cases hr
  ·split
   ·exact pMM_right hd ho
   ·intro f c hr;cases hr
  ·split
   ·exact pCopy_right hd ho
   ·intro f c hr;cases hr
  ·intro f c hr;cases hr
def pAllocH (P:Program) (σ:St) (t:TypeId) (d:Nat):Hn→PR
 | .news _=>pAllocA P σ t d
 | _=>pAlloc P σ t d
theorem pAllocH_right {P:Program} {σ:St} {o:Oper} {t d:Nat} {h:Hn} (hd:o.dst=some d) (ho:o.op=.alloc t):Right P o σ (pAllocH P σ t d h):=by
 unfold pAllocH;split
 ·exact pAllocA_right hd ho
 ·exact pAlloc_right hd ho
def pIdxH (P:Program) (σ:St) (t:TypeId) (d:Nat) (x y:Operand):Hn→PR
 | .news _=>pIdxA P σ t d x y
 | h=>pIdx P σ t d x y (hSps h)
theorem pIdxH_right {P:Program} {σ:St} {o:Oper} {t d:Nat} {x y:Operand} {h:Hn} (hd:o.dst=some d) (ho:o.op=.indexAddr t x y):Right P o σ (pIdxH P σ t d x y h):=by
 unfold pIdxH;split
 ·exact pIdxA_right hd ho
 ·exact pIdx_right hd ho
def pBuildH (P:Program) (σ:St) (t:TypeId) (d n:Nat) (ps:Array (Nat × Operand)):Hn→PR
 | .news _=>pBuildLit P σ t d n ps
 | h=>pBuildSlice P σ t d n ps (hOwn h)
theorem pBuildH_right {P:Program} {σ:St} {o:Oper} {t d n:Nat} {ps:Array (Nat × Operand)} {h:Hn} (hd:o.dst=some d) (ho:o.op=.buildSlice t n ps):Right P o σ (pBuildH P σ t d n ps h):=by
 unfold pBuildH;split
 ·exact pBuildLit_right hd ho
 ·exact pBuildSlice_right hd ho
def pCallN (P:Program) (σ:St) (c:Call):PR :=
 match c.callee,c.args.toList,c.argTypes.toList with
 | .builtin .clear,[x],[t]=>pClear P σ t x
 | _,_,_=>none
theorem pCallN_right {P:Program} {σ:St} {o:Oper} {c:Call} (hd:o.dst=none) (ho:o.op=.call c):Right P o σ (pCallN P σ c):=by
 obtain ⟨ca,⟨xs⟩,⟨ts⟩⟩:=c
 unfold pCallN
 simp only
 split
 ·exact pClear_right hd ho
 ·intro f c hr;cases hr
def pSliceM (P:Program) (σ:St) (t:TypeId) (d:Nat) (x:Operand) (lo hi:Option Operand) (cut:Bool):Option Operand→PR
 | none=>match cut,lo with
  | true,none=>pCut P σ t d x hi
  | _,_=>pSlice P σ t d x lo hi
 | some _=>none
def pBin2 (P:Program) (σ:St) (op:BinOp) (t:TypeId) (d:Nat) (x y:Operand) (h:Hn):PR:=match pBin P σ op t d x y h with
 | some r=>some r
 | none=>match pNilCmp P σ op t d x y with
  | some r=>some r
  | none=>pAgEq P σ op t d x y
theorem pBin2_right {P:Program} {σ:St} {o:Oper} {op:BinOp} {t t' d:Nat} {x y:Operand} {h:Hn} (hd:o.dst=some d) (ho:o.op=.binOp op t x y t'):Right P o σ (pBin2 P σ op t d x y h):=by
 intro f c hr hc
 unfold pBin2 at hr
 split at hr
 ·rename_i r hp
  cases hr
  exact pBin_right hd ho _ _ hp hc
 ·split at hr
  ·rename_i r hp
   cases hr
   exact pNilCmp_right hd ho _ _ hp hc
  ·exact pAgEq_right hd ho _ _ hr hc
def pConv2 (P:Program) (σ:St) (s t:TypeId) (d:Nat) (x:Operand) (h:Nh):PR:=match pConv P σ s t d x with
 | some r=>some r
 | none=>match pBS P σ s t d x h with
  | some r=>some r
  | none=>pSB P σ s t d x
theorem pConv2_right {P:Program} {σ:St} {o:Oper} {s t d:Nat} {x:Operand} {h:Nh} (hd:o.dst=some d) (ho:o.op=.convert s t x):Right P o σ (pConv2 P σ s t d x h):=by
 intro f c hr hc
 unfold pConv2 at hr
 split at hr
 ·rename_i r hp
  cases hr
  exact pConv_right hd ho _ _ hp hc
 ·split at hr
  ·rename_i r hp
   cases hr
   exact pBS_right hd ho _ _ hp hc
  ·exact pSB_right hd ho _ _ hr hc
def pstepM (P:Program) (o:Oper) (h:Hn) (σ:St):Op→Option Tmp→PR
 | .move x,some d=>pMove P σ o.type d x
 | .assign x,some d=>pMove P σ o.type d x
 | .binOp op t x y _,some d=>pBin2 P σ op t d x y h
 | .unOp op t x,some d=>pUn P σ t op d x
 | .convert s t x,some d=>pConv2 P σ s t d x (hNh h)
 | .pick x y z,some d=>pPick P σ o.type d x y z
 | .extract x i,some d=>pExtract P σ d x i
 | .field t x f,some d=>pField P σ t d x f
 | .build t ps,some d=>pBuild P σ t d ps
 | .nilCheck x,some d=>pNil P σ d x
 | .fieldAddr s x f,some d=>pFld P σ s f d x
 | .indexAddr t x y,some d=>pIdxH P σ t d x y h
 | .index t x y,some d=>pIndex P σ t d x y
 | .slice t x lo hi mx,some d=>pSliceM P σ t d x lo hi (hOwn h) mx
 | .load t x,some d=>pLoadH P σ t d x h
 | .store t x y,none=>pStoreH P σ t x y h
 | .alloc t,some d=>pAllocH P σ t d h
 | .box t x,some d=>pBox P σ t d x
 | .makeSlice t l c,some d=>pMake P σ t d l c (hOwn h)
 | .buildSlice t n ps,some d=>pBuildH P σ t d n ps h
 | .call c,some d=>pCallC P σ d c h
 | .call c,none=>pCallN P σ c
 | .makeFunc f first cap,some d=>pMakeFunc P σ d f first cap
 | _,_=>none
def pstep (P:Program) (o:Oper) (h:Hn) (σ:St):PR:=pstepM P o h σ o.op o.dst
theorem pstep_right {P:Program} {o:Oper} {h:Hn} {σ:St}:Right P o σ (pstep P o h σ):=by
 unfold pstep
 cases hd:o.dst with
 | none =>
  cases ho:o.op
  case store t x y=>exact pStoreH_right hd ho
  case call=>exact pCallN_right hd ho
  all_goals (intro f c hr;cases hr)
 | some d =>
  cases ho:o.op
  case move=>exact pMove_right hd (.inl ho)
  case assign=>exact pMove_right hd (.inr ho)
  case binOp=>exact pBin2_right hd ho
  case unOp=>exact pUn_right hd ho
  case convert=>exact pConv2_right hd ho
  case pick=>exact pPick_right hd ho
  case extract=>exact pExtract_right hd ho
  case field=>exact pField_right hd ho
  case build=>exact pBuild_right hd ho
  case nilCheck=>exact pNil_right hd ho
  case fieldAddr=>exact pFld_right hd ho
  case indexAddr=>exact pIdxH_right hd ho
  case index=>exact pIndex_right hd ho
  case slice t x lo hi mx =>
   cases mx with
   | none =>
    show Right P o σ (pSliceM P σ t d x lo hi (hOwn h) none)
    cases hq:hOwn h with
    | false=>exact pSlice_right hd ho
    | true=>cases lo with
     | none=>exact pCut_right hd ho
     | some l=>exact pSlice_right hd ho
   | some m=>intro f c hr;cases hr
  case load=>exact pLoadH_right hd ho
  case alloc=>exact pAllocH_right hd ho
  case box=>exact pBox_right hd ho
  case makeSlice=>exact pMake_right hd ho
  case buildSlice=>exact pBuildH_right hd ho
  case call=>exact pCallC_right hd ho
  case makeFunc=>exact pMakeFunc_right hd ho
  all_goals (intro f c hr;cases hr)
theorem Sound.more {P:Program} {o:Oper} {f:Ft} (h:Sound P o f) (x:Nat × SV):Sound P o { f with rt:=x::f.rt } :=
 fun ro m Γ g σ a w hf hn hg next Q hK=>h ro m Γ g σ a w ⟨hf.1.2,hf.2⟩ hn hg next Q hK
def boV:SV→Option Bool
 | .a (.c (.p (.v (.bool b))))=>some b
 | _=>none
def isUn:SV→Bool
 | .tup []=>true
 | _=>false
theorem isUn_spec {x:SV} (h:isUn x=true):x=.tup []:=by
 unfold isUn at h
 split at h
 ·rfl
 ·cases h
theorem boV_spec {x:SV} {b:Bool} (h:boV x=some b):x=bo b:=by
 unfold boV at h
 split at h <;> cases h
 rfl
def pIs (P:Program) (o:Oper):Hn→St→PR
 | .is b h,σ=>match pstep P o h σ with
  | some (f,c)=>match f.wt with
   | [(d,sv)]=>match boV sv with
    | some e=>some ({ f with wt:=[(d,bo b)] },c.and (some (e=b)))
    | none=>none
   | _=>none
  | none=>none
 | .frz s r L h,σ=>match pFrz σ s r L with
  | some (f1,c1)=>match pIs P o h (f1.app σ) with
   | some (f2,c2)=>some (comp f1 f2,c1.and c2)
   | none=>none
  | none=>none
 | .drp a c h,σ=>match pDrop σ a c with
  | some (f1,c1)=>match pIs P o h (f1.app σ) with
   | some (f2,c2)=>some (comp f1 f2,c1.and c2)
   | none=>none
  | none=>none
 | h,σ=>pstep P o h σ
theorem pIs_right {P:Program} {o:Oper}:∀ {h:Hn} {σ:St},Right P o σ (pIs P o h σ)
 | .is b h,σ=>by
  intro f c hr hc
  unfold pIs at hr
  split at hr
  ·rename_i f1 c1 h1
   split at hr
   ·rename_i d sv hw
    split at hr
    ·rename_i e he
     cases hr
     obtain ⟨k1,rfl⟩:=PC.and_holds.1 hc
     obtain ⟨q1,q2⟩:=pstep_right _ _ h1 k1
     have e2:=boV_spec he
     subst e2
     have e3:({ f1 with wt:=[(d,bo e)] }:Ft)=f1:=by rw [← hw]
     rw [e3]
     exact ⟨q1,q2⟩
    ·cases hr
   ·cases hr
  ·cases hr
 | .frz s r L h,σ=>by
  intro f c hr hc
  unfold pIs at hr
  split at hr
  ·rename_i f1 c1 h1
   split at hr
   ·rename_i f2 c2 h2
    cases hr
    obtain ⟨k1,k2⟩:=PC.and_holds.1 hc
    exact comp_right (pFrz_right h1 k1) (pIs_right _ _ h2 k2)
   ·cases hr
  ·cases hr
 | .drp a c h,σ=>by
  intro f q hr hc
  unfold pIs at hr
  split at hr
  ·rename_i f1 c1 h1
   split at hr
   ·rename_i f2 c2 h2
    cases hr
    obtain ⟨k1,k2⟩:=PC.and_holds.1 hc
    exact comp_right (pDrop_right h1) (pIs_right _ _ h2 k2)
   ·cases hr
  ·cases hr
 | .no,σ=>pstep_right
 | .val _,σ=>pstep_right
 | .rcs _,σ=>pstep_right
 | .sps _,σ=>pstep_right
 | .take _,σ=>pstep_right
 | .fill _ _,σ=>pstep_right
 | .news _,σ=>pstep_right
 | .own _,σ=>pstep_right
 | .call _,σ=>pstep_right
 | .inp _ _,σ=>pstep_right
def pAt (P:Program) (ops:Array Oper) (o:Oper) (h:Hn) (σ:St):PR :=
 match o.guard with
 | none=>pIs P o h σ
 | some (j,want)=>match ops[j]? with
  | some oj=>match oj.dst with
   | some d=>match boV (σ.T d) with
    | some b=>if b=want then match pIs P o h σ with
      | some (f,c)=>some ({ f with rt:=(d,bo b)::f.rt },c)
      | none=>none
     else some ({ rt:=[(d,bo b)],wt:=skipT o.dst },none)
    | none=>if isUn (σ.T d) then some ({ rt:=[(d,.tup [])],wt:=skipT o.dst },none) else none
   | none=>none
  | none=>none
theorem pAt_right {P:Program} {ops:Array Oper} {o:Oper} {h:Hn} {σ:St} {f:Ft} {c:PC} (hr:pAt P ops o h σ=some (f,c)) (hc:c.holds):f.ok σ∧SoundAt P ops o f:=by
 unfold pAt at hr
 split at hr
 ·rename_i hgd
  obtain ⟨h1,h2⟩:=pIs_right f c hr hc
  exact ⟨h1,by unfold SoundAt;simp only [hgd];exact h2⟩
 ·rename_i j want hgd
  split at hr
  ·rename_i oj hj
   split at hr
   ·rename_i d hd
    split at hr
    ·rename_i b hb
     have hb':=boV_spec hb
     split at hr
     ·rename_i e
      split at hr
      ·rename_i f' c' hf'
       cases hr
       obtain ⟨h1,h2⟩:=pIs_right _ _ hf' hc
       refine ⟨⟨⟨hb',h1.1⟩,h1.2⟩,?_⟩
       unfold SoundAt
       simp only [hgd]
       exact ⟨oj,d,hj,hd,.inl ⟨b,List.mem_cons_self,by rw [if_pos e];exact h2.more _⟩⟩
      ·cases hr
     ·rename_i e
      cases hr
      refine ⟨⟨⟨hb',trivial⟩,trivial⟩,?_⟩
      unfold SoundAt
      simp only [hgd]
      exact ⟨oj,d,hj,hd,.inl ⟨b,List.mem_cons_self,by rw [if_neg e];exact ⟨by trivial,by trivial⟩⟩⟩
    ·split at hr
     ·rename_i hu
      have hu':=isUn_spec hu
      cases hr
      refine ⟨⟨⟨hu',trivial⟩,trivial⟩,?_⟩
      unfold SoundAt
      simp only [hgd]
      exact ⟨oj,d,hj,hd,.inr ⟨List.mem_cons_self,by trivial,by trivial⟩⟩
     ·cases hr
   ·cases hr
  ·cases hr
def plan (P:Program) (ops:Array Oper):List Oper→List Hn→St→Option (List Ft × PC × St)
 | [],_,σ=>some ([],none,σ)
 | o::os,hs,σ=>match pAt P ops o (hs.headD .no) σ with
  | some (f,c)=>match plan P ops os hs.tail (f.app σ) with
   | some (fs,c',σ')=>some (f::fs,c.and c',σ')
   | none=>none
  | none=>none
theorem plan_spec {P:Program} {ops:Array Oper}:∀ {os:List Oper} {hs:List Hn} {σ:St} {fs:List Ft} {c:PC} {σ':St},plan P ops os hs σ=some (fs,c,σ')→c.holds→allSound P ops os fs∧okC fs σ∧runC fs σ=σ'
 | [],hs,σ,fs,c,σ',h,hc=>by simp only [plan,Option.some.injEq,Prod.mk.injEq] at h;obtain ⟨rfl,rfl,rfl⟩:=h;exact ⟨trivial,trivial,rfl⟩
 | o::os,hs,σ,fs,c,σ',h,hc=>by
  simp only [plan] at h
  split at h
  ·rename_i f c1 h1
   split at h
   ·rename_i fs' c2 σ2 h2
    cases h
    obtain ⟨k1,k2⟩:=PC.and_holds.1 hc
    obtain ⟨a1,a2⟩:=pAt_right h1 k1
    obtain ⟨b1,b2,b3⟩:=plan_spec h2 k2
    exact ⟨⟨a2,b1⟩,⟨a1,b2⟩,b3⟩
   ·cases h
  ·cases h
def befT (ops:List Oper):List Nat:=ops.foldl (fun B o=>B++[preOf B o]) []
def getT (T:Nat→SV) (l:List (Nat × SV)):List (Option SV):=l.map fun x=>some (T x.1)
def wantT (m:Nm) (l:List (Nat × SV)):List (Option SV):=l.map fun x=>trSV m x.2
def getO (O:Nat→RS) (m:Nm):List (Option RS):=m.map fun x=>some (O x.2)
def wantO (m:Nm) (o:List (Nat × RS)):List (Option RS):=o.map fun x=>trRS m x.2
def regB (P:Program) (nt:Nat) (draw:Bool) (ops:Array Oper) (hs:List Hn) (σ:St) (m:Nm) (bs:List Nat) (o:List (Nat × RS)):Bool :=
 match plan P ops ops.toList hs σ with
 | some (fs,_,_)=>inNt nt fs && Nat.beq fs.length ops.size && (!draw || drawOk ops (befT ops.toList) fs ops.size) && fitB m [] bs && (keys o == m.map (·.1))
 | none=>false
def regC (P:Program) (ops:Array Oper) (hs:List Hn) (σ:St):Prop:=match plan P ops ops.toList hs σ with
 | some (_,some c,_)=>c
 | some (_,none,_)=>True
 | none=>False
def regG (P:Program) (ops:Array Oper) (hs:List Hn) (σ:St) (l:List (Nat × SV)) (m:Nm):List (Option SV) × List (Option RS):=match plan P ops ops.toList hs σ with
 | some (_,_,σ')=>(getT σ'.T l,getO σ'.O m)
 | none=>([],[])
theorem trAV_am {m:Nm} {fz:List Nat} {O:Nat→RS}:∀ {x y:AV},trAV m x=some y→fz=[]→amAV m fz O x y:=by
 intro x y h hfz
 have hcv:∀ {x y:CV},trCV m x=some y→amCV m fz O x y:=by
  intro x y h
  unfold amCV
  split
  ·trivial
  ·cases h
  ·cases h
  ·exact h
 have hL:∀ {l l':List CV},trL m l=some l'→amL m fz O l l':=by
  intro l
  induction l with
  | nil=>intro l' h;simp only [trL,Option.some.injEq] at h;subst h;trivial
  | cons x l ih =>
   intro l' h
   simp only [trL] at h
   split at h
   ·rename_i y l2 h1 h2
    cases h
    exact ⟨hcv h1,ih h2⟩
   ·cases h
 cases x with
 | c x=>simp only [trAV,Option.map_eq_some_iff] at h;obtain ⟨y',h1,rfl⟩:=h;exact hcv h1
 | agg l=>simp only [trAV,Option.map_eq_some_iff] at h;obtain ⟨y',h1,rfl⟩:=h;exact hL h1
 | fn f l=>simp only [trAV,Option.map_eq_some_iff] at h;obtain ⟨y',h1,rfl⟩:=h;exact ⟨rfl,h1⟩
theorem fitT_of {m:Nm} {σ:St}:∀ {l:List (Nat × SV)},getT σ.T l=wantT m l→(∀ x∈l,∃ a,x.2=.a a)→fitT m [] σ l
 | [],_,_=>trivial
 | (i,sv)::l,h,ha=>by
  simp only [getT,wantT,List.map_cons,List.cons.injEq] at h
  refine ⟨?_,fitT_of h.2 fun x hx=>ha x (List.mem_cons_of_mem _ hx)⟩
  obtain ⟨a,e⟩:=ha _ List.mem_cons_self
  simp only at e
  subst e
  have h1:=h.1.symm
  simp only [trSV,Option.map_eq_some_iff] at h1
  obtain ⟨y,h2,h3⟩:=h1
  rw [← h3]
  exact trAV_am h2 rfl
theorem trL_amL {m:Nm} {O:Nat→RS} {l l':List CV} (h:trL m l=some l'):amL m [] O l l':=by
 have:=trAV_am (m:=m) (fz:=[]) (O:=O) (x:=.agg l) (y:=.agg l') (by simp [trAV,h]) rfl
 exact this
theorem fitO_of {m:Nm} {O:Nat→RS}:∀ {o:List (Nat × RS)} {m':Nm},getO O m'=wantO m o→keys o=m'.map (·.1)→fitO m [] O o m'
 | [],[],_,_=>trivial
 | [],_::_,h,_=>by simp [getO,wantO] at h
 | _::_,[],h,_=>by simp [getO,wantO] at h
 | (k,rs)::o,(k',r)::m',h,hk=>by
  simp only [getO,wantO,List.map_cons,List.cons.injEq] at h
  simp only [keys,List.map_cons,List.cons.injEq] at hk
  have h1:=h.1.symm
  cases rs with
  | fresh=>cases h1
  | dead=>cases h1
  | row sz l=>exact ⟨hk.1,(Option.some.inj h1).symm,fitO_of h.2 hk.2⟩
  | box l =>
   simp only [trRS,Option.map_eq_some_iff] at h1
   obtain ⟨l',h2,h3⟩:=h1
   refine ⟨hk.1,?_,fitO_of h.2 hk.2⟩
   rw [← h3]
   exact trL_amL h2
def onlyA:List (Nat × SV)→Bool
 | []=>true
 | (_,.a _)::l=>onlyA l
 | (_,.tup _)::_=>false
theorem onlyA_spec:∀ {l:List (Nat × SV)},onlyA l=true→∀ x∈l,∃ a,x.2=.a a
 | [],_,x,hx=>by simp at hx
 | (i,.a a)::l,h,x,hx=>by
  rcases List.mem_cons.1 hx with rfl | hx
  ·exact ⟨a,rfl⟩
  ·exact onlyA_spec (l:=l) h x hx
 | (i,.tup t)::l,h,_,_=>by cases h
theorem tr_reg {P:Program} {Γ:Ctx} {id:Nat} {ops:Array Oper} {σ:St} (draw:Bool) (hs:List Hn) (l:List (Nat × SV)) (o:List (Nat × RS)) (m:Nm) {bs:List Nat} (hm:P.follows .mixedOrders=true) (hH:∀ k,Γ.H k→k∈bs)
  {nt:Nat} (hnt:Γ.nt=nt) (hB:(regB P nt draw ops hs σ m bs o && onlyA l)=true) (hG:regG P ops hs σ l m=(wantT m l,wantO m o)) {C:Prop} (hCe:regC P ops hs σ=C) (hC:C) {S:St} (he:mk l o=S) {Q:Exit→St→Prop} :
  Tr P Γ (.region id ops draw) (fun e σ'=>match e with | .normal=>Sub Γ σ' S | e=>Q e σ') σ:=by
 subst he
 replace hC:regC P ops hs σ:=hCe ▸ hC
 simp only [Bool.and_eq_true] at hB
 obtain ⟨hB,hA⟩:=hB
 unfold regB at hB
 unfold regG at hG
 unfold regC at hC
 cases hp:plan P ops ops.toList hs σ with
 | none=>rw [hp] at hB;cases hB
 | some x =>
  obtain ⟨fs,c,σ'⟩:=x
  simp only [hp] at hB hG hC
  have hc:c.holds:=by cases c <;> first | trivial | exact hC
  simp only [Bool.and_eq_true] at hB
  obtain ⟨⟨⟨⟨q1,q2⟩,q3⟩,q4⟩,q5⟩:=hB
  obtain ⟨a1,a2,a3⟩:=plan_spec hp hc
  have hlen:fs.length=ops.size:=Nat.eq_of_beq_eq_true q2
  simp only [Prod.mk.injEq] at hG
  have hkeys:keys o=m.map (·.1):=by simpa using q5
  have hsub:Sub Γ (runC fs σ) (mk l o):=by
   rw [a3]
   exact sub_fit m [] hH q4 (fitT_of hG.1 (onlyA_spec hA)) (fitO_of hG.2 hkeys)
  cases draw with
  | false=>exact tr_region hlen (by rw [hnt];exact q1) a1 a2 hsub
  | true=>exact tr_draw hm hlen (by rw [hnt];exact q1) (by simpa using q3) a1 a2 hsub
theorem out_of {P:Program} {fn:Func} {hs:List Nat} {res:SV} {O1:List (Nat × RS)} {σ:St} (m:Nm) (h1:resOf P σ fn.results.toList=trSV m res) (h2:((trSV m res).isSome && fitB m [] hs && (keys O1 == m.map (·.1)))=true) (h4:getO σ.O m=wantO m O1):Out P fn hs res O1 σ:=by
 simp only [Bool.and_eq_true] at h2
 obtain ⟨⟨q1,q2⟩,q3⟩:=h2
 obtain ⟨sv,hsv⟩:=Option.isSome_iff_exists.1 q1
 exact ⟨m,[],sv,h1.trans hsv,q2,fitO_of h4 (by simpa using q3),.inl hsv⟩
theorem tr_then {P:Program} {Γ:Ctx} {x y:Code} {Q:Exit→St→Prop} {σ:St} (S:St) (hx:Tr P Γ x (fun e σ'=>match e with | .normal=>Sub Γ σ' S | e=>Q e σ') σ) (hy:Tr P Γ y Q S):Tr P Γ (.seq x y) Q σ :=
 tr_seq (fun σ'=>Sub Γ σ' S) hx fun _ h=>tr_sub h hy
end Go.XM
end
section
namespace Go.XM
open Go.RowKit
abbrev nth {α:Type} [Inhabited α] (xs:List α) (i:Int):α:=xs.getD i.toNat default
theorem gd_some {c:Prop} [Decidable c] {α:Type} {x:Option α} {r:α} (h:(if c then x else none)=some r):c∧x=some r:=by
 split at h
 ·exact ⟨‹_›,h⟩
 ·cases h
theorem ite_t {b:Bool} {α:Type} {x y:Option α} {r:α} (hb:b=true) (h:(if b=true then x else y)=some r):x=some r:=by rwa [if_pos hb] at h
theorem ite_f {b:Bool} {α:Type} {x y:Option α} {r:α} (hb:b=false) (h:(if b=true then x else y)=some r):y=some r:=by
 rw [if_neg (by simp [hb])] at h;exact h
theorem bd_some {α β:Type} {x:Option α} {f:α→Option β} {r:β} (h:x.bind f=some r):∃ a,x=some a∧f a=some r:=Option.bind_eq_some_iff.1 h
theorem get_map {α β:Type} [Inhabited α] (f:α→β) {xs:List α} {i:Int} (h0:0≤i) (h1:i<(xs.length:Int)):(xs.map f)[i.toNat]?=some (f (nth xs i)):=by
 have:i.toNat<xs.length:=by omega
 simp [nth,List.getD_eq_getElem?_getD,this]
theorem getR {α:Type} [Inhabited α] (f:α→List SP) {xs:List α} {i:Int} (h0:0≤i) (h1:i<(xs.length:Int)):(spRow (xs.map f))[0+i.toNat]?=some ((f (nth xs i)).map RC.s):=by
 rw [Nat.zero_add,spRow,List.map_map]
 exact get_map (fun x=>(f x).map RC.s) h0 h1
theorem getO' {α:Type} [Inhabited α] (f:α→List RC) {xs:List α} {i:Int} (h0:0≤i) (h1:i<(xs.length:Int)):(xs.map f)[0+i.toNat]?=some (f (nth xs i)):=by
 rw [Nat.zero_add];exact get_map f h0 h1
theorem lenM {α β:Type} (f:α→β) (xs:List α):Value.int .i64 ((xs.map f).length:Nat)=.int .i64 (xs.length:Nat):=by rw [List.length_map]
theorem lenR {α:Type} (f:α→List SP) (xs:List α):Value.int .i64 ((spRow (xs.map f)).length:Nat)=.int .i64 (xs.length:Nat):=by simp [spRow]
theorem ltR {α:Type} {f:α→List SP} {xs:List α} {i:Int} (h:i<(xs.length:Int)):i<((spRow (xs.map f)).length:Int):=by simpa [spRow] using h
theorem ltM {α β:Type} {f:α→β} {xs:List α} {i:Int} (h:i<(xs.length:Int)):i<((xs.map f).length:Int):=by simpa using h
theorem app_row {α:Type} (f:α→List SP) (xs ys:List α):spRow (xs.map f)++spRow (ys.map f)=spRow ((xs++ys).map f):=by simp [spRow]
theorem app_map {α β:Type} (f:α→β) (xs ys:List α):xs.map f++ys.map f=(xs++ys).map f:=by simp
theorem set_row {α:Type} (f:α→List SP) (xs:List α) (i:Int) (v:α):(spRow (xs.map f)).set (0+i.toNat) ((f v).map RC.s)=spRow ((xs.set i.toNat v).map f):=by
 simp [spRow,List.map_set]
theorem rep_row {α:Type} (f:α→List SP) (n:Nat) (v:α):List.replicate n ((f v).map RC.s)=spRow ((List.replicate n v).map f):=by simp [spRow]
theorem rep_map {α β:Type} (f:α→β) (n:Nat) (v:α):List.replicate n (f v)=(List.replicate n v).map f:=by simp
theorem fill_map {α:Type} (f:α→List RC) (xs:List α) (i:Int) (h x:List RC) (v:α) (hx:f v=x):((xs.map f).set (0+i.toNat) h).set (0+i.toNat) x=(xs.set i.toNat v).map f:=by
 rw [List.set_set,← hx,Nat.zero_add,List.map_set]
theorem set_map {α:Type} (f:α→List RC) (xs:List α) (i:Int) (v:α):(xs.map f).set (0+i.toNat) (f v)=(xs.set i.toNat v).map f:=by
 rw [Nat.zero_add,List.map_set]
theorem get_set {α:Type} {xs:List α} {i:Nat} {x y:α} (h:xs[i]?=some y):(xs.set i x)[i]?=some x:=by
 simp [idx_lt h]
theorem bndR {α:Type} {f:α→List SP} {xs:List α} {N:List (List SP)} {b B:Nat} (h:(xs.length+N.length)*b≤B):((spRow (xs.map f)).length+(spRow N).length)*b≤B:=by simpa [spRow] using h
theorem frz_row {α:Type} (f:α→List SP) (xs:List α):(((spRow (xs.map f)).drop 0).take (spRow (xs.map f)).length).map (·.map frc)=(xs.map f).map (·.map some):=by
 have:(spRow (xs.map f)).length=xs.length:=by simp [spRow]
 rw [List.drop_zero,List.take_length]
 simp [spRow,Function.comp_def,frc]
section
variable {P:Program} {Γ:Ctx}
def TrS (P:Program) (Γ:Ctx):List Code→(Exit→St→Prop)→St→Prop
 | [],Q,σ=>Q .normal σ
 | c::cs,Q,σ=>Tr P Γ c (fun e σ'=>match e with | .normal=>TrS P Γ cs Q σ' | e=>Q e σ') σ
def Qblk (P:Program) (Γ:Ctx) (id:Nat) (cs:List Code) (Q:Exit→St→Prop):Exit→St→Prop
 | .normal,σ=>TrS P Γ cs Q σ
 | .exit i,σ=>if i=id then TrS P Γ cs Q σ else Q (.exit i) σ
 | e,σ=>Q e σ
def Qround (Γ:Ctx) (I:St→Prop) (Q:Exit→St→Prop):Exit→St→Prop
 | .normal,σ=>∃ σ',I σ'∧Sub Γ σ σ'
 | e,σ=>Q e σ
def Qjoin (Γ:Ctx) (S:St) (Q:Exit→St→Prop):Exit→St→Prop
 | .normal,σ=>Sub Γ σ S
 | e,σ=>Q e σ
variable {cs:List Code} {Q:Exit→St→Prop} {σ:St}
theorem trS_mono:∀ {cs:List Code} {Q Q':Exit→St→Prop} {σ:St},TrS P Γ cs Q σ→(∀ e σ,Q e σ→Q' e σ)→TrS P Γ cs Q' σ
 | [],_,_,_,h,k=>k _ _ h
 | c::cs,Q,Q',σ,h,k=>Tr.mono h fun e σ' q=>by
  cases e with
  | normal=>exact trS_mono q k
  | _=>exact k _ _ q
theorem s_start {c:Code} (h:TrS P Γ [c] Q σ):Tr P Γ c Q σ:=Tr.mono h fun e σ' q=>by cases e <;> exact q
theorem s_sub {S:St} (h:Sub Γ σ S) (k:TrS P Γ cs Q S) (hQ:∀ σ σ',Sub Γ σ σ'→Q .normal σ'→Q .normal σ):TrS P Γ cs Q σ:=by
 cases cs with
 | nil=>exact hQ _ _ h k
 | cons c cs=>exact tr_sub h k
theorem s_subc {c:Code} {S:St} (h:Sub Γ σ S) (k:TrS P Γ (c::cs) Q S):TrS P Γ (c::cs) Q σ:=tr_sub h k
theorem s_seq {a b:Code} (h:TrS P Γ (a::b::cs) Q σ):TrS P Γ (.seq a b::cs) Q σ:=by
 refine tr_seq (fun σ'=>TrS P Γ (b::cs) Q σ') ?_ (fun σ' h=>h)
 refine Tr.mono h fun e σ' q=>?_
 cases e <;> exact q
theorem s_skip (h:TrS P Γ cs Q σ):TrS P Γ (.skip::cs) Q σ:=tr_skip h
theorem s_label {l:Nat} (h:TrS P Γ cs Q σ):TrS P Γ (.label l::cs) Q σ:=tr_label h
theorem s_ret (h:Q .ret σ):TrS P Γ (.ret::cs) Q σ:=tr_ret h
theorem s_exit {id:Nat} (h:Q (.exit id) σ):TrS P Γ (.exit id::cs) Q σ:=tr_exit h
theorem s_cond {c:Operand} {x y:Code} (b:Bool) (hb:rd P σ 0 c=some (pl (.bool b))) (ht:b=true→TrS P Γ (x::cs) Q σ) (hf:b=false→TrS P Γ (y::cs) Q σ):TrS P Γ (.cond c x y::cs) Q σ:=tr_cond b hb ht hf
theorem s_block {id:Nat} {c:Code} (h:TrS P Γ [c] (Qblk P Γ id cs Q) σ):TrS P Γ (.block id c::cs) Q σ:=by
 refine tr_block (Tr.mono (s_start h) fun e σ' q=>?_)
 cases e with
 | exit i =>
  simp only [Qblk] at q ⊢
  split
  ·rename_i e;rw [if_pos e] at q;exact q
  ·rename_i e;rw [if_neg e] at q;exact q
 | _=>exact q
theorem s_loop {c:Code} (I:Nat→St→Prop) (h0:∀ σ,¬ I 0 σ) (round:∀ k σ,I (k+1) σ→TrS P Γ [c] (Qround Γ (I k) Q) σ) (k:Nat) (h:I k σ):TrS P Γ (.loop c::cs) Q σ:=by
 refine Tr.mono (Q:=fun e σ'=>match e with | .normal=>False | e=>Q e σ') ?_ (fun e σ' q=>by cases e <;> first | exact q.elim | exact q)
 refine tr_loop (fun (j:Nat) σ=>∃ σ',I j σ'∧Sub Γ σ σ') id k ⟨σ,h,Sub.refl⟩ fun j τ ⟨τ',hI,hs⟩=>?_
 cases j with
 | zero=>exact absurd hI (h0 τ')
 | succ j =>
  refine tr_sub hs (Tr.mono (s_start (round j τ' hI)) fun e σ' q=>?_)
  cases e with
  | normal=>obtain ⟨σ'',q1,q2⟩:=q;exact ⟨j,⟨σ'',q1,q2⟩,Nat.lt_succ_self j⟩
  | _=>exact q
theorem s_reg {c:Code} {S:St} (h:Tr P Γ c (fun e σ'=>match e with | .normal=>Sub Γ σ' S | _=>False) σ) {d:Code} (k:TrS P Γ (d::cs) Q S):TrS P Γ (c::d::cs) Q σ :=
 Tr.mono h fun e σ' q=>by
  cases e with
  | normal=>exact tr_sub q k
  | _=>exact q.elim
theorem s_regz {c:Code} {S:St} (h:Tr P Γ c (fun e σ'=>match e with | .normal=>Sub Γ σ' S | _=>False) σ) (k:∀ σ',Sub Γ σ' S→Q .normal σ'):TrS P Γ [c] Q σ :=
 Tr.mono h fun e σ' q=>by
  cases e with
  | normal=>exact k σ' q
  | _=>exact q.elim
def QblkJ (Γ:Ctx) (id:Nat) (J:St→Prop) (Q:Exit→St→Prop):Exit→St→Prop
 | .normal,σ=>∃ σ',J σ'∧Sub Γ σ σ'
 | .exit i,σ=>if i=id then ∃ σ',J σ'∧Sub Γ σ σ' else Q (.exit i) σ
 | e,σ=>Q e σ
theorem s_joinJ {c d:Code} (J:St→Prop) (h:TrS P Γ [c] (Qround Γ J Q) σ) (k:∀ σ',J σ'→TrS P Γ (d::cs) Q σ'):TrS P Γ (c::d::cs) Q σ :=
 Tr.mono (s_start h) fun e σ' q=>by
  cases e with
  | normal=>obtain ⟨σ'',q1,q2⟩:=q;exact tr_sub q2 (k _ q1)
  | _=>exact q
theorem s_blockJ {id:Nat} {c d:Code} (J:St→Prop) (h:TrS P Γ [c] (QblkJ Γ id J Q) σ) (k:∀ σ',J σ'→TrS P Γ (d::cs) Q σ'):TrS P Γ (.block id c::d::cs) Q σ:=by
 refine s_block (trS_mono h fun e σ' q=>?_)
 cases e with
 | normal=>obtain ⟨σ'',q1,q2⟩:=q;exact tr_sub (c:=d) q2 (k _ q1)
 | exit i =>
  simp only [Qblk,QblkJ] at q ⊢
  split
  ·rename_i e;rw [if_pos e] at q;obtain ⟨σ'',q1,q2⟩:=q;exact tr_sub (c:=d) q2 (k _ q1)
  ·rename_i e;rw [if_neg e] at q;exact q
 | _=>exact q
theorem qj_hit {id:Nat} {J:St→Prop} (h:∃ σ',J σ'∧Sub Γ σ σ'):QblkJ Γ id J Q (.exit id) σ:=by simp only [QblkJ,if_true];exact h
theorem qj_miss {id i:Nat} {J:St→Prop} (hne:(i == id)=false) (h:Q (.exit i) σ):QblkJ Γ id J Q (.exit i) σ:=by
 have:i≠id:=by simpa using hne
 simp only [QblkJ,if_neg this];exact h
theorem s_join {c:Code} (S:St) {d:Code} (h:TrS P Γ [c] (Qjoin Γ S Q) σ) (k:TrS P Γ (d::cs) Q S):TrS P Γ (c::d::cs) Q σ :=
 Tr.mono (s_start h) fun e σ' q=>by
  cases e with
  | normal=>exact tr_sub q k
  | _=>exact q
def Qsc (Q:Exit→St→Prop):Exit→St→Prop
 | .goto _,_=>False
 | e,σ=>Q e σ
theorem s_scope {c:Code} (h:TrS P Γ [c] (Qsc fun e σ'=>match e with | .normal=>TrS P Γ cs Q σ' | e=>Q e σ') σ):TrS P Γ (.scope c::cs) Q σ:=by
 intro ro m g a w hg
 refine wpIn_scope_straight ?_
 refine wpIn_mono (s_start h ro m g a w hg) ?_
 intro e a' w' ⟨σ',g',q,hg'⟩
 cases e with
 | goto l=>exact q.elim
 | _=>exact ⟨σ',g',q,hg'⟩
theorem sc_exit {i:Nat} (h:Q (.exit i) σ):Qsc (fun e σ'=>match e with | .normal=>TrS P Γ cs Q σ' | e=>Q e σ') (.exit i) σ:=h
theorem qr_exit {I:St→Prop} {i:Nat} (h:Q (.exit i) σ):Qround Γ I Q (.exit i) σ:=h
theorem q_hit {id:Nat} (h:TrS P Γ cs Q σ):Qblk P Γ id cs Q (.exit id) σ:=by simp only [Qblk,if_true];exact h
theorem q_miss {id i:Nat} (hne:(i == id)=false) (h:Q (.exit i) σ):Qblk P Γ id cs Q (.exit i) σ:=by
 have:i≠id:=by simpa using hne
 simp only [Qblk,if_neg this];exact h
theorem sub_ren {Γ:Ctx} {σ S:St} {l:List (Nat × SV)} {o:List (Nat × RS)} (m:Nm) {bs:List Nat} (hH:∀ k,Γ.H k→k∈bs) (hB:(fitB m [] bs && (keys o == m.map (·.1)) && onlyA l)=true)
  (hG:(getT σ.T l,getO σ.O m)=(wantT m l,wantO m o)) (he:mk l o=S):Sub Γ σ S:=by
 subst he
 simp only [Bool.and_eq_true] at hB
 obtain ⟨⟨q4,q5⟩,hA⟩:=hB
 simp only [Prod.mk.injEq] at hG
 exact sub_fit m [] hH q4 (fitT_of hG.1 (onlyA_spec hA)) (fitO_of hG.2 (by simpa using q5))
theorem sub_nilB {Γ:Ctx} {σ:St} {a c d:Nat} {sz:Nat} {l:List CV} (sz':Nat) (hO:σ.O a=.box l) (hc:l[c]?=some (.nl sz)) (hd:σ.O d=.fresh):Sub Γ σ ⟨σ.T,upd [(a,.box (l.set c (.vw d 0 0))),(d,.row sz' [])] σ.O⟩:=by
 intro g act w hg
 obtain ⟨g',k1,k2,k3⟩:=hg.nilRoot sz' hd
 have had:a≠d:=by intro e;subst e;rw [hO] at hd;cases hd
 have eO:∀ r,r≠a→upd [(a,RS.box (l.set c (.vw d 0 0))),(d,.row sz' [])] σ.O r=upd [(d,.row sz' [])] σ.O r:=by intro r h;simp [upd,h]
 have eA:upd [(a,RS.box (l.set c (.vw d 0 0))),(d,.row sz' [])] σ.O a=.box (l.set c (.vw d 0 0)):=by simp [upd]
 have eA0:upd [(d,RS.row sz' [])] σ.O a=.box l:=by simp [upd,had,hO]
 have hle:Le w g' (upd [(d,.row sz' [])] σ.O) w g' (upd [(a,RS.box (l.set c (.vw d 0 0))),(d,.row sz' [])] σ.O):=by
  refine ⟨fun b h=>⟨h,rfl⟩,fun r h=>?_,fun r sz2 l2 h h2=>?_,fun r l2 h h2=>?_⟩
  ·by_cases e:r=a
   ·subst e;rw [eA];simp
   ·rw [eO r e];exact h
  ·by_cases e:r=a
   ·subst e;rw [eA] at h2;cases h2
   ·rw [eO r e] at h2;exact ⟨sz2,l2,h2,rfl,Nat.le_refl _,rfl,fun b _ c hc=>⟨c,hc,rfl⟩⟩
  ·by_cases e:r=a
   ·subst e;exact ⟨l,eA0,rfl⟩
   ·rw [eO r e] at h2;exact ⟨l2,h2,rfl⟩
 refine ⟨g',⟨fun j=>hle.sv (k1.T j),fun r=>?_,k1.im,k1.nt,k1.df,k1.os,k1.tape,k1.out,k1.size,k1.blk,k1.mine,k1.lt,k1.imf,fun k hk=>?_,fun k l2 hk h2=>?_⟩⟩
 ·have hr:=k1.O r
  by_cases e:r=a
  ·subst e
   show rsR w g' _ r (upd _ σ.O r)
   rw [eA]
   change rsR w g' _ r (upd [(d,.row sz' [])] σ.O r) at hr
   rw [eA0] at hr
   obtain ⟨b,ce,h1,h2,h3,h4,h5⟩:=hr
   refine ⟨b,ce,h1,h2,h3,by simp [h4],fun j cv hj=>?_⟩
   by_cases ej:j=c
   ·subst ej
    obtain ⟨u,q1,q2,q3⟩:=h5 j _ hc
    have hu:u=.slice none 0 0:=q3
    have:cv=.vw d 0 0:=by
     have:=idx_lt hc
     simp [this] at hj;exact hj.symm
    subst this
    refine ⟨u,q1,q2,?_⟩
    rw [hu]
    exact hle.cv (x:=.vw d 0 0) k3
   ·rw [List.getElem?_set_ne (Ne.symm ej)] at hj
    obtain ⟨u,q1,q2,q3⟩:=h5 j cv hj
    exact ⟨u,q1,q2,hle.cv q3⟩
  ·show rsR w g' _ r (upd _ σ.O r)
   rw [eO r e]
   exact hle.keep rfl (fun b _=>⟨rfl,rfl⟩) hr
 ·by_cases e:k=a
  ·subst e;show upd _ σ.O k≠_;rw [eA];simp
  ·show upd _ σ.O k≠_;rw [eO k e];exact k1.nf k hk
 ·by_cases e:k=a
  ·subst e;exact k1.bx k l hk eA0
  ·have h2':upd [(a,RS.box (l.set c (.vw d 0 0))),(d,.row sz' [])] σ.O k=.box l2:=h2
   rw [eO k e] at h2';exact k1.bx k l2 hk h2'
theorem s_emp {P:Program} {Γ:Ctx} {Q:Exit→St→Prop} {σ:St} {c:Code} {cs:List Code} {i sz:Nat} (hT:σ.T i=cv (.p (.sl sz []))) (k:∀ (a:Option Addr) (n:Nat),(a=none→n=0)→TrS P Γ (c::cs) Q ⟨upd [(i,pl (.slice a 0 n))] σ.T,σ.O⟩):TrS P Γ (c::cs) Q σ:=by
 intro ro m g act w hg
 have hi:=hg.T i
 rw [hT] at hi
 obtain ⟨a,n,hu,hn⟩:∃ a n,act.tmps.getD i undef=.slice a 0 n∧(a=none→n=0):=by
  generalize act.tmps.getD i undef=u at hi
  cases (show spR _ _ (.sl sz []) u from hi) with
  | nil _ a=>exact ⟨a,0,rfl,fun _=>rfl⟩
  | sl b off cap=>exact ⟨_,cap,rfl,fun h=>by cases h⟩
 refine k a n hn ro m g act w ⟨fun j=>?_,hg.O,hg.im,hg.nt,hg.df,hg.os,hg.tape,hg.out,hg.size,hg.blk,hg.mine,hg.lt,hg.imf,hg.nf,hg.bx⟩
 show svR w g _ (upd _ σ.T j) _
 simp only [upd]
 by_cases e:j=i
 ·subst e;rw [if_pos rfl,hu];exact spR.v _ rfl
 ·rw [if_neg e];exact hg.T j
theorem frzP {α:Type} {L:List (List RC)} {f:α→List SP} {xs:List α} (e:L=spRow (xs.map f)) (a n:Nat):((L.drop a).take n).map (·.map frc)=(((xs.drop a).take n).map f).map (·.map some):=by
 subst e
 simp [spRow,Function.comp_def,frc,List.map_drop,List.map_take]
theorem nsMap {α:Type} {f:α→List SP} (h:∀ x,∀ p∈f x,nsSP p) (xs:List α):∀ x∈xs.map f,∀ p∈x,nsSP p:=by
 intro x hx
 obtain ⟨y,_,rfl⟩:=List.mem_map.1 hx
 exact h y
def ovp {α:Type} (xs:List α) (e:Nat) (S:List α):List α:=xs.take e++S++xs.drop (e+S.length)
theorem rowOvl {α:Type} {L:List (List RC)} {f:α→List SP} {xs:List α} (e:L=spRow (xs.map f)) (k:Nat) (S:List α) (n:Nat):ovl L k ((S.map f).take n)=spRow ((ovp xs k (S.take n)).map f):=by
 subst e
 simp [ovl,ovp,spRow,List.map_take,List.map_drop]
theorem rowTake {α:Type} {L:List (List RC)} {f:α→List SP} {xs:List α} (e:L=spRow (xs.map f)) (n:Nat):L.take n=spRow ((xs.take n).map f):=by subst e;simp [spRow,List.map_take]
theorem rowTakeO {α:Type} {L:List (List RC)} {f:α→List RC} {xs:List α} (e:L=xs.map f) (n:Nat):L.take n=(xs.take n).map f:=by subst e;simp [List.map_take]
theorem he1 {α0:Type} {k0 p0:α0} (F:α0→St) (e0:k0=p0):F k0=F p0:=by subst e0;rfl
theorem he2 {α0 α1:Type} {k0 p0:α0} {k1 p1:α1} (F:α0→α1→St) (e0:k0=p0) (e1:k1=p1):F k0 k1=F p0 p1:=by subst e0 e1;rfl
theorem he3 {α0 α1 α2:Type} {k0 p0:α0} {k1 p1:α1} {k2 p2:α2} (F:α0→α1→α2→St) (e0:k0=p0) (e1:k1=p1) (e2:k2=p2):F k0 k1 k2=F p0 p1 p2:=by subst e0 e1 e2;rfl
theorem he4 {α0 α1 α2 α3:Type} {k0 p0:α0} {k1 p1:α1} {k2 p2:α2} {k3 p3:α3} (F:α0→α1→α2→α3→St) (e0:k0=p0) (e1:k1=p1) (e2:k2=p2) (e3:k3=p3):F k0 k1 k2 k3=F p0 p1 p2 p3:=by subst e0 e1 e2 e3;rfl
theorem he5 {α0 α1 α2 α3 α4:Type} {k0 p0:α0} {k1 p1:α1} {k2 p2:α2} {k3 p3:α3} {k4 p4:α4} (F:α0→α1→α2→α3→α4→St) (e0:k0=p0) (e1:k1=p1) (e2:k2=p2) (e3:k3=p3) (e4:k4=p4):F k0 k1 k2 k3 k4=F p0 p1 p2 p3 p4:=by subst e0 e1 e2 e3 e4;rfl
theorem he6 {α0 α1 α2 α3 α4 α5:Type} {k0 p0:α0} {k1 p1:α1} {k2 p2:α2} {k3 p3:α3} {k4 p4:α4} {k5 p5:α5} (F:α0→α1→α2→α3→α4→α5→St) (e0:k0=p0) (e1:k1=p1) (e2:k2=p2) (e3:k3=p3) (e4:k4=p4) (e5:k5=p5):F k0 k1 k2 k3 k4 k5=F p0 p1 p2 p3 p4 p5:=by subst e0 e1 e2 e3 e4 e5;rfl
theorem he7 {α0 α1 α2 α3 α4 α5 α6:Type} {k0 p0:α0} {k1 p1:α1} {k2 p2:α2} {k3 p3:α3} {k4 p4:α4} {k5 p5:α5} {k6 p6:α6} (F:α0→α1→α2→α3→α4→α5→α6→St) (e0:k0=p0) (e1:k1=p1) (e2:k2=p2) (e3:k3=p3) (e4:k4=p4) (e5:k5=p5) (e6:k6=p6):F k0 k1 k2 k3 k4 k5 k6=F p0 p1 p2 p3 p4 p5 p6:=by subst e0 e1 e2 e3 e4 e5 e6;rfl
theorem he8 {α0 α1 α2 α3 α4 α5 α6 α7:Type} {k0 p0:α0} {k1 p1:α1} {k2 p2:α2} {k3 p3:α3} {k4 p4:α4} {k5 p5:α5} {k6 p6:α6} {k7 p7:α7} (F:α0→α1→α2→α3→α4→α5→α6→α7→St) (e0:k0=p0) (e1:k1=p1) (e2:k2=p2) (e3:k3=p3) (e4:k4=p4) (e5:k5=p5) (e6:k6=p6) (e7:k7=p7):F k0 k1 k2 k3 k4 k5 k6 k7=F p0 p1 p2 p3 p4 p5 p6 p7:=by subst e0 e1 e2 e3 e4 e5 e6 e7;rfl
theorem he9 {α0 α1 α2 α3 α4 α5 α6 α7 α8:Type} {k0 p0:α0} {k1 p1:α1} {k2 p2:α2} {k3 p3:α3} {k4 p4:α4} {k5 p5:α5} {k6 p6:α6} {k7 p7:α7} {k8 p8:α8} (F:α0→α1→α2→α3→α4→α5→α6→α7→α8→St) (e0:k0=p0) (e1:k1=p1) (e2:k2=p2) (e3:k3=p3) (e4:k4=p4) (e5:k5=p5) (e6:k6=p6) (e7:k7=p7) (e8:k8=p8):F k0 k1 k2 k3 k4 k5 k6 k7 k8=F p0 p1 p2 p3 p4 p5 p6 p7 p8:=by subst e0 e1 e2 e3 e4 e5 e6 e7 e8;rfl
theorem he10 {α0 α1 α2 α3 α4 α5 α6 α7 α8 α9:Type} {k0 p0:α0} {k1 p1:α1} {k2 p2:α2} {k3 p3:α3} {k4 p4:α4} {k5 p5:α5} {k6 p6:α6} {k7 p7:α7} {k8 p8:α8} {k9 p9:α9} (F:α0→α1→α2→α3→α4→α5→α6→α7→α8→α9→St) (e0:k0=p0) (e1:k1=p1) (e2:k2=p2) (e3:k3=p3) (e4:k4=p4) (e5:k5=p5) (e6:k6=p6) (e7:k7=p7) (e8:k8=p8) (e9:k9=p9):F k0 k1 k2 k3 k4 k5 k6 k7 k8 k9=F p0 p1 p2 p3 p4 p5 p6 p7 p8 p9:=by subst e0 e1 e2 e3 e4 e5 e6 e7 e8 e9;rfl
theorem he11 {α0 α1 α2 α3 α4 α5 α6 α7 α8 α9 α10:Type} {k0 p0:α0} {k1 p1:α1} {k2 p2:α2} {k3 p3:α3} {k4 p4:α4} {k5 p5:α5} {k6 p6:α6} {k7 p7:α7} {k8 p8:α8} {k9 p9:α9} {k10 p10:α10} (F:α0→α1→α2→α3→α4→α5→α6→α7→α8→α9→α10→St) (e0:k0=p0) (e1:k1=p1) (e2:k2=p2) (e3:k3=p3) (e4:k4=p4) (e5:k5=p5) (e6:k6=p6) (e7:k7=p7) (e8:k8=p8) (e9:k9=p9) (e10:k10=p10):F k0 k1 k2 k3 k4 k5 k6 k7 k8 k9 k10=F p0 p1 p2 p3 p4 p5 p6 p7 p8 p9 p10:=by subst e0 e1 e2 e3 e4 e5 e6 e7 e8 e9 e10;rfl
theorem he12 {α0 α1 α2 α3 α4 α5 α6 α7 α8 α9 α10 α11:Type} {k0 p0:α0} {k1 p1:α1} {k2 p2:α2} {k3 p3:α3} {k4 p4:α4} {k5 p5:α5} {k6 p6:α6} {k7 p7:α7} {k8 p8:α8} {k9 p9:α9} {k10 p10:α10} {k11 p11:α11} (F:α0→α1→α2→α3→α4→α5→α6→α7→α8→α9→α10→α11→St) (e0:k0=p0) (e1:k1=p1) (e2:k2=p2) (e3:k3=p3) (e4:k4=p4) (e5:k5=p5) (e6:k6=p6) (e7:k7=p7) (e8:k8=p8) (e9:k9=p9) (e10:k10=p10) (e11:k11=p11):F k0 k1 k2 k3 k4 k5 k6 k7 k8 k9 k10 k11=F p0 p1 p2 p3 p4 p5 p6 p7 p8 p9 p10 p11:=by subst e0 e1 e2 e3 e4 e5 e6 e7 e8 e9 e10 e11;rfl
theorem ovp_len {α:Type} {xs S:List α} {e n:Nat} (h:e+n≤xs.length):(ovp xs e (S.take n)).length=xs.length:=by simp [ovp];omega
theorem len_row {α:Type} (f:α→List SP) (xs:List α):(spRow (xs.map f)).length=xs.length:=by simp [spRow]
theorem rowGet {α:Type} [Inhabited α] {L:List (List RC)} {f:α→List SP} {xs:List α} (e:L=spRow (xs.map f)) {i:Int} (h0:0≤i) (h1:i<(xs.length:Int)):L[0+i.toNat]?=some ((f (nth xs i)).map RC.s):=by rw [e];exact getR f h0 h1
theorem rowGetO {α:Type} [Inhabited α] {L:List (List RC)} {f:α→List RC} {xs:List α} (e:L=xs.map f) {i:Int} (h0:0≤i) (h1:i<(xs.length:Int)):L[0+i.toNat]?=some (f (nth xs i)):=by rw [e];exact getO' f h0 h1
theorem rowLen {α:Type} {L:List (List RC)} {f:α→List SP} {xs:List α} (e:L=spRow (xs.map f)):L.length=xs.length:=by rw [e];exact len_row f xs
theorem rowLenO {α:Type} {L:List (List RC)} {f:α→List RC} {xs:List α} (e:L=xs.map f):L.length=xs.length:=by rw [e];simp
theorem lenV {n m:Nat} (h:n=m):Value.int .i64 (n:Nat)=.int .i64 (m:Nat):=by rw [h]
theorem ltL {n m:Nat} {i:Int} (h:n=m) (k:i<(m:Int)):i<(n:Int):=by rw [h];exact k
theorem leL {n m:Nat} {i:Int} (h:n=m) (k:i≤(m:Int)):i≤(n:Int):=by rw [h];exact k
theorem rowSet {α:Type} {L:List (List RC)} {f:α→List SP} {xs:List α} (e:L=spRow (xs.map f)) (i:Int) (v:α):L.set (0+i.toNat) ((f v).map RC.s)=spRow ((xs.set i.toNat v).map f):=by rw [e];exact set_row f xs i v
theorem rowSetO {α:Type} {L:List (List RC)} {f:α→List RC} {xs:List α} (e:L=xs.map f) (i:Int) (v:α):L.set (0+i.toNat) (f v)=(xs.set i.toNat v).map f:=by rw [e];exact set_map f xs i v
theorem rowFill {α:Type} {L:List (List RC)} {f:α→List RC} {xs:List α} (e:L=xs.map f) (i:Int) (h:List RC) (v:α):(L.set (0+i.toNat) h).set (0+i.toNat) (f v)=(xs.set i.toNat v).map f:=by rw [e];exact fill_map f xs i h _ v rfl
theorem rowApp {α:Type} {L M:List (List RC)} {f:α→List SP} {xs ys:List α} (e:L=spRow (xs.map f)) (e':M=spRow (ys.map f)):L++M=spRow ((xs++ys).map f):=by rw [e,e'];exact app_row f xs ys
theorem rowAppO {α:Type} {L M:List (List RC)} {f:α→List RC} {xs ys:List α} (e:L=xs.map f) (e':M=ys.map f):L++M=(xs++ys).map f:=by rw [e,e'];exact app_map f xs ys
theorem bnd2 {l n m b B M:Nat} (hl:l=n) (hL:M=m) (h:(n+m)*b≤B):l=l∧(l+M)*b≤B:=⟨rfl,by rw [hl,hL];exact h⟩
theorem bnd1 {m b B M:Nat} (hL:M=m) (h:m*b≤B):M*b≤B:=by rw [hL];exact h
theorem rowAll {L:List (List RC)} {N:List (List SP)} {n:Nat} (e:L=spRow N) (hn:n=N.length):(L.drop 0).take n=spRow N:=by
 subst e;subst hn
 have:N.length=(spRow N).length:=by simp [spRow]
 rw [List.drop_zero,this,List.take_length]
theorem frz {α:Type} {L:List (List RC)} {f:α→List SP} {xs:List α} (e:L=spRow (xs.map f)) {n:Nat} (hn:n=xs.length):((L.drop 0).take n).map (·.map frc)=(xs.map f).map (·.map some):=by
 subst e;subst hn
 have:=frz_row f xs
 rwa [len_row] at this
theorem frzO {α:Type} {L:List (List RC)} {f:α→List RC} {g:α→List SP} {xs:List α} (e:L=xs.map f) {n:Nat} (hn:n=xs.length) (hf:∀ x,(f x).map frc=(g x).map some):((L.drop 0).take n).map (·.map frc)=(xs.map g).map (·.map some):=by
 subst e;subst hn
 have:xs.length=(xs.map f).length:=by simp
 rw [List.drop_zero,this,List.take_length]
 simp [Function.comp_def,hf]
theorem lenMap {α β:Type} {f:α→β} {ys:List α} {n:Nat} (h:n=ys.length):n=(ys.map f).length:=by simp [h]
theorem nsAll_of {H:CallH} (h:∀ k,nsRS (ofL H.O1 k)):∀ {l:Nm},nsAll H l
 | []=>trivial
 | (k,_)::_=>⟨h k,nsAll_of h⟩
theorem nsOf {o:List (Nat × RS)} (h:∀ x∈o,nsRS x.2):∀ k,nsRS (ofL o k):=by
 induction o with
 | nil=>intro k;trivial
 | cons x o ih =>
  intro k
  obtain ⟨a,b⟩:=x
  simp only [ofL,upd]
  split
  ·exact h _ List.mem_cons_self
  ·exact ih (fun x hx=>h x (List.mem_cons_of_mem _ hx)) k
theorem nsRow {α:Type} {f:α→List SP} (h:∀ x,∀ p∈f x,nsSP p) {sz:Nat} (xs:List α):nsRS (.row sz (spRow (xs.map f))):=by
 intro e he x hx
 simp only [spRow,List.map_map,List.mem_map,Function.comp] at he
 obtain ⟨y,_,rfl⟩:=he
 obtain ⟨p,hp,rfl⟩:=List.mem_map.1 hx
 exact h y p hp
theorem nsRowO {α:Type} {f:α→List RC} (h:∀ x,∀ p∈f x,nsRC p) {sz:Nat} (xs:List α):nsRS (.row sz (xs.map f)):=by
 intro e he x hx
 obtain ⟨y,_,rfl⟩:=List.mem_map.1 he
 exact h y x hx
theorem spGet {α:Type} [Inhabited α] {L:List (List SP)} {f:α→List SP} {xs:List α} (e:L=xs.map f) {i:Int} (h0:0≤i) (h1:i<(xs.length:Int)):L[i.toNat]?=some (f (nth xs i)):=by rw [e];exact get_map f h0 h1
theorem spLen {α:Type} {L:List (List SP)} {f:α→List SP} {xs:List α} (e:L=xs.map f):L.length=xs.length:=by rw [e];simp
theorem spSlice {α:Type} {L:List (List SP)} {f:α→List SP} {xs:List α} (e:L=xs.map f) (a b:Nat):(L.drop a).take b=((xs.drop a).take b).map f:=by rw [e];simp [List.map_drop,List.map_take]
def Qend (P:Program) (Γ:Ctx) (fn:Func) (hs:List Nat) (res:SV) (O1:List (Nat × RS)) (e:Exit) (σ:St):Prop:=(e=.normal∨e=.ret)∧∃ σ',Sub Γ σ σ'∧Out P fn hs res O1 σ'
end
theorem ct_of {P:Program} {f:FuncId} {fn:Func} {c:Code} (hf:P.funcs[f]?=some fn) (hb:fn.body=some c) {args:List SV} {O0:List (Nat × RS)} {res:SV} {O1:List (Nat × RS)} (hs:List Nat)
  (hlen:Nat.ble args.length fn.ntmps=true) (hbx:(O0.all fun x=>!isBox x.2 || hs.elem x.1)=true) (hb2:(hs.all fun k=>isBox (ofL O0 k))=true)
  (h:∀ Γ:Ctx,Γ.nt=fn.ntmps→(∀ k,Γ.H k→k∈hs)→TrS P Γ [c] (Qend P Γ fn hs res O1) ⟨fun i=>args.getD i (.a (.c .any)),ofL O0⟩):Ct P f args (ofL O0) res (ofL O1):=by
 refine ct_intro hf hb hs (Nat.le_of_ble_eq_true hlen) (fun k l hk=>?_) (fun k hk=>?_) fun Γ h1 hdf h2=>?_
 ·have key:∀ (o:List (Nat × RS)),(∀ x∈o,(!isBox x.2 || hs.elem x.1)=true)→∀ l,ofL o k=.box l→k∈hs:=by
   intro o
   induction o with
   | nil=>intro _ l hl;simp [ofL,upd] at hl
   | cons x o ih =>
    intro ho l hl
    obtain ⟨a,b⟩:=x
    simp only [ofL,upd] at hl
    by_cases e:k=a
    ·subst e
     rw [if_pos rfl] at hl
     have:=ho (k,b) List.mem_cons_self
     simp only [hl,isBox] at this
     simpa using this
    ·rw [if_neg e] at hl
     exact ih (fun x hx=>ho x (List.mem_cons_of_mem _ hx)) l hl
  exact key O0 (by simpa using hbx) l hk
 ·have:=List.all_eq_true.1 hb2 k hk
  cases hx:ofL O0 k <;> rw [hx] at this <;> first | exact ⟨_,rfl⟩ | cases this
 ·exact tr_post (s_start (h Γ h1 h2)) fun e σ' ⟨q1,σ'',q2,q3⟩=>⟨σ'',q2,q1,q3⟩
end Go.XM
end
section
namespace Go.XM
open Go.RowKit Go.ChangeShapes Go.WideShapes
abbrev allIm (w:World):Nat→Prop:=fun b=>b<w.heap.size
def CellsR (w:World) (cs:List Value) (ps:List SP):Prop:=cs.length=ps.length∧∀ (j:Nat) (p:SP),ps[j]?=some p→∃ u,cs[j]?=some u∧spR w (allIm w) p u
def Opn {α:Type} (P:Program) (t:TypeId) (e:α→List SP) (S:α→Prop):Prop :=
 ∀ (H:Type) (enc:TypeId × Value→H) (W:World) (fuel:Nat) (cs:List Value) (x:DataW H × List MemPlace),
  DataW.trod enc P W 0 (fun _=>true) true fuel t cs=some x→(∀ n∈x.1.weights P t,n≤140737488351232)→∃ a:α,CellsR W cs (e a)∧S a
theorem cellsR_one {w:World} {u:Value} {p:SP} (h:spR w (allIm w) p u):CellsR w [u] [p] :=
 ⟨rfl,fun j q hq=>by cases j with
  | zero=>exact ⟨u,rfl,by simpa using (Option.some.inj hq) ▸ h⟩
  | succ j=>simp at hq⟩
section
variable {P:Program}
theorem Opn.int {t:TypeId} {k:IntKind} (hu:P.underlying t=some (.int k)):Opn P t (fun n:Int=>[.v (.int k n)]) (fun a=>(Lit.int k a).wf=true):=by
 intro H enc W fuel cs x h _
 obtain ⟨m,rfl,rfl,hw⟩:=DataW.trod_int hu h
 exact ⟨m,cellsR_one (.v _ rfl),hw⟩
theorem Opn.bool {t:TypeId} (hu:P.underlying t=some .bool):Opn P t (fun b:Bool=>[.v (.bool b)]) (fun _=>True):=by
 intro H enc W fuel cs x h _
 obtain ⟨m,rfl,rfl⟩:=DataW.trod_bool hu h
 exact ⟨m,cellsR_one (.v _ rfl),trivial⟩
theorem Opn.string {t:TypeId} (hu:P.underlying t=some .string):Opn P t (fun s:ByteArray=>[.v (.string s)]) (fun s=>s.size≤140737488351232):=by
 intro H enc W fuel cs x h hw
 obtain ⟨s,rfl,rfl,_⟩:=DataW.trod_string hu h
 refine ⟨s,cellsR_one (.v _ rfl),?_⟩
 have:=hw s.data.toList.length (by simp [DataW.weights])
 simpa using this
theorem weightsAll_mem' {H:Type} {e:TypeId}:∀ {ds:List (DataW H)} {i:Nat} {d:DataW H},ds[i]?=some d→∀ n∈d.weights P e,n∈DataW.weightsAll P e ds
 | d0::ds,0,d,h,n,hn=>by
  simp only [List.getElem?_cons_zero,Option.some.injEq] at h
  subst h
  simp only [DataW.weightsAll,List.mem_append]
  exact Or.inl hn
 | d0::ds,i+1,d,h,n,hn=>by
  simp only [List.getElem?_cons_succ] at h
  simp only [DataW.weightsAll,List.mem_append]
  exact Or.inr (weightsAll_mem' h n hn)
 | [],_,_,h,_,_=>by simp at h
theorem choose_list' {α:Type}:∀ (n:Nat) (Q:Nat→α→Prop),(∀ i,i<n→∃ a,Q i a)→∃ xs:List α,xs.length=n∧∀ i a,xs[i]?=some a→Q i a
 | 0,_,_=>⟨[],rfl,fun i a h=>by simp at h⟩
 | n+1,Q,h=>by
  obtain ⟨xs,hl,hx⟩:=choose_list' n Q (fun i hi=>h i (by omega))
  obtain ⟨a,ha⟩:=h n (by omega)
  refine ⟨xs++[a],by simp [hl],fun i b hb=>?_⟩
  by_cases hi:i<n
  ·rw [List.getElem?_append_left (by omega)] at hb
   exact hx i b hb
  ·have hi2:i<(xs++[a]).length:=(List.getElem?_eq_some_iff.1 hb).1
   have hi3:i=n:=by simp [hl] at hi2;omega
   subst hi3
   rw [List.getElem?_append_right (by omega),hl] at hb
   simp at hb
   subst hb
   exact ha
theorem cell_lt {w:World} {a:Addr} {u:Value} (h:w.cell? a=some u):a.block<w.heap.size∧a.spot=none:=by
 unfold World.cell? at h
 split at h
 ·rename_i c el fr hb
  split at h
  ·cases h
  ·rename_i hs
   refine ⟨?_,by cases e:a.spot with | none=>rfl | some k=>simp [e] at hs⟩
   rcases Nat.lt_or_ge a.block w.heap.size with h' | h'
   ·exact h'
   ·simp [Array.getElem?_eq_none h'] at hb
 ·cases h
theorem add_mk' (b o n:Nat):(⟨b,o,none⟩:Addr).add n=⟨b,o+n,none⟩:=add_mk b o n
theorem Opn.slice {α:Type} {t el:TypeId} {e:α→List SP} {S:α→Prop} {B sz:Nat} (hu:P.underlying t=some (.slice el)) (hs:P.cellsOf el=sz) (hsz:0<sz) (hB:P.bytesOf el=B) (he:∀ a,(e a).length=sz) (ho:Opn P el e S) :
  Opn P t (fun xs:List α=>[.sl sz (xs.map e)]) (fun xs=>xs.length*B≤140737488351232∧∀ x∈xs,S x):=by
 intro H enc W fuel cs x h hw
 rcases DataW.trod_slice hu h with ⟨rfl,rfl⟩ | ⟨a,len,cap,elems,rest,n,_,rfl,rfl,_,hl,hm,hlen,hel,hrest,_⟩
 ·exact ⟨[],cellsR_one (.nil _ _),by simp,fun x hx=>by simp at hx⟩
 ·have hwa:∀ (i:Nat) y,elems[i]?=some y→∀ n∈y.1.weights P el,n≤140737488351232:=by
   intro i y hy m hmm
   refine hw m ?_
   simp only [DataW.weights,hu,List.mem_cons,List.mem_append]
   refine Or.inr (Or.inl (weightsAll_mem' (i:=i) (d:=y.1) (by rw [List.getElem?_map,hy];rfl) m hmm))
  obtain ⟨xs,hxl,hx⟩:=choose_list' len (fun i p=>(∃ c:List Value,CellsR W c (e p)∧∀ j u,c[j]?=some u→W.cell? ((a.add (i*sz)).add j)=some u)∧S p) (by
   intro i hi
   have h1:=hel i hi
   obtain ⟨y,hy⟩:∃ y,elems[i]?=some y:=⟨_,List.getElem?_eq_getElem (by omega)⟩
   rw [hy,Option.bind_eq_some_iff] at h1
   obtain ⟨c,hc,ht⟩:=h1
   obtain ⟨p,hp,hS⟩:=ho H enc W n c y ht (hwa i y hy)
   obtain ⟨_,hcl,hcell⟩:=World.cells?_some hc
   refine ⟨p,⟨c,hp,fun j u hj=>?_⟩,hS⟩
   have hj2:j<P.cellsOf el:=by rw [← hcl];exact (List.getElem?_eq_some_iff.1 hj).1
   have h2:=hcell j hj2
   rw [hj] at h2
   rw [← h2,← hs])
  have hbytes:xs.length*B≤140737488351232:=by
   have h1:=hw ((elems.length+rest.length)*P.bytesOf el) (by simp [DataW.weights,hu])
   rw [hB] at h1
   refine Nat.le_trans (Nat.mul_le_mul_right _ ?_) h1
   omega
  have hSx:∀ p∈xs,S p:=by
   intro p hp
   obtain ⟨i,hi⟩:=List.getElem?_of_mem hp
   exact (hx i p hi).2
  refine ⟨xs,?_,hbytes,hSx⟩
  by_cases hc0:cap=0
  ·have:len=0:=by omega
   subst hc0;subst this
   have:xs=[]:=List.eq_nil_of_length_eq_zero hxl
   subst this
   exact cellsR_one (.nil _ _)
  ·have h0:∃ u,W.cell? a=some u:=by
    have key:∀ {c:List Value},W.cells? 0 a (P.cellsOf el)=some c→∃ u,W.cell? a=some u:=by
     intro c hc
     obtain ⟨_,hcl,hcell⟩:=World.cells?_some hc
     have h2:=hcell 0 (by rw [hs];exact hsz)
     have h3:a.add 0=a:=by simp [Addr.add]
     rw [h3] at h2
     have:0<c.length:=by rw [hcl,hs];exact hsz
     rw [List.getElem?_eq_getElem this] at h2
     exact ⟨_,h2⟩
    by_cases hl0:len=0
    ·obtain ⟨r1,r2⟩:=hrest rfl
     have h1:=r2 0 (by omega)
     have hlt:0<rest.length:=by omega
     rw [List.getElem?_eq_getElem hlt,Option.bind_eq_some_iff] at h1
     obtain ⟨c,hc,_⟩:=h1
     rw [hl0,show (0+0)*P.cellsOf el=0 by simp,show a.add 0=a by simp [Addr.add]] at hc
     exact key hc
    ·have h1:=hel 0 (by omega)
     have hlt:0<elems.length:=by omega
     rw [List.getElem?_eq_getElem hlt,Option.bind_eq_some_iff] at h1
     obtain ⟨c,hc,_⟩:=h1
     rw [show 0*P.cellsOf el=0 by simp,show a.add 0=a by simp [Addr.add]] at hc
     exact key hc
   obtain ⟨u0,hu0⟩:=h0
   obtain ⟨hb,hsp⟩:=cell_lt hu0
   obtain ⟨b,off,sp⟩:=a
   simp only at hsp hb
   subst hsp
   have hcellv:∀ (i:Nat) (p:α),xs[i]?=some p→∀ (j:Nat) (q:SP),(e p)[j]?=some q→∃ u,W.cell? ⟨b,off+i*sz+j,none⟩=some u∧spR W (allIm W) q u:=by
    intro i p hi j q hq
    obtain ⟨⟨c,hc1,hc2⟩,_⟩:=hx i p hi
    obtain ⟨u,y1,y2⟩:=hc1.2 j q hq
    have:=hc2 j u y1
    rw [add_mk,add_mk] at this
    exact ⟨u,this,y2⟩
   refine cellsR_one ?_
   have hsl:=spR.sl (w:=W) (Im:=allIm W) b off cap sz (xs.map e) (fun i j=>(W.cell? ⟨b,off+i*sz+j,none⟩).getD (.bool false)) hb (by simp;omega) (by
     intro x hx
     obtain ⟨y,_,rfl⟩:=List.mem_map.1 hx
     exact he y) (by
     intro i x j q hi hj
     rw [List.getElem?_map,Option.map_eq_some_iff] at hi
     obtain ⟨p,hp,rfl⟩:=hi
     obtain ⟨u,y1,y2⟩:=hcellv i p hp j q hj
     rw [y1];rfl) (by
     intro i x j q hi hj
     rw [List.getElem?_map,Option.map_eq_some_iff] at hi
     obtain ⟨p,hp,rfl⟩:=hi
     obtain ⟨u,y1,y2⟩:=hcellv i p hp j q hj
     rw [y1];exact y2)
   rw [List.length_map,hxl] at hsl
   exact hsl
theorem CellsR.app {w:World} {c1 c2:List Value} {p q:List SP} (h1:CellsR w c1 p) (h2:CellsR w c2 q):CellsR w (c1++c2) (p++q):=by
 refine ⟨by simp [h1.1,h2.1],fun j x hx=>?_⟩
 rw [List.getElem?_append] at hx ⊢
 rw [h1.1]
 split at hx
 ·rename_i hl;rw [if_pos hl];exact h1.2 j x hx
 ·rename_i hl;rw [if_neg hl];exact h2.2 _ x hx
def OpnFs {α:Type} (P:Program) (o sz:Nat) (fs:List Field) (e:α→List SP) (S:α→Prop):Prop :=
 ∀ (H:Type) (enc:TypeId × Value→H) (W:World) (fuel:Nat) (cs:List Value) (xs:List (DataW H × List MemPlace)),
  xs.length=fs.length→(∀ (i:Nat) (f:Field),fs[i]?=some f→DataW.trod enc P W 0 (fun _=>true) true fuel f.type ((cs.drop f.offset).take (P.cellsOf f.type))=xs[i]?) →
  cs.length=o+sz→(∀ n∈DataW.weightsEach P (fs.map (·.type)) (xs.map (·.1)),n≤140737488351232)→∃ a:α,CellsR W (cs.drop o) (e a)∧S a
theorem OpnFs.one {α:Type} {o sz:Nat} {f:Field} {e:α→List SP} {S:α→Prop} (hf:f.offset=o) (hs:P.cellsOf f.type=sz) (ho:Opn P f.type e S):OpnFs P o sz [f] e S:=by
 intro H enc W fuel cs xs hl hx hc hw
 obtain ⟨y,rfl⟩:∃ y,xs=[y]:=by
  match xs,hl with
  | [y],_=>exact ⟨y,rfl⟩
 have h1:=hx 0 f rfl
 rw [hf,hs,List.take_of_length_le (by simp;omega)] at h1
 exact ho H enc W fuel (cs.drop o) y h1 (fun n hn=>hw n (by simpa [DataW.weightsEach] using hn))
theorem OpnFs.cons {α β:Type} {o s1 s2:Nat} {f:Field} {fs:List Field} {e:α→List SP} {e':β→List SP} {S:α→Prop} {S':β→Prop} (hf:f.offset=o) (hs:P.cellsOf f.type=s1) (ho:Opn P f.type e S) (hr:OpnFs P (o+s1) s2 fs e' S') :
  OpnFs P o (s1+s2) (f::fs) (fun x:α × β=>e x.1++e' x.2) (fun a=>S a.1∧S' a.2):=by
 intro H enc W fuel cs xs hl hx hc hw
 obtain ⟨y,ys,rfl⟩:∃ y ys,xs=y::ys:=by
  match xs,hl with
  | y::ys,_=>exact ⟨y,ys,rfl⟩
 have h1:=hx 0 f rfl
 rw [hf,hs] at h1
 obtain ⟨p,hp,hS⟩:=ho H enc W fuel _ y h1 (fun n hn=>hw n (by
  simp only [List.map_cons,DataW.weightsEach,List.mem_append]
  exact Or.inl hn))
 obtain ⟨q,hq,hS'⟩:=hr H enc W fuel cs ys (by simpa using hl) (fun i g hg=>by simpa using hx (i+1) g (by simpa using hg)) (by omega) (fun n hn=>hw n (by
  simp only [List.map_cons,DataW.weightsEach,List.mem_append]
  exact Or.inr hn))
 refine ⟨(p,q),?_,hS,hS'⟩
 have:=hp.app hq
 rwa [← List.drop_drop,List.take_append_drop] at this
theorem Opn.struct {α β:Type} {t sz:Nat} {fs:Array Field} {e:α→List SP} {S:α→Prop} {E:β→List SP} {f:β→α} {g:α→β} (hu:P.underlying t=some (.struct fs)) (hs:P.cellsOf t=sz) (hfg:∀ x,f (g x)=x) (hE:∀ b,E b=e (f b)) (ho:OpnFs P 0 sz fs.toList e S) :
  Opn P t E (fun b=>S (f b)):=by
 intro H enc W fuel cs x h hw
 obtain ⟨xs,n,_,rfl,hc,hl,hx⟩:=DataW.trod_struct hu h
 obtain ⟨a,ha,hS⟩:=ho H enc W n cs xs (by simpa using hl) (fun i f hf=>hx i f (by simpa using hf)) (by rw [hc,hs];omega) (fun n hn=>hw n (by simpa [DataW.weights,hu] using hn))
 refine ⟨g a,?_,?_⟩
 ·rw [hE,hfg];simpa using ha
 ·show S (f (g a));rw [hfg];exact hS
end
theorem law_walk {P:Program} {f:FuncId} {l:List SP} {args:List SV} {O0:Nat→RS} {res:SV} {O1:Nat→RS} (h:Ct P f args O0 res O1) (ha:args=[.a (.agg (l.map .p))]) (hO:∀ k,O0 k=.fresh) (hr:res=pl (.bool true)) {w:World} {cs:List Value} (hc:CellsR w cs l) :
  Calls P f #[.agg cs.toArray] w fun e w'=>e=.returned (.bool true)∧Below w.heap.size w w':=by
 subst ha;subst hr
 let g:G:={ β:=fun _=>none,own:=fun _=>none,Im:=allIm w }
 have hH:Heap w g O0:=⟨fun r=>by rw [hO r];trivial,fun b hb=>⟨hb,rfl⟩,fun b o ho=>by cases ho⟩
 refine (h w g #[.agg cs.toArray] hH rfl fun i sv hi=>?_).mono ?_
 ·cases i with
  | succ i=>simp at hi
  | zero =>
   obtain rfl:SV.a (.agg (l.map .p))=sv:=by simpa using hi
   refine ⟨cs.toArray,rfl,by simp [hc.1],fun j cv hj=>?_⟩
   rw [List.getElem?_map,Option.map_eq_some_iff] at hj
   obtain ⟨p,hp,rfl⟩:=hj
   obtain ⟨u,h1,h2⟩:=hc.2 j p hp
   exact ⟨u,by simpa using h1,h2.one,h2⟩
 ·rintro e w' ⟨v,g',rfl,hv,_,fr,_⟩
  cases (show spR _ _ (.v (.bool true)) v from hv)
  exact ⟨rfl,⟨fr.os,fr.tape,fr.out,fr.size,fun b hb=>fr.blk b hb rfl⟩⟩
end Go.XM
end
section
namespace Go.XM
def backBody (S E Y:TypeId):Code:=((Code.region 0 #[{ dst:=some 4,op:=Op.load S (Operand.tmp 1),type:=S,pos:="iter.go:28",after:=#[],guard:=none },{ dst:=some 5,op:=Op.call { callee:=Callee.builtin Builtin.len,args:=#[Operand.tmp 4],argTypes:=#[S] },type:=3,pos:="iter.go:28",after:=#[{ on:=0,ground:=Ground.data }],guard:=none },{ dst:=some 6,op:=Op.binOp BinOp.sub 3 (Operand.tmp 5) (Operand.const (Value.int IntKind.i64 1)) 3,type:=3,pos:="iter.go:28",after:=#[{ on:=1,ground:=Ground.data }],guard:=none },{ dst:=some 3,op:=Op.assign (Operand.tmp 6),type:=3,pos:="iter.go:28",after:=#[{ on:=2,ground:=Ground.data },{ on:=0,ground:=Ground.phase },{ on:=1,ground:=Ground.phase },{ on:=2,ground:=Ground.phase }],guard:=none }] false).seq (Code.block 0 (((Code.region 1 #[{ dst:=some 7,op:=Op.move (Operand.tmp 3),type:=3,pos:="iter.go:28",after:=#[],guard:=none },{ dst:=some 8,op:=Op.binOp BinOp.geq 3 (Operand.tmp 7) (Operand.const (Value.int IntKind.i64 0)) 3,type:=4,pos:="iter.go:28",after:=#[{ on:=0,ground:=Ground.data }],guard:=none }] false).seq (Code.cond (Operand.tmp 8) Code.skip (Code.exit 0))).seq ((Code.block 1 ((Code.region 3 #[{ dst:=some 11,op:=Op.move (Operand.tmp 0),type:=Y,pos:="iter.go:29",after:=#[],guard:=none },{ dst:=some 12,op:=Op.move (Operand.tmp 3),type:=3,pos:="iter.go:29",after:=#[],guard:=none },{ dst:=some 13,op:=Op.load S (Operand.tmp 1),type:=S,pos:="iter.go:29",after:=#[],guard:=none },{ dst:=some 14,op:=Op.move (Operand.tmp 3),type:=3,pos:="iter.go:29",after:=#[],guard:=none },{ dst:=some 15,op:=Op.indexAddr S (Operand.tmp 13) (Operand.tmp 14),type:=0,pos:="iter.go:29",after:=#[{ on:=2,ground:=Ground.data },{ on:=3,ground:=Ground.data }],guard:=none },{ dst:=some 16,op:=Op.load E (Operand.tmp 15),type:=E,pos:="iter.go:29",after:=#[{ on:=4,ground:=Ground.data }],guard:=none },{ dst:=some 17,op:=Op.call { callee:=Callee.value (Operand.tmp 11),args:=#[Operand.tmp 12,Operand.tmp 16],argTypes:=#[3,E] },type:=4,pos:="iter.go:29",after:=#[{ on:=0,ground:=Ground.data },{ on:=1,ground:=Ground.data },{ on:=5,ground:=Ground.data }],guard:=none },{ dst:=some 18,op:=Op.unOp UnOp.not 4 (Operand.tmp 17),type:=4,pos:="iter.go:29",after:=#[{ on:=6,ground:=Ground.data }],guard:=none }] false).seq (Code.cond (Operand.tmp 18) Code.ret Code.skip))).seq (Code.region 2 #[{ dst:=some 9,op:=Op.move (Operand.tmp 3),type:=3,pos:="iter.go:28",after:=#[],guard:=none },{ dst:=some 10,op:=Op.binOp BinOp.sub 3 (Operand.tmp 9) (Operand.const (Value.int IntKind.i64 1)) 3,type:=3,pos:="iter.go:28",after:=#[{ on:=0,ground:=Ground.data }],guard:=none },{ dst:=some 3,op:=Op.assign (Operand.tmp 10),type:=3,pos:="iter.go:28",after:=#[{ on:=1,ground:=Ground.data },{ on:=0,ground:=Ground.phase },{ on:=1,ground:=Ground.phase }],guard:=none }] false))).loop))
def BkOk (P:Program) (cl S E:Nat):Prop :=
 ∃ fn Y,P.funcs[cl]?=some fn∧fn.body=some (backBody S E Y)∧fn.ntmps=19∧fn.results=#[]∧fnOk P cl=true∧elT P S=some E∧hasT P S=true∧isAg P S=false
end Go.XM
end
