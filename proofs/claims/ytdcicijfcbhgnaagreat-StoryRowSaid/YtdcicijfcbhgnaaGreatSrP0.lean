import Derived.Test.YtdcicijfcbhgnaaGreatSrC0
set_option linter.all false
section
namespace Go.XL
open Go.XM
def Ev {α:Type} (g:Nat→Nat→Nat→Nat→Nat→Option α) (r:α):Prop:=∃ m,∀ K a b c d,m≤K→m≤a→m≤b→m≤c→m≤d→g K a b c d=some r
abbrev E0 {α:Type} (g:Nat→Option α) (r:α):Prop:=Ev (fun K _ _ _ _=>g K) r
abbrev E1 {α:Type} (g:Nat→Nat→Option α) (r:α):Prop:=Ev (fun K a _ _ _=>g K a) r
abbrev E2 {α:Type} (g:Nat→Nat→Nat→Option α) (r:α):Prop:=Ev (fun K a b _ _=>g K a b) r
abbrev E3 {α:Type} (g:Nat→Nat→Nat→Nat→Option α) (r:α):Prop:=Ev (fun K a b c _=>g K a b c) r
theorem now {α:Type} (r:α):Ev (fun _ _ _ _ _=>some r) r:=⟨0,fun _ _ _ _ _ _ _ _ _ _=>rfl⟩
theorem nowE {α:Type} {r s:α} (h:s=r):Ev (fun _ _ _ _ _=>some s) r:=⟨0,fun _ _ _ _ _ _ _ _ _ _=>by rw [h]⟩
theorem pos {α:Type} {c:Prop} [Decidable c] {f g:Nat→Nat→Nat→Nat→Nat→Option α} {r:α} (h:c) (k:Ev f r):Ev (fun x y z u v=>if c then f x y z u v else g x y z u v) r:=by
 obtain ⟨m,k⟩:=k
 exact ⟨m,fun x y z u v a b c d e=>(if_pos h).trans (k x y z u v a b c d e)⟩
theorem neg {α:Type} {c:Prop} [Decidable c] {f g:Nat→Nat→Nat→Nat→Nat→Option α} {r:α} (h:¬ c) (k:Ev g r):Ev (fun x y z u v=>if c then f x y z u v else g x y z u v) r:=by
 obtain ⟨m,k⟩:=k
 exact ⟨m,fun x y z u v a b c d e=>(if_neg h).trans (k x y z u v a b c d e)⟩
theorem posD {α:Type} {c:Prop} [Decidable c] {f g:Nat→Nat→Nat→Nat→Nat→Option α} {r:α} (h:c) (k:Ev f r):Ev (fun x y z u v=>if decide c=true then f x y z u v else g x y z u v) r:=pos (decide_eq_true h) k
theorem negD {α:Type} {c:Prop} [Decidable c] {f g:Nat→Nat→Nat→Nat→Nat→Option α} {r:α} (h:¬ c) (k:Ev g r):Ev (fun x y z u v=>if decide c=true then f x y z u v else g x y z u v) r:=neg (by simpa using h) k
theorem posM {α:Type} {c:Prop} [Decidable c] {f g:Nat→Nat→Nat→Nat→Nat→Option α} {r:α} (h:¬ c) (k:Ev f r):Ev (fun x y z u v=>if (!decide c)=true then f x y z u v else g x y z u v) r:=pos (by rw [decide_eq_false h];rfl) k
theorem negM {α:Type} {c:Prop} [Decidable c] {f g:Nat→Nat→Nat→Nat→Nat→Option α} {r:α} (h:c) (k:Ev g r):Ev (fun x y z u v=>if (!decide c)=true then f x y z u v else g x y z u v) r:=neg (by rw [decide_eq_true h];decide) k
theorem posE {α:Type} {p q:Int} {f g:Nat→Nat→Nat→Nat→Nat→Option α} {r:α} (h:p=q) (k:Ev f r):Ev (fun x y z u v=>if (p == q)=true then f x y z u v else g x y z u v) r:=pos (by simp [h]) k
theorem negE {α:Type} {p q:Int} {f g:Nat→Nat→Nat→Nat→Nat→Option α} {r:α} (h:¬ p=q) (k:Ev g r):Ev (fun x y z u v=>if (p == q)=true then f x y z u v else g x y z u v) r:=neg (by simpa using h) k
theorem posN {α:Type} {p q:Int} {f g:Nat→Nat→Nat→Nat→Nat→Option α} {r:α} (h:¬ p=q) (k:Ev f r):Ev (fun x y z u v=>if (p != q)=true then f x y z u v else g x y z u v) r:=pos (by simpa using h) k
theorem negN {α:Type} {p q:Int} {f g:Nat→Nat→Nat→Nat→Nat→Option α} {r:α} (h:p=q) (k:Ev g r):Ev (fun x y z u v=>if (p != q)=true then f x y z u v else g x y z u v) r:=neg (by simp [h]) k
theorem bnd {α β:Type} {g:Nat→Nat→Nat→Nat→Nat→Option α} {f:Nat→Nat→Nat→Nat→Nat→α→Option β} {a:α} {r:β} (h:Ev g a) (k:Ev (fun x y z u v=>f x y z u v a) r):Ev (fun x y z u v=>(g x y z u v).bind (f x y z u v)) r:=by
 obtain ⟨m,h⟩:=h
 obtain ⟨m',k⟩:=k
 refine ⟨max m m',fun x y z u v a b c d e=>?_⟩
 show (g x y z u v).bind _=_
 rw [h x y z u v (by omega) (by omega) (by omega) (by omega) (by omega)]
 exact k x y z u v (by omega) (by omega) (by omega) (by omega) (by omega)
theorem tail {α:Type} {g:Nat→Nat→Nat→Nat→Nat→Option α} {r:α} (h:Ev g r):Ev (fun x y z u v=>(g x y z u v).bind fun t=>some t) r:=bnd h (now r)
theorem ofEq {α:Type} {g:Nat→Nat→Nat→Nat→Nat→Option α} {r s:α} (h:Ev g r) (e:r=s):Ev g s:=e ▸ h
theorem congr {α:Type} {f g:Nat→Nat→Nat→Nat→Nat→Option α} {r:α} (e:∀ x y z u v,g x y z u v=f x y z u v) (h:Ev f r):Ev g r:=by
 obtain ⟨m,h⟩:=h
 exact ⟨m,fun x y z u v a b c d k=>by rw [e];exact h x y z u v a b c d k⟩
theorem step1 {α:Type} {f g:Nat→Nat→Nat→Nat→Nat→Option α} {r:α} (e:∀ x y z u v,g x (y+1) z u v=f x y z u v) (h:Ev f r):Ev g r:=by
 obtain ⟨m,h⟩:=h
 refine ⟨m+1,fun x y z u v a b c d k=>?_⟩
 obtain ⟨y,rfl⟩:∃ n,y=n+1:=⟨y-1,by omega⟩
 rw [e];exact h x y z u v (by omega) (by omega) (by omega) (by omega) (by omega)
theorem step2 {α:Type} {f g:Nat→Nat→Nat→Nat→Nat→Option α} {r:α} (e:∀ x y z u v,g x y (z+1) u v=f x y z u v) (h:Ev f r):Ev g r:=by
 obtain ⟨m,h⟩:=h
 refine ⟨m+1,fun x y z u v a b c d k=>?_⟩
 obtain ⟨z,rfl⟩:∃ n,z=n+1:=⟨z-1,by omega⟩
 rw [e];exact h x y z u v (by omega) (by omega) (by omega) (by omega) (by omega)
theorem step3 {α:Type} {f g:Nat→Nat→Nat→Nat→Nat→Option α} {r:α} (e:∀ x y z u v,g x y z (u+1) v=f x y z u v) (h:Ev f r):Ev g r:=by
 obtain ⟨m,h⟩:=h
 refine ⟨m+1,fun x y z u v a b c d k=>?_⟩
 obtain ⟨u,rfl⟩:∃ n,u=n+1:=⟨u-1,by omega⟩
 rw [e];exact h x y z u v (by omega) (by omega) (by omega) (by omega) (by omega)
theorem Ev.e1 {α:Type} {g:Nat→Nat→Nat→Nat→Nat→Option α} {r:α} (h:Ev g r):Ev (fun x y z u v=>g x x z u v) r:=by
 obtain ⟨m,h⟩:=h
 exact ⟨m,fun x y z u v a b c d k=>h x x z u v a a c d k⟩
theorem Ev.e2 {α:Type} {g:Nat→Nat→Nat→Nat→Nat→Option α} {r:α} (h:Ev g r):Ev (fun x y z u v=>g x y x u v) r:=by
 obtain ⟨m,h⟩:=h
 exact ⟨m,fun x y z u v a b c d k=>h x y x u v a b a d k⟩
theorem Ev.e3 {α:Type} {g:Nat→Nat→Nat→Nat→Nat→Option α} {r:α} (h:Ev g r):Ev (fun x y z u v=>g x y z x v) r:=by
 obtain ⟨m,h⟩:=h
 exact ⟨m,fun x y z u v a b c d k=>h x y z x v a b c a k⟩
theorem Ev.e4 {α:Type} {g:Nat→Nat→Nat→Nat→Nat→Option α} {r:α} (h:Ev g r):Ev (fun x y z u v=>g x y z u x) r:=by
 obtain ⟨m,h⟩:=h
 exact ⟨m,fun x y z u v a b c d k=>h x y z u x a b c d a⟩
theorem Ev.all {α:Type} {g:Nat→Option α} {r:α} (h:E0 g r):∃ m,∀ K,m≤K→g K=some r:=by
 obtain ⟨m,h⟩:=h
 exact ⟨m,fun K hK=>h K K K K K hK hK hK hK hK⟩
theorem Ev.get {α:Type} {g:Nat→Option α} {r:α} (h:E0 g r):∃ K,g K=some r:=by
 obtain ⟨m,h⟩:=h.all
 exact ⟨m,h m (Nat.le_refl _)⟩
theorem Ev.uniq {α:Type} {g:Nat→Nat→Nat→Nat→Nat→Option α} {r s:α} (h:Ev g r) (k:Ev g s):r=s:=by
 obtain ⟨K,h⟩:=h
 obtain ⟨K',k⟩:=k
 have e:=h (max K K') (max K K') (max K K') (max K K') (max K K') (by omega) (by omega) (by omega) (by omega) (by omega)
 rw [k _ _ _ _ _ (by omega) (by omega) (by omega) (by omega) (by omega)] at e
 injection e with e
 exact e.symm
theorem w64 {i:Int} (h:-9223372036854775808≤i) (h':i≤9223372036854775807):wr .i64 i=i:=by show Go.RowKit.wrap64 i=i;unfold Go.RowKit.wrap64;omega
theorem w1 {i:Nat} (h:i<4611686018427387904):wr .i64 ((i:Int)+1)=((i+1:Nat):Int):=by rw [w64 (by omega) (by omega)];omega
theorem upto {n:Nat} {Q:Nat→Prop} (base:Q n) (step:∀ i,i<n→Q (i+1)→Q i):∀ i,i≤n→Q i:=by
 have key:∀ d i,i+d=n→Q i:=by
  intro d
  induction d with
  | zero=>intro i hi;rw [show i=n by omega];exact base
  | succ d ih=>intro i hi;exact step i (by omega) (ih (i+1) (by omega))
 intro i hi
 exact key (n-i) i (by omega)
theorem getD_lt {α:Type} {d:α} {xs:List α} {i:Nat} (h:i<xs.length):xs.getD i d=xs[i]:=by simp [List.getD_eq_getElem?_getD,List.getElem?_eq_getElem h]
theorem getD_mem {α:Type} {d:α} {xs:List α} {i:Nat} (h:i<xs.length):xs.getD i d∈xs:=by rw [getD_lt h];exact List.getElem_mem h
theorem drop_getD {α:Type} {d:α} {xs:List α} {i:Nat} (h:i<xs.length):xs.drop i=xs.getD i d::xs.drop (i+1):=by rw [getD_lt h];exact List.drop_eq_getElem_cons h
theorem take_getD {α:Type} {d:α} {xs:List α} {i:Nat} (h:i<xs.length):xs.take (i+1)=xs.take i++[xs.getD i d]:=by rw [getD_lt h,List.take_succ_eq_append_getElem h]
theorem getD_set {α:Type} {d:α} (xs:List α) (i j:Nat) (v:α) (h:i<xs.length):(xs.set i v).getD j d=if j=i then v else xs.getD j d:=by
 simp only [List.getD_eq_getElem?_getD,List.getElem?_set]
 by_cases e:i=j
 ·subst e;simp [h]
 ·simp [e,Ne.symm e]
theorem nthN {α:Type} [Inhabited α] (xs:List α) (i:Nat):nth xs (i:Int)=xs.getD i default:=by simp [nth]
theorem rdN (xs:List Int) (i:Nat):nth xs (i:Int)=xs.getD i 0:=nthN xs i
theorem rd1I (xs:List (List Int)) (i:Int):nth xs i=xs.getD i.toNat []:=rfl
theorem rd1N (xs:List (List Int)) (i:Nat):nth xs (i:Int)=xs.getD i []:=nthN xs i
def lsum (xs:List (List Int)):Nat:=(xs.map List.length).sum
theorem lsum_cons (x:List Int) (xs:List (List Int)):lsum (x::xs)=x.length+lsum xs:=by simp [lsum]
theorem lsum_append (xs ys:List (List Int)):lsum (xs++ys)=lsum xs+lsum ys:=by simp [lsum]
theorem lsum_mem {x:List Int} {xs:List (List Int)} (h:x∈xs):x.length≤lsum xs:=by
 induction xs with
 | nil=>simp at h
 | cons y ys ih =>
  rw [lsum_cons]
  rcases List.mem_cons.1 h with rfl | h
  ·omega
  ·have:=ih h;omega
theorem lsum_drop {xs:List (List Int)} {i:Nat} (h:i<xs.length):lsum (xs.drop i)=(xs.getD i []).length+lsum (xs.drop (i+1)):=by rw [drop_getD (d:=[]) h,lsum_cons]
theorem lsum_take {xs:List (List Int)} {i:Nat} (h:i<xs.length):lsum (xs.take (i+1))=lsum (xs.take i)+(xs.getD i []).length:=by rw [take_getD (d:=[]) h,lsum_append];simp [lsum]
theorem lsum_take_le (xs:List (List Int)) (i:Nat):lsum (xs.take i)≤lsum xs:=by
 have:=lsum_append (xs.take i) (xs.drop i)
 rw [List.take_append_drop] at this
 omega
theorem negB {α:Type} {b:Bool} {f g:Nat→Nat→Nat→Nat→Nat→Option α} {r:α} (h:b=false) (k:Ev g r):Ev (fun x y z u v=>if b=true then f x y z u v else g x y z u v) r:=neg (by rw [h];decide) k
end Go.XL
end
section
namespace Go.XL
open Go.XM
def OkAt (xs:List Int) (i:Nat):Prop:=0≤xs.getD i 0∧xs.getD i 0≤15∧(0<i→xs.getD (i-1) 0<xs.getD i 0)
instance (xs:List Int) (i:Nat):Decidable (OkAt xs i):=by unfold OkAt;infer_instance
def MayP (xs:List Int):Prop:=∀ i,i<xs.length→OkAt xs i
instance (xs:List Int):Decidable (MayP xs):=by unfold MayP;infer_instance
theorem ok_ge {xs:List Int}:∀ i:Nat,(∀ j,j≤i→OkAt xs j)→(i:Int)≤xs.getD i 0:=by
 intro i
 induction i with
 | zero=>intro h;exact_mod_cast (h 0 (by omega)).1
 | succ i ih =>
  intro h
  have h1:=ih (fun j hj=>h j (by omega))
  have h2:=(h (i+1) (by omega)).2.2 (by omega)
  simp only [Nat.add_sub_cancel] at h2
  omega
theorem MayP.len {xs:List Int} (h:MayP xs):xs.length≤16:=by
 rcases Nat.eq_zero_or_pos xs.length with h0 | h0
 ·omega
 ·have h1:=ok_ge (xs:=xs) (xs.length-1) (fun j hj=>h j (by omega))
  have h2:=(h (xs.length-1) (by omega)).2.1
  omega
theorem is_eq (K:Nat) (a:Int):Ds K a=some (decide (0≤a∧a≤15)):=by
 unfold Ds
 by_cases h:a≥0
 ·rw [if_pos (decide_eq_true h)];simp [h];omega
 ·rw [if_neg (by simpa using h)];simp;omega
theorem gmay_ev (xs:List Int) (hl:xs.length≤17592186044416):E0 (fun K=>Da K xs) (decide (MayP xs)):=by
 have key:∀ i,i≤xs.length→(∀ j,j<i→OkAt xs j)→E1 (fun K k=>Da.l1 K xs k ((xs.length:Nat):Int) (i:Int)) (decide (MayP xs)):=by
  refine upto ?_ ?_
  ·intro hok
   have hm:MayP xs:=hok
   refine step1 (fun _ _ _ _ _=>Da.l1.eq_2 ..) ?_
   exact negD (by omega) (nowE (by simp [hm]))
  ·intro i hi ih hok
   refine step1 (fun _ _ _ _ _=>Da.l1.eq_2 ..) ?_
   refine posD (by omega) (pos (by omega) ?_)
   simp only [is_eq]
   rw [rdN]
   refine bnd (now _) ?_
   by_cases ho:0≤xs.getD i 0∧xs.getD i 0≤15
   ·refine negM ho ?_
    rcases Nat.eq_zero_or_pos i with h0 | h0
    ·refine negD (by omega) ?_
     rw [w1 (by omega)]
     refine ih fun j hj=>?_
     by_cases e:j=i
     ·subst e;exact ⟨ho.1,ho.2,fun h=>by omega⟩
     ·exact hok j (by omega)
    ·refine posD (by omega) ?_
     have e1:wr .i64 ((i:Int)-1)=((i-1:Nat):Int):=by rw [w64 (by omega) (by omega)];omega
     rw [e1,rdN]
     refine pos (by omega) ?_
     by_cases hlt:xs.getD i 0≤xs.getD (i-1) 0
     ·refine posD hlt (nowE ?_)
      have:¬ MayP xs:=fun hm=>by have:=(hm i hi).2.2 h0;omega
      simp [this]
     ·refine negD hlt ?_
      rw [w1 (by omega)]
      refine ih fun j hj=>?_
      by_cases e:j=i
      ·subst e;exact ⟨ho.1,ho.2,fun h=>by omega⟩
      ·exact hok j (by omega)
   ·refine posM ho (nowE ?_)
    have:¬ MayP xs:=fun hm=>ho ⟨(hm i hi).1,(hm i hi).2.1⟩
    simp [this]
 exact (key 0 (by omega) (fun j hj=>by omega)).e1
theorem ext_getD {xs ys:List Int} (hl:xs.length=ys.length) (h:∀ j,j<xs.length→xs.getD j 0=ys.getD j 0):xs=ys:=by
 refine List.ext_getElem hl fun j h1 h2=>?_
 have:=h j h1
 rwa [getD_lt h1,getD_lt h2] at this
theorem eqn_ev (xs ys:List Int) (h:xs.length≤1000000):E0 (fun K=>Az K xs ys) (decide (xs=ys)):=by
 unfold Az
 by_cases hl:xs.length=ys.length
 ·have key:∀ i,i≤xs.length→(∀ j,j<i→xs.getD j 0=ys.getD j 0)→E1 (fun K k=>Az.l1 K xs ys k (i:Int)) (decide (xs=ys)):=by
   refine upto ?_ ?_
   ·intro hd
    refine step1 (fun _ _ _ _ _=>Az.l1.eq_2 ..) ?_
    exact negD (by omega) (nowE (by rw [ext_getD hl hd];simp))
   ·intro i hi ih hd
    refine step1 (fun _ _ _ _ _=>Az.l1.eq_2 ..) ?_
    refine posD (by omega) (pos (by omega) (pos (by omega) ?_))
    rw [rdN,rdN,w1 (by omega)]
    by_cases e:xs.getD i 0=ys.getD i 0
    ·refine negN e (ih fun j hj=>?_)
     by_cases q:j=i
     ·rw [q];exact e
     ·exact hd j (by omega)
    ·refine posN e (nowE ?_)
     have:¬ xs=ys:=fun h=>e (by rw [h])
     simp [this]
  exact negN (by omega) (key 0 (by omega) (fun j hj=>by omega)).e1
 ·refine posN (by omega) (nowE ?_)
  have:¬ xs=ys:=fun h=>hl (by rw [h])
  simp [this]
theorem clone_eq (K:Nat) (xs:List Int) (h:xs.length≤1000000):Cg K xs=some xs:=by
 unfold Cg
 rw [if_pos (by simp;omega)];rfl
end Go.XL
end
section
namespace Go.XL
open Go.XM
def follow (x:Int):List Int→Nat
 | []=>0
 | y::l=>if y=x+1 then follow y l+1 else 0
theorem follow_le:∀ (x:Int) (l:List Int),follow x l≤l.length
 | _,[]=>Nat.le_refl _
 | x,y::l=>by
  simp only [follow]
  split
  ·have:=follow_le y l;simp;omega
  ·simp
theorem follow_lt:∀ {x:Int} {l:List Int} {t:Nat},t<follow x l→(x::l).getD (t+1) 0=(x::l).getD t 0+1
 | x,[],t,h=>by simp [follow] at h
 | x,y::l,t,h=>by
  simp only [follow] at h
  split at h
  ·rename_i e
   cases t with
   | zero=>simpa using e
   | succ t=>exact follow_lt (x:=y) (l:=l) (t:=t) (by omega)
  ·omega
theorem follow_end:∀ {x:Int} {l:List Int},follow x l<l.length→(x::l).getD (follow x l+1) 0≠(x::l).getD (follow x l) 0+1
 | x,[],h=>by simp [follow] at h
 | x,y::l,h=>by
  simp only [follow] at h ⊢
  split
  ·rename_i e
   rw [if_pos e] at h
   exact follow_end (x:=y) (l:=l) (by simpa using h)
  ·rename_i e;simpa using e
def parts:List Int→List Aj × List Int
 | []=>([],[])
 | x::l =>
  if 2≤follow x l then ((x,((follow x l+1:Nat):Int))::(parts (l.drop (follow x l))).1,(parts (l.drop (follow x l))).2)
  else ((parts (l.drop (follow x l))).1,x::l.take (follow x l)++(parts (l.drop (follow x l))).2)
termination_by l=>l.length
decreasing_by all_goals (simp;omega)
def Sm (l:List Int):Prop:=l.length≤1000∧∀ x∈l,-1000000≤x∧x≤1000000
theorem drop_cons {L:List Int} {i:Nat} (hi:i<L.length):L.drop i=L.getD i 0::L.drop (i+1):=drop_getD hi
theorem getD_drop (L:List Int) (i t:Nat):(L.drop i).getD t 0=L.getD (i+t) 0:=by simp [List.getD_eq_getElem?_getD]
theorem runs_Parts_l2 {L:List Int} (hL:Sm L) {go:Nat→Nat→Int→List Aj→List Int→Option (List Aj × List Int)} {i:Nat} (hi:i<L.length) {r:List Aj} {s:List Int} (hr:r.length≤i) (hs:s.length≤i) {z:List Aj × List Int}
  (hgo:let n:=follow (L.getD i 0) (L.drop (i+1));Ev (fun K k _ _ _=>go K k ((i+1+n:Nat):Int) (if 2≤n then r++[(L.getD i 0,((n+1:Nat):Int))] else r) (if 2≤n then s else s++(L.drop i).take (n+1))) z) :
  E2 (fun K k k'=>B5.l2 K (go K k) (i:Int) L k' ((i+1:Nat):Int) r s) z:=by
 generalize hn:follow (L.getD i 0) (L.drop (i+1))=n at hgo
 simp only at hgo
 have hnle:i+1+n≤L.length:=by
  have:=follow_le (L.getD i 0) (L.drop (i+1))
  rw [hn,List.length_drop] at this;omega
 have hlen:=hL.1
 have key:∀ t,t≤n→E2 (fun K k k'=>B5.l2 K (go K k) (i:Int) L k' ((i+1+t:Nat):Int) r s) z:=by
  refine upto ?_ ?_
  ·have fin:E2 (fun K k k'=>if decide ((wr .i64 (((i+1+n:Nat):Int)-(i:Int)))≥3) then
     if (0:Int)≤(i:Int)∧(i:Int)<((L.length:Nat):Int) then
     if (r.length+([((nth L (i:Int),wr .i64 (((i+1+n:Nat):Int)-(i:Int))):Aj)]:List Aj).length)*16≤140737488355328 then
     go K k ((i+1+n:Nat):Int) (r++([((nth L (i:Int),wr .i64 (((i+1+n:Nat):Int)-(i:Int))):Aj)]:List Aj)) s
     else none
     else none
    else
     if (0:Int)≤(i:Int)∧(i:Int)≤((i+1+n:Nat):Int)∧((i+1+n:Nat):Int)≤((L.length:Nat):Int) then
     if (s.length+(((L).drop ((i:Int)).toNat).take ((((i+1+n:Nat):Int)).toNat-((i:Int)).toNat)).length)*8≤140737488355328 then
     go K k ((i+1+n:Nat):Int) r (s++(((L).drop ((i:Int)).toNat).take ((((i+1+n:Nat):Int)).toNat-((i:Int)).toNat)))
     else none
     else none) z:=by
    have e1:wr .i64 (((i+1+n:Nat):Int)-(i:Int))=((n+1:Nat):Int):=by rw [w64 (by omega) (by omega)];omega
    rw [e1]
    by_cases h2:2≤n
    ·rw [if_pos h2,if_pos h2] at hgo
     refine posD (by omega) (pos (by omega) (pos (by simp;omega) ?_))
     rw [rdN];exact hgo
    ·rw [if_neg h2,if_neg h2] at hgo
     refine negD (by omega) (pos (by omega) ?_)
     rw [Int.toNat_natCast,Int.toNat_natCast,show i+1+n-i=n+1 by omega]
     exact pos (by simp;omega) hgo
   refine step2 (fun _ _ _ _ _=>B5.l2.eq_2 ..) ?_
   by_cases he:i+1+n<L.length
   ·refine posD (by omega) (pos (by omega) ?_)
    have e2:wr .i64 (((i+1+n:Nat):Int)-1)=((i+n:Nat):Int):=by rw [w64 (by omega) (by omega)];omega
    rw [e2,rdN,rdN]
    have hb:=hL.2 _ (getD_mem (d:=0) (show i+n<L.length by omega))
    rw [w64 (i:=L.getD (i+n) 0+1) (by omega) (by omega)]
    refine pos (by omega) (negE ?_ fin)
    have:=follow_end (x:=L.getD i 0) (l:=L.drop (i+1)) (by rw [hn,List.length_drop];omega)
    rw [hn,← drop_cons hi,getD_drop,getD_drop] at this
    rw [show i+1+n=i+(n+1) by omega];exact this
   ·exact negD (by omega) fin
  ·intro t ht ih
   refine step2 (fun _ _ _ _ _=>B5.l2.eq_2 ..) ?_
   refine posD (by omega) (pos (by omega) ?_)
   have e2:wr .i64 (((i+1+t:Nat):Int)-1)=((i+t:Nat):Int):=by rw [w64 (by omega) (by omega)];omega
   rw [e2,rdN,rdN]
   have hb:=hL.2 _ (getD_mem (d:=0) (show i+t<L.length by omega))
   rw [w64 (i:=L.getD (i+t) 0+1) (by omega) (by omega)]
   refine pos (by omega) (posE ?_ ?_)
   ·have:=follow_lt (x:=L.getD i 0) (l:=L.drop (i+1)) (t:=t) (by omega)
    rw [← drop_cons hi,getD_drop,getD_drop] at this
    rw [show i+1+t=i+(t+1) by omega];exact this
   ·rw [w1 (by omega)];exact ih
 exact key 0 (by omega)
theorem runs_Parts_l1 {L:List Int} (hL:Sm L):∀ (d i:Nat),i+d=L.length→∀ (r:List Aj) (s:List Int),r.length≤i→s.length≤i →
  E1 (fun K k=>B5.l1 K L k (i:Int) r s) (r++(parts (L.drop i)).1,s++(parts (L.drop i)).2):=by
 have hlen:=hL.1
 intro d
 induction d using Nat.strongRecOn with
 | _ d ih =>
  intro i hi r s hr hs
  refine step1 (fun _ _ _ _ _=>B5.l1.eq_2 ..) ?_
  by_cases h:i<L.length
  ·refine posD (by omega) ?_
   have hnle:=follow_le (L.getD i 0) (L.drop (i+1))
   rw [List.length_drop] at hnle
   have hz:=ih (d-(1+follow (L.getD i 0) (L.drop (i+1)))) (by omega) (i+1+follow (L.getD i 0) (L.drop (i+1))) (by omega)
   have hd:L.drop (i+1+follow (L.getD i 0) (L.drop (i+1)))=(L.drop (i+1)).drop (follow (L.getD i 0) (L.drop (i+1))):=by rw [List.drop_drop]
   rw [hd] at hz
   rw [w1 (by omega)]
   refine Ev.e2 (runs_Parts_l2 (go:=fun K k=>B5.l1 K L k) hL h hr hs ?_)
   rw [drop_cons h,parts]
   simp only
   by_cases h2:2≤follow (L.getD i 0) (L.drop (i+1))
   ·simp only [if_pos h2]
    refine ofEq (hz _ _ (by simp;omega) (by omega)) (by simp)
   ·simp only [if_neg h2]
    refine ofEq (hz _ _ (by omega) (by simp;omega)) (by simp [List.take_succ_cons])
  ·refine negD (by omega) (nowE ?_)
   rw [List.drop_eq_nil_of_le (by omega),parts];simp
theorem Parts_ev {L:List Int} (hL:Sm L):E0 (fun K=>B5 K L) (parts L):=by
 have:=runs_Parts_l1 hL L.length 0 (by omega) [] [] (by simp) (by simp)
 refine ofEq this.e1 (by simp)
theorem herbariumref3_Split_l2 {L:List Int} (hL:Sm L) {go:Nat→Nat→Int→List Aj→List Int→Option (List Aj × List Int)} {i:Nat} (hi:i<L.length) {r:List Aj} {s:List Int} (hr:r.length≤i) (hs:s.length≤i) {z:List Aj × List Int}
  (hgo:let n:=follow (L.getD i 0) (L.drop (i+1));Ev (fun K k _ _ _=>go K k ((i+1+n:Nat):Int) (if 2≤n then r++[(L.getD i 0,((n+1:Nat):Int))] else r) (if 2≤n then s else s++(L.drop i).take (n+1))) z) :
  E2 (fun K k k'=>As.l2 K (go K k) (i:Int) L k' ((i+1:Nat):Int) r s) z:=by
 generalize hn:follow (L.getD i 0) (L.drop (i+1))=n at hgo
 simp only at hgo
 have hnle:i+1+n≤L.length:=by
  have:=follow_le (L.getD i 0) (L.drop (i+1))
  rw [hn,List.length_drop] at this;omega
 have hlen:=hL.1
 have key:∀ t,t≤n→E2 (fun K k k'=>As.l2 K (go K k) (i:Int) L k' ((i+1+t:Nat):Int) r s) z:=by
  refine upto ?_ ?_
  ·have fin:E2 (fun K k k'=>if decide ((wr .i64 (((i+1+n:Nat):Int)-(i:Int)))≥3) then
     if (0:Int)≤(i:Int)∧(i:Int)<((L.length:Nat):Int) then
     if (r.length+([((nth L (i:Int),wr .i64 (((i+1+n:Nat):Int)-(i:Int))):Aj)]:List Aj).length)*16≤140737488355328 then
     go K k ((i+1+n:Nat):Int) (r++([((nth L (i:Int),wr .i64 (((i+1+n:Nat):Int)-(i:Int))):Aj)]:List Aj)) s
     else none
     else none
    else
     if (0:Int)≤(i:Int)∧(i:Int)≤((i+1+n:Nat):Int)∧((i+1+n:Nat):Int)≤((L.length:Nat):Int) then
     if (s.length+(((L).drop ((i:Int)).toNat).take ((((i+1+n:Nat):Int)).toNat-((i:Int)).toNat)).length)*8≤140737488355328 then
     go K k ((i+1+n:Nat):Int) r (s++(((L).drop ((i:Int)).toNat).take ((((i+1+n:Nat):Int)).toNat-((i:Int)).toNat)))
     else none
     else none) z:=by
    have e1:wr .i64 (((i+1+n:Nat):Int)-(i:Int))=((n+1:Nat):Int):=by rw [w64 (by omega) (by omega)];omega
    rw [e1]
    by_cases h2:2≤n
    ·rw [if_pos h2,if_pos h2] at hgo
     refine posD (by omega) (pos (by omega) (pos (by simp;omega) ?_))
     rw [rdN];exact hgo
    ·rw [if_neg h2,if_neg h2] at hgo
     refine negD (by omega) (pos (by omega) ?_)
     rw [Int.toNat_natCast,Int.toNat_natCast,show i+1+n-i=n+1 by omega]
     exact pos (by simp;omega) hgo
   refine step2 (fun _ _ _ _ _=>As.l2.eq_2 ..) ?_
   by_cases he:i+1+n<L.length
   ·refine posD (by omega) (pos (by omega) ?_)
    have e2:wr .i64 (((i+1+n:Nat):Int)-1)=((i+n:Nat):Int):=by rw [w64 (by omega) (by omega)];omega
    rw [e2,rdN,rdN]
    have hb:=hL.2 _ (getD_mem (d:=0) (show i+n<L.length by omega))
    rw [w64 (i:=L.getD (i+n) 0+1) (by omega) (by omega)]
    refine pos (by omega) (negE ?_ fin)
    have:=follow_end (x:=L.getD i 0) (l:=L.drop (i+1)) (by rw [hn,List.length_drop];omega)
    rw [hn,← drop_cons hi,getD_drop,getD_drop] at this
    rw [show i+1+n=i+(n+1) by omega];exact this
   ·exact negD (by omega) fin
  ·intro t ht ih
   refine step2 (fun _ _ _ _ _=>As.l2.eq_2 ..) ?_
   refine posD (by omega) (pos (by omega) ?_)
   have e2:wr .i64 (((i+1+t:Nat):Int)-1)=((i+t:Nat):Int):=by rw [w64 (by omega) (by omega)];omega
   rw [e2,rdN,rdN]
   have hb:=hL.2 _ (getD_mem (d:=0) (show i+t<L.length by omega))
   rw [w64 (i:=L.getD (i+t) 0+1) (by omega) (by omega)]
   refine pos (by omega) (posE ?_ ?_)
   ·have:=follow_lt (x:=L.getD i 0) (l:=L.drop (i+1)) (t:=t) (by omega)
    rw [← drop_cons hi,getD_drop,getD_drop] at this
    rw [show i+1+t=i+(t+1) by omega];exact this
   ·rw [w1 (by omega)];exact ih
 exact key 0 (by omega)
theorem herbariumref3_Split_l1 {L:List Int} (hL:Sm L):∀ (d i:Nat),i+d=L.length→∀ (r:List Aj) (s:List Int),r.length≤i→s.length≤i →
  E1 (fun K k=>As.l1 K L k (i:Int) r s) (r++(parts (L.drop i)).1,s++(parts (L.drop i)).2):=by
 have hlen:=hL.1
 intro d
 induction d using Nat.strongRecOn with
 | _ d ih =>
  intro i hi r s hr hs
  refine step1 (fun _ _ _ _ _=>As.l1.eq_2 ..) ?_
  by_cases h:i<L.length
  ·refine posD (by omega) ?_
   have hnle:=follow_le (L.getD i 0) (L.drop (i+1))
   rw [List.length_drop] at hnle
   have hz:=ih (d-(1+follow (L.getD i 0) (L.drop (i+1)))) (by omega) (i+1+follow (L.getD i 0) (L.drop (i+1))) (by omega)
   have hd:L.drop (i+1+follow (L.getD i 0) (L.drop (i+1)))=(L.drop (i+1)).drop (follow (L.getD i 0) (L.drop (i+1))):=by rw [List.drop_drop]
   rw [hd] at hz
   rw [w1 (by omega)]
   refine Ev.e2 (herbariumref3_Split_l2 (go:=fun K k=>As.l1 K L k) hL h hr hs ?_)
   rw [drop_cons h,parts]
   simp only
   by_cases h2:2≤follow (L.getD i 0) (L.drop (i+1))
   ·simp only [if_pos h2]
    refine ofEq (hz _ _ (by simp;omega) (by omega)) (by simp)
   ·simp only [if_neg h2]
    refine ofEq (hz _ _ (by omega) (by simp;omega)) (by simp [List.take_succ_cons])
  ·refine negD (by omega) (nowE ?_)
   rw [List.drop_eq_nil_of_le (by omega),parts];simp
theorem Split_ev {L:List Int} (hL:Sm L):E0 (fun K=>As K L) (parts L):=by
 have:=herbariumref3_Split_l1 hL L.length 0 (by omega) [] [] (by simp) (by simp)
 refine ofEq this.e1 (by simp)
end Go.XL
end
section
namespace Go.XL
open Go.XM
def nums (x:Aj):List Int:=(List.range x.Len.toNat).map fun (k:Nat)=>x.At+(k:Int)
def alls (r:List Aj):List Int:=r.flatMap nums
def OkR:Int→List Aj→Prop
 | _,[]=>True
 | e,x::r=>(3≤x.Len∧e<x.At∧0≤x.At∧x.At≤15∧x.At+x.Len≤16)∧OkR (x.At+x.Len) r
instance decOkR:∀ (e:Int) (r:List Aj),Decidable (OkR e r)
 | _,[]=>.isTrue trivial
 | e,x::r=>@instDecidableAnd _ _ _ (decOkR _ r)
theorem sort_len (l:List Int):(sortF l).length=l.length:=List.length_mergeSort l
theorem mem_nums {x:Aj} {a:Int} (h:0≤x.Len):a∈nums x↔x.At≤a∧a<x.At+x.Len:=by
 simp only [nums,List.mem_map,List.mem_range]
 constructor
 ·rintro ⟨k,hk,rfl⟩;omega
 ·rintro ⟨h1,h2⟩;exact ⟨(a-x.At).toNat,by omega,by omega⟩
theorem nums_len (x:Aj):(nums x).length=x.Len.toNat:=by simp [nums]
theorem alls_cons (x:Aj) (r:List Aj):alls (x::r)=nums x++alls r:=by simp [alls]
theorem OkR.len:∀ {e:Int} {r:List Aj},e≤16→OkR e r→e+(alls r).length≤16∧3*r.length≤(alls r).length
 | e,[],he,h=>by simp [alls];exact he
 | e,x::r,he,h=>by
  obtain ⟨⟨h1,h2,h3,h4,h5⟩,hr⟩:=h
  obtain ⟨a1,a2⟩:=OkR.len (by omega) hr
  rw [alls_cons,List.length_append,nums_len,List.length_cons]
  omega
theorem whole_l2 {go:Nat→Nat→Int→Int→Int→List Int→Option (List Int × Bool)} {t11 t12:Int} {r:List Aj} {q:List Int} {x:Aj} (h0:0≤x.Len) (h1:x.Len≤16) (h2:0≤x.At) (h3:x.At≤15) {s:List Int} (hs:s.length≤1000100) {z:List Int × Bool}
  (hgo:Ev (fun K k _ _ _=>go K k (x.At+x.Len) t11 (wr .i64 (t12+1)) (s++nums x)) z):E2 (fun K k k'=>Cc.l2 K (go K k) t11 t12 r q k' (x.At+x.Len) x.At s) z:=by
 have hl:=nums_len x
 have key:∀ t,t≤x.Len.toNat→E2 (fun K k k'=>Cc.l2 K (go K k) t11 t12 r q k' (x.At+x.Len) (x.At+(t:Int)) (s++(nums x).take t)) z:=by
  refine upto ?_ ?_
  ·refine step2 (fun _ _ _ _ _=>Cc.l2.eq_2 ..) ?_
   refine negD (by omega) ?_
   rw [List.take_of_length_le (by omega)]
   exact hgo
  ·intro t ht ih
   refine step2 (fun _ _ _ _ _=>Cc.l2.eq_2 ..) ?_
   refine posD (by omega) (pos ?_ ?_)
   ·simp only [List.length_append,List.length_take,List.length_singleton];omega
   ·rw [w64 (by omega) (by omega)]
    have e:s++(nums x).take t++[x.At+(t:Int)]=s++(nums x).take (t+1):=by
     rw [take_getD (d:=0) (by omega:t<(nums x).length),List.append_assoc]
     congr 3
     rw [getD_lt (by omega)]
     simp [nums]
    rw [e]
    refine ofEq (congr (fun _ _ _ _ _=>?_) ih) rfl
    congr 1
    omega
 have:=key 0 (by omega)
 simpa using this
theorem rdR (xs:List Aj) (i:Nat):nth xs (i:Int)=xs.getD i default:=nthN xs i
theorem whole_l1 {r:List Aj} {q:List Int} (hq:q.length≤1000000) (hr:r.length≤1000000):∀ i,i≤r.length→∀ (e:Int) (s:List Int),-1≤e→e≤16→(s.length:Int)≤1000000+e+1 →
  E1 (fun K k=>Cc.l1 K r q k e (r.length:Int) (i:Int) s) (if OkR e (r.drop i) then (sortF (s++alls (r.drop i)),if MayP q then decide (MayP (sortF (s++alls (r.drop i)))) else false) else ([],false)):=by
 refine upto ?_ ?_
 ·intro e s he he2 hs
  refine step1 (fun _ _ _ _ _=>Cc.l1.eq_2 ..) ?_
  refine negD (by omega) (pos (by omega) ?_)
  rw [List.drop_length,if_pos (show OkR e [] from trivial),show alls []=[] from rfl,List.append_nil]
  refine bnd (gmay_ev q (by omega)) ?_
  by_cases hm:MayP q
  ·rw [if_pos hm]
   refine pos (decide_eq_true hm) ?_
   exact bnd (gmay_ev _ (by rw [sort_len];omega)) (now _)
  ·rw [if_neg hm]
   exact neg (by simpa using hm) (now _)
 ·intro i hi ih e s he he2 hs
  refine step1 (fun _ _ _ _ _=>Cc.l1.eq_2 ..) ?_
  refine posD (by omega) (pos (by omega) ?_)
  rw [rdR,drop_getD (d:=default) hi]
  generalize r.getD i default=x
  by_cases c1:x.Len<3
  ·rw [if_neg (fun h=>by have:=h.1.1;omega)]
   exact posD c1 (now _)
  refine negD c1 ?_
  by_cases c2:x.Len > 16
  ·rw [if_neg (fun h=>by have:=h.1;omega)]
   exact posD c2 (now _)
  refine negD c2 ?_
  by_cases c3:x.At≤e
  ·rw [if_neg (fun h=>by have:=h.1;omega)]
   exact posD c3 (now _)
  refine negD c3 ?_
  simp only [is_eq]
  refine bnd (now _) ?_
  by_cases c4:0≤x.At∧x.At≤15
  ·refine negM c4 ?_
   rw [w64 (i:=x.At+x.Len) (by omega) (by omega),w64 (i:=x.At+x.Len-1) (by omega) (by omega)]
   refine bnd (now _) ?_
   by_cases c5:0≤x.At+x.Len-1∧x.At+x.Len-1≤15
   ·refine negM c5 ?_
    have hx:3≤x.Len∧e<x.At∧0≤x.At∧x.At≤15∧x.At+x.Len≤16:=by omega
    refine Ev.e2 (whole_l2 (go:=fun K k=>Cc.l1 K r q k) (by omega) (by omega) (by omega) (by omega) (by omega) ?_)
    rw [w1 (by omega)]
    have hi2:=ih (x.At+x.Len) (s++nums x) (by omega) (by omega) (by rw [List.length_append,nums_len];omega)
    refine ofEq hi2 ?_
    by_cases ho:OkR (x.At+x.Len) (r.drop (i+1))
    ·rw [if_pos ho,if_pos (show OkR e (x::r.drop (i+1)) from ⟨hx,ho⟩),alls_cons,List.append_assoc]
    ·rw [if_neg ho,if_neg (fun h=>ho h.2)]
   ·rw [if_neg (fun h=>c5 (by have:=h.1;omega))]
    exact posM c5 (now _)
  ·rw [if_neg (fun h=>c4 (by have:=h.1;omega))]
   exact posM c4 (now _)
theorem Whole_ev {r:List Aj} {q:List Int} (hq:q.length≤1000000) (hr:r.length≤1000000):E0 (fun K=>Cc K r q) (if OkR (-1) r then (sortF (q++alls r),if MayP q then decide (MayP (sortF (q++alls r))) else false) else ([],false)):=by
 refine bnd (congr (fun K _ _ _ _=>clone_eq K q hq) (now _)) ?_
 exact (whole_l1 hq hr 0 (by omega) (-1) q (by omega) (by omega) (by omega)).e1
end Go.XL
end
section
namespace Go.XL
open Go.XM
theorem may_lt {xs:List Int} (h:MayP xs):∀ (d i:Nat),i+d+1<xs.length→xs.getD i 0<xs.getD (i+d+1) 0
 | 0,i,hi=>by
  have:=(h (i+1) (by omega)).2.2 (by omega)
  simpa using this
 | d+1,i,hi=>by
  have h1:=may_lt h d i (by omega)
  have h2:=(h (i+(d+1)+1) (by omega)).2.2 (by omega)
  rw [show i+(d+1)+1-1=i+d+1 by omega] at h2
  omega
theorem mayP_iff (xs:List Int):MayP xs↔xs.Pairwise (·<·)∧∀ x∈xs,0≤x∧x≤15:=by
 constructor
 ·intro h
  refine ⟨List.pairwise_iff_getElem.2 fun i j hi hj hij=>?_,fun x hx=>?_⟩
  ·have:=may_lt h (j-i-1) i (by omega)
   rw [show i+(j-i-1)+1=j by omega,getD_lt hi,getD_lt hj] at this
   exact this
  ·obtain ⟨i,hi,rfl⟩:=List.mem_iff_getElem.1 hx
   have:=h i hi
   rw [← getD_lt (d:=0) hi];exact ⟨this.1,this.2.1⟩
 ·rintro ⟨h1,h2⟩ i hi
  have hm:=h2 _ (getD_mem (d:=0) hi)
  refine ⟨hm.1,hm.2,fun h0=>?_⟩
  have:=List.pairwise_iff_getElem.1 h1 (i-1) i (by omega) hi (by omega)
  rw [getD_lt (show i-1<xs.length by omega),getD_lt hi];exact this
def U16:List Int:=(List.range 16).map fun (k:Nat)=>(k:Int)
def flt (S:List Int):List Int:=U16.filter fun a=>decide (a∈S)
theorem nodup_of_lt {xs:List Int} (h:xs.Pairwise (·<·)):xs.Nodup:=by
 rw [List.nodup_iff_pairwise_ne]
 exact h.imp fun h=>by omega
theorem sort_le (l:List Int):(sortF l).Pairwise (·≤·):=by
 have:=List.pairwise_mergeSort (le:=fun (x y:Int)=>decide (x≤y)) (fun a b c h1 h2=>by simp at *;omega) (fun a b=>by simp;omega) l
 exact this.imp fun h=>by simpa using h
def before (r:List Aj) (i:Nat):Int:=if i=0 then -1 else (r.getD (i-1) default).At+(r.getD (i-1) default).Len
end Go.XL
end
section
namespace Go.XL
open Go.XM
theorem le8 {n c:Nat} (h:n*c≤140737488351232) (hc:8≤c):n≤17592186044416:=by
 have:=Nat.mul_le_mul_left n hc
 omega
theorem ext_getR {xs ys:List Aj} (hl:xs.length=ys.length) (h:∀ j,j<xs.length→xs.getD j default=ys.getD j default):xs=ys:=by
 refine List.ext_getElem hl fun j h1 h2=>?_
 have:=h j h1
 rwa [getD_lt h1,getD_lt h2] at this
theorem eqRun (a b:Aj):(!((a.At == b.At) && ((a.Len == b.Len) && true)))=!decide (a=b):=by
 obtain ⟨a1,a2⟩:=a
 obtain ⟨b1,b2⟩:=b
 show (!((a1 == b1) && ((a2 == b2) && true)))=_
 rw [Bool.eq_iff_iff];simp [Prod.ext_iff]
end Go.XL
end
section
namespace Go.XL
open Go.XM
theorem equal_ev (xs ys:List Int) (h:xs.length≤1000000):E0 (fun K=>A8 K xs ys) (decide (xs=ys)):=by
 unfold A8
 by_cases hl:xs.length=ys.length
 ·have key:∀ i,i≤xs.length→(∀ j,j<i→xs.getD j 0=ys.getD j 0)→E1 (fun K k=>A8.l1 K xs ys k ((xs.length:Nat):Int) (i:Int)) (decide (xs=ys)):=by
   refine upto ?_ ?_
   ·intro hd
    refine step1 (fun _ _ _ _ _=>A8.l1.eq_2 ..) ?_
    exact negD (by omega) (nowE (by rw [ext_getD hl hd];simp))
   ·intro i hi ih hd
    refine step1 (fun _ _ _ _ _=>A8.l1.eq_2 ..) ?_
    refine posD (by omega) (pos (by omega) (pos (by omega) ?_))
    rw [rdN,rdN,w1 (by omega)]
    by_cases e:xs.getD i 0=ys.getD i 0
    ·refine negN e (ih fun j hj=>?_)
     by_cases q:j=i
     ·rw [q];exact e
     ·exact hd j (by omega)
    ·refine posN e (nowE ?_)
     have:¬ xs=ys:=fun h=>e (by rw [h])
     simp [this]
  exact negN (by omega) (key 0 (by omega) (fun j hj=>by omega)).e1
 ·refine posN (by omega) (nowE ?_)
  have:¬ xs=ys:=fun h=>hl (by rw [h])
  simp [this]
end Go.XL
end
section
namespace Go.XL
open Go.XM
theorem in_ev (xs:List Int) (a:Int) (h:xs.length≤1000000):∃ r,E0 (fun K=>Bv K xs a) r∧(0≤r↔a∈xs):=by
 have key:∀ i,i≤xs.length→∃ r,E1 (fun K k=>Bv.l1 K xs a k (i:Int)) r∧(0≤r↔a∈xs.drop i):=by
  refine upto ?_ ?_
  ·refine ⟨-1,?_,by simp⟩
   refine step1 (fun _ _ _ _ _=>Bv.l1.eq_2 ..) ?_
   exact negD (by omega) (now _)
  ·intro i hi ih
   obtain ⟨r,h1,h2⟩:=ih
   by_cases e:xs.getD i 0=a
   ·refine ⟨i,?_,by rw [drop_getD (d:=0) hi,e];simp⟩
    refine step1 (fun _ _ _ _ _=>Bv.l1.eq_2 ..) ?_
    refine posD (by omega) (pos (by omega) ?_)
    rw [rdN]
    exact posE e (now _)
   ·refine ⟨r,?_,by rw [drop_getD (d:=0) hi,h2,List.mem_cons];exact ⟨.inr,fun q=>q.resolve_left (fun q=>e q.symm)⟩⟩
    refine step1 (fun _ _ _ _ _=>Bv.l1.eq_2 ..) ?_
    refine posD (by omega) (pos (by omega) ?_)
    rw [rdN,w1 (by omega)]
    exact negE e h1
 obtain ⟨r,h1,h2⟩:=key 0 (by omega)
 exact ⟨r,h1.e1,by simpa using h2⟩
theorem contains_ev (xs:List Int) (a:Int) (h:xs.length≤1000000):E0 (fun K=>B4 K xs a) (decide (a∈xs)):=by
 have key:∀ i,i≤xs.length→∃ r,E1 (fun K k=>Bb.l1 K xs a k ((xs.length:Nat):Int) (i:Int)) r∧(0≤r↔a∈xs.drop i):=by
  refine upto ?_ ?_
  ·refine ⟨-1,?_,by simp⟩
   refine step1 (fun _ _ _ _ _=>Bb.l1.eq_2 ..) ?_
   exact negD (by omega) (now _)
  ·intro i hi ih
   obtain ⟨r,h1,h2⟩:=ih
   by_cases e:a=xs.getD i 0
   ·refine ⟨i,?_,by rw [drop_getD (d:=0) hi,← e];simp⟩
    refine step1 (fun _ _ _ _ _=>Bb.l1.eq_2 ..) ?_
    refine posD (by omega) (pos (by omega) ?_)
    rw [rdN]
    exact posE e (now _)
   ·refine ⟨r,?_,by rw [drop_getD (d:=0) hi,h2,List.mem_cons];exact ⟨.inr,fun q=>q.resolve_left e⟩⟩
    refine step1 (fun _ _ _ _ _=>Bb.l1.eq_2 ..) ?_
    refine posD (by omega) (pos (by omega) ?_)
    rw [rdN,w1 (by omega)]
    exact negE e h1
 obtain ⟨r,h1,h2⟩:=key 0 (by omega)
 unfold B4 Bb
 refine bnd h1.e1 (nowE ?_)
 exact decide_eq_decide.2 (by simpa using h2)
end Go.XL
end
section
namespace Go.XL
open Go.XM
theorem fdivN (a b:Nat):((a:Int)).fdiv (b:Int)=((a / b:Nat):Int):=(Int.ofNat_fdiv a b).symm
theorem tdivN (a b:Nat):((a:Int)).tdiv (b:Int)=((a / b:Nat):Int):=(Int.ofNat_tdiv a b).symm
theorem tmodN (a b:Nat):((a:Int)).tmod (b:Int)=((a % b:Nat):Int):=(Int.ofNat_tmod a b).symm
theorem u8N {a:Nat} (h:a<256):wr .u8 (a:Int)=(a:Int):=by
 show IntKind.wrap .u8 _=_
 unfold IntKind.wrap
 simp only [IntKind.bits,IntKind.signed]
 simp
 omega
theorem or8 {a b s:Nat} (hb:b<2 ^ s) (ha:a % 2 ^ s=0) (h:a+b<256):ib .or .u8 (a:Int) (b:Int)=((a+b:Nat):Int):=by
 have h1:a ||| b=a+b:=by
  have:=Nat.two_pow_add_eq_or_of_lt hb (a / 2 ^ s)
  rw [Nat.mul_div_cancel' (Nat.dvd_of_mod_eq_zero ha)] at this
  omega
 have h2:(BitVec.ofInt 8 (a:Int) ||| BitVec.ofInt 8 (b:Int)).toNat=a+b:=by
  rw [BitVec.toNat_or]
  simp only [BitVec.ofInt_natCast,BitVec.toNat_ofNat]
  rw [Nat.mod_eq_of_lt (by omega),Nat.mod_eq_of_lt (by omega),h1]
 show IntKind.wrap .u8 ((BitVec.ofInt 8 (a:Int) ||| BitVec.ofInt 8 (b:Int)).toNat:Int)=_
 rw [h2]
 exact u8N h
theorem and1 {a:Nat} (h:a<9223372036854775808):ib .and .i64 (a:Int) 1=((a % 2:Nat):Int):=by
 have h2:(BitVec.ofInt 64 (a:Int) &&& BitVec.ofInt 64 1).toNat=a % 2:=by
  rw [BitVec.toNat_and]
  simp only [BitVec.ofInt_natCast,BitVec.toNat_ofNat]
  rw [show (BitVec.ofInt 64 1).toNat=1 from rfl,Nat.mod_eq_of_lt (by omega),Nat.and_one_is_mod]
 show IntKind.wrap .i64 ((BitVec.ofInt 64 (a:Int) &&& BitVec.ofInt 64 1).toNat:Int)=_
 rw [h2,wr_eq]
 exact w64 (by omega) (by omega)
def Bt (l:List Int):Prop:=∀ x∈l,x=0∨x=1
theorem Bt.nil:Bt []:=by simp [Bt]
theorem Bt.app {a b:List Int} (h:Bt a) (k:Bt b):Bt (a++b):=by
 intro x hx
 rcases List.mem_append.1 hx with hx | hx
 ·exact h x hx
 ·exact k x hx
theorem Bt.one {v:Int} (h:v=0∨v=1):Bt [v]:=by intro x hx;obtain rfl:=List.mem_singleton.1 hx;exact h
theorem Bt.get {l:List Int} (h:Bt l) (i:Nat):l.getD i 0=0∨l.getD i 0=1:=by
 by_cases hi:i<l.length
 ·exact h _ (getD_mem hi)
 ·left;simp [List.getD_eq_getElem?_getD,List.getElem?_eq_none (by omega:l.length≤i)]
theorem gd_ge {l:List Int} {i:Nat} (h:l.length≤i):l.getD i 0=0:=by simp [List.getD_eq_getElem?_getD,List.getElem?_eq_none h]
theorem gd_app {l:List Int} {v:Int} {i:Nat}:(l++[v]).getD i 0=if i<l.length then l.getD i 0 else if i=l.length then v else 0:=by
 simp only [List.getD_eq_getElem?_getD]
 by_cases h:i<l.length
 ·simp [h,List.getElem?_append_left h]
 ·rw [if_neg h,List.getElem?_append_right (by omega)]
  by_cases e:i=l.length
  ·simp [e]
  ·rw [if_neg e,List.getElem?_eq_none (by simp;omega)];rfl
def byt (l:List Int) (j:Nat):Int:=128*l.getD (8*j) 0+64*l.getD (8*j+1) 0+32*l.getD (8*j+2) 0+16*l.getD (8*j+3) 0+8*l.getD (8*j+4) 0+4*l.getD (8*j+5) 0+2*l.getD (8*j+6) 0+l.getD (8*j+7) 0
def byts (l:List Int):List Int:=(List.range ((l.length+7) / 8)).map (byt l)
theorem byts_len (l:List Int):(byts l).length=(l.length+7) / 8:=by simp [byts]
theorem byts_get {l:List Int} {j:Nat} (h:j<(l.length+7) / 8):(byts l).getD j 0=byt l j:=by
 simp [byts,List.getD_eq_getElem?_getD,h]
theorem byt_rng {l:List Int} (h:Bt l) (j:Nat):0≤byt l j∧byt l j≤255:=by
 unfold byt
 rcases h.get (8*j) with h0 | h0 <;> rcases h.get (8*j+1) with h1 | h1 <;> rcases h.get (8*j+2) with h2 | h2 <;> rcases h.get (8*j+3) with h3 | h3 <;>
 rw [h0,h1,h2,h3] <;>
 rcases h.get (8*j+4) with h4 | h4 <;> rcases h.get (8*j+5) with h5 | h5 <;> rcases h.get (8*j+6) with h6 | h6 <;> rcases h.get (8*j+7) with h7 | h7 <;> rw [h4,h5,h6,h7] <;> decide
theorem byt_old {l:List Int} {v:Int} {j:Nat} (h:8*j+7<l.length):byt (l++[v]) j=byt l j:=by
 unfold byt
 simp only [gd_app]
 rw [if_pos (by omega),if_pos (by omega),if_pos (by omega),if_pos (by omega),if_pos (by omega),if_pos (by omega),if_pos (by omega),if_pos (by omega)]
theorem byt_new {l:List Int} {v:Int} {j t:Nat} (hl:l.length=8*j+t) (ht:t<8):byt (l++[v]) j=byt l j+v*2 ^ (7-t):=by
 have e:∀ i,(l++[v]).getD (8*j+i) 0=if i<t then l.getD (8*j+i) 0 else if i=t then v else 0:=by
  intro i
  rw [gd_app,hl]
  by_cases h:i<t
  ·rw [if_pos h,if_pos (by omega)]
  ·rw [if_neg h,if_neg (by omega)]
   by_cases h2:i=t
   ·rw [if_pos h2,if_pos (by omega)]
   ·rw [if_neg h2,if_neg (by omega)]
 have z:∀ i,t≤i→l.getD (8*j+i) 0=0:=fun i hi=>gd_ge (by omega)
 unfold byt
 have e0:=e 0
 have z0:=z 0
 simp only [Nat.add_zero] at e0 z0
 rw [e0,e 1,e 2,e 3,e 4,e 5,e 6,e 7]
 have:t=0∨t=1∨t=2∨t=3∨t=4∨t=5∨t=6∨t=7:=by omega
 rcases this with rfl | rfl | rfl | rfl | rfl | rfl | rfl | rfl
 ·rw [z0 (by omega),z 1 (by omega),z 2 (by omega),z 3 (by omega),z 4 (by omega),z 5 (by omega),z 6 (by omega),z 7 (by omega)];simp;omega
 ·rw [z 1 (by omega),z 2 (by omega),z 3 (by omega),z 4 (by omega),z 5 (by omega),z 6 (by omega),z 7 (by omega)];simp;omega
 ·rw [z 2 (by omega),z 3 (by omega),z 4 (by omega),z 5 (by omega),z 6 (by omega),z 7 (by omega)];simp;omega
 ·rw [z 3 (by omega),z 4 (by omega),z 5 (by omega),z 6 (by omega),z 7 (by omega)];simp;omega
 ·rw [z 4 (by omega),z 5 (by omega),z 6 (by omega),z 7 (by omega)];simp;omega
 ·rw [z 5 (by omega),z 6 (by omega),z 7 (by omega)];simp;omega
 ·rw [z 6 (by omega),z 7 (by omega)];simp;omega
 ·rw [z 7 (by omega)];simp
theorem byt_low {l:List Int} (h:Bt l) {j t:Nat} (hl:l.length=8*j+t) (ht:t<8):∃ a:Nat,byt l j=(a:Int)∧a % 2 ^ (8-t)=0∧a+2 ^ (7-t)<256:=by
 have z:∀ i,t≤i→l.getD (8*j+i) 0=0:=fun i hi=>gd_ge (by omega)
 obtain ⟨r1,r2⟩:=byt_rng h j
 obtain ⟨a,ha⟩:=Int.eq_ofNat_of_zero_le r1
 have z0:=z 0
 simp only [Nat.add_zero] at z0
 have b0:=h.get (8*j)
 have b1:=h.get (8*j+1)
 have b2:=h.get (8*j+2)
 have b3:=h.get (8*j+3)
 have b4:=h.get (8*j+4)
 have b5:=h.get (8*j+5)
 have b6:=h.get (8*j+6)
 refine ⟨a,ha,?_⟩
 unfold byt at ha
 have:t=0∨t=1∨t=2∨t=3∨t=4∨t=5∨t=6∨t=7:=by omega
 rcases this with rfl | rfl | rfl | rfl | rfl | rfl | rfl | rfl
 ·rw [z0 (by omega),z 1 (by omega),z 2 (by omega),z 3 (by omega),z 4 (by omega),z 5 (by omega),z 6 (by omega),z 7 (by omega)] at ha;simp;omega
 ·rw [z 1 (by omega),z 2 (by omega),z 3 (by omega),z 4 (by omega),z 5 (by omega),z 6 (by omega),z 7 (by omega)] at ha;simp;omega
 ·rw [z 2 (by omega),z 3 (by omega),z 4 (by omega),z 5 (by omega),z 6 (by omega),z 7 (by omega)] at ha;simp;omega
 ·rw [z 3 (by omega),z 4 (by omega),z 5 (by omega),z 6 (by omega),z 7 (by omega)] at ha;simp;omega
 ·rw [z 4 (by omega),z 5 (by omega),z 6 (by omega),z 7 (by omega)] at ha;simp;omega
 ·rw [z 5 (by omega),z 6 (by omega),z 7 (by omega)] at ha;simp;omega
 ·rw [z 6 (by omega),z 7 (by omega)] at ha;simp;omega
 ·rw [z 7 (by omega)] at ha;simp;omega
theorem byts_snoc {l:List Int} (h:Bt l) {v j t:Nat} (hv:v<2) (hl:l.length=8*j+t) (ht:t<8) :
  byts (l++[(v:Int)])=((if t=0 then byts l++[0] else byts l)).set j (ib .or .u8 ((if t=0 then byts l++[0] else byts l).getD j 0) (wr .u8 ((v:Int)*2 ^ min (7-t) 8))):=by
 obtain ⟨a,a1,a2,a3⟩:=byt_low h hl ht
 have hp:2 ^ (7-t)*2=2 ^ (8-t):=by rw [← Nat.pow_succ];congr 1;omega
 have hpos:0<2 ^ (7-t):=Nat.two_pow_pos _
 have hvp:v*2 ^ (7-t)≤2 ^ (7-t):=by
  have:v=0∨v=1:=by omega
  rcases this with rfl | rfl <;> omega
 have hget:(if t=0 then byts l++[0] else byts l).getD j 0=(a:Int):=by
  split
  ·rename_i h0
   subst h0
   have:byt l j=0:=by
    unfold byt
    have z:∀ i,l.getD (8*j+i) 0=0:=fun i=>gd_ge (by omega)
    have z0:=z 0
    simp only [Nat.add_zero] at z0
    rw [z0,z 1,z 2,z 3,z 4,z 5,z 6,z 7];rfl
   rw [← a1,this]
   have hlen:=byts_len l
   rw [List.getD_eq_getElem?_getD,List.getElem?_append_right (by omega)]
   rw [hlen,hl,show (8*j+0+7) / 8=j by omega];simp
  ·rw [byts_get (by omega),a1]
 have hor:ib .or .u8 (a:Int) (wr .u8 ((v:Int)*2 ^ min (7-t) 8))=byt (l++[(v:Int)]) j:=by
  rw [byt_new hl ht,a1,show min (7-t) 8=7-t by omega]
  have e1:(v:Int)*2 ^ (7-t)=((v*2 ^ (7-t):Nat):Int):=by push_cast;rfl
  rw [e1,u8N (by omega),or8 (s:=8-t) (by omega) a2 (by omega)]
  push_cast;rfl
 rw [hget,hor]
 have hlen1:(byts (l++[(v:Int)])).length=j+1:=by rw [byts_len];simp [hl];omega
 have hlen2:(if t=0 then byts l++[0] else byts l).length=j+1:=by
  split
  ·simp [byts_len,hl];omega
  ·rw [byts_len,hl];omega
 refine List.ext_getElem (by rw [hlen1,List.length_set,hlen2]) fun i h1 h2=>?_
 have hi:i<j+1:=by omega
 have k1:(byts (l++[(v:Int)]))[i]=byt (l++[(v:Int)]) i:=by simp [byts]
 rw [k1,List.getElem_set]
 by_cases e:j=i
 ·subst e;simp
 ·rw [if_neg e,byt_old (by omega)]
  have k2:i<(byts l).length:=by rw [byts_len];omega
  split
  ·rw [List.getElem_append_left k2];simp [byts]
  ·simp [byts]
end Go.XL
end
section
namespace Go.XL
open Go.XM
def nb (v:Nat):Nat→List Int
 | 0=>[]
 | w+1=>((v / 2 ^ w % 2:Nat):Int)::nb v w
theorem nb_len (v:Nat):∀ w,(nb v w).length=w
 | 0=>rfl
 | w+1=>by simp [nb,nb_len v w]
theorem mod2 (n:Nat):((n % 2:Nat):Int)=0∨((n % 2:Nat):Int)=1:=by omega
theorem nb_Bt (v:Nat):∀ w,Bt (nb v w)
 | 0=>Bt.nil
 | w+1=>by
  intro x hx
  rcases List.mem_cons.1 hx with rfl | hx
  ·exact mod2 _
  ·exact nb_Bt v w x hx
theorem nb_zero:∀ w,nb 0 w=List.replicate w 0
 | 0=>rfl
 | w+1=>by simp [nb,nb_zero w,List.replicate_succ]
def row (l:List Int):B7:=(byts l,(l.length:Int))
def pack (l:List Int):Ao:=(bytesOf (byts l),(l.length:Int))
theorem shrN {v w:Nat} (hv:v<9223372036854775808):((v:Int)).fdiv (2 ^ min ((w:Int)).toNat 64)=((v / 2 ^ w:Nat):Int):=by
 have e:((2:Int) ^ min ((w:Int)).toNat 64)=((2 ^ min w 64:Nat):Int):=by push_cast;rfl
 rw [e,fdivN]
 by_cases h:w≤64
 ·rw [Nat.min_eq_left h]
 ·rw [Nat.min_eq_right (by omega)]
  have h1:2 ^ 64≤2 ^ w:=Nat.pow_le_pow_right (by omega) (by omega)
  rw [Nat.div_eq_of_lt (by omega),Nat.div_eq_of_lt (by omega)]
theorem blen {l:List Int} {j t:Nat} (hl:l.length=8*j+t) (ht:t<8):(if t=0 then byts l++[0] else byts l).length=j+1:=by
 split
 ·simp [byts_len,hl];omega
 ·rw [byts_len,hl];omega
theorem put_j2 {K:Nat} {go:Int→Int→List Int→Option B7} {l:List Int} (h:Bt l) {v w j t:Nat} (hv:v<9223372036854775808) (hl:l.length=8*j+t) (ht:t<8) (hb:l.length≤1099511627776) (hw:w≤1099511627776) :
  A7.j2 K go (l.length:Int) (w:Int) (v:Int) (if t=0 then byts l++[0] else byts l)=go ((w:Int)-1) ((l.length+1:Nat):Int) (byts (l++[((v / 2 ^ w % 2:Nat):Int)])):=by
 have hlen:=blen hl ht
 have f1:wr .i64 (((l.length:Nat):Int).tdiv 8)=(j:Int):=by
  rw [show (8:Int)=((8:Nat):Int) from rfl,tdivN,hl,show (8*j+t) / 8=j by omega];exact w64 (by omega) (by omega)
 have f2:wr .i64 (7-(((l.length:Nat):Int).tmod 8))=((7-t:Nat):Int):=by
  rw [show (8:Int)=((8:Nat):Int) from rfl,tmodN,hl,show (8*j+t) % 8=t by omega,w64 (by omega) (by omega)];omega
 have f3:=shrN (v:=v) (w:=w) hv
 have hle:v / 2 ^ w≤v:=Nat.div_le_self _ _
 have f4:ib .and .i64 ((v / 2 ^ w:Nat):Int) 1=((v / 2 ^ w % 2:Nat):Int):=and1 (by omega)
 have f5:wr .u8 ((v / 2 ^ w % 2:Nat):Int)=((v / 2 ^ w % 2:Nat):Int):=u8N (by omega)
 have f6:(((7-t:Nat):Int)).toNat=7-t:=by omega
 have f7:wr .i64 ((w:Int)-1)=(w:Int)-1:=w64 (by omega) (by omega)
 have f8:wr .i64 (((l.length:Nat):Int)+1)=((l.length+1:Nat):Int):=w1 (by omega)
 unfold A7.j2
 rw [f1,f2,f3,f4,f5,f6,f7,f8,rdN,Int.toNat_natCast]
 rw [if_pos (by decide),if_pos ⟨by omega,by rw [hlen];omega⟩,if_pos (by omega),if_pos (by decide),if_pos (by omega),if_pos ⟨by omega,by rw [hlen];omega⟩]
 rw [← byts_snoc h (by omega) hl ht]
theorem put_ev {v:Nat} (hv:v<9223372036854775808):∀ (w:Nat) (l:List Int),Bt l→l.length+w≤1099511627776→E1 (fun K k=>A7.l1 K (v:Int) k ((w:Int)-1) (l.length:Int) (byts l)) (row (l++nb v w)):=by
 intro w
 induction w with
 | zero =>
  intro l h hb
  refine step1 (fun _ _ _ _ _=>A7.l1.eq_2 ..) ?_
  refine negD (by omega) (nowE ?_)
  simp [nb,row]
 | succ w ih =>
  intro l h hb
  have hm:(((l.length:Nat):Int).tmod 8)=((l.length % 8:Nat):Int):=tmodN _ 8
  have hl:l.length=8*(l.length / 8)+l.length % 8:=by omega
  have ht:l.length % 8<8:=by omega
  have hi:=ih (l++[((v / 2 ^ w % 2:Nat):Int)]) (h.app (Bt.one (mod2 _))) (by simp;omega)
  have hr:row (l++[((v / 2 ^ w % 2:Nat):Int)]++nb v w)=row (l++nb v (w+1)):=by simp [nb]
  rw [hr] at hi
  have hlen:(l++[((v / 2 ^ w % 2:Nat):Int)]).length=l.length+1:=by simp
  rw [hlen] at hi
  rw [show ((w+1:Nat):Int)-1=(w:Int) by omega]
  refine step1 (fun _ _ _ _ _=>A7.l1.eq_2 ..) ?_
  refine posD (by omega) (pos (by decide) ?_)
  rw [hm]
  by_cases h0:l.length % 8=0
  ·refine posE (by omega) (pos ?_ ?_)
   ·rw [byts_len];simp;omega
   ·have hj:=fun K go=>put_j2 (K:=K) (go:=go) h hv hl ht (w:=w) (by omega) (by omega)
    simp only [h0,if_true] at hj
    exact congr (fun K k _ _ _=>hj K _) hi
  ·refine negE (by omega) ?_
   have hj:=fun K go=>put_j2 (K:=K) (go:=go) h hv hl ht (w:=w) (by omega) (by omega)
   simp only [if_neg h0] at hj
   exact congr (fun K k _ _ _=>hj K _) hi
theorem Put_ev {v w:Nat} {l:List Int} (h:Bt l) (hv:v<9223372036854775808) (hb:l.length+w≤1099511627776):E0 (fun K=>A7 K (row l) (v:Int) (w:Int)) (row (l++nb v w)):=by
 have:=put_ev hv w l h hb
 refine congr (fun K _ _ _ _=>?_) this.e1
 show A7.l1 K _ K (wr .i64 ((w:Int)-1)) _ _=_
 rw [w64 (by omega) (by omega)];rfl
theorem bytesOf_size (ns:List Int):(bytesOf ns).size=ns.length:=by
 have key:∀ (ns:List Int) (s:ByteArray),(ns.foldl (fun s n=>s.push (UInt8.ofNat n.toNat)) s).size=s.size+ns.length:=by
  intro ns
  induction ns with
  | nil=>intro s;rfl
  | cons n ns ih=>intro s;rw [List.foldl_cons,ih];simp [ByteArray.size_push];omega
 have:=key ns .empty
 simpa [bytesOf] using this
theorem bytesOf_data (ns:List Int):(bytesOf ns).data.toList=ns.map fun n=>UInt8.ofNat n.toNat:=by
 have key:∀ (ns:List Int) (s:ByteArray),(ns.foldl (fun s n=>s.push (UInt8.ofNat n.toNat)) s).data.toList=s.data.toList++ns.map fun n=>UInt8.ofNat n.toNat:=by
  intro ns
  induction ns with
  | nil=>intro s;simp
  | cons n ns ih=>intro s;rw [List.foldl_cons,ih];simp [ByteArray.push]
 have:=key ns .empty
 simpa [bytesOf] using this
theorem bt_pack {l:List Int} (h:Bt l) {j:Nat} (hj:j<(l.length+7) / 8):bt (bytesOf (byts l)) (j:Int)=byt l j:=by
 obtain ⟨r1,r2⟩:=byt_rng h j
 unfold bt
 rw [bytesOf_data,Int.toNat_natCast,List.getD_eq_getElem?_getD,List.getElem?_map]
 have:(byts l)[j]?=some (byt l j):=by simp [byts,hj]
 rw [this]
 simp
 omega
theorem byt_bit {l:List Int} (h:Bt l) (j t:Nat) (ht:t<8):∃ a:Nat,byt l j=(a:Int)∧a<256∧((a / 2 ^ (7-t) % 2:Nat):Int)=l.getD (8*j+t) 0:=by
 obtain ⟨r1,r2⟩:=byt_rng h j
 obtain ⟨a,ha⟩:=Int.eq_ofNat_of_zero_le r1
 have b0:=h.get (8*j)
 have b1:=h.get (8*j+1)
 have b2:=h.get (8*j+2)
 have b3:=h.get (8*j+3)
 have b4:=h.get (8*j+4)
 have b5:=h.get (8*j+5)
 have b6:=h.get (8*j+6)
 have b7:=h.get (8*j+7)
 refine ⟨a,ha,by omega,?_⟩
 unfold byt at ha
 have:t=0∨t=1∨t=2∨t=3∨t=4∨t=5∨t=6∨t=7:=by omega
 rcases this with rfl | rfl | rfl | rfl | rfl | rfl | rfl | rfl
 ·show ((a / 128 % 2:Nat):Int)=l.getD (8*j) 0;omega
 ·show ((a / 64 % 2:Nat):Int)=l.getD (8*j+1) 0;omega
 ·show ((a / 32 % 2:Nat):Int)=l.getD (8*j+2) 0;omega
 ·show ((a / 16 % 2:Nat):Int)=l.getD (8*j+3) 0;omega
 ·show ((a / 8 % 2:Nat):Int)=l.getD (8*j+4) 0;omega
 ·show ((a / 4 % 2:Nat):Int)=l.getD (8*j+5) 0;omega
 ·show ((a / 2 % 2:Nat):Int)=l.getD (8*j+6) 0;omega
 ·show ((a / 1 % 2:Nat):Int)=l.getD (8*j+7) 0;omega
theorem bit_eq {l:List Int} (h:Bt l) {K i:Nat} (hi:i<l.length) (hb:l.length≤1099511627776):D9 K (pack l) (i:Int)=some (l.getD i 0):=by
 obtain ⟨a,a1,a2,a3⟩:=byt_bit h (i / 8) (i % 8) (by omega)
 have f1:wr .i64 ((i:Int).tdiv 8)=((i / 8:Nat):Int):=by rw [show (8:Int)=((8:Nat):Int) from rfl,tdivN];exact w64 (by omega) (by omega)
 have f2:wr .i64 (7-((i:Int).tmod 8))=((7-i % 8:Nat):Int):=by rw [show (8:Int)=((8:Nat):Int) from rfl,tmodN,w64 (by omega) (by omega)];omega
 have f3:(a:Int).fdiv (2 ^ min (((7-i % 8:Nat):Int)).toNat 8)=((a / 2 ^ (7-i % 8):Nat):Int):=by
  have e:((2:Int) ^ min (((7-i % 8:Nat):Int)).toNat 8)=((2 ^ (7-i % 8):Nat):Int):=by rw [Int.toNat_natCast,Nat.min_eq_left (by omega)];push_cast;rfl
  rw [e,fdivN]
 have hle:a / 2 ^ (7-i % 8)≤a:=Nat.div_le_self _ _
 obtain ⟨q,hq⟩:∃ q,q=a / 2 ^ (7-i % 8):=⟨_,rfl⟩
 rw [← hq] at f3 hle a3
 clear hq
 unfold D9
 have hd:(pack l).Data=bytesOf (byts l):=rfl
 rw [hd,f1,f2,bt_pack h (by omega),a1,f3,w64 (i:=(q:Int)) (by omega) (by omega),and1 (by omega),a3,show 8*(i / 8)+i % 8=i by omega]
 rw [if_pos (by decide),if_pos ⟨by omega,by rw [bytesOf_size,byts_len];omega⟩,if_pos (by decide),if_pos (by omega)]
def ahead:List Int→Option Nat
 | []=>none
 | x::l=>if x=1 then some 0 else (ahead l).map (·+1)
theorem ahead_ev {l:List Int} (h:Bt l) (hb:l.length≤1099511627776) {at_:Nat}:∀ i,i≤l.length→at_≤i→E1 (fun K k=>C2.l1 K (pack l) (at_:Int) k (i:Int)) (match ahead (l.drop i) with | some n=>((i-at_+n:Nat):Int) | none=>-1):=by
 refine upto ?_ ?_
 ·intro _
  refine step1 (fun _ _ _ _ _=>C2.l1.eq_2 ..) ?_
  refine negD (show ¬ ((l.length:Int)<(l.length:Int)) by omega) (nowE ?_)
  rw [List.drop_length];rfl
 ·intro i hi ih hat
  refine step1 (fun _ _ _ _ _=>C2.l1.eq_2 ..) ?_
  refine posD (show ((i:Int)<(l.length:Int)) by omega) ?_
  rw [show (fun (K k:Nat) (_ _ _:Nat)=>(D9 K (pack l) (i:Int)).bind fun r15=>if (r15 == 1)=true then some (wr .i64 ((i:Int)-(at_:Int))) else C2.l1 K (pack l) (at_:Int) k (wr .i64 ((i:Int)+1)))=fun (K k:Nat) (_ _ _:Nat)=>if (l.getD i 0 == 1)=true then some (wr .i64 ((i:Int)-(at_:Int))) else C2.l1 K (pack l) (at_:Int) k (wr .i64 ((i:Int)+1)) from by
   funext K k _ _ _
   rw [bit_eq h hi hb];rfl]
  rw [drop_getD (d:=0) hi]
  by_cases e:l.getD i 0=1
  ·refine posE e (nowE ?_)
   rw [w64 (by omega) (by omega)]
   simp only [ahead,if_pos e]
   omega
  ·refine negE e ?_
   rw [w1 (by omega)]
   refine ofEq (ih (by omega)) ?_
   simp only [ahead,if_neg e]
   cases ahead (l.drop (i+1)) with
   | none=>rfl
   | some n=>simp only [Option.map_some];omega
theorem Ahead_ev {l:List Int} (h:Bt l) (hb:l.length≤1099511627776) {i:Nat} (hi:i≤l.length):E0 (fun K=>C2 K (pack l) (i:Int)) (match ahead (l.drop i) with | some n=>(n:Int) | none=>-1):=by
 refine ofEq (ahead_ev h hb i hi (Nat.le_refl _)).e1 ?_
 cases ahead (l.drop i) with
 | none=>rfl
 | some n=>simp only;omega
end Go.XL
end
section
namespace Go.XL
open Go.XM
def val (l:List Int):Int:=l.foldl (fun v b=>2*v+b) 0
theorem val_snoc (l:List Int) (b:Int):val (l++[b])=2*val l+b:=by simp [val]
theorem val_rng {l:List Int} (h:Bt l):0≤val l∧val l<2 ^ l.length:=by
 have key:∀ (l:List Int) (v:Int),0≤v→Bt l→0≤l.foldl (fun v b=>2*v+b) v∧l.foldl (fun v b=>2*v+b) v<(v+1)*2 ^ l.length:=by
  intro l
  induction l with
  | nil=>intro v hv _;simp;omega
  | cons x l ih =>
   intro v hv h
   have hx:=h x List.mem_cons_self
   obtain ⟨a1,a2⟩:=ih (2*v+x) (by omega) (fun y hy=>h y (List.mem_cons_of_mem _ hy))
   refine ⟨a1,Int.lt_of_lt_of_le a2 ?_⟩
   rw [List.length_cons,Int.pow_succ,← Int.mul_assoc,Int.mul_right_comm]
   exact Int.mul_le_mul_of_nonneg_right (by omega) (by have:(0:Int)<2 ^ l.length:=Int.pow_pos (by decide);omega)
 have:=key l 0 (by omega) h
 simpa [val] using this
theorem or64 {a b:Nat} (hb:b<2) (ha:a % 2=0) (h:a+b<9223372036854775808):ib .or .i64 (a:Int) (b:Int)=((a+b:Nat):Int):=by
 have h1:a ||| b=a+b:=by
  have:=Nat.two_pow_add_eq_or_of_lt (i:=1) (by simpa using hb) (a / 2)
  simp only [Nat.pow_one] at this
  rw [Nat.mul_div_cancel' (Nat.dvd_of_mod_eq_zero ha)] at this
  omega
 have h2:(BitVec.ofInt 64 (a:Int) ||| BitVec.ofInt 64 (b:Int)).toNat=a+b:=by
  rw [BitVec.toNat_or]
  simp only [BitVec.ofInt_natCast,BitVec.toNat_ofNat]
  rw [Nat.mod_eq_of_lt (by omega),Nat.mod_eq_of_lt (by omega),h1]
 show IntKind.wrap .i64 ((BitVec.ofInt 64 (a:Int) ||| BitVec.ofInt 64 (b:Int)).toNat:Int)=_
 rw [h2,wr_eq]
 exact w64 (by omega) (by omega)
theorem or1 {v b:Int} (h0:0≤v) (h1:v<4611686018427387904) (hb:b=0∨b=1):ib .or .i64 (wr .i64 (v*2 ^ min ((1:Int)).toNat 64)) b=2*v+b:=by
 have e:v*2 ^ min ((1:Int)).toNat 64=2*v:=by show v*2 ^ 1=_;omega
 rw [e,w64 (by omega) (by omega)]
 obtain ⟨n,rfl⟩:=Int.eq_ofNat_of_zero_le h0
 have:=or64 (a:=2*n) (b:=b.toNat) (by omega) (by omega) (by omega)
 rcases hb with rfl | rfl
 ·simpa using this
 ·simpa using this
theorem look_ev {l:List Int} (h:Bt l) (hb:l.length≤1099511627776) {at_ w:Nat} (hw:at_+w≤l.length) (hw2:w≤60):∀ i,i≤w→E1 (fun K k=>C8.l1 K (pack l) (at_:Int) (w:Int) k (val ((l.drop at_).take i)) (i:Int)) (val ((l.drop at_).take w),true):=by
 refine upto ?_ ?_
 ·refine step1 (fun _ _ _ _ _=>C8.l1.eq_2 ..) ?_
  exact negD (by omega) (now _)
 ·intro i hi ih
  have hB:Bt ((l.drop at_).take i):=fun x hx=>h x (List.mem_of_mem_drop (List.mem_of_mem_take hx))
  obtain ⟨v0,v1⟩:=val_rng hB
  have hlen:((l.drop at_).take i).length=i:=by simp;omega
  rw [hlen] at v1
  have hp:(2:Int) ^ i≤2 ^ 60:=by
   have:2 ^ i≤2 ^ 60:=Nat.pow_le_pow_right (by omega) (by omega)
   exact_mod_cast this
  have hp2:(2:Int) ^ 60=1152921504606846976:=by decide
  refine step1 (fun _ _ _ _ _=>C8.l1.eq_2 ..) ?_
  refine posD (by omega) (pos (by decide) ?_)
  have e1:wr .i64 ((at_:Int)+(i:Int))=((at_+i:Nat):Int):=by rw [w64 (by omega) (by omega)];omega
  refine congr (fun K k _ _ _=>?_) ih
  show (D9 K (pack l) (wr .i64 ((at_:Int)+(i:Int)))).bind _=_
  rw [e1,bit_eq h (by omega) hb]
  show C8.l1 K (pack l) (at_:Int) (w:Int) k _ _=_
  rw [or1 v0 (by omega) (h.get _),w1 (by omega)]
  have:(l.drop at_).take (i+1)=(l.drop at_).take i++[l.getD (at_+i) 0]:=by
   rw [take_getD (d:=0) (by simp;omega),show (l.drop at_).getD i 0=l.getD (at_+i) 0 by simp [List.getD_eq_getElem?_getD]]
  rw [this,val_snoc]
theorem Look_ev {l:List Int} (h:Bt l) (hb:l.length≤1099511627776) {at_ w:Nat} (hat:at_≤l.length) (hw2:w≤60):E0 (fun K=>C8 K (pack l) (at_:Int) (w:Int)) (if at_+w≤l.length then (val ((l.drop at_).take w),true) else (0,false)):=by
 have hs:wr .i64 ((pack l).N-(at_:Int))=((l.length-at_:Nat):Int):=by show wr .i64 ((l.length:Int)-(at_:Int))=_;rw [w64 (by omega) (by omega)];omega
 refine congr (f:=fun K _ _ _ _=>if decide ((at_:Int) > (l.length:Int))=true then some (0,false) else if decide ((w:Int) > ((l.length-at_:Nat):Int))=true then some (0,false) else C8.l1 K (pack l) (at_:Int) (w:Int) K (0:Int) (0:Int)) (fun K _ _ _ _=>by unfold C8;rw [hs];rfl) ?_
 refine negD (by omega) ?_
 by_cases e:at_+w≤l.length
 ·rw [if_pos e]
  refine negD (by omega) ?_
  exact (look_ev h hb e hw2 0 (by omega)).e1
 ·rw [if_neg e]
  exact posD (by omega) (now _)
def rg (l:List Int) (at_:Nat):Option (Int × Nat):=match ahead (l.drop at_) with
 | none=>none
 | some n=>if n≤30∧at_+n+(n+1)≤l.length∧val ((l.drop (at_+n)).take (n+1))≤1073741824 then some (val ((l.drop (at_+n)).take (n+1)),at_+n+(n+1)) else none
theorem ahead_lt:∀ {l:List Int} {n:Nat},ahead l=some n→n<l.length
 | [],n,h=>by cases h
 | x::l,n,h=>by
  simp only [ahead] at h
  split at h
  ·cases h;simp
  ·rw [Option.map_eq_some_iff] at h
   obtain ⟨m,hm,rfl⟩:=h
   have:=ahead_lt hm
   simp;omega
theorem look_r {l:List Int} (h:Bt l) (hb:l.length≤1099511627776) {at_ w:Nat} (hat:at_≤l.length) (hw2:w≤60):E0 (fun K=>Ca K ((pack l,(at_:Int),false):Bo) (w:Int))
  (if at_+w≤l.length then (val ((l.drop at_).take w),((pack l,((at_+w:Nat):Int),false):Bo)) else (0,((pack l,(at_:Int),true):Bo))):=by
 refine bnd (Look_ev h hb hat hw2) ?_
 refine negB rfl ?_
 by_cases e:at_+w≤l.length
 ·rw [if_pos e,if_pos e]
  refine negB rfl (nowE ?_)
  show (_,(pack l,wr .i64 ((at_:Int)+(w:Int)),false))=_
  rw [w64 (by omega) (by omega)]
  rfl
 ·rw [if_neg e,if_neg e]
  exact pos rfl (now _)
theorem look_bad {l:List Int} (h:Bt l) (hb:l.length≤1099511627776) {at_ w:Nat} (hat:at_≤l.length) (hw2:w≤60):E0 (fun K=>Ca K ((pack l,(at_:Int),true):Bo) (w:Int)) (0,((pack l,(at_:Int),true):Bo)) :=
 bnd (Look_ev h hb hat hw2) (pos rfl (now _))
theorem zeros_r {l:List Int} (h:Bt l) (hb:l.length≤1099511627776) {at_:Nat} (hat:at_≤l.length):E0 (fun K=>Cw K ((pack l,(at_:Int),false):Bo) 30)
  (match ahead (l.drop at_) with
  | none=>(0,((pack l,(at_:Int),true):Bo))
  | some n=>if n≤30 then ((n:Int),((pack l,((at_+n:Nat):Int),false):Bo)) else (0,((pack l,(at_:Int),true):Bo))):=by
 have hz:=Ahead_ev h hb hat
 cases hah:ahead (l.drop at_) with
 | none =>
  rw [hah] at hz
  exact bnd hz (negB rfl (posD (by decide) (now _)))
 | some n =>
  rw [hah] at hz
  have hn:=ahead_lt hah
  rw [List.length_drop] at hn
  by_cases h30:n≤30
  ·simp only [if_pos h30]
   refine bnd hz (negB rfl (negD (by simp) (negD (by simp;omega) (nowE ?_))))
   show (_,(pack l,wr .i64 ((at_:Int)+(n:Int)),false))=_
   rw [w64 (by omega) (by omega)]
   rfl
  ·simp only [if_neg h30]
   exact bnd hz (negB rfl (negD (by simp) (posD (by simp;omega) (now _))))
theorem gamma_r {l:List Int} (h:Bt l) (hb:l.length≤1099511627776) {at_:Nat} (hat:at_≤l.length):∃ a:Int,E0 (fun K=>Cn K ((pack l,(at_:Int),false):Bo))
  (match ahead (l.drop at_) with
  | none=>(0,((pack l,a,true):Bo))
  | some n=>if n≤30∧at_+n+(n+1)≤l.length then (val ((l.drop (at_+n)).take (n+1)),((pack l,((at_+n+(n+1):Nat):Int),false):Bo)) else (0,((pack l,a,true):Bo))):=by
 have hz:=zeros_r h hb hat
 have e1:wr .i64 ((0:Int)+1)=((1:Nat):Int):=w64 (by decide) (by decide)
 cases hah:ahead (l.drop at_) with
 | none =>
  rw [hah] at hz
  refine ⟨at_,bnd hz ?_⟩
  simp only [e1]
  exact bnd (look_bad h hb hat (by omega)) (now _)
 | some n =>
  rw [hah] at hz
  have hn:=ahead_lt hah
  rw [List.length_drop] at hn
  by_cases h30:n≤30
  ·simp only [if_pos h30] at hz
   refine ⟨((at_+n:Nat):Int),bnd hz ?_⟩
   simp only
   rw [w1 (by omega)]
   have hl:=look_r h hb (at_:=at_+n) (by omega) (w:=n+1) (by omega)
   by_cases e:at_+n+(n+1)≤l.length
   ·rw [if_pos e] at hl
    rw [if_pos ⟨h30,e⟩]
    exact bnd hl (now _)
   ·rw [if_neg e] at hl
    rw [if_neg (fun k=>e k.2)]
    exact bnd hl (now _)
  ·simp only [if_neg h30] at hz
   refine ⟨at_,bnd hz ?_⟩
   simp only [e1]
   rw [if_neg (fun k=>h30 k.1)]
   exact bnd (look_bad h hb hat (by omega)) (now _)
theorem Read_ev {l:List Int} (h:Bt l) (hb:l.length≤1099511627776) {at_:Nat} (hat:at_≤l.length):E0 (fun K=>Cb K (pack l) (at_:Int) 2)
  (match rg l at_ with
  | some (v,n)=>(v,(n:Int),true)
  | none=>(0,0,false)):=by
 obtain ⟨a,hg⟩:=gamma_r h hb hat
 refine congr (f:=fun K _ _ _ _=>(Cn K ((pack l,(at_:Int),false):Bo)).bind fun r27=>Cb.j1 K r27.1 r27.2.b.Data r27.2.b.N r27.2.at_ r27.2.bad) (fun K _ _ _ _=>rfl) ?_
 refine bnd hg ?_
 unfold rg
 have hj:∀ (K:Nat) (n:Int) (d:ByteArray) (m a:Int) (bad:Bool),Cb.j1 K n d m a bad=some (if bad=false∧n≤1073741824 then (n,a,true) else (0,0,false)):=by
  intro K n d m a bad
  unfold Cb.j1
  cases bad with
  | true=>rfl
  | false =>
   by_cases e:n > 1073741824
   ·rw [if_neg (by decide),if_pos (decide_eq_true e),if_neg (fun k=>by omega)]
   ·rw [if_neg (by decide),if_neg (by simpa using e),if_pos ⟨rfl,by omega⟩]
 cases hah:ahead (l.drop at_) with
 | none=>refine nowE ?_ |> congr (fun K _ _ _ _=>hj ..);rfl
 | some n =>
  simp only
  by_cases e:n≤30∧at_+n+(n+1)≤l.length
  ·rw [if_pos e]
   refine congr (fun K _ _ _ _=>hj ..) (nowE ?_)
   by_cases e2:val ((l.drop (at_+n)).take (n+1))≤1073741824
   ·rw [if_pos ⟨rfl,e2⟩,if_pos ⟨e.1,e.2,e2⟩]
   ·rw [if_neg (fun k=>e2 k.2),if_neg (fun k=>e2 k.2.2)]
  ·rw [if_neg e,if_neg (fun k=>e ⟨k.1,k.2.1⟩)]
   refine congr (fun K _ _ _ _=>hj ..) (nowE rfl)
end Go.XL
end
section
namespace Go.XL
open Go.XM
theorem step0 {α:Type} {f g:Nat→Nat→Nat→Nat→Nat→Option α} {r:α} (e:∀ x y z u v,g (x+1) y z u v=f x y z u v) (h:Ev f r):Ev g r:=by
 obtain ⟨m,h⟩:=h
 refine ⟨m+1,fun x y z u v a b c d k=>?_⟩
 obtain ⟨x,rfl⟩:∃ n,x=n+1:=⟨x-1,by omega⟩
 rw [e];exact h x y z u v (by omega) (by omega) (by omega) (by omega) (by omega)
def gam (n:Nat):List Int:=nb 0 (Nat.log2 n)++nb n (Nat.log2 n+1)
theorem gam_Bt (n:Nat):Bt (gam n):=(nb_Bt _ _).app (nb_Bt _ _)
theorem gam_len (n:Nat):(gam n).length=2*Nat.log2 n+1:=by simp [gam,nb_len];omega
theorem log_all:(List.range 256).all (fun n=>n == 0 || Dw 0 (n:Int) == some ((Nat.log2 n:Nat):Int))=true:=by decide +kernel
theorem log_eq {K n:Nat} (h0:0<n) (h:n<256):Dw K (n:Int)=some ((Nat.log2 n:Nat):Int):=by
 have h1:=List.all_eq_true.1 log_all n (List.mem_range.2 h)
 simp only [Bool.or_eq_true,beq_iff_eq] at h1
 have h2:Dw 0 (n:Int)=some ((Nat.log2 n:Nat):Int):=h1.resolve_left (by omega)
 rw [← h2];rfl
theorem lg8 {n:Nat} (h:n<256):Nat.log2 n≤7:=by
 by_cases h0:n=0
 ·subst h0;decide
 ·have:=(Nat.log2_lt h0 (k:=8)).2 (by simpa using h);omega
theorem Lay_ev {n:Nat} {l:List Int} (h:Bt l) (h0:0<n) (hn:n<256) (hb:l.length≤1099511000000):E0 (fun K=>Ck K (row l) 2 (n:Int)) (row (l++gam n)):=by
 have hl:=lg8 hn
 refine step0 (f:=fun K _ _ _ _=>(Dw K (n:Int)).bind fun r60=>(A7 K (row l) 0 r60).bind fun r61=>(Dw K (n:Int)).bind fun r65=>(A7 K r61 (n:Int) (wr .i64 (r65+1))).bind fun r67=>some r67) (fun _ _ _ _ _=>rfl) ?_
 refine bnd (a:=((Nat.log2 n:Nat):Int)) (congr (fun K _ _ _ _=>log_eq h0 hn) (now _)) ?_
 refine bnd (a:=row (l++nb 0 (Nat.log2 n))) (Put_ev (v:=0) h (by omega) (by omega)) ?_
 refine bnd (a:=((Nat.log2 n:Nat):Int)) (congr (fun K _ _ _ _=>log_eq h0 hn) (now _)) ?_
 rw [w1 (by omega)]
 refine bnd (a:=row (l++gam n)) ?_ (now _)
 refine ofEq (Put_ev (v:=n) (w:=Nat.log2 n+1) (h.app (nb_Bt 0 _)) (by omega) (by simp [nb_len];omega)) ?_
 simp [gam]
end Go.XL
end
section
namespace Go.XL
open Go.XM
theorem rlog_ev:∀ (n:Nat) (k:Nat),n<9223372036854775808→k+Nat.log2 n≤1000→E1 (fun K j=>Aw.l1 K j (n:Int) (k:Int)) (((k+Nat.log2 n:Nat):Int)):=by
 intro n
 induction n using Nat.strongRecOn with
 | _ n ih =>
  intro k hn hk
  by_cases h1:1<n
  ·have hlt:n / 2<n:=Nat.div_lt_self (by omega) (by omega)
   have hlog:Nat.log2 n=Nat.log2 (n / 2)+1:=by rw [Nat.log2_def,if_pos (by omega)]
   refine step1 (fun _ _ _ _ _=>Aw.l1.eq_2 ..) ?_
   refine posD (by omega) (pos (by decide) ?_)
   have e:(n:Int).fdiv (2 ^ min ((1:Int)).toNat 64)=((n / 2:Nat):Int):=by
    show (n:Int).fdiv ((2:Nat):Int)=_
    exact fdivN n 2
   rw [e,w1 (by omega)]
   refine ofEq (ih (n / 2) hlt (k+1) (by omega) (by omega)) ?_
   rw [hlog];congr 1;omega
  ·refine step1 (fun _ _ _ _ _=>Aw.l1.eq_2 ..) ?_
   refine negD (by omega) (nowE ?_)
   have:Nat.log2 n=0:=by
    have:n=0∨n=1:=by omega
    rcases this with rfl | rfl <;> decide
   rw [this];rfl
theorem lg62 {n:Nat} (h:n<4611686018427387904):Nat.log2 n≤61:=by
 by_cases h0:n=0
 ·subst h0;decide
 ·have:=(Nat.log2_lt h0 (k:=62)).2 (by simpa using h);omega
theorem Rlog_ev {n:Nat} (h:n<4611686018427387904):E0 (fun K=>Aw K (n:Int)) ((Nat.log2 n:Nat):Int):=by
 have:=lg62 h
 have e:=rlog_ev n 0 (by omega) (by omega)
 rw [Nat.zero_add] at e
 exact e.e1
theorem rput_ev {v:Nat} (hv:v<9223372036854775808):∀ (w:Nat) (l:List Int),l.length+w≤1099511627776→E1 (fun K k=>Ak.l1 K (v:Int) k ((w:Int)-1) l) (l++nb v w):=by
 intro w
 induction w with
 | zero =>
  intro l hb
  refine step1 (fun _ _ _ _ _=>Ak.l1.eq_2 ..) ?_
  exact negD (by omega) (nowE (by simp [nb]))
 | succ w ih =>
  intro l hb
  have hle:v / 2 ^ w≤v:=Nat.div_le_self _ _
  have f3:=shrN (v:=v) (w:=w) hv
  have f4:ib .and .i64 ((v / 2 ^ w:Nat):Int) 1=((v / 2 ^ w % 2:Nat):Int):=and1 (by omega)
  have f5:wr .u8 ((v / 2 ^ w % 2:Nat):Int)=((v / 2 ^ w % 2:Nat):Int):=u8N (by omega)
  have hi:=ih (l++[((v / 2 ^ w % 2:Nat):Int)]) (by simp;omega)
  rw [show ((w+1:Nat):Int)-1=(w:Int) by omega]
  refine step1 (fun _ _ _ _ _=>Ak.l1.eq_2 ..) ?_
  rw [f3,f4,f5]
  refine posD (by omega) (pos (by omega) (pos ?_ ?_))
  ·clear f3 f4 f5 hi hle;simp;omega
  ·rw [w64 (i:=(w:Int)-1) (by omega) (by omega)]
   refine ofEq hi ?_
   simp [nb]
theorem RPut_ev {v w:Nat} {l:List Int} (hv:v<9223372036854775808) (hb:l.length+w≤1099511627776):E0 (fun K=>Ak K l (v:Int) (w:Int)) (l++nb v w):=by
 refine congr (fun K _ _ _ _=>?_) (rput_ev hv w l hb).e1
 show Ak.l1 K _ K (wr .i64 ((w:Int)-1)) _=_
 rw [w64 (by omega) (by omega)]
theorem RWrite_ev {n:Nat} {l:List Int} (hn:n<4611686018427387904) (hb:l.length≤1099511000000):E0 (fun K=>Ag K l 2 (n:Int)) (l++gam n):=by
 have hl:=lg62 hn
 refine step0 (f:=fun K _ _ _ _=>(Aw K (n:Int)).bind fun r31=>(Ak K l 0 r31).bind fun r32=>(Aw K (n:Int)).bind fun r35=>(Ak K r32 (n:Int) (wr .i64 (r35+1))).bind fun r37=>some r37) (fun _ _ _ _ _=>rfl) ?_
 refine bnd (Rlog_ev hn) ?_
 refine bnd (a:=l++nb 0 (Nat.log2 n)) (RPut_ev (v:=0) (by omega) (by omega)) ?_
 refine bnd (Rlog_ev hn) ?_
 rw [w1 (by omega)]
 refine bnd (a:=l++gam n) ?_ (now _)
 refine ofEq (RPut_ev (v:=n) (w:=Nat.log2 n+1) (by omega) (by simp [nb_len];omega)) ?_
 simp [gam]
end Go.XL
end
section
namespace Go.XL
open Go.XM
theorem val_cons (x:Int) (l:List Int):val (x::l)=x*2 ^ l.length+val l:=by
 have key:∀ (l:List Int) (v:Int),l.foldl (fun v b=>2*v+b) v=v*2 ^ l.length+l.foldl (fun v b=>2*v+b) 0:=by
  intro l
  induction l with
  | nil=>intro v;simp
  | cons y l ih =>
   intro v
   rw [List.foldl_cons,List.foldl_cons,ih (2*v+y),ih (2*0+y),List.length_cons,Int.pow_succ]
   have:(2*v+y)*2 ^ l.length=v*(2 ^ l.length*2)+(2*0+y)*2 ^ l.length:=by
    rw [Int.add_mul,Int.mul_comm 2 v,Int.mul_assoc,Int.mul_comm 2 (2 ^ l.length)];simp
   rw [this,Int.add_assoc]
 show (x::l).foldl _ 0=_
 rw [List.foldl_cons,key]
 simp [val]
theorem val_nb (n:Nat):∀ w,val (nb n w)=((n % 2 ^ w:Nat):Int)
 | 0=>by simp [nb,val,Nat.mod_one]
 | w+1=>by
  rw [nb,val_cons,nb_len,val_nb n w,Nat.mod_pow_succ]
  push_cast
  rw [Int.mul_comm,Int.add_comm]
theorem gam_eq {n:Nat} (h:0<n):gam n=List.replicate (Nat.log2 n) 0++1::nb n (Nat.log2 n):=by
 have h1:2 ^ Nat.log2 n≤n:=Nat.log2_self_le (by omega)
 have h2:n<2 ^ (Nat.log2 n+1):=Nat.lt_log2_self
 have h3:n / 2 ^ Nat.log2 n=1:=by
  rw [Nat.pow_succ] at h2
  exact Nat.div_eq_of_lt_le (by omega) (by omega)
 rw [gam,nb_zero]
 simp only [nb,h3]
 rfl
theorem ahead_rep (r:List Int):∀ k,ahead (List.replicate k 0++1::r)=some k
 | 0=>rfl
 | k+1=>by
  rw [List.replicate_succ,List.cons_append,ahead,if_neg (by decide),ahead_rep r k];rfl
theorem rg_gam {n:Nat} (h:0<n) (hn:n≤1073741824) (a b:List Int):rg (a++gam n++b) a.length=some ((n:Int),(a++gam n).length):=by
 have hl:Nat.log2 n≤30:=by
  have:=(Nat.log2_lt (by omega:n≠0) (k:=31)).2 (by omega);omega
 have h2:n<2 ^ (Nat.log2 n+1):=Nat.lt_log2_self
 have hlen:=gam_len n
 unfold rg
 rw [List.append_assoc,List.drop_left,gam_eq h,List.append_assoc,List.cons_append,ahead_rep]
 have e:(a++(List.replicate (Nat.log2 n) 0++1::(nb n (Nat.log2 n)++b))).drop (a.length+Nat.log2 n)=1::(nb n (Nat.log2 n)++b):=by
  have h1:(a++List.replicate (Nat.log2 n) (0:Int)).length=a.length+Nat.log2 n:=by simp
  rw [← List.append_assoc,← h1,List.drop_left]
 have et:(1::(nb n (Nat.log2 n)++b)).take (Nat.log2 n+1)=1::nb n (Nat.log2 n):=by
  rw [List.take_succ_cons]
  have:(nb n (Nat.log2 n)).length=Nat.log2 n:=nb_len _ _
  rw [List.take_append_of_le_length (by omega),List.take_of_length_le (by omega)]
 have ev:val (1::nb n (Nat.log2 n))=(n:Int):=by
  have h1:2 ^ Nat.log2 n≤n:=Nat.log2_self_le (by omega)
  rw [val_cons,nb_len,val_nb,Nat.mod_eq_sub_mod h1,Nat.mod_eq_of_lt (by rw [Nat.pow_succ] at h2;omega)]
  have:(1:Int)*2 ^ Nat.log2 n=((2 ^ Nat.log2 n:Nat):Int):=by simp
  rw [this];omega
 simp only
 rw [e,et,ev,if_pos ⟨hl,by simp [nb_len];omega,by omega⟩]
 congr 2
 simp [nb_len];omega
theorem reads {n:Nat} (h:0<n) (hn:n≤1073741824) {a b:List Int} (ha:Bt a) (hb:Bt b) (hl:(a++gam n++b).length≤1099511627776):E0 (fun K=>Cb K (pack (a++gam n++b)) (a.length:Int) 2) ((n:Int),((a++gam n).length:Int),true):=by
 have:=Read_ev (l:=a++gam n++b) ((ha.app (gam_Bt n)).app hb) hl (at_:=a.length) (by simp)
 rw [rg_gam h hn a b] at this
 exact this
def gams (l:List Nat):List Int:=l.flatMap gam
theorem gams_cons (n:Nat) (l:List Nat):gams (n::l)=gam n++gams l:=by simp [gams]
theorem gams_app (l m:List Nat):gams (l++m)=gams l++gams m:=by simp [gams]
theorem gams_Bt (l:List Nat):Bt (gams l):=by
 intro x hx
 simp only [gams,List.mem_flatMap] at hx
 obtain ⟨n,_,hx⟩:=hx
 exact gam_Bt n x hx
theorem gams_len:∀ (l:List Nat),(∀ n∈l,n<256)→(gams l).length≤15*l.length
 | [],_=>by simp [gams]
 | n::l,h=>by
  have h1:=gams_len l (fun m hm=>h m (List.mem_cons_of_mem _ hm))
  have h2:=lg8 (h n List.mem_cons_self)
  rw [gams_cons,List.length_append,gam_len,List.length_cons]
  omega
def fold (z:Int):Nat:=if z<0 then (-2*z-1).toNat else (2*z).toNat
def unf (n:Int):Int:=if n % 2=1 then -((n+1) / 2) else n / 2
theorem unf_fold (z:Int):unf (fold z:Int)=z:=by unfold unf fold;split <;> split <;> omega
theorem fold_eq {K:Nat} {z:Int} (h:-1000≤z) (h2:z≤1000):D8 K z=some (fold z:Int):=by
 unfold D8 fold
 by_cases c:z<0
 ·rw [if_pos (decide_eq_true c),if_pos c,w64 (i:=-2*z) (by omega) (by omega),w64 (by omega) (by omega)]
  congr 1;omega
 ·rw [if_neg (by simpa using c),if_neg c,w64 (by omega) (by omega)]
  congr 1;omega
theorem unfold_eq {K:Nat} {n:Nat} (h:n≤1073741824):Dk K (n:Int)=some (unf n):=by
 unfold Dk unf
 have em:((n:Int).tmod 2)=((n % 2:Nat):Int):=(Int.ofNat_tmod n 2).symm
 have ed:((n:Int).tdiv 2)=((n / 2:Nat):Int):=(Int.ofNat_tdiv n 2).symm
 rw [em,ed,if_pos (by decide)]
 by_cases c:n % 2=1
 ·rw [if_pos (by simp [c]),if_pos (by decide),if_pos (by omega),w64 (i:=(n:Int)+1) (by omega) (by omega),w64 (i:=0-((n:Int)+1)) (by omega) (by omega)]
  have:(0-((n:Int)+1)).tdiv 2=-(((n:Int)+1) / 2):=by
   rw [Int.zero_sub,Int.neg_tdiv]
   congr 1
  rw [this,w64 (by omega) (by omega)]
 ·rw [if_neg (by simp;omega),if_pos (by decide),if_neg (by omega),w64 (by omega) (by omega)]
  congr 1
def dif:Int→List Int→List Nat
 | _,[]=>[]
 | p,x::l=>(x-p).toNat::dif x l
def stp (v:Int):List Int→List Nat
 | []=>[]
 | x::l=>(fold (x-v)+1)::dif x l
theorem dif_len:∀ (p:Int) (l:List Int),(dif p l).length=l.length
 | _,[]=>rfl
 | p,x::l=>by simp [dif,dif_len x l]
theorem stp_len (v:Int) (l:List Int):(stp v l).length=l.length:=by cases l <;> simp [stp,dif_len]
theorem dif_get:∀ (p:Int) (l:List Int) (i:Nat),i<l.length→(dif p l).getD i 0=(l.getD i 0-(if i=0 then p else l.getD (i-1) 0)).toNat
 | _,[],i,h=>by simp at h
 | p,x::l,0,h=>by simp [dif]
 | p,x::l,i+1,h=>by
  have:=dif_get x l i (by simpa using h)
  simp only [dif,List.getD_cons_succ,this]
  cases i with
  | zero=>simp
  | succ i=>simp
theorem stp_get (v:Int) {l:List Int} {i:Nat} (h:i<l.length):(stp v l).getD i 0=if i=0 then fold (l.getD 0 0-v)+1 else (l.getD i 0-l.getD (i-1) 0).toNat:=by
 cases l with
 | nil=>simp at h
 | cons x l =>
  cases i with
  | zero=>simp [stp]
  | succ i =>
   have:=dif_get x l i (by simpa using h)
   simp only [stp,List.getD_cons_succ,this]
   rw [if_neg (show ¬ i+1=0 by omega)]
   cases i with
   | zero=>simp
   | succ i=>simp
def gap (v:Int) (l:List Int):List Int:=gams ((l.length+1)::stp v l)
theorem stp_rng {v:Int} {l:List Int} (h:MayP l) (hv:0≤v) (hv2:v≤15) {i:Nat} (hi:i<l.length):0<(stp v l).getD i 0∧(stp v l).getD i 0<256:=by
 rw [stp_get v hi]
 obtain ⟨_,h2⟩:=(mayP_iff _).1 h
 have a:=h2 _ (getD_mem (d:=0) hi)
 split
 ·rename_i e;subst e
  unfold fold;split <;> omega
 ·have b:=(h i hi).2.2 (by omega)
  have c:=h2 _ (getD_mem (d:=0) (show i-1<l.length by omega))
  omega
theorem stp_small {v:Int} {l:List Int} (h:MayP l) (hv:0≤v) (hv2:v≤15):∀ n∈stp v l,0<n∧n<256:=by
 intro n hn
 obtain ⟨i,hi,rfl⟩:=List.mem_iff_getElem.1 hn
 rw [stp_len] at hi
 have:=stp_rng h hv hv2 hi
 rwa [getD_lt (by rw [stp_len];exact hi)] at this
theorem gap_Bt (v:Int) (l:List Int):Bt (gap v l):=gams_Bt _
theorem gapsLay_ev {v:Int} {l b:List Int} (h:MayP l) (hv:0≤v) (hv2:v≤15) (hb:Bt b) (hlen:b.length≤1099510000000):E0 (fun K=>Dg K (row b) v l) (row (b++gap v l)):=by
 have hl:=h.len
 obtain ⟨_,h2⟩:=(mayP_iff _).1 h
 have hsm:=stp_small h hv hv2
 have key:∀ i,i≤l.length→E1 (fun K k=>Dg.l1 K v l k (l.length:Int) (i:Int) ((b++gams ((l.length+1)::(stp v l).take i)).length:Int) (byts (b++gams ((l.length+1)::(stp v l).take i)))) (row (b++gap v l)):=by
  refine upto ?_ ?_
  ·refine step1 (fun _ _ _ _ _=>Dg.l1.eq_2 ..) ?_
   refine negD (by omega) (nowE ?_)
   rw [List.take_of_length_le (by rw [stp_len];omega)];rfl
  ·intro i hi ih
   refine step1 (fun _ _ _ _ _=>Dg.l1.eq_2 ..) ?_
   obtain ⟨s1,s2⟩:=stp_rng h hv hv2 hi
   have hB:Bt (b++gams ((l.length+1)::(stp v l).take i)):=hb.app (gams_Bt _)
   have hB2:(b++gams ((l.length+1)::(stp v l).take i)).length≤1099511000000:=by
    have:=gams_len ((l.length+1)::(stp v l).take i) (fun n hn=>by
     rcases List.mem_cons.1 hn with rfl | hn
     ·omega
     ·exact (hsm n (List.mem_of_mem_take hn)).2)
    rw [List.length_cons,List.length_take,stp_len] at this
    rw [List.length_append];omega
   have hnext:b++gams ((l.length+1)::(stp v l).take i)++gam ((stp v l).getD i 0)=b++gams ((l.length+1)::(stp v l).take (i+1)):=by
    rw [take_getD (d:=0) (by rw [stp_len];exact hi:i<(stp v l).length),← List.cons_append,gams_app,List.append_assoc]
    simp [gams]
   have hlay:=Lay_ev (n:=(stp v l).getD i 0) hB s1 s2 hB2
   rw [hnext] at hlay
   have a:=h2 _ (getD_mem (d:=0) hi)
   rw [w1 (by omega)]
   refine posD (by omega) (pos (by omega) ?_)
   rw [rdN]
   by_cases h0:i=0
   ·have e0:(i:Int)=0:=by omega
    refine posE e0 ?_
    rw [w64 (i:=l.getD i 0-v) (by omega) (by omega)]
    refine bnd (congr (fun K _ _ _ _=>fold_eq (by omega) (by omega)) (now _)) ?_
    have e1:wr .i64 ((fold (l.getD i 0-v):Int)+1)=(((stp v l).getD i 0:Nat):Int):=by
     rw [stp_get v hi,if_pos h0]
     subst h0
     rw [w1 (by unfold fold;split <;> omega)]
    rw [e1]
    exact bnd hlay ih
   ·refine negE (by omega) ?_
    have e2:wr .i64 ((i:Int)-1)=((i-1:Nat):Int):=by rw [w64 (by omega) (by omega)];omega
    have b1:=(h i hi).2.2 (by omega)
    have c:=h2 _ (getD_mem (d:=0) (show i-1<l.length by omega))
    rw [e2,rdN]
    refine pos (by omega) ?_
    have e1:wr .i64 (l.getD i 0-l.getD (i-1) 0)=(((stp v l).getD i 0:Nat):Int):=by
     rw [stp_get v hi,if_neg h0,w64 (by omega) (by omega)];omega
    rw [e1]
    exact bnd hlay ih
 have hlay:=Lay_ev (n:=l.length+1) hb (by omega) (by omega) (by omega)
 have hk:=(key 0 (by omega)).e1
 rw [List.take_zero] at hk
 have e:gams [l.length+1]=gam (l.length+1):=by simp [gams]
 rw [e] at hk
 refine congr (f:=fun K _ _ _ _=>(Ck K (row b) 2 ((l.length+1:Nat):Int)).bind fun r12=>Dg.l1 K v l K ((l.length:Nat):Int) (0:Int) r12.n r12.data) (fun K _ _ _ _=>by unfold Dg;rw [w1 (by omega)]) ?_
 exact bnd hlay hk
end Go.XL
end
section
namespace Go.XL
open Go.XM
theorem unf1 {z:Int} (h:-1000≤z) (h2:z≤1000) {K:Nat}:Dk K (wr .i64 (((fold z+1:Nat):Int)-1))=some z:=by
 have e:wr .i64 (((fold z+1:Nat):Int)-1)=((fold z:Nat):Int):=by
  rw [w64 (by omega) (by unfold fold;split <;> omega)];omega
 rw [e,unfold_eq (by unfold fold;split <;> omega),unf_fold]
theorem gams_split {ns:List Nat} {i:Nat} (hi:i<ns.length):gams ns=gams (ns.take i)++gam (ns.getD i 0)++gams (ns.drop (i+1)):=by
 have:ns=ns.take i++(ns.getD i 0::ns.drop (i+1)):=by rw [← drop_getD (d:=0) hi,List.take_append_drop]
 conv=>lhs;rw [this]
 rw [gams_app,gams_cons,List.append_assoc]
theorem gams_take {ns:List Nat} {i:Nat} (hi:i<ns.length):gams (ns.take (i+1))=gams (ns.take i)++gam (ns.getD i 0):=by
 rw [take_getD (d:=0) hi,gams_app];simp [gams]
theorem reads_at {ns:List Nat} (hns:∀ n∈ns,0<n∧n<256) {i:Nat} (hi:i<ns.length) {a b:List Int} (ha:Bt a) (hb:Bt b) (hl:(a++gams ns++b).length≤1099511627776) :
  E0 (fun K=>Cb K (pack (a++gams ns++b)) ((a++gams (ns.take i)).length:Int) 2) (((ns.getD i 0:Nat):Int),((a++gams (ns.take (i+1))).length:Int),true):=by
 have hn:=hns _ (getD_mem (d:=0) hi)
 have e:a++gams ns++b=(a++gams (ns.take i))++gam (ns.getD i 0)++(gams (ns.drop (i+1))++b):=by
  rw [gams_split hi];simp only [List.append_assoc]
 have hl2:=hl
 rw [e] at hl2 ⊢
 have:=reads hn.1 (by omega) (ha.app (gams_Bt (ns.take i))) ((gams_Bt (ns.drop (i+1))).app hb) hl2
 rw [gams_take hi]
 rw [List.append_assoc a] at this
 simp only [List.append_assoc] at this ⊢
 exact this
theorem gapsRead_ev {v:Int} {l a b:List Int} (h:MayP l) (hv:0≤v) (hv2:v≤15) (ha:Bt a) (hb:Bt b) (hlen:(a++gap v l++b).length≤1099511627776) :
  E0 (fun K=>Bx K (pack (a++gap v l++b)) (a.length:Int) v) (l,((a++gap v l).length:Int),true):=by
 have hl:=h.len
 obtain ⟨_,h2⟩:=(mayP_iff _).1 h
 have hsm:=stp_small h hv hv2
 have hns:∀ n∈(l.length+1)::stp v l,0<n∧n<256:=by
  intro n hn
  rcases List.mem_cons.1 hn with rfl | hn
  ·omega
  ·exact hsm n hn
 have rd:=fun i (hi:i<((l.length+1)::stp v l).length)=>reads_at hns hi ha hb hlen
 have key:∀ i,i≤l.length→E1 (fun K k=>Bx.l1 K (pack (a++gap v l++b)) k ((a++gams (((l.length+1)::stp v l).take (i+1))).length:Int) (if i=0 then v else l.getD (i-1) 0) (l.length:Int) (i:Int) (l.take i)) (l,((a++gap v l).length:Int),true):=by
  refine upto ?_ ?_
  ·refine step1 (fun _ _ _ _ _=>Bx.l1.eq_2 ..) ?_
   refine negD (by omega) (nowE ?_)
   rw [List.take_length,List.take_of_length_le (by simp [stp_len])];rfl
  ·intro i hi ih
   refine step1 (fun _ _ _ _ _=>Bx.l1.eq_2 ..) ?_
   refine posD (by omega) (bnd (rd (i+1) (by simp [stp_len];omega)) (negB rfl ?_))
   have x:=h2 _ (getD_mem (d:=0) hi)
   have hj:∀ {n last:Int},last+n=l.getD i 0→E1 (fun K k=>Bx.j2 K (Bx.l1 K (pack (a++gap v l++b)) k) (l.take i) last (((((l.length+1)::stp v l).getD (i+1) 0:Nat):Int),((a++gams (((l.length+1)::stp v l).take (i+1+1))).length:Int),true) (l.length:Int) (i:Int) (pack (a++gap v l++b)) n) (l,((a++gap v l).length:Int),true):=by
    intro n last e
    refine congr (f:=fun K k _ _ _=>(Ds K (l.getD i 0)).bind fun r50=>if (!r50) then some (([]:List Int),0,false) else if ((l.take i).length+([l.getD i 0]:List Int).length)*8≤140737488355328 then Bx.l1 K (pack (a++gap v l++b)) k ((a++gams (((l.length+1)::stp v l).take (i+1+1))).length:Int) (l.getD i 0) (l.length:Int) (wr .i64 ((i:Int)+1)) (l.take i++[l.getD i 0]) else none) (fun K k _ _ _=>by unfold Bx.j2;rw [e,w64 (i:=l.getD i 0) (by omega) (by omega)]) ?_
    simp only [is_eq]
    refine bnd (now _) (negM x (pos (by simp;omega) ?_))
    rw [w1 (by omega),← take_getD (d:=0) hi]
    simpa using ih
   have hget:((l.length+1)::stp v l).getD (i+1) 0=(stp v l).getD i 0:=by simp
   by_cases h0:i=0
   ·refine posE (by omega) ?_
    have hu:∀ K,Dk K (wr .i64 (((((l.length+1)::stp v l).getD (i+1) 0:Nat):Int)-1))=some (l.getD i 0-v):=by
     intro K
     rw [hget,stp_get v hi,if_pos h0]
     subst h0
     exact unf1 (by omega) (by omega)
    refine bnd (congr (fun K _ _ _ _=>hu K) (now _)) ?_
    refine hj ?_
    rw [if_pos h0];omega
   ·refine negE (by omega) (hj ?_)
    have b1:=(h i hi).2.2 (by omega)
    rw [if_neg h0]
    show l.getD (i-1) 0+((((l.length+1)::stp v l).getD (i+1) 0:Nat):Int)=_
    rw [hget,stp_get v hi,if_neg h0];omega
 have r0:=rd 0 (by simp)
 rw [List.take_zero,show gams []=[] from rfl,List.append_nil] at r0
 refine bnd r0 (negB rfl (negD ?_ ?_))
 ·show ¬ (((l.length+1:Nat):Int) > 17);omega
 ·have e:wr .i64 (((((l.length+1)::stp v l).getD 0 0:Nat):Int)-1)=(l.length:Int):=by
   show wr .i64 (((l.length+1:Nat):Int)-1)=_
   rw [w64 (by omega) (by omega)];omega
  rw [e]
  exact (key 0 (by omega)).e1
end Go.XL
end
section
namespace Go.XL
open Go.XM
theorem nums_mk (x:Int) (n:Nat):nums (x,(n:Int))=(List.range n).map fun (k:Nat)=>x+(k:Int):=by
 show (List.range ((n:Int)).toNat).map (fun (k:Nat)=>x+(k:Int))=_
 rw [Int.toNat_natCast]
theorem mem_nums_mk {x a:Int} {n:Nat}:a∈nums (x,(n:Int))↔x≤a∧a<x+(n:Int):=mem_nums (x:=(x,(n:Int))) (by show (0:Int)≤(n:Int);omega)
theorem nums_mk_len (x:Int) (n:Nat):(nums (x,(n:Int))).length=n:=by rw [nums_mk];simp
theorem follow_take:∀ (x:Int) (l:List Int),(x::l).take (follow x l+1)=nums (x,((follow x l+1:Nat):Int))
 | x,[]=>by rw [nums_mk];simp [follow]
 | x,y::l=>by
  simp only [follow]
  split
  ·rename_i e
   have ih:=follow_take y l
   rw [List.take_succ_cons,ih]
   rw [nums_mk,nums_mk]
   rw [List.range_succ_eq_map (n:=follow y l+1),List.map_cons,List.map_map]
   subst e
   congr 1
   ·simp
   ·refine List.map_congr_left fun k _=>?_
    simp only [Function.comp];push_cast;omega
  ·rw [nums_mk];simp
theorem parts_ok:∀ (n:Nat) (l:List Int),l.length≤n→l.Pairwise (·<·)→(∀ y∈l,0≤y∧y≤15)→∀ e:Int,(∀ y∈l,e<y) →
  OkR e (parts l).1∧(parts l).2.Sublist l∧((parts l).2++alls (parts l).1).Perm l:=by
 intro n
 induction n with
 | zero =>
  intro l h _ _ e _
  obtain rfl:=List.eq_nil_of_length_eq_zero (by omega:l.length=0)
  simp [parts,OkR,alls]
 | succ n ih =>
  intro l h hp hb e he
  cases l with
  | nil=>simp [parts,OkR,alls]
  | cons x l =>
   have hf:=follow_le x l
   have htk:=follow_take x l
   generalize hn:follow x l=m at *
   have hsplit:x::l=nums (x,((m+1:Nat):Int))++l.drop m:=by
    rw [← htk];exact (List.take_append_drop (m+1) (x::l)).symm
   have hsub:(l.drop m).Sublist (x::l):=(List.drop_sublist m l).trans (List.sublist_cons_self x l)
   have hlast:x+m∈x::l:=by rw [hsplit];exact List.mem_append_left _ (mem_nums_mk.2 (by omega))
   have hx:=hb x List.mem_cons_self
   have hgt:∀ y∈l.drop m,x+(m:Int)+1<y:=by
    intro y hy
    rw [hsplit,List.pairwise_append] at hp
    have h1:=hp.2.2 (x+(m:Int)) (mem_nums_mk.2 (by omega)) y hy
    have h2:y≠x+(m:Int)+1:=by
     intro e2
     obtain ⟨i,hi,hi2⟩:=List.mem_iff_getElem.1 hy
     have hlt:m<l.length:=by simp at hi;omega
     have hend:=follow_end (x:=x) (l:=l) (by rw [hn];exact hlt)
     rw [hn] at hend
     have g1:(x::l).getD m 0=x+(m:Int):=by
      rw [hsplit,List.getD_eq_getElem?_getD,List.getElem?_append_left (by rw [nums_mk_len];omega),nums_mk]
      simp
     have g2:(x::l).getD (m+1) 0=(l.drop m).getD 0 0:=by
      rw [hsplit,List.getD_eq_getElem?_getD,List.getElem?_append_right (by rw [nums_mk_len];omega),nums_mk_len]
      simp [List.getD_eq_getElem?_getD]
     rw [g1,g2] at hend
     have h0:(l.drop m).getD 0 0≤y:=by
      rw [getD_lt (by omega:0<(l.drop m).length),← hi2]
      by_cases c:i=0
      ·subst c;exact Int.le_refl _
      ·exact Int.le_of_lt (List.pairwise_iff_getElem.1 hp.2.1 0 i (by omega) hi (by omega))
     have h3:=hp.2.2 (x+(m:Int)) (mem_nums_mk.2 (by omega)) ((l.drop m).getD 0 0) (getD_mem (by omega))
     omega
    omega
   have hp2:=hp.sublist hsub
   have hb2:∀ y∈l.drop m,0≤y∧y≤15:=fun y hy=>hb y (hsub.subset hy)
   have hlen:(l.drop m).length≤n:=by simp at h ⊢;omega
   have hl15:=hb _ hlast
   rw [parts,hn]
   have hnum:x::l.take m=nums (x,((m+1:Nat):Int)):=by rw [← htk];rfl
   split
   ·rename_i h2
    obtain ⟨a1,a2,a3⟩:=ih (l.drop m) hlen hp2 hb2 (x+((m+1:Nat):Int)) (fun y hy=>by have:=hgt y hy;push_cast;omega)
    refine ⟨⟨show 3≤((m+1:Nat):Int)∧e<x∧0≤x∧x≤15∧x+((m+1:Nat):Int)≤16 from ⟨by omega,he x List.mem_cons_self,hx.1,hx.2,by omega⟩,a1⟩,a2.trans hsub,?_⟩
    rw [alls_cons]
    conv=>rhs;rw [hsplit]
    exact (List.perm_append_comm_assoc _ _ _).trans (List.Perm.append_left _ a3)
   ·obtain ⟨a1,a2,a3⟩:=ih (l.drop m) hlen hp2 hb2 e (fun y hy=>he y (hsub.subset hy))
    refine ⟨a1,?_,?_⟩
    ·show (x::l.take m++_).Sublist _
     rw [hnum]
     conv=>rhs;rw [hsplit]
     exact List.Sublist.append (List.Sublist.refl _) a2
    ·show ((x::l.take m++_)++_).Perm _
     rw [hnum,List.append_assoc]
     conv=>rhs;rw [hsplit]
     exact List.Perm.append_left _ a3
theorem parts_may {l:List Int} (h:MayP l):OkR (-1) (parts l).1∧MayP (parts l).2∧((parts l).2++alls (parts l).1).Perm l:=by
 obtain ⟨h1,h2⟩:=(mayP_iff _).1 h
 obtain ⟨a1,a2,a3⟩:=parts_ok l.length l (Nat.le_refl _) h1 h2 (-1) (fun y hy=>by have:=h2 y hy;omega)
 exact ⟨a1,(mayP_iff _).2 ⟨h1.sublist a2,fun x hx=>h2 x (a2.subset hx)⟩,a3⟩
theorem sort_perm {l m:List Int} (hm:MayP m) (hp:l.Perm m):sortF l=m:=by
 obtain ⟨h1,h2⟩:=(mayP_iff _).1 hm
 exact List.Perm.eq_of_pairwise (le:=(·≤·)) (fun a b _ _ h1 h2=>by omega) (sort_le l) (h1.imp fun h=>by omega) ((List.mergeSort_perm l _).trans hp)
end Go.XL
end
section
namespace Go.XL
open Go.XM
theorem may_Sm {l:List Int} (h:MayP l):Sm l:=by
 have:=h.len
 obtain ⟨_,h2⟩:=(mayP_iff _).1 h
 exact ⟨by omega,fun x hx=>by have:=h2 x hx;omega⟩
end Go.XL
end
section
namespace Go.XL
open Go.XM
theorem and8 {a t:Nat} (ha:a<256) (ht:t≤8):ib .and .u8 (a:Int) ((2 ^ t-1:Nat):Int)=((a % 2 ^ t:Nat):Int):=by
 have hp:2 ^ t≤2 ^ 8:=Nat.pow_le_pow_right (by omega) ht
 have hm:a % 2 ^ t≤a:=Nat.mod_le _ _
 have h2:(BitVec.ofInt 8 (a:Int) &&& BitVec.ofInt 8 ((2 ^ t-1:Nat):Int)).toNat=a % 2 ^ t:=by
  rw [BitVec.toNat_and]
  simp only [BitVec.ofInt_natCast,BitVec.toNat_ofNat]
  rw [Nat.mod_eq_of_lt (show a<2 ^ 8 by omega),Nat.mod_eq_of_lt (show 2 ^ t-1<2 ^ 8 by omega),Nat.and_two_pow_sub_one_eq_mod]
 show IntKind.wrap .u8 ((BitVec.ofInt 8 (a:Int) &&& BitVec.ofInt 8 ((2 ^ t-1:Nat):Int)).toNat:Int)=_
 rw [h2]
 exact u8N (by omega)
theorem bmay {l:List Int} (h:Bt l) (hl:l.length≤6000) (K:Nat):Dv K (pack l)=some true:=by
 have hN:(pack l).N=(l.length:Int):=rfl
 have hD:(pack l).Data=bytesOf (byts l):=rfl
 have hs:(bytesOf (byts l)).size=(l.length+7) / 8:=by rw [bytesOf_size,byts_len]
 have e1:wr .i64 ((wr .i64 ((wr .i64 ((l.length:Int)+8))-1)).tdiv 8)=(((l.length+7) / 8:Nat):Int):=by
  rw [w64 (i:=(l.length:Int)+8) (by omega) (by omega),w64 (i:=(l.length:Int)+8-1) (by omega) (by omega),show (l.length:Int)+8-1=((l.length+7:Nat):Int) by omega]
  rw [show (8:Int)=((8:Nat):Int) from rfl,tdivN,w64 (by omega) (by omega)]
 have e2:((l.length:Int).tmod 8)=((l.length % 8:Nat):Int):=tmodN _ 8
 unfold Dv
 rw [hN,hD,hs,e1,e2]
 rw [if_neg (by simp),if_neg (by simp;omega),if_pos (by decide),if_neg (by simp),if_pos (by decide)]
 by_cases h0:l.length % 8=0
 ·rw [if_pos (by simp [h0])]
 ·have hlen:l.length=8*(l.length / 8)+l.length % 8:=by omega
  obtain ⟨a,a1,a2,a3⟩:=byt_low h hlen (by omega)
  have e3:wr .i64 ((((l.length+7) / 8:Nat):Int)-1)=((l.length / 8:Nat):Int):=by rw [w64 (by omega) (by omega)];omega
  have e4:(255:Int).fdiv (2 ^ min (((l.length % 8:Nat):Int)).toNat 8)=((2 ^ (8-l.length % 8)-1:Nat):Int):=by
   rw [Int.toNat_natCast]
   have:l.length % 8=1∨l.length % 8=2∨l.length % 8=3∨l.length % 8=4∨l.length % 8=5∨l.length % 8=6∨l.length % 8=7:=by omega
   rcases this with e | e | e | e | e | e | e <;> rw [e] <;> decide
  rw [if_neg (by simp;omega),e3,if_pos ⟨by omega,by omega⟩,if_pos (by omega),bt_pack h (by omega),a1,e4,and8 (show a<256 by have:=Nat.two_pow_pos (7-l.length % 8);omega) (by omega),a2]
  rfl
theorem bits_eq {l:List Int} (hl:l.length≤6000) (K:Nat):C6 K (row l)=some (pack l,0,row l):=by
 unfold C6
 rw [if_neg (by show ¬ decide ((l.length:Int) > 6000)=true;simp;omega)]
 rfl
def rtl:Int→List Aj→List Nat
 | _,[]=>[]
 | e,x::r=>(x.At-e).toNat::(x.Len-2).toNat::rtl (x.At+x.Len) r
def rnum (v:Int):List Aj→List Nat
 | []=>[]
 | x::r=>(fold (x.At-v)+1)::(x.Len-2).toNat::rtl (x.At+x.Len) r
def rcod (v:Int) (i:Nat) (e:Int) (r:List Aj):List Nat:=if i=0 then rnum v r else rtl e r
def runb (v:Int) (l:List Int):List Int:=gams (((parts l).1.length+1)::rnum v (parts l).1)++gap v (parts l).2
theorem rcod_cons (v:Int) (i:Nat) (e:Int) (x:Aj) (r:List Aj):rcod v i e (x::r)=(if i=0 then fold (x.At-v)+1 else (x.At-e).toNat)::(x.Len-2).toNat::rcod v (i+1) (x.At+x.Len) r:=by
 unfold rcod
 rw [if_neg (show ¬ i+1=0 by omega)]
 by_cases h:i=0
 ·rw [if_pos h,if_pos h];rfl
 ·rw [if_neg h,if_neg h];rfl
theorem gam_len8 {n:Nat} (h:n<256):(gam n).length≤15:=by rw [gam_len];have:=lg8 h;omega
theorem lay_l1 {v:Int} (hv:0≤v) (hv2:v≤15) {r:List Aj} {s:List Int} (hs:MayP s) (hr:r.length≤100):∀ i,i≤r.length→∀ (e:Int) (c:List Int),(i=0→e=0)→(0<i→0≤e∧e≤16)→OkR (if i=0 then -1 else e) (r.drop i)→Bt c→c.length+30*(r.length-i)≤1099509900000 →
  E1 (fun K k=>Cm.l1 K (r,s) v k e (r.length:Int) (i:Int) (c.length:Int) (byts c)) (row (c++gams (rcod v i e (r.drop i))++gap v s)):=by
 refine upto ?_ ?_
 ·intro e c h0 h1 ho hc hl
  refine step1 (fun _ _ _ _ _=>Cm.l1.eq_2 ..) ?_
  refine negD (by show ¬ ((r.length:Int)<(r.length:Int));omega) ?_
  refine bnd (gapsLay_ev hs hv hv2 hc (by omega)) (nowE ?_)
  rw [List.drop_length]
  have:rcod v r.length e []=[]:=by unfold rcod;split <;> rfl
  rw [this];simp [gams]
 ·intro i hi ih e c h0 h1 ho hc hl
  refine step1 (fun _ _ _ _ _=>Cm.l1.eq_2 ..) ?_
  refine posD (by omega) (pos ⟨by omega,by show (i:Int)<(r.length:Int);omega⟩ ?_)
  rw [drop_getD (d:=default) hi] at ho ⊢
  rw [rdR,rcod_cons]
  generalize r.getD i default=x at *
  obtain ⟨⟨x1,x2,x3,x4,x5⟩,ho2⟩:=ho
  have hj:∀ (n:Nat),0<n→n<256→Ev (fun K k _ _ _=>Cm.j2 K (Cm.l1 K (r,s) v k) (r,s) (r.length:Int) (i:Int) v ((c++gam n).length:Int) (byts (c++gam n)) x.At x.Len) (row (c++gams (n::(x.Len-2).toNat::rcod v (i+1) (x.At+x.Len) (r.drop (i+1)))++gap v s)):=by
   intro n n0 n1
   have e1:wr .i64 ((wr .i64 (x.Len-3))+1)=(((x.Len-2).toNat:Nat):Int):=by rw [w64 (i:=x.Len-3) (by omega) (by omega),w64 (by omega) (by omega)];omega
   have e2:wr .i64 (x.At+x.Len)=x.At+x.Len:=w64 (by omega) (by omega)
   have hcb:Bt (c++gam n):=hc.app (gam_Bt n)
   have hg:=gam_len8 n1
   have hg2:=gam_len8 (show (x.Len-2).toNat<256 by omega)
   have hlay:=Lay_ev (n:=(x.Len-2).toNat) hcb (by omega) (by omega) (by rw [List.length_append];omega)
   unfold Cm.j2
   rw [e1,e2,w1 (by omega)]
   refine bnd hlay ?_
   have:=ih (x.At+x.Len) (c++gam n++gam (x.Len-2).toNat) (fun h=>by omega) (fun _=>by omega) (by rw [if_neg (by omega)];exact ho2) (hcb.app (gam_Bt _)) (by simp only [List.length_append];omega)
   refine ofEq this ?_
   simp only [gams_cons,List.append_assoc]
  by_cases hz:i=0
  ·refine posE (by omega) ?_
   simp only [if_pos hz] at x2 ⊢
   rw [w64 (i:=x.At-v) (by omega) (by omega)]
   refine bnd (congr (fun K _ _ _ _=>fold_eq (by omega) (by omega)) (now _)) ?_
   have hf:fold (x.At-v)+1<256:=by unfold fold;split <;> omega
   rw [w1 (by omega)]
   exact bnd (Lay_ev hc (by omega) hf (by omega)) (hj _ (by omega) hf)
  ·have he:=h1 (by omega)
   simp only [if_neg hz] at x2 ⊢
   refine negE (by omega) ?_
   have e1:wr .i64 (x.At-e)=(((x.At-e).toNat:Nat):Int):=by rw [w64 (by omega) (by omega)];omega
   rw [e1]
   exact bnd (Lay_ev hc (by omega) (by omega) (by omega)) (hj _ (by omega) (by omega))
theorem RLay_ev {v:Int} {l b:List Int} (h:MayP l) (hv:0≤v) (hv2:v≤15) (hb:Bt b) (hlen:b.length≤1099509000000):E0 (fun K=>Cm K (row b) v l) (row (b++runb v l)):=by
 obtain ⟨a1,a2,a3⟩:=parts_may h
 have hr:=(a1.len (by omega)).1
 have hr2:=(a1.len (by omega)).2
 have hg:=gam_len8 (show (parts l).1.length+1<256 by omega)
 refine bnd (Parts_ev (may_Sm h)) ?_
 rw [w1 (by omega)]
 refine bnd (Lay_ev hb (by omega) (by omega) (by omega)) ?_
 have:=lay_l1 hv hv2 (r:=(parts l).1) a2 (by omega) 0 (by omega) 0 (b++gam ((parts l).1.length+1)) (fun _=>rfl) (fun h=>by omega) a1 (hb.app (gam_Bt _)) (by rw [List.length_append];omega)
 refine ofEq this.e1 ?_
 rw [runb,gams_cons,show rcod v 0 0 ((parts l).1.drop 0)=rnum v (parts l).1 from rfl]
 simp only [List.append_assoc]
end Go.XL
end
section
namespace Go.XL
open Go.XM
theorem equalR_ev (xs ys:List Aj) (h:xs.length≤1000000):E0 (fun K=>Ar K xs ys) (decide (xs=ys)):=by
 unfold Ar
 by_cases hl:xs.length=ys.length
 ·have key:∀ i,i≤xs.length→(∀ j,j<i→xs.getD j default=ys.getD j default)→E1 (fun K k=>Ar.l1 K xs ys k (xs.length:Int) (i:Int)) (decide (xs=ys)):=by
   refine upto ?_ ?_
   ·intro hd
    refine step1 (fun _ _ _ _ _=>Ar.l1.eq_2 ..) ?_
    exact negD (by omega) (nowE (by rw [ext_getR hl hd];simp))
   ·intro i hi ih hd
    refine step1 (fun _ _ _ _ _=>Ar.l1.eq_2 ..) ?_
    refine posD (by omega) (pos (by omega) (pos (by omega) ?_))
    rw [rdR,rdR,w1 (by omega),eqRun]
    by_cases e:xs.getD i default=ys.getD i default
    ·refine negM e (ih fun j hj=>?_)
     by_cases q:j=i
     ·rw [q];exact e
     ·exact hd j (by omega)
    ·refine posM e (nowE ?_)
     have:¬ xs=ys:=fun h=>e (by rw [h])
     simp [this]
  exact negN (by omega) (key 0 (by omega) (fun j hj=>by omega)).e1
 ·refine posN (by omega) (nowE ?_)
  have:¬ xs=ys:=fun h=>hl (by rw [h])
  simp [this]
theorem read_l1 {v:Int} (hv:0≤v) (hv2:v≤15) {r:List Aj} (hr:r.length≤100) {b:List Int} (hb:Bt b):∀ i,i≤r.length→∀ (e:Int) (a:List Int),(0<i→0≤e∧e≤16)→OkR (if i=0 then -1 else e) (r.drop i)→Bt a→(a++gams (rcod v i e (r.drop i))++b).length≤1099511627776 →
  E1 (fun K k=>B0.l1 K (pack (a++gams (rcod v i e (r.drop i))++b)) k (a.length:Int) (if i=0 then v else e) (r.length:Int) (i:Int) (r.take i)) (r,((a++gams (rcod v i e (r.drop i))).length:Int),true):=by
 refine upto ?_ ?_
 ·intro e a h1 ho ha hl
  refine step1 (fun _ _ _ _ _=>B0.l1.eq_2 ..) ?_
  refine negD (by omega) (nowE ?_)
  rw [List.drop_length]
  have:rcod v r.length e []=[]:=by unfold rcod;split <;> rfl
  rw [this,List.take_length];simp [gams]
 ·intro i hi ih e a h1 ho ha hl
  have htk:=take_getD (d:=default) hi
  rw [drop_getD (d:=default) hi] at ho hl ⊢
  rw [rcod_cons] at hl ⊢
  generalize r.getD i default=x at *
  obtain ⟨⟨x1,x2,x3,x4,x5⟩,ho2⟩:=ho
  have hn:0<(if i=0 then fold (x.At-v)+1 else (x.At-e).toNat)∧(if i=0 then fold (x.At-v)+1 else (x.At-e).toNat)<256:=by
   by_cases hz:i=0
   ·rw [if_pos hz];unfold fold;split <;> omega
   ·have:=h1 (by omega);rw [if_neg hz];rw [if_neg hz] at x2;omega
  generalize hnn:(if i=0 then fold (x.At-v)+1 else (x.At-e).toNat)=n at *
  have hL:a++gams (n::(x.Len-2).toNat::rcod v (i+1) (x.At+x.Len) (r.drop (i+1)))++b=a++gam n++gam (x.Len-2).toNat++gams (rcod v (i+1) (x.At+x.Len) (r.drop (i+1)))++b:=by
   simp only [gams_cons,List.append_assoc]
  rw [hL] at hl ⊢
  have r1:=reads (n:=n) (a:=a) (b:=gam (x.Len-2).toNat++(gams (rcod v (i+1) (x.At+x.Len) (r.drop (i+1)))++b)) hn.1 (by omega) ha ((gam_Bt _).app ((gams_Bt _).app hb)) (by simp only [List.append_assoc] at hl ⊢;exact hl)
  have r2:=reads (n:=(x.Len-2).toNat) (a:=a++gam n) (b:=gams (rcod v (i+1) (x.At+x.Len) (r.drop (i+1)))++b) (by omega) (by omega) (ha.app (gam_Bt _)) ((gams_Bt _).app hb) (by simp only [List.append_assoc] at hl ⊢;exact hl)
  have ih2:=ih (x.At+x.Len) (a++gam n++gam (x.Len-2).toNat) (fun _=>by omega) (by rw [if_neg (by omega)];exact ho2) ((ha.app (gam_Bt _)).app (gam_Bt _)) hl
  simp only [← List.append_assoc] at r1 r2
  refine step1 (fun _ _ _ _ _=>B0.l1.eq_2 ..) ?_
  refine posD (by omega) (bnd r1 (negB rfl (bnd r2 (negB rfl ?_))))
  have hj:∀ {m last:Int},last+m=x.At→E1 (fun K k=>B0.j2 K (B0.l1 K (pack (a++gam n++gam (x.Len-2).toNat++gams (rcod v (i+1) (x.At+x.Len) (r.drop (i+1)))++b)) k) ((((x.Len-2).toNat:Nat):Int),((a++gam n++gam (x.Len-2).toNat).length:Int),true) (r.length:Int) (i:Int) (r.take i) last (pack (a++gam n++gam (x.Len-2).toNat++gams (rcod v (i+1) (x.At+x.Len) (r.drop (i+1)))++b)) m) (r,((a++gams (n::(x.Len-2).toNat::rcod v (i+1) (x.At+x.Len) (r.drop (i+1)))).length:Int),true):=by
   intro m last hm
   have e1:wr .i64 ((wr .i64 ((((x.Len-2).toNat:Nat):Int)-1))+3)=x.Len:=by rw [w64 (i:=(((x.Len-2).toNat:Nat):Int)-1) (by omega) (by omega),w64 (by omega) (by omega)];omega
   have e2:wr .i64 (x.At+x.Len)=x.At+x.Len:=w64 (by omega) (by omega)
   unfold B0.j2
   rw [hm,w64 (i:=x.At) (by omega) (by omega),e1,e2,w1 (by omega)]
   refine pos (by simp;omega) ?_
   have ex:((x.At,x.Len):Aj)=x:=rfl
   rw [ex,← htk]
   have ih3:=ih2
   rw [if_neg (by omega)] at ih3
   refine ofEq ih3 ?_
   simp only [gams_cons,List.append_assoc]
  by_cases hz:i=0
  ·refine posE (by omega) ?_
   rw [if_pos hz] at hnn ⊢
   subst hnn
   refine bnd (congr (fun K _ _ _ _=>unf1 (by omega) (by omega)) (now _)) (hj (by omega))
  ·refine negE (by omega) ?_
   have he:=h1 (by omega)
   rw [if_neg hz] at hnn x2 ⊢
   exact hj (by omega)
theorem runb_Bt (v:Int) (l:List Int):Bt (runb v l):=(gams_Bt _).app (gap_Bt _ _)
theorem RRd_ev {v:Int} {l a b:List Int} (h:MayP l) (hv:0≤v) (hv2:v≤15) (ha:Bt a) (hb:Bt b) (hlen:(a++runb v l++b).length≤1099511627776) :
  E0 (fun K=>Dz K (pack (a++runb v l++b)) (a.length:Int) v) (l,((a++runb v l).length:Int),true):=by
 obtain ⟨a1,a2,a3⟩:=parts_may h
 have hr:=(a1.len (by omega)).1
 have hr2:=(a1.len (by omega)).2
 have hlm:=h.len
 have hml:=a2.len
 have hL:a++runb v l++b=a++gam ((parts l).1.length+1)++gams (rcod v 0 0 ((parts l).1.drop 0))++(gap v (parts l).2++b):=by
  rw [runb,gams_cons,show rcod v 0 0 ((parts l).1.drop 0)=rnum v (parts l).1 from rfl]
  simp only [List.append_assoc]
 have hL2:a++runb v l++b=(a++gam ((parts l).1.length+1)++gams (rcod v 0 0 ((parts l).1.drop 0)))++gap v (parts l).2++b:=by
  rw [hL];simp only [List.append_assoc]
 have rd:E0 (fun K=>B0 K (pack (a++runb v l++b)) (a.length:Int) v) ((parts l).1,((a++gam ((parts l).1.length+1)++gams (rcod v 0 0 ((parts l).1.drop 0))).length:Int),true):=by
  have r0:=reads (n:=(parts l).1.length+1) (a:=a) (b:=gams (rcod v 0 0 ((parts l).1.drop 0))++(gap v (parts l).2++b)) (by omega) (by omega) ha ((gams_Bt _).app ((gap_Bt _ _).app hb)) (by
   have:=hlen;rw [hL] at this;simp only [List.append_assoc] at this ⊢;exact this)
  rw [← List.append_assoc,← hL] at r0
  refine bnd r0 (negB rfl (negD ?_ ?_))
  ·show ¬ (((((parts l).1.length+1:Nat):Int)) > 16);omega
  ·have e:wr .i64 ((((parts l).1.length+1:Nat):Int)-1)=((parts l).1.length:Int):=by rw [w64 (by omega) (by omega)];omega
   simp only
   rw [e]
   have:=read_l1 hv hv2 (r:=(parts l).1) (by omega) (b:=gap v (parts l).2++b) ((gap_Bt _ _).app hb) 0 (by omega) 0 (a++gam ((parts l).1.length+1)) (fun h=>by omega) a1 (ha.app (gam_Bt _)) (by rw [← hL];exact hlen)
   rw [← hL] at this
   exact this.e1
 refine bnd rd (negB rfl ?_)
 have hg:=gapsRead_ev (l:=(parts l).2) (a:=a++gam ((parts l).1.length+1)++gams (rcod v 0 0 ((parts l).1.drop 0))) (b:=b) a2 hv hv2 ((ha.app (gam_Bt _)).app (gams_Bt _)) hb (by rw [← hL2];exact hlen)
 rw [← hL2] at hg
 refine bnd hg (negB rfl ?_)
 have hw:=Whole_ev (r:=(parts l).1) (q:=(parts l).2) (by omega) (by omega)
 rw [if_pos a1,if_pos a2,sort_perm h a3,decide_eq_true h] at hw
 refine bnd hw (negB rfl (bnd (Parts_ev (may_Sm h)) (bnd (equalR_ev _ _ (show (parts l).1.length≤1000000 by omega)) (pos (decide_eq_true rfl) (bnd (equal_ev _ _ (show (parts l).2.length≤1000000 by omega)) (nowE ?_))))))
 simp only [decide_true]
 congr 2
 rw [runb,gams_cons,show rcod v 0 0 ((parts l).1.drop 0)=rnum v (parts l).1 from rfl]
 simp only [List.append_assoc]
theorem rtl_small:∀ {e:Int} {r:List Aj},-1≤e→OkR e r→(∀ n∈rtl e r,n<256)∧(rtl e r).length=2*r.length
 | e,[],_,_=>by simp [rtl]
 | e,x::r,he,h=>by
  obtain ⟨⟨h1,h2,h3,h4,h5⟩,hr⟩:=h
  obtain ⟨a1,a2⟩:=rtl_small (by omega) hr
  constructor
  ·intro n hn
   simp only [rtl,List.mem_cons] at hn
   rcases hn with rfl | rfl | hn
   ·omega
   ·omega
   ·exact a1 n hn
  ·simp only [rtl,List.length_cons,a2];omega
theorem rnum_small {v:Int} (hv:0≤v) (hv2:v≤15) {r:List Aj} (h:OkR (-1) r):(∀ n∈rnum v r,n<256)∧(rnum v r).length=2*r.length:=by
 cases r with
 | nil=>simp [rnum]
 | cons x r =>
  obtain ⟨⟨h1,h2,h3,h4,h5⟩,hr⟩:=h
  obtain ⟨a1,a2⟩:=rtl_small (by omega) hr
  constructor
  ·intro n hn
   simp only [rnum,List.mem_cons] at hn
   rcases hn with rfl | rfl | hn
   ·unfold fold;split <;> omega
   ·omega
   ·exact a1 n hn
  ·simp only [rnum,List.length_cons,a2];omega
end Go.XL
end
section
namespace Go.XL
open Go.XM
theorem okR_get:∀ {e:Int} {r:List Aj},OkR e r→∀ i,i<r.length→3≤(r.getD i default).Len∧0≤(r.getD i default).At∧(r.getD i default).At+(r.getD i default).Len≤16∧(0<i→(r.getD (i-1) default).At+(r.getD (i-1) default).Len<(r.getD i default).At)
 | e,[],_,i,h=>by simp at h
 | e,x::r,⟨⟨h1,h2,h3,h4,h5⟩,hr⟩,0,h=>⟨h1,h3,h5,fun h=>by omega⟩
 | e,x::r,⟨⟨h1,h2,h3,h4,h5⟩,hr⟩,i+1,h=>by
  have ih:=okR_get hr i (by simpa using h)
  refine ⟨ih.1,ih.2.1,ih.2.2.1,fun _=>?_⟩
  cases i with
  | zero =>
   cases r with
   | nil=>simp at h
   | cons y r=>exact hr.1.2.1
  | succ i=>exact ih.2.2.2 (by omega)
theorem z0:(wr .i64 ((wr .i64 ((wr .i64 ((0:Int)+0))+0))+0))=0:=by
 rw [w64 (i:=0+0) (by omega) (by omega)];rw [w64 (i:=0+0+0) (by omega) (by omega),w64 (by omega) (by omega)];rfl
variable {r25:List (List Int)}
end Go.XL
end
section
namespace Go.XL
open Go.XM
theorem eqB {a b:Bool} (h:a=b):¬ (!(a == b))=true:=by simp [h]
theorem neB {a b:Bool} (h:¬ a=b):(!(a == b))=true:=by simpa using h
def blk (l:List Int):Bool→Int→List Int→List Int
 | _,_,[]=>[]
 | inn,m,x::r=>if decide (x∈l)=inn then blk l inn (m+1) r else m::blk l (!inn) 1 r
def cparts (ref l:List Int):List Int × List Int:=(blk l true 0 ref,l.filter fun a=>!decide (a∈ref))
theorem blk_len (l:List Int):∀ (inn:Bool) (m:Int) (r:List Int),(blk l inn m r).length≤r.length
 | _,_,[]=>Nat.le_refl _
 | inn,m,x::r=>by
  simp only [blk]
  split
  ·have:=blk_len l inn (m+1) r;simp;omega
  ·have:=blk_len l (!inn) 1 r;simp;omega
theorem cp_l2 {ref l bl:List Int} (h1:ref.length≤1000000) (h2:l.length≤1000000):∀ j,j≤l.length→∀ s:List Int,s.length≤j→E1 (fun K k=>Br.l2 K ref l k (l.length:Int) (j:Int) bl s) (bl,s++(l.drop j).filter fun a=>!decide (a∈ref)):=by
 refine upto ?_ ?_
 ·intro s hs
  refine step1 (fun _ _ _ _ _=>Br.l2.eq_2 ..) ?_
  exact negD (by omega) (nowE (by simp))
 ·intro j hj ih s hs
  refine step1 (fun _ _ _ _ _=>Br.l2.eq_2 ..) ?_
  refine posD (by omega) (pos (by omega) ?_)
  rw [rdN,drop_getD (d:=0) hj,w1 (by omega)]
  refine bnd (contains_ev ref (l.getD j 0) h1) ?_
  by_cases h:l.getD j 0∈ref
  ·refine negM h ?_
   refine ofEq (ih s (by omega)) ?_
   rw [List.filter_cons_of_neg (by simpa using h)]
  ·refine posM h (pos (by simp;omega) ?_)
   refine ofEq (ih (s++[l.getD j 0]) (by simp;omega)) ?_
   rw [List.filter_cons_of_pos (by simpa using h)];simp
theorem cp_l1 {ref l:List Int} (h1:ref.length≤1000000) (h2:l.length≤1000000):∀ i,i≤ref.length→∀ (inn:Bool) (m:Int) (b:List Int),0≤m→m≤i→b.length≤i →
  E1 (fun K k=>Br.l1 K ref l k inn m (ref.length:Int) (i:Int) b) (b++blk l inn m (ref.drop i),l.filter fun a=>!decide (a∈ref)):=by
 refine upto ?_ ?_
 ·intro inn m b hm hm2 hb
  refine step1 (fun _ _ _ _ _=>Br.l1.eq_2 ..) ?_
  refine negD (by omega) ?_
  refine ofEq (cp_l2 h1 h2 0 (by omega) [] (by simp)).e1 ?_
  rw [List.drop_length];simp [blk]
 ·intro i hi ih inn m b hm hm2 hb
  refine step1 (fun _ _ _ _ _=>Br.l1.eq_2 ..) ?_
  refine posD (by omega) (pos (by omega) ?_)
  rw [rdN,drop_getD (d:=0) hi,w1 (by omega)]
  refine bnd (contains_ev l (ref.getD i 0) h2) ?_
  by_cases h:decide (ref.getD i 0∈l)=inn
  ·refine neg (eqB h) ?_
   rw [w64 (i:=m+1) (by omega) (by omega)]
   refine ofEq (ih inn (m+1) b (by omega) (by omega) (by omega)) ?_
   simp only [blk,if_pos h]
  ·refine pos (neB h) (pos (by simp;omega) ?_)
   rw [w64 (i:=0+1) (by omega) (by omega)]
   refine ofEq (ih (!inn) (0+1) (b++[m]) (by omega) (by omega) (by simp;omega)) ?_
   simp only [blk,if_neg h];simp
theorem CParts_ev {ref l:List Int} (h1:ref.length≤1000000) (h2:l.length≤1000000):E0 (fun K=>Br K ref l) (cparts ref l) :=
 ofEq (cp_l1 h1 h2 0 (by omega) true 0 [] (by omega) (by omega) (by simp)).e1 (by simp [cparts])
theorem rc_l2 {ref l bl:List Int} (h1:ref.length≤1000000) (h2:l.length≤1000000):∀ j,j≤l.length→∀ s:List Int,s.length≤j→E1 (fun K k=>Aq.l2 K ref l k (j:Int) bl s) (bl,s++(l.drop j).filter fun a=>!decide (a∈ref)):=by
 refine upto ?_ ?_
 ·intro s hs
  refine step1 (fun _ _ _ _ _=>Aq.l2.eq_2 ..) ?_
  exact negD (by omega) (nowE (by simp))
 ·intro j hj ih s hs
  refine step1 (fun _ _ _ _ _=>Aq.l2.eq_2 ..) ?_
  refine posD (by omega) (pos (by omega) ?_)
  rw [rdN,drop_getD (d:=0) hj,w1 (by omega)]
  obtain ⟨v,e,hv⟩:=in_ev ref (l.getD j 0) h1
  refine bnd e ?_
  by_cases h:l.getD j 0∈ref
  ·have:=hv.2 h
   refine negD (by omega) ?_
   refine ofEq (ih s (by omega)) ?_
   rw [List.filter_cons_of_neg (by simpa using h)]
  ·have:¬ 0≤v:=fun k=>h (hv.1 k)
   refine posD (by omega) (pos (by omega) (pos (by simp;omega) ?_))
   refine ofEq (ih (s++[l.getD j 0]) (by simp;omega)) ?_
   rw [List.filter_cons_of_pos (by simpa using h)];simp
theorem rc_l1 {ref l:List Int} (h1:ref.length≤1000000) (h2:l.length≤1000000):∀ i,i≤ref.length→∀ (inn:Bool) (m:Int) (b:List Int),0≤m→m≤i→b.length≤i →
  E1 (fun K k=>Aq.l1 K ref l k inn m (i:Int) b) (b++blk l inn m (ref.drop i),l.filter fun a=>!decide (a∈ref)):=by
 refine upto ?_ ?_
 ·intro inn m b hm hm2 hb
  refine step1 (fun _ _ _ _ _=>Aq.l1.eq_2 ..) ?_
  refine negD (by omega) ?_
  refine ofEq (rc_l2 h1 h2 0 (by omega) [] (by simp)).e1 ?_
  rw [List.drop_length];simp [blk]
 ·intro i hi ih inn m b hm hm2 hb
  refine step1 (fun _ _ _ _ _=>Aq.l1.eq_2 ..) ?_
  refine posD (by omega) (pos (by omega) ?_)
  rw [rdN,drop_getD (d:=0) hi,w1 (by omega)]
  obtain ⟨v,e,hv⟩:=in_ev l (ref.getD i 0) h2
  refine bnd e ?_
  have hd:decide (v≥0)=decide (ref.getD i 0∈l):=by rw [Bool.eq_iff_iff];simpa using hv
  simp only [hd]
  by_cases h:decide (ref.getD i 0∈l)=inn
  ·refine neg (eqB h) ?_
   rw [w64 (i:=m+1) (by omega) (by omega)]
   refine ofEq (ih inn (m+1) b (by omega) (by omega) (by omega)) ?_
   simp only [blk,if_pos h]
  ·have h':decide (ref.getD i 0∈l)=!inn:=by cases inn <;> cases hq:decide (ref.getD i 0∈l) <;> simp_all
   refine pos (neB h) (pos (by simp;omega) ?_)
   rw [w64 (i:=0+1) (by omega) (by omega),h']
   refine ofEq (ih (!inn) (0+1) (b++[m]) (by omega) (by omega) (by simp;omega)) ?_
   simp only [blk,if_neg h];simp
theorem RCopies_ev {ref l:List Int} (h1:ref.length≤1000000) (h2:l.length≤1000000):E0 (fun K=>Aq K ref l) (cparts ref l) :=
 ofEq (rc_l1 h1 h2 0 (by omega) true 0 [] (by omega) (by omega) (by simp)).e1 (by simp [cparts])
def pk:Bool→List Int→List Int→Option (List Int)
 | inn,left,[]=>some (if inn then left else [])
 | inn,left,n::bs=>if n<0∨n > left.length then none else (pk (!inn) (left.drop n.toNat) bs).map fun r=>(if inn then left.take n.toNat else [])++r
def cjoin (ref bl q:List Int):Option (List Int):=match pk true ref bl with
 | none=>none
 | some P=>if MayP ref∧MayP q∧MayP (sortF (q++P))∧cparts ref (sortF (q++P))=(bl,q) then some (sortF (q++P)) else none
theorem cw_j3 {ref bl q t:List Int} (h1:ref.length≤1000000) (h2:bl.length≤1000000) (h3:q.length≤1000000) (h4:t.length≤1000000) :
  ∃ l:List Int,E0 (fun K=>Bd.j3 K ref bl q t) (l,decide (MayP (sortF t)∧cparts ref (sortF t)=(bl,q)))∧(MayP (sortF t)∧cparts ref (sortF t)=(bl,q)→l=sortF t):=by
 have hs:(sortF t).length≤1000000:=by rw [sort_len];exact h4
 by_cases hm:MayP (sortF t)
 ·refine ⟨sortF t,pos (by omega) (bnd (gmay_ev _ (by omega)) (negM hm (bnd (CParts_ev h1 hs) ?_))),fun _=>rfl⟩
  have hb:(cparts ref (sortF t)).1.length≤1000000:=Nat.le_trans (blk_len _ _ _ _) h1
  have hq:(cparts ref (sortF t)).2.length≤1000000:=Nat.le_trans (List.length_filter_le _ _) hs
  refine bnd (equal_ev _ _ hb) ?_
  by_cases e1:(cparts ref (sortF t)).1=bl
  ·refine pos (decide_eq_true e1) (bnd (equal_ev _ _ hq) (nowE ?_))
   congr 1
   rw [Bool.eq_iff_iff];simp [hm,Prod.ext_iff,e1]
  ·refine neg (by simpa using e1) (nowE ?_)
   congr 1
   rw [Bool.eq_iff_iff];simp [hm,Prod.ext_iff,e1]
 ·refine ⟨[],pos (by omega) (bnd (gmay_ev _ (by omega)) (posM hm (nowE ?_))),fun h=>absurd h.1 hm⟩
  simp [hm]
theorem cw_l1 {ref bl q:List Int} (h1:ref.length≤1000) (h2:bl.length≤1000) (h3:q.length≤10000):∀ i,i≤bl.length→∀ (left:List Int) (inn:Bool) (s:List Int),left.length≤1000→s.length+left.length≤100000 →
  ∃ l:List Int,E1 (fun K k=>Bd.l1 K ref bl q k left inn (bl.length:Int) (i:Int) s)
   (match pk inn left (bl.drop i) with
   | none=>([],false)
   | some P=>(l,decide (MayP (sortF (s++P))∧cparts ref (sortF (s++P))=(bl,q)))) ∧
   ∀ P,pk inn left (bl.drop i)=some P→MayP (sortF (s++P))∧cparts ref (sortF (s++P))=(bl,q)→l=sortF (s++P):=by
 refine upto ?_ ?_
 ·intro left inn s hl hs
  have hj:=cw_j3 (ref:=ref) (bl:=bl) (q:=q) (t:=s++if inn then left else []) (by omega) (by omega) (by omega) (by cases inn <;> simp <;> omega)
  obtain ⟨l,e,hl2⟩:=hj
  refine ⟨l,?_,fun P hP h=>?_⟩
  ·refine step1 (fun _ _ _ _ _=>Bd.l1.eq_2 ..) ?_
   refine negD (by omega) ?_
   rw [List.drop_length]
   simp only [pk]
   cases inn with
   | true=>exact pos rfl (pos (by omega) e)
   | false =>
    refine negB rfl ?_
    simpa using e
  ·rw [List.drop_length] at hP
   simp only [pk,Option.some.injEq] at hP
   subst hP
   exact hl2 h
 ·intro i hi ih left inn s hl hs
  rw [drop_getD (d:=0) hi]
  generalize hn:bl.getD i 0=n
  simp only [pk]
  by_cases c:n<0∨n > left.length
  ·rw [if_pos c]
   refine ⟨[],?_,fun P h=>by cases h⟩
   refine step1 (fun _ _ _ _ _=>Bd.l1.eq_2 ..) ?_
   refine posD (by omega) (pos (by omega) ?_)
   rw [rdN,hn]
   by_cases c1:n<0
   ·exact posD c1 (now _)
   ·exact negD c1 (posD (by omega) (now _))
  ·rw [if_neg c]
   obtain ⟨l,e,hl2⟩:=ih (left.drop n.toNat) (!inn) (s++(if inn then left.take n.toNat else [])) (by simp;omega) (by cases inn <;> simp <;> omega)
   refine ⟨l,?_,fun P hP h=>?_⟩
   ·refine step1 (fun _ _ _ _ _=>Bd.l1.eq_2 ..) ?_
    refine posD (by omega) (pos (by omega) ?_)
    rw [rdN,hn]
    refine negD (by omega) (negD (by omega) ?_)
    have hj2:E1 (fun K k=>Bd.j2 K (Bd.l1 K ref bl q k) (bl.length:Int) (i:Int) left inn ref bl q n (s++(if inn then left.take n.toNat else [])))
      (match (pk (!inn) (left.drop n.toNat) (bl.drop (i+1))).map fun r=>(if inn then left.take n.toNat else [])++r with
      | none=>([],false)
      | some P=>(l,decide (MayP (sortF (s++P))∧cparts ref (sortF (s++P))=(bl,q)))):=by
     refine pos (by omega) ?_
     have e1:(left.drop n.toNat).take (((left.length:Nat):Int).toNat-n.toNat)=left.drop n.toNat:=List.take_of_length_le (by simp)
     rw [e1,w1 (by omega)]
     refine ofEq e ?_
     cases pk (!inn) (left.drop n.toNat) (bl.drop (i+1)) with
     | none=>rfl
     | some P=>simp only [Option.map_some,List.append_assoc]
    cases inn with
    | true =>
     refine pos rfl (pos (by omega) (pos (by simp;omega) ?_))
     simpa using hj2
    | false =>
     refine negB rfl ?_
     simpa using hj2
   ·rw [Option.map_eq_some_iff] at hP
    obtain ⟨P',hP',rfl⟩:=hP
    rw [← List.append_assoc] at h ⊢
    exact hl2 P' hP' h
end Go.XL
end
section
namespace Go.XL
open Go.XM
def fin (ref bl q S:List Int):List Int × Bool:=(flt (S++q),decide (cparts ref (flt (S++q))=(bl,q)))
end Go.XL
end
section
namespace Go.XL
open Go.XM
theorem blk_ge {l:List Int}:∀ {inn:Bool} {m:Int} {r:List Int},0≤m→(∀ n∈blk l inn m r,0≤n)∧(∀ i,0<i→i<(blk l inn m r).length→1≤(blk l inn m r).getD i 0)∧(1≤m→∀ n∈blk l inn m r,1≤n)
 | inn,m,[],h=>by simp [blk]
 | inn,m,x::r,h=>by
  simp only [blk]
  split
  ·obtain ⟨a1,a2,a3⟩:=blk_ge (l:=l) (inn:=inn) (m:=m+1) (r:=r) (by omega)
   exact ⟨a1,a2,fun _=>a3 (by omega)⟩
  ·obtain ⟨a1,a2,a3⟩:=blk_ge (l:=l) (inn:=!inn) (m:=1) (r:=r) (by omega)
   have a3:=a3 (by omega)
   refine ⟨fun n hn=>?_,fun i hi hl=>?_,fun hm n hn=>?_⟩
   ·rcases List.mem_cons.1 hn with rfl | hn
    ·exact h
    ·exact a1 n hn
   ·obtain ⟨i,rfl⟩:∃ k,i=k+1:=⟨i-1,by omega⟩
    rw [List.getD_cons_succ]
    exact a3 _ (getD_mem (by simpa using hl))
   ·rcases List.mem_cons.1 hn with rfl | hn
    ·exact hm
    ·exact a3 n hn
theorem pk_blk {l:List Int}:∀ (r:List Int) (inn:Bool) (pre:List Int),pk inn (pre++r) (blk l inn (pre.length:Int) r)=some ((if inn then pre else [])++r.filter fun a=>decide (a∈l))
 | [],inn,pre=>by simp [blk,pk]
 | x::r,inn,pre=>by
  simp only [blk]
  by_cases h:decide (x∈l)=inn
  ·rw [if_pos h]
   have ih:=pk_blk (l:=l) r inn (pre++[x])
   rw [show ((pre++[x]).length:Int)=(pre.length:Int)+1 by simp] at ih
   rw [show pre++x::r=pre++[x]++r by simp,ih]
   cases inn with
   | true =>
    have hm:x∈l:=by simpa using h
    simp [hm]
   | false =>
    have hm:x ∉ l:=by simpa using h
    simp [hm]
  ·rw [if_neg h]
   have ih:=pk_blk (l:=l) r (!inn) [x]
   simp only [pk]
   rw [if_neg (by simp;omega),Int.toNat_natCast,List.drop_left,List.take_left]
   rw [show (x::r)=[x]++r from rfl,show ((1:Int))=(([x]:List Int).length:Int) from rfl,ih]
   cases inn with
   | true =>
    have:decide (x∈l)=false:=by cases hd:decide (x∈l) <;> simp_all
    have hm:x ∉ l:=by simpa using this
    simp [hm]
   | false =>
    have:decide (x∈l)=true:=by cases hd:decide (x∈l) <;> simp_all
    have hm:x∈l:=by simpa using this
    simp [hm]
theorem cjoin_parts {ref l:List Int} (h1:MayP ref) (h2:MayP l):cjoin ref (cparts ref l).1 (cparts ref l).2=some l:=by
 obtain ⟨r1,r2⟩:=(mayP_iff _).1 h1
 obtain ⟨l1,l2⟩:=(mayP_iff _).1 h2
 have hp:=pk_blk (l:=l) ref true []
 simp only [List.nil_append,List.length_nil,if_true] at hp
 have hp:pk true ref (cparts ref l).1=some (ref.filter fun a=>decide (a∈l)):=hp
 have hperm:((cparts ref l).2++ref.filter fun a=>decide (a∈l)).Perm l:=by
  have e1:(ref.filter fun a=>decide (a∈l)).Perm (l.filter fun a=>decide (a∈ref)):=by
   refine (List.perm_ext_iff_of_nodup ((nodup_of_lt r1).sublist List.filter_sublist) ((nodup_of_lt l1).sublist List.filter_sublist)).2 fun a=>?_
   simp [List.mem_filter,and_comm]
  refine (List.Perm.append_left _ e1).trans (List.perm_append_comm.trans ?_)
  exact List.filter_append_perm (fun a=>decide (a∈ref)) l
 have e:=sort_perm h2 hperm
 have hm:MayP (cparts ref l).2:=(mayP_iff _).2 ⟨l1.sublist List.filter_sublist,fun x hx=>l2 x (List.mem_filter.1 hx).1⟩
 unfold cjoin
 rw [hp]
 simp only [e]
 rw [if_pos ⟨h1,hm,h2,trivial⟩]
theorem cparts_may {ref l:List Int} (h2:MayP l):MayP (cparts ref l).2:=by
 obtain ⟨l1,l2⟩:=(mayP_iff _).1 h2
 exact (mayP_iff _).2 ⟨l1.sublist List.filter_sublist,fun x hx=>l2 x (List.mem_filter.1 hx).1⟩
def cnum:List Int→List Nat
 | []=>[]
 | n::t=>(n+1).toNat::t.map Int.toNat
theorem cnum_len (b:List Int):(cnum b).length=b.length:=by cases b <;> simp [cnum]
theorem cnum_get {b:List Int} {i:Nat} (h:i<b.length):(cnum b).getD i 0=if i=0 then (b.getD 0 0+1).toNat else (b.getD i 0).toNat:=by
 cases b with
 | nil=>simp at h
 | cons n t =>
  cases i with
  | zero=>simp [cnum]
  | succ i =>
   rw [if_neg (by omega)]
   simp only [cnum,List.getD_cons_succ]
   rw [getD_lt (by simpa using h),getD_lt (by simpa using h)]
   simp
structure Blks (b:List Int):Prop where
 len:b.length≤16
 ge:∀ n∈b,0≤n∧n≤17
 one:∀ i,0<i→i<b.length→1≤b.getD i 0
theorem blk_le {l:List Int}:∀ {inn:Bool} {m:Int} {r:List Int},∀ n∈blk l inn m r,n≤(if 1≤m then m else 1)+r.length
 | inn,m,[],n,h=>by simp [blk] at h
 | inn,m,x::r,n,h=>by
  simp only [blk] at h
  split at h
  ·have:=blk_le n h
   simp only [List.length_cons]
   push_cast
   split at this <;> split <;> omega
  ·rcases List.mem_cons.1 h with rfl | h
   ·simp only [List.length_cons];push_cast;split <;> omega
   ·have:=blk_le n h
    simp only [List.length_cons]
    push_cast
    split at this <;> split <;> omega
theorem cparts_blks {ref l:List Int} (h:MayP ref):Blks (cparts ref l).1:=by
 have hl:=h.len
 obtain ⟨a1,a2,a3⟩:=blk_ge (l:=l) (inn:=true) (m:=0) (r:=ref) (by omega)
 refine ⟨Nat.le_trans (blk_len _ _ _ _) hl,fun n hn=>⟨a1 n hn,?_⟩,a2⟩
 have:=blk_le n hn
 rw [if_neg (by omega)] at this
 omega
def copb (v:Int) (ref l:List Int):List Int:=gams (((cparts ref l).1.length+1)::cnum (cparts ref l).1)++runb v (cparts ref l).2
theorem cnum_rng {b:List Int} (h:Blks b) {i:Nat} (hi:i<b.length):0<(cnum b).getD i 0∧(cnum b).getD i 0<256:=by
 rw [cnum_get hi]
 have a:=h.ge _ (getD_mem (d:=0) hi)
 split
 ·rename_i e;subst e;omega
 ·have:=h.one i (by omega) hi;omega
theorem cnum_small {b:List Int} (h:Blks b):∀ n∈cnum b,0<n∧n<256:=by
 intro n hn
 obtain ⟨i,hi,rfl⟩:=List.mem_iff_getElem.1 hn
 rw [cnum_len] at hi
 have:=cnum_rng h hi
 rwa [getD_lt (by rw [cnum_len];exact hi)] at this
theorem CLay_ev {v:Int} {ref l b:List Int} (hr:MayP ref) (h:MayP l) (hv:0≤v) (hv2:v≤15) (hb:Bt b) (hlen:b.length≤1099508000000):E0 (fun K=>C7 K (row b) v ref l) (row (b++copb v ref l)):=by
 have hbl:=cparts_blks (l:=l) hr
 have hrl:=hr.len
 have hll:=h.len
 have hm2:=cparts_may (ref:=ref) h
 have hP:=CParts_ev (ref:=ref) (l:=l) (by omega) (by omega)
 unfold copb
 generalize hc:cparts ref l=c at *
 obtain ⟨bl,rs⟩:=c
 simp only at hbl hm2 ⊢
 have hsm:=cnum_small hbl
 have hL:=hbl.len
 have key:∀ i,i≤bl.length→E1 (fun K k=>C7.l1 K (bl,rs) v k (bl.length:Int) (i:Int) ((b++gams ((bl.length+1)::(cnum bl).take i)).length:Int) (byts (b++gams ((bl.length+1)::(cnum bl).take i)))) (row (b++(gams ((bl.length+1)::cnum bl)++runb v rs))):=by
  have hB2:∀ i,(b++gams ((bl.length+1)::(cnum bl).take i)).length≤1099508900000:=by
   intro i
   have:=gams_len ((bl.length+1)::(cnum bl).take i) (fun n hn=>by
    rcases List.mem_cons.1 hn with rfl | hn
    ·omega
    ·exact (hsm n (List.mem_of_mem_take hn)).2)
   rw [List.length_cons,List.length_take,cnum_len] at this
   rw [List.length_append];omega
  refine upto ?_ ?_
  ·refine step1 (fun _ _ _ _ _=>C7.l1.eq_2 ..) ?_
   refine negD (by omega) ?_
   have hlay:=RLay_ev (b:=b++gams ((bl.length+1)::(cnum bl).take bl.length)) hm2 hv hv2 (hb.app (gams_Bt _)) (by have:=hB2 bl.length;omega)
   refine bnd hlay (nowE ?_)
   rw [List.take_of_length_le (by rw [cnum_len];omega),List.append_assoc]
  ·intro i hi ih
   refine step1 (fun _ _ _ _ _=>C7.l1.eq_2 ..) ?_
   obtain ⟨s1,s2⟩:=cnum_rng hbl hi
   have hnext:b++gams ((bl.length+1)::(cnum bl).take i)++gam ((cnum bl).getD i 0)=b++gams ((bl.length+1)::(cnum bl).take (i+1)):=by
    rw [take_getD (d:=0) (by rw [cnum_len];exact hi:i<(cnum bl).length),← List.cons_append,gams_app,List.append_assoc]
    simp [gams]
   have hlay:=Lay_ev (n:=(cnum bl).getD i 0) (hb.app (gams_Bt ((bl.length+1)::(cnum bl).take i))) s1 s2 (by have:=hB2 i;omega)
   rw [hnext] at hlay
   have a:=hbl.ge _ (getD_mem (d:=0) hi)
   refine posD (by omega) (pos ⟨by omega,by show (i:Int)<(bl.length:Int);omega⟩ ?_)
   simp only
   rw [rdN,w1 (by omega)]
   by_cases h0:i=0
   ·refine posE (by omega) ?_
    have e1:wr .i64 (bl.getD i 0+1)=(((cnum bl).getD i 0:Nat):Int):=by
     rw [cnum_get hi,if_pos h0,w64 (by omega) (by omega)]
     subst h0;omega
    rw [e1]
    exact bnd hlay ih
   ·refine negE (by omega) ?_
    have e1:bl.getD i 0=(((cnum bl).getD i 0:Nat):Int):=by
     rw [cnum_get hi,if_neg h0];omega
    have hk:∀ K,Ck K ((byts (b++gams ((bl.length+1)::(cnum bl).take i)),((b++gams ((bl.length+1)::(cnum bl).take i)).length:Int)):B7) 2 (bl.getD i 0)=Ck K (row (b++gams ((bl.length+1)::(cnum bl).take i))) 2 (((cnum bl).getD i 0:Nat):Int):=fun K=>by rw [← e1];rfl
    refine bnd (congr (fun K _ _ _ _=>hk K) hlay) ih
 refine bnd hP ?_
 simp only
 rw [w1 (by omega)]
 have hk:=(key 0 (by omega)).e1
 rw [List.take_zero] at hk
 have e:gams [bl.length+1]=gam (bl.length+1):=by simp [gams]
 rw [e] at hk
 exact bnd (Lay_ev hb (by omega) (by omega) (by omega)) hk
end Go.XL
end
section
namespace Go.XL
open Go.XM
theorem CWhole_ok {ref l:List Int} (h1:MayP ref) (h2:MayP l):E0 (fun K=>Bd K ref (cparts ref l).1 (cparts ref l).2) (l,true):=by
 have hbl:=(cparts_blks (l:=l) h1).len
 have hm:=cparts_may (ref:=ref) h2
 have hm2:=hm.len
 have hrl:=h1.len
 have hj:=cjoin_parts h1 h2
 obtain ⟨l',e,hl⟩:=cw_l1 (ref:=ref) (bl:=(cparts ref l).1) (q:=(cparts ref l).2) (by omega) (by omega) (by omega) 0 (by omega) ref true (cparts ref l).2 (by omega) (by omega)
 rw [List.drop_zero] at e hl
 have hw:E0 (fun K=>Bd K ref (cparts ref l).1 (cparts ref l).2) _:=bnd (congr (fun K _ _ _ _=>clone_eq K (cparts ref l).2 (by omega)) (now _)) e.e1
 refine ofEq hw ?_
 unfold cjoin at hj
 cases hp:pk true ref (cparts ref l).1 with
 | none=>rw [hp] at hj;cases hj
 | some P =>
  rw [hp] at hj
  simp only at hj
  split at hj
  ·rename_i hc
   have hj:=Option.some.inj hj
   show (l',decide _)=(l,true)
   rw [hl P hp hc.2.2,decide_eq_true hc.2.2,hj]
  ·cases hj
theorem copb_Bt (v:Int) (ref l:List Int):Bt (copb v ref l):=(gams_Bt _).app (runb_Bt _ _)
theorem CRd_ev {v:Int} {ref l a b:List Int} (hr:MayP ref) (h:MayP l) (hv:0≤v) (hv2:v≤15) (ha:Bt a) (hb:Bt b) (hlen:(a++copb v ref l++b).length≤1099511627776) :
  E0 (fun K=>Cd K (pack (a++copb v ref l++b)) (a.length:Int) v ref) (l,((a++copb v ref l).length:Int),true):=by
 have hbl:=cparts_blks (l:=l) hr
 have hm2:=cparts_may (ref:=ref) h
 have hW:=CWhole_ok hr h
 unfold copb at hlen ⊢
 generalize hc:cparts ref l=c at *
 obtain ⟨bl,rs⟩:=c
 simp only at hbl hm2 hW hlen ⊢
 have hsm:=cnum_small hbl
 have hL:=hbl.len
 have hns:∀ n∈(bl.length+1)::cnum bl,0<n∧n<256:=by
  intro n hn
  rcases List.mem_cons.1 hn with rfl | hn
  ·omega
  ·exact hsm n hn
 have hS:a++(gams ((bl.length+1)::cnum bl)++runb v rs)++b=a++gams ((bl.length+1)::cnum bl)++(runb v rs++b):=by simp only [List.append_assoc]
 have hS2:a++(gams ((bl.length+1)::cnum bl)++runb v rs)++b=(a++gams ((bl.length+1)::cnum bl))++runb v rs++b:=by simp only [List.append_assoc]
 have rd:=fun i (hi:i<((bl.length+1)::cnum bl).length)=>reads_at hns hi ha ((runb_Bt v rs).app hb) (by rw [← hS];exact hlen)
 rw [← hS] at rd
 have hrr:=RRd_ev (l:=rs) (a:=a++gams ((bl.length+1)::cnum bl)) (b:=b) hm2 hv hv2 (ha.app (gams_Bt _)) hb (by rw [← hS2];exact hlen)
 rw [← hS2] at hrr
 generalize hX:pack (a++(gams ((bl.length+1)::cnum bl)++runb v rs)++b)=X at *
 have key:∀ i,i≤bl.length→E1 (fun K k=>Cd.l1 K X v ref k ((a++gams (((bl.length+1)::cnum bl).take (i+1))).length:Int) (bl.length:Int) (i:Int) (bl.take i)) (l,((a++(gams ((bl.length+1)::cnum bl)++runb v rs)).length:Int),true):=by
  refine upto ?_ ?_
  ·refine step1 (fun _ _ _ _ _=>Cd.l1.eq_2 ..) ?_
   refine negD (by omega) ?_
   rw [List.take_length,List.take_of_length_le (by simp [cnum_len])]
   refine bnd hrr (negB rfl (bnd hW (nowE ?_)))
   simp only [List.append_assoc]
  ·intro i hi ih
   refine step1 (fun _ _ _ _ _=>Cd.l1.eq_2 ..) ?_
   refine posD (by omega) (bnd (rd (i+1) (by simp [cnum_len];omega)) (negB rfl ?_))
   have hget:((bl.length+1)::cnum bl).getD (i+1) 0=(cnum bl).getD i 0:=by simp
   have a1:=hbl.ge _ (getD_mem (d:=0) hi)
   simp only
   rw [hget,w1 (by omega)]
   by_cases h0:i=0
   ·refine posE (by omega) (pos (by simp;omega) ?_)
    have e1:wr .i64 ((((cnum bl).getD i 0:Nat):Int)-1)=bl.getD i 0:=by
     rw [cnum_get hi,if_pos h0]
     subst h0
     rw [w64 (by omega) (by omega)];omega
    rw [e1,← take_getD (d:=0) hi]
    exact ih
   ·refine negE (by omega) (pos (by simp;omega) ?_)
    have e1:(((cnum bl).getD i 0:Nat):Int)=bl.getD i 0:=by
     rw [cnum_get hi,if_neg h0];omega
    rw [e1,← take_getD (d:=0) hi]
    exact ih
 have r0:=rd 0 (by simp)
 rw [List.take_zero,show gams []=[] from rfl,List.append_nil] at r0
 refine bnd r0 (negB rfl (negD ?_ ?_))
 ·show ¬ (((bl.length+1:Nat):Int) > 17);omega
 ·have e:wr .i64 (((((bl.length+1)::cnum bl).getD 0 0:Nat):Int)-1)=(bl.length:Int):=by
   show wr .i64 (((bl.length+1:Nat):Int)-1)=_
   rw [w64 (by omega) (by omega)];omega
  rw [e]
  exact (key 0 (by omega)).e1
end Go.XL
end
section
namespace Go.XL
open Go.XM
theorem z3:(wr .i64 ((wr .i64 ((0:Int)+0))+0))=0:=by
 rw [w64 (i:=0+0) (by omega) (by omega),w64 (by omega) (by omega)];rfl
end Go.XL
end
section
namespace Go.XL
open Go.XM
def GSm (g:Aa):Prop:=g.Out.length+lsum g.Out≤1000000
instance (g:Aa):Decidable (GSm g):=by unfold GSm;infer_instance
theorem GSm.row {g:Aa} (h:GSm g) {i:Nat} (hi:i<g.Out.length):(g.Out.getD i []).length≤1000000:=by
 have:=lsum_mem (getD_mem (d:=[]) hi)
 unfold GSm at h
 omega
theorem many_ev (g:Aa) (hl:GSm g):E0 (fun K=>C9 K g) (lsum g.Out:Int):=by
 unfold GSm at hl
 have key:∀ i,i≤g.Out.length→E1 (fun K k=>C9.l1 K g k (lsum (g.Out.take i):Int) ((g.Out.length:Nat):Int) (i:Int)) (lsum g.Out:Int):=by
  refine upto ?_ ?_
  ·refine step1 (fun _ _ _ _ _=>C9.l1.eq_2 ..) ?_
   exact negD (by omega) (nowE (by rw [List.take_length]))
  ·intro i hi ih
   have h1:=lsum_take hi
   have h2:=lsum_take_le g.Out (i+1)
   refine step1 (fun _ _ _ _ _=>C9.l1.eq_2 ..) ?_
   refine posD (by omega) (pos (by omega) ?_)
   rw [rd1N,w64 (by omega) (by omega),w1 (by omega),show ((lsum (g.Out.take i):Int)+((g.Out.getD i []).length:Int))=(lsum (g.Out.take (i+1)):Int) by omega]
   exact ih
 exact (key 0 (by omega)).e1
def RowP (n:Int) (xs:List Int):Prop:=MayP xs∧(0<xs.length→xs.getD (xs.length-1) 0<n)
instance (n:Int) (xs:List Int):Decidable (RowP n xs):=by unfold RowP;infer_instance
def GraphP (g:Aa):Prop:=0≤g.N∧g.N≤16∧(g.Out.length:Int)=g.N∧(∀ i,i<g.Out.length→RowP g.N (g.Out.getD i []))∧lsum g.Out≤120
instance (g:Aa):Decidable (GraphP g):=by unfold GraphP;infer_instance
theorem gmayG_ev (g:Aa) (hs:GSm g):E0 (fun K=>C0 K g) (decide (GraphP g)):=by
 have key:(g.Out.length:Int)=g.N→0≤g.N→g.N≤16→∀ i,i≤g.Out.length→(∀ j,j<i→RowP g.N (g.Out.getD j []))→E1 (fun K k=>C0.l1 K g k ((g.Out.length:Nat):Int) (i:Int)) (decide (GraphP g)):=by
  intro hn n0 n16
  refine upto ?_ ?_
  ·intro hok
   refine step1 (fun _ _ _ _ _=>C0.l1.eq_2 ..) ?_
   refine negD (by omega) (bnd (many_ev g hs) (nowE ?_))
   have:GraphP g↔lsum g.Out≤120:=⟨fun h=>h.2.2.2.2,fun h=>⟨n0,n16,hn,hok,h⟩⟩
   simp [this];omega
  ·intro i hi ih hok
   have hr:=hs.row hi
   refine step1 (fun _ _ _ _ _=>C0.l1.eq_2 ..) ?_
   refine posD (by omega) (pos (by omega) ?_)
   rw [rd1N]
   refine bnd (gmay_ev _ (by omega)) ?_
   have hno:¬ RowP g.N (g.Out.getD i [])→decide (GraphP g)=false:=fun h=>by
    have:¬ GraphP g:=fun hg=>h (hg.2.2.2.1 i hi)
    simp [this]
   have hgo:RowP g.N (g.Out.getD i [])→∀ j,j<i+1→RowP g.N (g.Out.getD j []):=fun h j hj=>by
    by_cases e:j=i
    ·subst e;exact h
    ·exact hok j (by omega)
   by_cases hm:MayP (g.Out.getD i [])
   ·refine neg (by simpa using hm) ?_
    rw [w1 (by omega)]
    by_cases h0:0<(g.Out.getD i []).length
    ·refine posD (by omega) ?_
     have e1:wr .i64 (((g.Out.getD i []).length:Int)-1)=(((g.Out.getD i []).length-1:Nat):Int):=by rw [w64 (by omega) (by omega)];omega
     rw [e1,rdN]
     refine pos (by omega) ?_
     by_cases hlt:(g.Out.getD i []).getD ((g.Out.getD i []).length-1) 0≥g.N
     ·exact posD hlt (nowE (hno fun h=>by have:=h.2 h0;omega).symm)
     ·exact negD hlt (ih (hgo ⟨hm,fun _=>by omega⟩))
    ·exact negD (by omega) (ih (hgo ⟨hm,fun h=>absurd h h0⟩))
   ·exact pos (by simpa using hm) (nowE (hno fun h=>hm h.1).symm)
 unfold C0
 by_cases h0:g.N<0
 ·exact posD h0 (nowE (by have:¬ GraphP g:=fun hg=>by have:=hg.1;omega
                          simp [this]))
 ·refine negD h0 ?_
  by_cases h1:g.N > 16
  ·exact posD h1 (nowE (by have:¬ GraphP g:=fun hg=>by have:=hg.2.1;omega
                           simp [this]))
  ·refine negD h1 ?_
   by_cases hn:(g.Out.length:Int)=g.N
   ·exact negN hn (key hn (by omega) (by omega) 0 (by omega) (fun j hj=>by omega)).e1
   ·exact posN hn (nowE (by have:¬ GraphP g:=fun hg=>hn hg.2.2.1
                            simp [this]))
end Go.XL
end
section
namespace Go.XL
open Go.XM
theorem gap_len2 {v:Int} {l:List Int} (h:MayP l) (hv:0≤v) (hv2:v≤15):(gap v l).length≤15*(1+l.length):=by
 have hl:=h.len
 have:=gams_len ((l.length+1)::stp v l) (fun n hn=>by
  rcases List.mem_cons.1 hn with rfl | hn
  ·omega
  ·exact (stp_small h hv hv2 n hn).2)
 rw [List.length_cons,stp_len] at this
 unfold gap;omega
theorem runb_len2 {v:Int} {l:List Int} (h:MayP l) (hv:0≤v) (hv2:v≤15):(runb v l).length≤30+15*l.length:=by
 obtain ⟨a1,a2,a3⟩:=parts_may h
 have hr:=(a1.len (by omega)).1
 have hr2:=(a1.len (by omega)).2
 have hlen:=a3.length_eq
 rw [List.length_append] at hlen
 obtain ⟨n1,n2⟩:=rnum_small hv hv2 a1
 have hg:=gap_len2 a2 hv hv2
 have:=gams_len (((parts l).1.length+1)::rnum v (parts l).1) (fun n hn=>by
  rcases List.mem_cons.1 hn with rfl | hn
  ·omega
  ·exact n1 n hn)
 rw [List.length_cons,n2] at this
 rw [runb,List.length_append]
 omega
def fr:Nat→List (List Int)→List Int
 | _,[]=>[]
 | v,l::ls=>runb (v:Int) l++fr (v+1) ls
theorem fr_Bt:∀ (v:Nat) (ls:List (List Int)),Bt (fr v ls)
 | _,[]=>Bt.nil
 | v,l::ls=>(runb_Bt _ _).app (fr_Bt (v+1) ls)
theorem fr_app:∀ (v:Nat) (a b:List (List Int)),fr v (a++b)=fr v a++fr (v+a.length) b
 | v,[],b=>by simp [fr]
 | v,l::a,b=>by
  simp only [List.cons_append,fr,fr_app (v+1) a b,List.append_assoc,List.length_cons]
  rw [show v+1+a.length=v+(a.length+1) by omega]
theorem fr_take {ls:List (List Int)} {i:Nat} (hi:i<ls.length):fr 0 (ls.take (i+1))=fr 0 (ls.take i)++runb (i:Int) (ls.getD i []):=by
 rw [take_getD (d:=[]) hi,fr_app,List.length_take,Nat.min_eq_left (by omega)]
 simp [fr]
theorem fr_split {ls:List (List Int)} {i:Nat} (hi:i<ls.length):fr 0 ls=fr 0 (ls.take i)++runb (i:Int) (ls.getD i [])++fr (i+1) (ls.drop (i+1)):=by
 have:ls=ls.take (i+1)++ls.drop (i+1):=(List.take_append_drop _ _).symm
 conv=>lhs;rw [this]
 rw [fr_app,fr_take hi,List.length_take,Nat.min_eq_left (by omega),Nat.zero_add]
theorem fr_len:∀ (v:Nat) (ls:List (List Int)),(∀ l∈ls,MayP l)→v+ls.length≤16→(fr v ls).length≤30*ls.length+15*lsum ls
 | v,[],_,_=>by simp [fr]
 | v,l::ls,h,hv=>by
  have h1:=runb_len2 (v:=(v:Int)) (h l List.mem_cons_self) (by omega) (by simp at hv;omega)
  have h2:=fr_len (v+1) ls (fun y hy=>h y (List.mem_cons_of_mem _ hy)) (by simp at hv;omega)
  simp only [fr,List.length_append,lsum_cons,List.length_cons]
  omega
def frb (g:Aa):List Int:=gam (g.Out.length+1)++fr 0 g.Out
structure GP (g:Aa):Prop where
 n:g.N=(g.Out.length:Int)
 le:g.Out.length≤16
 may:∀ l∈g.Out,MayP l
 sum:lsum g.Out≤120
theorem GraphP.gp {g:Aa} (h:GraphP g):GP g:=by
 obtain ⟨h1,h2,h3,h4,h5⟩:=h
 refine ⟨h3.symm,by omega,fun l hl=>?_,h5⟩
 obtain ⟨i,hi,rfl⟩:=List.mem_iff_getElem.1 hl
 have:=(h4 i hi).1
 rwa [getD_lt hi] at this
theorem GraphP.sm {g:Aa} (h:GraphP g):GSm g:=by
 have:=h.gp
 have a:=this.le
 have b:=this.sum
 unfold GSm;omega
theorem frb_len {g:Aa} (h:GP g):(frb g).length≤2400:=by
 have h1:=fr_len 0 g.Out h.may (by have:=h.le;omega)
 have h2:=h.le
 have h3:=h.sum
 have h4:=gam_len8 (show g.Out.length+1<256 by omega)
 rw [frb,List.length_append];omega
theorem frb_Bt (g:Aa):Bt (frb g):=(gam_Bt _).app (fr_Bt _ _)
end Go.XL
end
section
namespace Go.XL
open Go.XM
theorem part_set {ls:List (List Int)} {i:Nat} (hi:i<ls.length):(ls.take i++List.replicate (ls.length-i) []).set i (ls.getD i [])=ls.take (i+1)++List.replicate (ls.length-(i+1)) []:=by
 have h1:(ls.take i).length=i:=by simp;omega
 rw [List.set_append_right _ _ (by omega),h1,Nat.sub_self,show ls.length-i=(ls.length-(i+1))+1 by omega,List.replicate_succ,List.set_cons_zero,take_getD (d:=[]) hi,List.append_assoc]
 rfl
def part (g:Aa) (m:Nat):Aa:=(g.N,g.Out.take m++List.replicate (g.Out.length-m) [])
theorem part_all (g:Aa):part g g.Out.length=g:=by
 unfold part
 rw [List.take_length,Nat.sub_self]
 simp
theorem part_len {g:Aa} {m:Nat} (hm:m≤g.Out.length):(part g m).Out.length=g.Out.length:=by
 show (g.Out.take m++List.replicate (g.Out.length-m) []).length=_
 simp;omega
theorem part_get {g:Aa} {m i:Nat} (hi:i<m) (hm:m≤g.Out.length):(part g m).Out.getD i []=g.Out.getD i []:=by
 show (g.Out.take m++List.replicate (g.Out.length-m) []).getD i []=_
 rw [List.getD_eq_getElem?_getD,List.getElem?_append_left (by simp;omega),List.getElem?_take,if_pos hi,← List.getD_eq_getElem?_getD]
theorem part_get2 {g:Aa} {m i:Nat} (hi:m≤i) (hm:m≤g.Out.length):(part g m).Out.getD i []=[]:=by
 show (g.Out.take m++List.replicate (g.Out.length-m) []).getD i []=_
 rw [List.getD_eq_getElem?_getD,List.getElem?_append_right (by simp;omega),List.getElem?_replicate]
 split <;> rfl
theorem lsum_rep (n:Nat):lsum (List.replicate n ([]:List Int))=0:=by
 induction n with
 | zero=>rfl
 | succ n ih=>rw [List.replicate_succ,lsum_cons,ih];rfl
theorem part_G {g:Aa} (h:GraphP g) {m:Nat} (hm:m≤g.Out.length):GraphP (part g m):=by
 obtain ⟨h1,h2,h3,h4,h5⟩:=h
 refine ⟨h1,h2,by rw [part_len hm];exact h3,fun i hi=>?_,?_⟩
 ·rw [part_len hm] at hi
  by_cases c:i<m
  ·rw [part_get c hm];exact h4 i hi
  ·rw [part_get2 (by omega) hm]
   exact ⟨fun j hj=>by simp at hj,fun h=>by simp at h⟩
 ·show lsum (g.Out.take m++List.replicate (g.Out.length-m) [])≤120
  rw [lsum_append,lsum_rep]
  have:=lsum_take_le g.Out m
  omega
abbrev posn (g:Aa) (i:Nat):Nat:=(gam (g.Out.length+1)++fr 0 (g.Out.take i)).length
theorem frb_split {g:Aa} {i:Nat} (hi:i<g.Out.length):frb g=(gam (g.Out.length+1)++fr 0 (g.Out.take i))++runb (i:Int) (g.Out.getD i [])++fr (i+1) (g.Out.drop (i+1)):=by
 rw [frb,fr_split hi];simp only [List.append_assoc]
theorem empty_eq {K n:Nat} (h:n≤16):Dp K (n:Int)=some ((n:Int),List.replicate n []):=by
 unfold Dp
 rw [if_pos ⟨rfl,by omega,by omega,by omega⟩]
 rfl
theorem flists_ev {g:Aa} (hg:GraphP g) {m:Nat} (hm:m≤g.Out.length):E0 (fun K=>Av K (g.Out.length:Int) (m:Int) (posn g 0:Int) (pack (frb g))) (part g m,(posn g m:Int),true,pack (frb g)):=by
 have h:=hg.gp
 have hle:=h.le
 have hlen:=frb_len h
 have key:∀ i,i≤m→E1 (fun K k=>Av.l1 K ((g.Out.length:Int),List.replicate g.Out.length []) (m:Int) k (posn g i:Int) (i:Int) (pack (frb g)).Data (pack (frb g)).N 0 (g.Out.take i++List.replicate (g.Out.length-i) [])) (part g m,(posn g m:Int),true,pack (frb g)):=by
  refine upto ?_ ?_
  ·refine step1 (fun _ _ _ _ _=>Av.l1.eq_2 ..) ?_
   refine negD (by omega) ?_
   have e:(((g.Out.length:Int),g.Out.take m++List.replicate (g.Out.length-m) []):Aa)=part g m:=by unfold part;rw [h.n]
   rw [e]
   refine bnd (gmayG_ev _ (part_G hg hm).sm) ?_
   rw [decide_eq_true (part_G hg hm)]
   exact now _
  ·intro i hi ih
   have hio:i<g.Out.length:=by omega
   refine step1 (fun _ _ _ _ _=>Av.l1.eq_2 ..) ?_
   refine posD (by omega) ?_
   have hmi:=h.may _ (getD_mem (d:=[]) hio)
   have hs:=frb_split hio
   have r:=RRd_ev (v:=(i:Int)) (a:=gam (g.Out.length+1)++fr 0 (g.Out.take i)) (b:=fr (i+1) (g.Out.drop (i+1))) hmi (by omega) (by omega) ((gam_Bt _).app (fr_Bt _ _)) (fr_Bt _ _) (by rw [← hs];omega)
   rw [← hs,List.append_assoc,← fr_take hio] at r
   have r1:E0 (fun K=>Dx K (posn g i:Int) (i:Int) (pack (frb g))) (g.Out.getD i [],(posn g (i+1):Int),true,pack (frb g)):=bnd r (now _)
   refine bnd r1 (negB rfl (pos ⟨by omega,by simp;omega⟩ ?_))
   rw [w1 (by omega),Int.toNat_natCast,part_set hio]
   exact ih
 refine bnd (congr (fun K _ _ _ _=>empty_eq hle) (now _)) ?_
 have:=(key 0 (by omega)).e1
 rw [List.take_zero,List.nil_append] at this
 exact this
theorem head_ev {g:Aa} (h:GP g):E0 (fun K=>Du K (pack (frb g))) ((g.Out.length:Int),(posn g 0:Int),true):=by
 have hle:=h.le
 have hlen:=frb_len h
 have r:=reads (n:=g.Out.length+1) (a:=[]) (b:=fr 0 g.Out) (by omega) (by omega) Bt.nil (fr_Bt _ _) (by show (frb g).length≤_;omega)
 have r:E0 (fun K=>Cb K (pack (frb g)) 0 2) (((g.Out.length+1:Nat):Int),(posn g 0:Int),true):=by
  refine ofEq r ?_
  simp [posn,fr]
 refine bnd r (negB rfl (negD ?_ (nowE ?_)))
 ·show ¬ (((g.Out.length+1:Nat):Int) > 17);omega
 ·simp only
  rw [w64 (by omega) (by omega)]
  congr 1;omega
theorem posn_all (g:Aa):posn g g.Out.length=(frb g).length:=by unfold posn;rw [List.take_length];rfl
end Go.XL
end
section
namespace Go.XL
open Go.XM
set_option maxRecDepth 100000
def mg (n k:Nat):Aa:=(Ac 40 (n:Int) (k:Int)).getD (0,[])
def mgOk:Bool:=(List.range 17).all fun n=>(List.range 4).all fun k=>decide (GraphP (mg n k)) && decide ((mg n k).N=(n:Int))
theorem mg_all:mgOk=true:=by decide +kernel
theorem mg_ok {n k:Nat} (hn:n≤16) (hk:k<4):GraphP (mg n k)∧(mg n k).N=(n:Int):=by
 have h:=List.all_eq_true.1 (List.all_eq_true.1 mg_all n (List.mem_range.2 (by omega))) k (List.mem_range.2 hk)
 simpa using h
theorem mg_0_0 (j:Nat):Ac (j+40) ((0:Nat):Int) ((0:Nat):Int)=some (mg 0 0):=by kernel_rfl
theorem mg_0_1 (j:Nat):Ac (j+40) ((0:Nat):Int) ((1:Nat):Int)=some (mg 0 1):=by kernel_rfl
theorem mg_0_2 (j:Nat):Ac (j+40) ((0:Nat):Int) ((2:Nat):Int)=some (mg 0 2):=by kernel_rfl
theorem mg_0_3 (j:Nat):Ac (j+40) ((0:Nat):Int) ((3:Nat):Int)=some (mg 0 3):=by kernel_rfl
theorem mg_1_0 (j:Nat):Ac (j+40) ((1:Nat):Int) ((0:Nat):Int)=some (mg 1 0):=by kernel_rfl
theorem mg_1_1 (j:Nat):Ac (j+40) ((1:Nat):Int) ((1:Nat):Int)=some (mg 1 1):=by kernel_rfl
theorem mg_1_2 (j:Nat):Ac (j+40) ((1:Nat):Int) ((2:Nat):Int)=some (mg 1 2):=by kernel_rfl
theorem mg_1_3 (j:Nat):Ac (j+40) ((1:Nat):Int) ((3:Nat):Int)=some (mg 1 3):=by kernel_rfl
theorem mg_2_0 (j:Nat):Ac (j+40) ((2:Nat):Int) ((0:Nat):Int)=some (mg 2 0):=by kernel_rfl
theorem mg_2_1 (j:Nat):Ac (j+40) ((2:Nat):Int) ((1:Nat):Int)=some (mg 2 1):=by kernel_rfl
theorem mg_2_2 (j:Nat):Ac (j+40) ((2:Nat):Int) ((2:Nat):Int)=some (mg 2 2):=by kernel_rfl
theorem mg_2_3 (j:Nat):Ac (j+40) ((2:Nat):Int) ((3:Nat):Int)=some (mg 2 3):=by kernel_rfl
theorem mg_3_0 (j:Nat):Ac (j+40) ((3:Nat):Int) ((0:Nat):Int)=some (mg 3 0):=by kernel_rfl
theorem mg_3_1 (j:Nat):Ac (j+40) ((3:Nat):Int) ((1:Nat):Int)=some (mg 3 1):=by kernel_rfl
theorem mg_3_2 (j:Nat):Ac (j+40) ((3:Nat):Int) ((2:Nat):Int)=some (mg 3 2):=by kernel_rfl
theorem mg_3_3 (j:Nat):Ac (j+40) ((3:Nat):Int) ((3:Nat):Int)=some (mg 3 3):=by kernel_rfl
theorem mg_4_0 (j:Nat):Ac (j+40) ((4:Nat):Int) ((0:Nat):Int)=some (mg 4 0):=by kernel_rfl
theorem mg_4_1 (j:Nat):Ac (j+40) ((4:Nat):Int) ((1:Nat):Int)=some (mg 4 1):=by kernel_rfl
theorem mg_4_2 (j:Nat):Ac (j+40) ((4:Nat):Int) ((2:Nat):Int)=some (mg 4 2):=by kernel_rfl
theorem mg_4_3 (j:Nat):Ac (j+40) ((4:Nat):Int) ((3:Nat):Int)=some (mg 4 3):=by kernel_rfl
theorem mg_5_0 (j:Nat):Ac (j+40) ((5:Nat):Int) ((0:Nat):Int)=some (mg 5 0):=by kernel_rfl
theorem mg_5_1 (j:Nat):Ac (j+40) ((5:Nat):Int) ((1:Nat):Int)=some (mg 5 1):=by kernel_rfl
theorem mg_5_2 (j:Nat):Ac (j+40) ((5:Nat):Int) ((2:Nat):Int)=some (mg 5 2):=by kernel_rfl
theorem mg_5_3 (j:Nat):Ac (j+40) ((5:Nat):Int) ((3:Nat):Int)=some (mg 5 3):=by kernel_rfl
theorem mg_6_0 (j:Nat):Ac (j+40) ((6:Nat):Int) ((0:Nat):Int)=some (mg 6 0):=by kernel_rfl
theorem mg_6_1 (j:Nat):Ac (j+40) ((6:Nat):Int) ((1:Nat):Int)=some (mg 6 1):=by kernel_rfl
theorem mg_6_2 (j:Nat):Ac (j+40) ((6:Nat):Int) ((2:Nat):Int)=some (mg 6 2):=by kernel_rfl
theorem mg_6_3 (j:Nat):Ac (j+40) ((6:Nat):Int) ((3:Nat):Int)=some (mg 6 3):=by kernel_rfl
theorem mg_7_0 (j:Nat):Ac (j+40) ((7:Nat):Int) ((0:Nat):Int)=some (mg 7 0):=by kernel_rfl
theorem mg_7_1 (j:Nat):Ac (j+40) ((7:Nat):Int) ((1:Nat):Int)=some (mg 7 1):=by kernel_rfl
theorem mg_7_2 (j:Nat):Ac (j+40) ((7:Nat):Int) ((2:Nat):Int)=some (mg 7 2):=by kernel_rfl
theorem mg_7_3 (j:Nat):Ac (j+40) ((7:Nat):Int) ((3:Nat):Int)=some (mg 7 3):=by kernel_rfl
theorem mg_8_0 (j:Nat):Ac (j+40) ((8:Nat):Int) ((0:Nat):Int)=some (mg 8 0):=by kernel_rfl
theorem mg_8_1 (j:Nat):Ac (j+40) ((8:Nat):Int) ((1:Nat):Int)=some (mg 8 1):=by kernel_rfl
theorem mg_8_2 (j:Nat):Ac (j+40) ((8:Nat):Int) ((2:Nat):Int)=some (mg 8 2):=by kernel_rfl
theorem mg_8_3 (j:Nat):Ac (j+40) ((8:Nat):Int) ((3:Nat):Int)=some (mg 8 3):=by kernel_rfl
theorem mg_9_0 (j:Nat):Ac (j+40) ((9:Nat):Int) ((0:Nat):Int)=some (mg 9 0):=by kernel_rfl
theorem mg_9_1 (j:Nat):Ac (j+40) ((9:Nat):Int) ((1:Nat):Int)=some (mg 9 1):=by kernel_rfl
theorem mg_9_2 (j:Nat):Ac (j+40) ((9:Nat):Int) ((2:Nat):Int)=some (mg 9 2):=by kernel_rfl
theorem mg_9_3 (j:Nat):Ac (j+40) ((9:Nat):Int) ((3:Nat):Int)=some (mg 9 3):=by kernel_rfl
theorem mg_10_0 (j:Nat):Ac (j+40) ((10:Nat):Int) ((0:Nat):Int)=some (mg 10 0):=by kernel_rfl
theorem mg_10_1 (j:Nat):Ac (j+40) ((10:Nat):Int) ((1:Nat):Int)=some (mg 10 1):=by kernel_rfl
theorem mg_10_2 (j:Nat):Ac (j+40) ((10:Nat):Int) ((2:Nat):Int)=some (mg 10 2):=by kernel_rfl
theorem mg_10_3 (j:Nat):Ac (j+40) ((10:Nat):Int) ((3:Nat):Int)=some (mg 10 3):=by kernel_rfl
theorem mg_11_0 (j:Nat):Ac (j+40) ((11:Nat):Int) ((0:Nat):Int)=some (mg 11 0):=by kernel_rfl
theorem mg_11_1 (j:Nat):Ac (j+40) ((11:Nat):Int) ((1:Nat):Int)=some (mg 11 1):=by kernel_rfl
theorem mg_11_2 (j:Nat):Ac (j+40) ((11:Nat):Int) ((2:Nat):Int)=some (mg 11 2):=by kernel_rfl
theorem mg_11_3 (j:Nat):Ac (j+40) ((11:Nat):Int) ((3:Nat):Int)=some (mg 11 3):=by kernel_rfl
theorem mg_12_0 (j:Nat):Ac (j+40) ((12:Nat):Int) ((0:Nat):Int)=some (mg 12 0):=by kernel_rfl
theorem mg_12_1 (j:Nat):Ac (j+40) ((12:Nat):Int) ((1:Nat):Int)=some (mg 12 1):=by kernel_rfl
theorem mg_12_2 (j:Nat):Ac (j+40) ((12:Nat):Int) ((2:Nat):Int)=some (mg 12 2):=by kernel_rfl
theorem mg_12_3 (j:Nat):Ac (j+40) ((12:Nat):Int) ((3:Nat):Int)=some (mg 12 3):=by kernel_rfl
theorem mg_13_0 (j:Nat):Ac (j+40) ((13:Nat):Int) ((0:Nat):Int)=some (mg 13 0):=by kernel_rfl
theorem mg_13_1 (j:Nat):Ac (j+40) ((13:Nat):Int) ((1:Nat):Int)=some (mg 13 1):=by kernel_rfl
theorem mg_13_2 (j:Nat):Ac (j+40) ((13:Nat):Int) ((2:Nat):Int)=some (mg 13 2):=by kernel_rfl
theorem mg_13_3 (j:Nat):Ac (j+40) ((13:Nat):Int) ((3:Nat):Int)=some (mg 13 3):=by kernel_rfl
theorem mg_14_0 (j:Nat):Ac (j+40) ((14:Nat):Int) ((0:Nat):Int)=some (mg 14 0):=by kernel_rfl
theorem mg_14_1 (j:Nat):Ac (j+40) ((14:Nat):Int) ((1:Nat):Int)=some (mg 14 1):=by kernel_rfl
theorem mg_14_2 (j:Nat):Ac (j+40) ((14:Nat):Int) ((2:Nat):Int)=some (mg 14 2):=by kernel_rfl
theorem mg_14_3 (j:Nat):Ac (j+40) ((14:Nat):Int) ((3:Nat):Int)=some (mg 14 3):=by kernel_rfl
theorem mg_15_0 (j:Nat):Ac (j+40) ((15:Nat):Int) ((0:Nat):Int)=some (mg 15 0):=by kernel_rfl
theorem mg_15_1 (j:Nat):Ac (j+40) ((15:Nat):Int) ((1:Nat):Int)=some (mg 15 1):=by kernel_rfl
theorem mg_15_2 (j:Nat):Ac (j+40) ((15:Nat):Int) ((2:Nat):Int)=some (mg 15 2):=by kernel_rfl
theorem mg_15_3 (j:Nat):Ac (j+40) ((15:Nat):Int) ((3:Nat):Int)=some (mg 15 3):=by kernel_rfl
theorem mg_16_0 (j:Nat):Ac (j+40) ((16:Nat):Int) ((0:Nat):Int)=some (mg 16 0):=by kernel_rfl
theorem mg_16_1 (j:Nat):Ac (j+40) ((16:Nat):Int) ((1:Nat):Int)=some (mg 16 1):=by kernel_rfl
theorem mg_16_2 (j:Nat):Ac (j+40) ((16:Nat):Int) ((2:Nat):Int)=some (mg 16 2):=by kernel_rfl
theorem mg_16_3 (j:Nat):Ac (j+40) ((16:Nat):Int) ((3:Nat):Int)=some (mg 16 3):=by kernel_rfl
theorem mg_run (n k:Nat) (hn:n≤16) (hk:k<4) (j:Nat):Ac (j+40) (n:Int) (k:Int)=some (mg n k):=by
 have a:n=0∨n=1∨n=2∨n=3∨n=4∨n=5∨n=6∨n=7∨n=8∨n=9∨n=10∨n=11∨n=12∨n=13∨n=14∨n=15∨n=16:=by omega
 have b:k=0∨k=1∨k=2∨k=3:=by omega
 rcases a with rfl | rfl | rfl | rfl | rfl | rfl | rfl | rfl | rfl | rfl | rfl | rfl | rfl | rfl | rfl | rfl | rfl <;> rcases b with rfl | rfl | rfl | rfl
 ·exact mg_0_0 j
 ·exact mg_0_1 j
 ·exact mg_0_2 j
 ·exact mg_0_3 j
 ·exact mg_1_0 j
 ·exact mg_1_1 j
 ·exact mg_1_2 j
 ·exact mg_1_3 j
 ·exact mg_2_0 j
 ·exact mg_2_1 j
 ·exact mg_2_2 j
 ·exact mg_2_3 j
 ·exact mg_3_0 j
 ·exact mg_3_1 j
 ·exact mg_3_2 j
 ·exact mg_3_3 j
 ·exact mg_4_0 j
 ·exact mg_4_1 j
 ·exact mg_4_2 j
 ·exact mg_4_3 j
 ·exact mg_5_0 j
 ·exact mg_5_1 j
 ·exact mg_5_2 j
 ·exact mg_5_3 j
 ·exact mg_6_0 j
 ·exact mg_6_1 j
 ·exact mg_6_2 j
 ·exact mg_6_3 j
 ·exact mg_7_0 j
 ·exact mg_7_1 j
 ·exact mg_7_2 j
 ·exact mg_7_3 j
 ·exact mg_8_0 j
 ·exact mg_8_1 j
 ·exact mg_8_2 j
 ·exact mg_8_3 j
 ·exact mg_9_0 j
 ·exact mg_9_1 j
 ·exact mg_9_2 j
 ·exact mg_9_3 j
 ·exact mg_10_0 j
 ·exact mg_10_1 j
 ·exact mg_10_2 j
 ·exact mg_10_3 j
 ·exact mg_11_0 j
 ·exact mg_11_1 j
 ·exact mg_11_2 j
 ·exact mg_11_3 j
 ·exact mg_12_0 j
 ·exact mg_12_1 j
 ·exact mg_12_2 j
 ·exact mg_12_3 j
 ·exact mg_13_0 j
 ·exact mg_13_1 j
 ·exact mg_13_2 j
 ·exact mg_13_3 j
 ·exact mg_14_0 j
 ·exact mg_14_1 j
 ·exact mg_14_2 j
 ·exact mg_14_3 j
 ·exact mg_15_0 j
 ·exact mg_15_1 j
 ·exact mg_15_2 j
 ·exact mg_15_3 j
 ·exact mg_16_0 j
 ·exact mg_16_1 j
 ·exact mg_16_2 j
 ·exact mg_16_3 j
theorem made_ev {n k:Nat} (hn:n≤16) (hk:k<4):E0 (fun K=>Ac K (n:Int) (k:Int)) (mg n k) :=
 ⟨40,fun K _ _ _ _ h _ _ _ _=>by
  obtain ⟨j,rfl⟩:∃ j,K=j+40:=⟨K-40,by omega⟩
  exact mg_run n k hn hk j⟩
variable {x:Ce}
end Go.XL
end
section
namespace Go.XL
open Go.XM
theorem copb_len2 {v:Int} {ref l:List Int} (hr:MayP ref) (h:MayP l) (hv:0≤v) (hv2:v≤15):(copb v ref l).length≤45+15*ref.length+15*l.length:=by
 have hbl:=cparts_blks (l:=l) hr
 have h1:=runb_len2 (cparts_may (ref:=ref) h) hv hv2
 have hb:(cparts ref l).1.length≤ref.length:=blk_len _ _ _ _
 have hq:(cparts ref l).2.length≤l.length:=List.length_filter_le _ _
 have hL:=hbl.len
 have:=gams_len (((cparts ref l).1.length+1)::cnum (cparts ref l).1) (fun n hn=>by
  rcases List.mem_cons.1 hn with rfl | hn
  ·omega
  ·exact (cnum_small hbl n hn).2)
 rw [List.length_cons,cnum_len] at this
 rw [copb,List.length_append]
 omega
def dl (g:Aa) (v:Nat):List Int:=g.Out.getD v []
theorem dl_may {g:Aa} (h:GP g) (v:Nat):MayP (dl g v):=by
 unfold dl
 by_cases hv:v<g.Out.length
 ·exact h.may _ (getD_mem hv)
 ·rw [List.getD_eq_getElem?_getD,List.getElem?_eq_none (by omega)];decide
theorem dlist_eq {g:Aa} (h:GP g) (K v:Nat):D1 K g (v:Int)=some (dl g v):=by
 have hi:∀ K,Ea K g (v:Int)=some (decide (0≤(v:Int)∧(v:Int)<g.N)):=by
  intro K
  unfold Ea
  by_cases c:(v:Int)≥0
  ·rw [if_pos (decide_eq_true c)];simp [c]
  ·omega
 unfold D1
 rw [hi,h.n]
 by_cases hv:v<g.Out.length
 ·rw [decide_eq_true (by omega)]
  show (if (0:Int)≤(v:Int)∧(v:Int)<((g.Out.length:Nat):Int) then some (nth g.Out (v:Int)) else none)=_
  rw [if_pos ⟨by omega,by omega⟩,rd1N];rfl
 ·rw [decide_eq_false (by omega)]
  show some ([]:List Int)=_
  unfold dl
  rw [List.getD_eq_getElem?_getD,List.getElem?_eq_none (by omega)];rfl
def dr (g:Aa):Nat→List (List Int)→List Int
 | _,[]=>[]
 | v,l::ls=>copb (v:Int) (dl g v) l++dr g (v+1) ls
theorem dr_Bt (g:Aa):∀ (v:Nat) (ls:List (List Int)),Bt (dr g v ls)
 | _,[]=>Bt.nil
 | v,l::ls=>(copb_Bt _ _ _).app (dr_Bt g (v+1) ls)
theorem dr_app (g:Aa):∀ (v:Nat) (a b:List (List Int)),dr g v (a++b)=dr g v a++dr g (v+a.length) b
 | v,[],b=>by simp [dr]
 | v,l::a,b=>by
  simp only [List.cons_append,dr,dr_app g (v+1) a b,List.append_assoc,List.length_cons]
  rw [show v+1+a.length=v+(a.length+1) by omega]
theorem dr_take {g:Aa} {ls:List (List Int)} {i:Nat} (hi:i<ls.length):dr g 0 (ls.take (i+1))=dr g 0 (ls.take i)++copb (i:Int) (dl g i) (ls.getD i []):=by
 rw [take_getD (d:=[]) hi,dr_app,List.length_take,Nat.min_eq_left (by omega)]
 simp [dr]
theorem dr_split {g:Aa} {ls:List (List Int)} {i:Nat} (hi:i<ls.length):dr g 0 ls=dr g 0 (ls.take i)++copb (i:Int) (dl g i) (ls.getD i [])++dr g (i+1) (ls.drop (i+1)):=by
 have:ls=ls.take (i+1)++ls.drop (i+1):=(List.take_append_drop _ _).symm
 conv=>lhs;rw [this]
 rw [dr_app,dr_take hi,List.length_take,Nat.min_eq_left (by omega),Nat.zero_add]
theorem dr_len {g:Aa} (hg:GP g):∀ (v:Nat) (ls:List (List Int)),(∀ l∈ls,MayP l)→v+ls.length≤16→(dr g v ls).length≤45*ls.length+15*lsum (g.Out.drop v)+15*lsum ls
 | v,[],_,_=>by simp [dr]
 | v,l::ls,h,hv=>by
  have h1:=copb_len2 (v:=(v:Int)) (dl_may hg v) (h l List.mem_cons_self) (by omega) (by simp at hv;omega)
  have h2:=dr_len hg (v+1) ls (fun y hy=>h y (List.mem_cons_of_mem _ hy)) (by simp at hv;omega)
  have h3:(dl g v).length+lsum (g.Out.drop (v+1))≤lsum (g.Out.drop v):=by
   by_cases c:v<g.Out.length
   ·rw [lsum_drop c];exact Nat.le_refl _
   ·unfold dl
    rw [List.getD_eq_getElem?_getD,List.getElem?_eq_none (by omega),List.drop_eq_nil_of_le (by omega:g.Out.length≤v+1),List.drop_eq_nil_of_le (by omega:g.Out.length≤v)]
    simp
  simp only [dr,List.length_append,lsum_cons,List.length_cons]
  omega
def drb (b g:Aa):List Int:=gam (g.Out.length+1)++dr b 0 g.Out
theorem drb_len {b g:Aa} (hb:GP b) (h:GP g):(drb b g).length≤4400:=by
 have h1:=dr_len hb 0 g.Out h.may (by have:=h.le;omega)
 rw [List.drop_zero] at h1
 have h2:=h.le
 have h3:=h.sum
 have h5:=hb.sum
 have h4:=gam_len8 (show g.Out.length+1<256 by omega)
 rw [drb,List.length_append];omega
theorem drb_Bt (b g:Aa):Bt (drb b g):=(gam_Bt _).app (dr_Bt _ _ _)
end Go.XL
end
section
namespace Go.XL
open Go.XM
theorem dbits_ev {b g:Aa} (hb:GP b) (h:GP g):E0 (fun K=>Cx K b g) (pack (drb b g)):=by
 have hle:=h.le
 have hlen:=drb_len hb h
 have hpre:∀ i,i≤g.Out.length→(gam (g.Out.length+1)++dr b 0 (g.Out.take i)).length≤5000:=by
  intro i hi
  have h1:=dr_len hb 0 (g.Out.take i) (fun l hl=>h.may l (List.mem_of_mem_take hl)) (by simp;omega)
  rw [List.drop_zero] at h1
  have h2:=lsum_take_le g.Out i
  have h3:=h.sum
  have h5:=hb.sum
  have h4:=gam_len8 (show g.Out.length+1<256 by omega)
  rw [List.length_take] at h1
  rw [List.length_append];omega
 have key:∀ i,i≤g.Out.length→E1 (fun K k=>Cx.l1 K b g k (g.Out.length:Int) (i:Int) ByteArray.empty 0 ((gam (g.Out.length+1)++dr b 0 (g.Out.take i)).length:Int) (byts (gam (g.Out.length+1)++dr b 0 (g.Out.take i)))) (pack (drb b g)):=by
  refine upto ?_ ?_
  ·refine step1 (fun _ _ _ _ _=>Cx.l1.eq_2 ..) ?_
   refine negD (by omega) ?_
   rw [List.take_length]
   exact bnd (congr (fun K _ _ _ _=>bits_eq (l:=drb b g) (by omega) K) (now _)) (now _)
  ·intro i hi ih
   refine step1 (fun _ _ _ _ _=>Cx.l1.eq_2 ..) ?_
   have hm:=h.may _ (getD_mem (d:=[]) hi)
   have hp:=hpre i (by omega)
   have hlay:=CLay_ev (v:=(i:Int)) (b:=gam (g.Out.length+1)++dr b 0 (g.Out.take i)) (dl_may hb i) hm (by omega) (by omega) ((gam_Bt _).app (dr_Bt _ _ _)) (by omega)
   rw [List.append_assoc,← dr_take hi] at hlay
   refine posD (by omega) (pos (by omega) (bnd (congr (fun K _ _ _ _=>dlist_eq hb K i) (now _)) ?_))
   rw [rd1N,w1 (by omega)]
   exact bnd hlay ih
 have hlay:=Lay_ev (n:=g.Out.length+1) (l:=[]) Bt.nil (by omega) (by omega) (by simp)
 rw [List.nil_append] at hlay
 have e0:wr .i64 (g.N+1)=((g.Out.length+1:Nat):Int):=by rw [h.n,w1 (by omega)]
 have he:=(key 0 (by omega)).e1
 rw [List.take_zero,show dr b 0 []=[] from rfl,List.append_nil] at he
 refine congr (f:=fun K _ _ _ _=>(Ck K (row []) 2 ((g.Out.length+1:Nat):Int)).bind fun r16=>Cx.l1 K b g K ((g.Out.length:Nat):Int) (0:Int) ByteArray.empty (0:Int) r16.n r16.data) (fun K _ _ _ _=>by unfold Cx;rw [e0];rfl) ?_
 exact bnd hlay he
abbrev posd (b g:Aa) (i:Nat):Nat:=(gam (g.Out.length+1)++dr b 0 (g.Out.take i)).length
theorem drb_split {b g:Aa} {i:Nat} (hi:i<g.Out.length):drb b g=(gam (g.Out.length+1)++dr b 0 (g.Out.take i))++copb (i:Int) (dl b i) (g.Out.getD i [])++dr b (i+1) (g.Out.drop (i+1)):=by
 rw [drb,dr_split hi];simp only [List.append_assoc]
theorem dlists_ev {b g:Aa} (hbg:GraphP b) (hg:GraphP g):E0 (fun K=>A4 K (g.Out.length:Int) (g.Out.length:Int) (posd b g 0:Int) (pack (drb b g)) b) (g,((drb b g).length:Int),true,pack (drb b g),b):=by
 have h:=hg.gp
 have hb:=hbg.gp
 have hle:=h.le
 have hlen:=drb_len hb h
 have hend:posd b g g.Out.length=(drb b g).length:=by unfold posd;rw [List.take_length];rfl
 have key:∀ i,i≤g.Out.length→E1 (fun K k=>A4.l1 K ((g.Out.length:Int),List.replicate g.Out.length []) (g.Out.length:Int) k (posd b g i:Int) (i:Int) (pack (drb b g)).Data (pack (drb b g)).N b.N b.Out 0 (g.Out.take i++List.replicate (g.Out.length-i) [])) (g,((drb b g).length:Int),true,pack (drb b g),b):=by
  refine upto ?_ ?_
  ·refine step1 (fun _ _ _ _ _=>A4.l1.eq_2 ..) ?_
   refine negD (by omega) ?_
   have e:(((g.Out.length:Int),g.Out.take g.Out.length++List.replicate (g.Out.length-g.Out.length) []):Aa)=g:=by
    rw [← h.n];exact part_all g
   rw [e,hend]
   refine bnd (gmayG_ev _ hg.sm) ?_
   rw [decide_eq_true hg]
   exact now _
  ·intro i hi ih
   refine step1 (fun _ _ _ _ _=>A4.l1.eq_2 ..) ?_
   refine posD (by omega) ?_
   have hmi:=h.may _ (getD_mem (d:=[]) hi)
   have hs:=drb_split (b:=b) hi
   have r:=CRd_ev (v:=(i:Int)) (a:=gam (g.Out.length+1)++dr b 0 (g.Out.take i)) (b:=dr b (i+1) (g.Out.drop (i+1))) (dl_may hb i) hmi (by omega) (by omega) ((gam_Bt _).app (dr_Bt _ _ _)) (dr_Bt _ _ _) (by rw [← hs];omega)
   rw [← hs,List.append_assoc,← dr_take hi] at r
   have r1:E0 (fun K=>Dy K (posd b g i:Int) (i:Int) (pack (drb b g)) b) (g.Out.getD i [],(posd b g (i+1):Int),true,pack (drb b g),b):=bnd (congr (fun K _ _ _ _=>dlist_eq hb K i) (now _)) (bnd r (now _))
   refine bnd r1 (negB rfl (pos ⟨by omega,by simp;omega⟩ ?_))
   rw [w1 (by omega),Int.toNat_natCast,part_set hi]
   exact ih
 refine bnd (congr (fun K _ _ _ _=>empty_eq hle) (now _)) ?_
 have:=(key 0 (by omega)).e1
 rw [List.take_zero,List.nil_append] at this
 exact this
end Go.XL
end
section
namespace Go.XL
open Go.XM
theorem bt_nat (s:ByteArray) (j:Int):∃ a:Nat,bt s j=(a:Int)∧a<256:=by
 unfold bt
 generalize s.data.toList.getD j.toNat 0=u
 exact ⟨u.toNat,rfl,u.toNat_lt⟩
def bof (s:ByteArray) (i:Nat):Int:=(((bt s ((i / 8:Nat):Int)).toNat / 2 ^ (7-i % 8) % 2:Nat):Int)
theorem bof_01 (s:ByteArray) (i:Nat):bof s i=0∨bof s i=1:=mod2 _
def Zs (s:ByteArray) (n:Nat):Prop:=∀ i,i<8*s.size→n≤i→bof s i=0
instance (s:ByteArray) (n:Nat):Decidable (Zs s n):=by unfold Zs;infer_instance
def MayB (b:Ao):Prop:=0≤b.N∧b.N≤6000∧b.Data.size=(b.N.toNat+7) / 8∧Zs b.Data b.N.toNat
instance (b:Ao):Decidable (MayB b):=by unfold MayB;infer_instance
def ofb (b:Ao):List Int:=(List.range b.N.toNat).map (bof b.Data)
theorem ofb_len (b:Ao):(ofb b).length=b.N.toNat:=by simp [ofb]
theorem ofb_Bt (b:Ao):Bt (ofb b):=by
 intro x hx
 simp only [ofb,List.mem_map] at hx
 obtain ⟨i,_,rfl⟩:=hx
 exact bof_01 _ _
theorem Zs_last {s:ByteArray} {q t:Nat} (hs:s.size=q+1) (ht:t<8) (h0:0<t) {a:Nat} (ha:bt s (q:Int)=(a:Int)) (ha2:a<256):Zs s (8*q+t)↔a % 2 ^ (8-t)=0:=by
 have hb:∀ r,r<8→bof s (8*q+r)=((a / 2 ^ (7-r) % 2:Nat):Int):=by
  intro r hr
  unfold bof
  rw [show (8*q+r) / 8=q by omega,show (8*q+r) % 8=r by omega,ha,Int.toNat_natCast]
 have:t=1∨t=2∨t=3∨t=4∨t=5∨t=6∨t=7:=by omega
 constructor
 ·intro z
  have hz:∀ r,t≤r→r<8→a / 2 ^ (7-r) % 2=0:=by
   intro r h1 h2
   have:=z (8*q+r) (by omega) (by omega)
   rw [hb r h2] at this;omega
  have z1:=hz 1;have z2:=hz 2;have z3:=hz 3;have z4:=hz 4;have z5:=hz 5;have z6:=hz 6;have z7:=hz 7
  simp only [Nat.reduceSub,Nat.reducePow,Nat.reduceLT,forall_const] at z1 z2 z3 z4 z5 z6 z7
  rcases this with rfl | rfl | rfl | rfl | rfl | rfl | rfl <;> simp only [Nat.reduceSub,Nat.reducePow] <;> omega
 ·intro hm i h1 h2
  obtain ⟨r,rfl⟩:∃ r,i=8*q+r:=⟨i-8*q,by omega⟩
  rw [hb r (by omega)]
  have hr:r=1∨r=2∨r=3∨r=4∨r=5∨r=6∨r=7:=by omega
  rcases this with rfl | rfl | rfl | rfl | rfl | rfl | rfl <;> simp only [Nat.reduceSub,Nat.reducePow] at hm <;> rcases hr with rfl | rfl | rfl | rfl | rfl | rfl | rfl <;> simp only [Nat.reduceSub,Nat.reducePow] <;> omega
theorem bMay_eq {b:Ao} (hs:b.Data.size≤1000000) (K:Nat):Dv K b=some (decide (MayB b)):=by
 unfold Dv
 by_cases h1:b.N<0
 ·rw [if_pos (decide_eq_true h1),decide_eq_false (fun z=>by have:=z.1;omega)]
 rw [if_neg (by simpa using h1)]
 by_cases h2:b.N > 6000
 ·rw [if_pos (decide_eq_true h2),decide_eq_false (fun z=>by have:=z.2.1;omega)]
 rw [if_neg (by simpa using h2),if_pos (by decide)]
 obtain ⟨n,hn⟩:=Int.eq_ofNat_of_zero_le (show 0≤b.N by omega)
 have e1:wr .i64 ((wr .i64 ((wr .i64 (b.N+8))-1)).tdiv 8)=(((n+7) / 8:Nat):Int):=by
  rw [w64 (i:=b.N+8) (by omega) (by omega),w64 (i:=b.N+8-1) (by omega) (by omega),show b.N+8-1=((n+7:Nat):Int) by omega]
  rw [show (8:Int)=((8:Nat):Int) from rfl,tdivN,w64 (by omega) (by omega)]
 have e2:(b.N.tmod 8)=((n % 8:Nat):Int):=by rw [hn];exact tmodN _ 8
 have e0:b.N.toNat=n:=by omega
 rw [e1,e2]
 by_cases h3:b.Data.size=(n+7) / 8
 ·rw [if_neg (by simp [h3]),if_pos (by decide)]
  by_cases h4:n % 8=0
  ·rw [if_pos (by simp [h4]),decide_eq_true]
   exact ⟨by omega,by omega,by rw [e0];exact h3,fun i a1 a2=>by omega⟩
  ·obtain ⟨a,a1,a2⟩:=bt_nat b.Data ((n / 8:Nat):Int)
   have e3:wr .i64 (((b.Data.size:Nat):Int)-1)=((n / 8:Nat):Int):=by rw [w64 (by omega) (by omega)];omega
   have e4:(255:Int).fdiv (2 ^ min (((n % 8:Nat):Int)).toNat 8)=((2 ^ (8-n % 8)-1:Nat):Int):=by
    rw [Int.toNat_natCast]
    have:n % 8=1∨n % 8=2∨n % 8=3∨n % 8=4∨n % 8=5∨n % 8=6∨n % 8=7:=by omega
    rcases this with e | e | e | e | e | e | e <;> rw [e] <;> decide
   rw [if_neg (by simp;omega),e3,if_pos ⟨by omega,by omega⟩,if_pos (by omega),a1,e4,and8 a2 (by omega)]
   have hz:=Zs_last (s:=b.Data) (q:=n / 8) (t:=n % 8) (by omega) (by omega) (by omega) a1 a2
   rw [show 8*(n / 8)+n % 8=n by omega] at hz
   congr 1
   rw [Bool.eq_iff_iff,decide_eq_true_iff]
   constructor
   ·intro q
    have:a % 2 ^ (8-n % 8)=0:=by have:=of_decide_eq_true q;omega
    exact ⟨by omega,by omega,by rw [e0];exact h3,by rw [e0];exact hz.2 this⟩
   ·intro q
    have:=hz.1 (by have:=q.2.2.2;rwa [e0] at this)
    rw [this];rfl
 ·rw [if_pos (by simp;omega),decide_eq_false (fun z=>h3 (by have:=z.2.2.1;rwa [e0] at this))]
theorem ofb_get {b:Ao} (h:MayB b) {i:Nat} (hi:i<8*b.Data.size):(ofb b).getD i 0=bof b.Data i:=by
 by_cases c:i<b.N.toNat
 ·rw [getD_lt (by rw [ofb_len];exact c)];simp [ofb]
 ·rw [gd_ge (by rw [ofb_len];omega)]
  exact (h.2.2.2 i hi (by omega)).symm
theorem byt_ofb {b:Ao} (h:MayB b) {j:Nat} (hj:j<b.Data.size):byt (ofb b) j=bt b.Data (j:Int):=by
 obtain ⟨a,a1,a2⟩:=bt_nat b.Data (j:Int)
 have e:∀ t,t<8→(ofb b).getD (8*j+t) 0=((a / 2 ^ (7-t) % 2:Nat):Int):=by
  intro t ht
  rw [ofb_get h (by omega)]
  unfold bof
  rw [show (8*j+t) / 8=j by omega,show (8*j+t) % 8=t by omega,a1,Int.toNat_natCast]
 have e0:=e 0 (by omega)
 rw [Nat.add_zero] at e0
 unfold byt
 rw [e0,e 1 (by omega),e 2 (by omega),e 3 (by omega),e 4 (by omega),e 5 (by omega),e 6 (by omega),e 7 (by omega),a1]
 simp only [Nat.reduceSub,Nat.reducePow]
 omega
theorem bt_eq {s:ByteArray} {j:Nat} (hj:j<s.data.toList.length):bt s (j:Int)=((s.data.toList[j]).toNat:Int):=by
 unfold bt;rw [Int.toNat_natCast,List.getD_eq_getElem?_getD,List.getElem?_eq_getElem hj];rfl
theorem pack_ofb {b:Ao} (h:MayB b):pack (ofb b)=b:=by
 obtain ⟨h1,h2,h3,h4⟩:=id h
 have e1:bytesOf (byts (ofb b))=b.Data:=by
  apply ByteArray.ext
  apply Array.ext'
  have hb:b.Data.data.toList.length=b.Data.size:=rfl
  refine List.ext_getElem (by rw [bytesOf_data,List.length_map,byts_len,ofb_len,hb,h3]) fun j j1 j2=>?_
  have hj:j<b.Data.size:=j2
  have e:=byt_ofb h hj
  rw [bt_eq j2] at e
  have hlen:(bytesOf (byts (ofb b))).data.toList=(byts (ofb b)).map fun n=>UInt8.ofNat n.toNat:=bytesOf_data _
  have e3:(bytesOf (byts (ofb b))).data.toList[j]=UInt8.ofNat (byt (ofb b) j).toNat:=by
   rw [List.getElem_of_eq hlen];simp [byts]
  rw [e3,e,Int.toNat_natCast];simp
 show (bytesOf (byts (ofb b)),((ofb b).length:Int))=b
 rw [e1,ofb_len]
 show (b.1,((b.2.toNat:Nat):Int))=b
 rw [show ((b.2.toNat:Nat):Int)=b.2 from Int.toNat_of_nonneg h1]
theorem mayB_pack {l:List Int} (h:Bt l) (hl:l.length≤6000):MayB (pack l):=by
 have h1:=bmay h hl 0
 have hs:(pack l).Data.size=(l.length+7) / 8:=by show (bytesOf (byts l)).size=_;rw [bytesOf_size,byts_len]
 rw [bMay_eq (by omega)] at h1
 simpa using h1
theorem ofb_pack {l:List Int} (h:Bt l) (hl:l.length≤6000):ofb (pack l)=l:=by
 have hs:(pack l).Data.size=(l.length+7) / 8:=by show (bytesOf (byts l)).size=_;rw [bytesOf_size,byts_len]
 have hlen:(ofb (pack l)).length=l.length:=by rw [ofb_len];show ((l.length:Int)).toNat=_;omega
 refine List.ext_getElem hlen fun i h1 h2=>?_
 have e:=ofb_get (mayB_pack h hl) (i:=i) (by omega)
 rw [getD_lt h1] at e
 obtain ⟨a,a1,a2,a3⟩:=byt_bit h (i / 8) (i % 8) (by omega)
 have e2:bof (pack l).Data i=l.getD i 0:=by
  unfold bof
  rw [show (pack l).Data=bytesOf (byts l) from rfl,bt_pack h (by omega),a1,Int.toNat_natCast,a3]
  congr 1;omega
 rw [e,e2,getD_lt h2]
end Go.XL
end
section
namespace Go.XL
open Go.XM
theorem ahead_split:∀ {m:List Int} {z:Nat},Bt m→ahead m=some z→m=List.replicate z 0++1::m.drop (z+1)
 | [],z,_,h=>by cases h
 | x::m,z,hB,h=>by
  simp only [ahead] at h
  split at h
  ·rename_i e;cases h;subst e;simp
  ·rename_i e
   rw [Option.map_eq_some_iff] at h
   obtain ⟨z',h,rfl⟩:=h
   have hx:=(hB x List.mem_cons_self).resolve_right e
   have ih:=ahead_split (fun y hy=>hB y (List.mem_cons_of_mem _ hy)) h
   subst hx
   rw [List.replicate_succ,List.cons_append,List.drop_succ_cons]
   congr 1
theorem nb_val:∀ {t:List Int},Bt t→∀ m:Nat,nb (m*2 ^ t.length+(val t).toNat) t.length=t
 | [],_,m=>rfl
 | x::t,h,m=>by
  have ht:Bt t:=fun y hy=>h y (List.mem_cons_of_mem _ hy)
  obtain ⟨v0,v1⟩:=val_rng ht
  obtain ⟨b,hb⟩:=Int.eq_ofNat_of_zero_le v0
  have hb2:b<2 ^ t.length:=by
   rw [hb] at v1
   have:((b:Nat):Int)<((2 ^ t.length:Nat):Int):=by push_cast;exact v1
   omega
  obtain ⟨a,ha,ha2⟩:∃ a:Nat,x=(a:Int)∧a<2:=by
   rcases h x List.mem_cons_self with e | e
   ·exact ⟨0,e,by omega⟩
   ·exact ⟨1,e,by omega⟩
  have hv:(val (x::t)).toNat=a*2 ^ t.length+b:=by
   rw [val_cons,ha,hb]
   have:((a:Int)*2 ^ t.length+(b:Int))=((a*2 ^ t.length+b:Nat):Int):=by push_cast;rfl
   rw [this,Int.toNat_natCast]
  have ih:=nb_val ht (2*m+a)
  rw [hb,Int.toNat_natCast] at ih
  have e:m*2 ^ (x::t).length+(val (x::t)).toNat=(2*m+a)*2 ^ t.length+b:=by
   rw [hv,List.length_cons,Nat.pow_succ,Nat.add_mul,← Nat.mul_assoc,Nat.mul_comm (m*2 ^ t.length) 2,← Nat.mul_assoc,Nat.add_assoc]
  rw [e,List.length_cons]
  simp only [nb]
  rw [ih]
  have hp:0<2 ^ t.length:=Nat.two_pow_pos _
  have e2:((2*m+a)*2 ^ t.length+b) / 2 ^ t.length=2*m+a:=by
   rw [Nat.mul_comm,Nat.mul_add_div hp,Nat.div_eq_of_lt hb2,Nat.add_zero]
  rw [e2,ha,show (2*m+a) % 2=a by omega]
theorem rg_can {l:List Int} (h:Bt l) {at_:Nat} {v:Int} {n:Nat} (hr:rg l at_=some (v,n)):∃ k:Nat,v=(k:Int)∧0<k∧k≤1073741824∧gam k <+: l.drop at_∧n=at_+(gam k).length:=by
 unfold rg at hr
 cases hah:ahead (l.drop at_) with
 | none=>rw [hah] at hr;cases hr
 | some z =>
  rw [hah] at hr
  simp only at hr
  split at hr
  ·rename_i c
   obtain ⟨c1,c2,c3⟩:=c
   have hB:Bt (l.drop at_):=fun x hx=>h x (List.mem_of_mem_drop hx)
   have hs:=ahead_split hB hah
   generalize hm:(l.drop at_).drop (z+1)=m at hs
   have hlen:z≤m.length:=by rw [← hm];simp;omega
   have hd:l.drop (at_+z)=1::m:=by
    rw [← List.drop_drop,hs]
    rw [List.drop_append_of_le_length (by simp)]
    simp
   have ht:(l.drop (at_+z)).take (z+1)=1::m.take z:=by rw [hd,List.take_succ_cons]
   rw [ht] at hr c3
   have hBt:Bt (m.take z):=fun x hx=>by
    refine hB x ?_
    rw [hs];exact List.mem_append_right _ (List.mem_cons_of_mem _ (List.mem_of_mem_take hx))
   have htl:(m.take z).length=z:=by simp;omega
   obtain ⟨w0,w1⟩:=val_rng hBt
   obtain ⟨b,hb⟩:=Int.eq_ofNat_of_zero_le w0
   have hb2:b<2 ^ z:=by
    rw [hb,htl] at w1
    have:((b:Nat):Int)<((2 ^ z:Nat):Int):=by push_cast;exact w1
    omega
   have hv:val (1::m.take z)=((2 ^ z+b:Nat):Int):=by rw [val_cons,htl,hb];push_cast;omega
   rw [hv] at hr c3
   cases hr
   have hp:0<2 ^ z:=Nat.two_pow_pos _
   have hlog:Nat.log2 (2 ^ z+b)=z:=by
    have h1:z≤Nat.log2 (2 ^ z+b):=(Nat.le_log2 (by omega)).2 (by omega)
    have h2:Nat.log2 (2 ^ z+b)<z+1:=(Nat.log2_lt (by omega)).2 (by rw [Nat.pow_succ];omega)
    omega
   have hnb:=nb_val hBt 1
   rw [htl,hb,Int.toNat_natCast,Nat.one_mul] at hnb
   have hg:gam (2 ^ z+b)=List.replicate z 0++1::m.take z:=by rw [gam_eq (by omega),hlog,hnb]
   refine ⟨2 ^ z+b,rfl,by omega,by omega,?_,?_⟩
   ·rw [hg,hs]
    refine (List.prefix_append_right_inj _).2 ?_
    rw [List.cons_prefix_cons]
    exact ⟨rfl,List.take_prefix _ _⟩
   ·rw [gam_len,hlog];omega
  ·cases hr
theorem pre_split {l x:List Int} {at_:Nat} (hat:at_≤l.length) (h:x <+: l.drop at_):∃ b,l=l.take at_++x++b∧(l.take at_).length=at_:=by
 obtain ⟨b,hb⟩:=h
 exact ⟨b,by rw [List.append_assoc,hb,List.take_append_drop],by simp;omega⟩
theorem pre_len {l x:List Int} {at_:Nat} (h:x <+: l.drop at_):x.length≤l.length-at_:=by
 have:=h.length_le;rwa [List.length_drop] at this
theorem pre_app {l x y:List Int} {at_:Nat} (h1:x <+: l.drop at_) (h2:y <+: l.drop (at_+x.length)):x++y <+: l.drop at_:=by
 obtain ⟨b,hb⟩:=h1
 rw [← List.drop_drop,← hb,List.drop_left] at h2
 rw [← hb]
 exact (List.prefix_append_right_inj _).2 h2
theorem fold_unf (n:Nat):fold (unf (n:Int))=n:=by unfold unf fold;split <;> split <;> omega
theorem unf_rng {n:Nat} (h:n≤1073741824):-1073741824≤unf (n:Int)∧unf (n:Int)≤1073741824:=by unfold unf;split <;> omega
def cod (v:Int) (i:Nat) (last:Int) (q:List Int):List Nat:=if i=0 then stp v q else dif last q
theorem cod_nil (v:Int) (i:Nat) (last:Int):cod v i last []=[]:=by unfold cod;split <;> rfl
theorem cod_cons (v:Int) (i:Nat) (last x:Int) (q:List Int):cod v i last (x::q)=(if i=0 then fold (x-v)+1 else (x-last).toNat)::cod v (i+1) x q:=by
 unfold cod
 rw [if_neg (show ¬ i+1=0 by omega)]
 by_cases h:i=0
 ·rw [if_pos h,if_pos h];rfl
 ·rw [if_neg h,if_neg h];rfl
end Go.XL
end
section
namespace Go.XL
open Go.XM
theorem gj2 {go:Nat→Nat→Int→Int→Int→Int→List Int→Option (List Int × Int × Bool)} {b:Ao} {acc:List Int} {last m y:Int} {p:Int × Int × Bool} {t10:Int} {i:Nat} {res:List Int × Int × Bool} (hy:last+m=y)
  (y0:-1099511627776≤y) (y1:y≤1099511627776) (ha:acc.length≤1000) (hi:i≤1000) (hgo:0≤y∧y≤15→E1 (fun K k=>go K k p.2.1 y t10 ((i+1:Nat):Int) (acc++[y])) res) (hno:¬ (0≤y∧y≤15)→res=([],0,false)) :
  E1 (fun K k=>Bx.j2 K (go K k) acc last p t10 (i:Int) b m) res:=by
 refine congr (f:=fun K k _ _ _=>(Ds K y).bind fun r50=>if (!r50) then some (([]:List Int),0,false) else if (acc.length+([y]:List Int).length)*8≤140737488355328 then go K k p.2.1 y t10 ((i+1:Nat):Int) (acc++[y]) else none) (fun K k _ _ _=>by unfold Bx.j2;rw [hy,w64 (i:=y) (by omega) (by omega),w1 (by omega)]) ?_
 refine bnd (congr (fun K _ _ _ _=>is_eq K y) (now _)) ?_
 by_cases c:0≤y∧y≤15
 ·exact negM c (pos (by simp;omega) (hgo c))
 ·rw [hno c];exact posM c (now _)
theorem gread_l1 {l:List Int} (h:Bt l) (hb:l.length≤1000000) {v:Int} (hv:0≤v) (hv2:v≤15):∀ (d i at_:Nat) (last:Int) (acc:List Int),i+d≤17→at_≤l.length→acc.length≤i→(0<i→0≤last∧last≤15) →
  ∃ r:Option (List Int),E1 (fun K k=>Bx.l1 K (pack l) k (at_:Int) (if i=0 then v else last) ((i+d:Nat):Int) (i:Int) acc) (match r with | some q=>(acc++q,((at_+(gams (cod v i last q)).length:Nat):Int),true) | none=>([],0,false)) ∧
   ∀ q,r=some q→q.length=d∧gams (cod v i last q) <+: l.drop at_∧q.Pairwise (·<·)∧(∀ x∈q,0≤x∧x≤15)∧(0<i→∀ x∈q,last<x):=by
 intro d
 induction d with
 | zero =>
  intro i at_ last acc hi hat ha hl
  refine ⟨some [],?_,fun q hq=>by cases hq;simp [cod_nil,gams]⟩
  refine step1 (fun _ _ _ _ _=>Bx.l1.eq_2 ..) ?_
  refine negD (by omega) (nowE ?_)
  simp [cod_nil,gams]
 | succ d ih =>
  intro i at_ last acc hi hat ha hl
  have hrd:=Read_ev h (by omega) hat
  cases hrg:rg l at_ with
  | none =>
   rw [hrg] at hrd
   refine ⟨none,?_,fun q hq=>by cases hq⟩
   refine step1 (fun _ _ _ _ _=>Bx.l1.eq_2 ..) ?_
   exact posD (by omega) (bnd hrd (pos rfl (now _)))
  | some p =>
   obtain ⟨x,n⟩:=p
   rw [hrg] at hrd
   obtain ⟨k,rfl,k0,k1,hp,rfl⟩:=rg_can h hrg
   have hpl:=pre_len hp
   have hu:=unf_rng (n:=k-1) (by omega)
   generalize hyy:(if i=0 then v+unf ((k-1:Nat):Int) else last+(k:Int))=y
   have y0:-1099511627776≤y∧y≤1099511627776:=by
    rw [← hyy];split
    ·omega
    ·have:=hl (by omega);omega
   have hnum:(if i=0 then fold (y-v)+1 else (y-last).toNat)=k:=by
    rw [← hyy]
    by_cases h0:i=0
    ·rw [if_pos h0,if_pos h0,show v+unf ((k-1:Nat):Int)-v=unf ((k-1:Nat):Int) by omega,fold_unf];omega
    ·rw [if_neg h0,if_neg h0];omega
   have main:∀ {res:List Int × Int × Bool},(0≤y∧y≤15→E1 (fun K k'=>Bx.l1 K (pack l) k' ((at_+(gam k).length:Nat):Int) y ((i+(d+1):Nat):Int) ((i+1:Nat):Int) (acc++[y])) res)→(¬ (0≤y∧y≤15)→res=([],0,false)) →
     E1 (fun K k'=>Bx.l1 K (pack l) k' (at_:Int) (if i=0 then v else last) ((i+(d+1):Nat):Int) (i:Int) acc) res:=by
    intro res h1 h2
    refine step1 (fun _ _ _ _ _=>Bx.l1.eq_2 ..) ?_
    refine posD (by omega) (bnd hrd (negB rfl ?_))
    have hj:∀ {m last':Int},last'+m=y→E1 (fun K k'=>Bx.j2 K (Bx.l1 K (pack l) k') acc last' ((k:Int),((at_+(gam k).length:Nat):Int),true) ((i+(d+1):Nat):Int) (i:Int) (pack l) m) res:=fun e =>
     gj2 (go:=fun K k'=>Bx.l1 K (pack l) k') e (by omega) (by omega) (by omega) (by omega) h1 h2
    by_cases h0:i=0
    ·refine posE (by omega) ?_
     rw [if_pos h0] at hyy ⊢
     have hu2:∀ K,Dk K (wr .i64 ((k:Int)-1))=some (unf ((k-1:Nat):Int)):=by
      intro K
      rw [w64 (by omega) (by omega),show (k:Int)-1=((k-1:Nat):Int) by omega]
      exact unfold_eq (by omega)
     exact bnd (congr (fun K _ _ _ _=>hu2 K) (now _)) (hj hyy)
    ·refine negE (by omega) ?_
     rw [if_neg h0] at hyy ⊢
     exact hj hyy
   by_cases c:0≤y∧y≤15
   ·obtain ⟨r,e1,e2⟩:=ih (i+1) (at_+(gam k).length) y (acc++[y]) (by omega) (by omega) (by simp;omega) (fun _=>c)
    rw [if_neg (by omega),show i+1+d=i+(d+1) by omega] at e1
    cases r with
    | none=>exact ⟨none,main (fun _=>e1) (fun _=>rfl),fun q hq=>by cases hq⟩
    | some q =>
     obtain ⟨a1,a2,a3,a4,a5⟩:=e2 q rfl
     have a5:=a5 (by omega)
     have hc:cod v i last (y::q)=k::cod v (i+1) y q:=by rw [cod_cons,hnum]
     refine ⟨some (y::q),main (fun _=>?_) (fun z=>absurd c z),fun q' hq=>?_⟩
     ·refine ofEq e1 ?_
      simp only [hc,gams_cons,List.length_append,List.append_assoc,List.cons_append,List.nil_append,Nat.add_assoc]
     ·cases hq
      refine ⟨by simp [a1],by rw [hc,gams_cons];exact pre_app hp a2,List.pairwise_cons.2 ⟨a5,a3⟩,fun x hx=>?_,fun hi2 x hx=>?_⟩
      ·rcases List.mem_cons.1 hx with rfl | hx
       ·exact c
       ·exact a4 x hx
      ·have hly:last<y:=by rw [← hyy,if_neg (by omega)];omega
       rcases List.mem_cons.1 hx with rfl | hx
       ·exact hly
       ·have:=a5 x hx;omega
   ·exact ⟨none,main (fun z=>absurd z c) (fun _=>rfl),fun q hq=>by cases hq⟩
theorem gread_any {l:List Int} (h:Bt l) (hb:l.length≤1000000) {v:Int} (hv:0≤v) (hv2:v≤15) {at_:Nat} (hat:at_≤l.length) :
  ∃ r:Option (List Int),E0 (fun K=>Bx K (pack l) (at_:Int) v) (match r with | some q=>(q,((at_+(gap v q).length:Nat):Int),true) | none=>([],0,false))∧∀ q,r=some q→MayP q∧gap v q <+: l.drop at_:=by
 have hrd:=Read_ev h (by omega) hat
 cases hrg:rg l at_ with
 | none =>
  rw [hrg] at hrd
  exact ⟨none,bnd hrd (pos rfl (now _)),fun q hq=>by cases hq⟩
 | some p =>
  obtain ⟨x,n⟩:=p
  rw [hrg] at hrd
  obtain ⟨k,rfl,k0,k1,hp,rfl⟩:=rg_can h hrg
  have hpl:=pre_len hp
  by_cases c:(k:Int) > 17
  ·exact ⟨none,bnd hrd (negB rfl (posD c (now _))),fun q hq=>by cases hq⟩
  ·obtain ⟨r,e1,e2⟩:=gread_l1 h hb hv hv2 (k-1) 0 (at_+(gam k).length) 0 [] (by omega) (by omega) (by simp) (fun h=>by omega)
   have e0:wr .i64 ((k:Int)-1)=((0+(k-1):Nat):Int):=by rw [w64 (by omega) (by omega)];omega
   cases r with
   | none =>
    refine ⟨none,bnd hrd (negB rfl (negD c ?_)),fun q hq=>by cases hq⟩
    rw [e0];exact e1.e1
   | some q =>
    obtain ⟨a1,a2,a3,a4,_⟩:=e2 q rfl
    have hg:gap v q=gam k++gams (cod v 0 0 q):=by rw [gap,gams_cons,a1,show k-1+1=k by omega];rfl
    refine ⟨some q,bnd hrd (negB rfl (negD c ?_)),fun q' hq=>?_⟩
    ·rw [e0]
     refine ofEq e1.e1 ?_
     simp only [hg,List.length_append,List.nil_append,Nat.add_assoc]
    ·cases hq
     exact ⟨(mayP_iff _).2 ⟨a3,a4⟩,by rw [hg];exact pre_app hp a2⟩
theorem rread_l1 {l:List Int} (h:Bt l) (hb:l.length≤1000000) {v:Int} (hv:0≤v) (hv2:v≤15):∀ (d i at_:Nat) (e:Int) (acc:List Aj),i+d≤17→at_≤l.length→acc.length≤i→-8589934592*((i:Int)+1)≤e→e≤8589934592*((i:Int)+1) →
  ∃ r:Option (List Aj),E1 (fun K k=>B0.l1 K (pack l) k (at_:Int) (if i=0 then v else e) ((i+d:Nat):Int) (i:Int) acc) (match r with | some q=>(acc++q,((at_+(gams (rcod v i e q)).length:Nat):Int),true) | none=>([],0,false)) ∧
   ∀ q,r=some q→q.length=d∧gams (rcod v i e q) <+: l.drop at_:=by
 intro d
 have rnil:∀ (i:Nat) (e:Int),rcod v i e []=[]:=fun i e=>by unfold rcod;split <;> rfl
 induction d with
 | zero =>
  intro i at_ e acc hi hat ha h1 h2
  refine ⟨some [],?_,fun q hq=>by cases hq;simp [rnil,gams]⟩
  refine step1 (fun _ _ _ _ _=>B0.l1.eq_2 ..) ?_
  refine negD (by omega) (nowE ?_)
  simp [rnil,gams]
 | succ d ih =>
  intro i at_ e acc hi hat ha he1 he2
  have hrd:=Read_ev h (by omega) hat
  cases hrg:rg l at_ with
  | none =>
   rw [hrg] at hrd
   refine ⟨none,?_,fun q hq=>by cases hq⟩
   refine step1 (fun _ _ _ _ _=>B0.l1.eq_2 ..) ?_
   exact posD (by omega) (bnd hrd (pos rfl (now _)))
  | some p =>
   obtain ⟨x,n⟩:=p
   rw [hrg] at hrd
   obtain ⟨k,rfl,k0,k1,hp,rfl⟩:=rg_can h hrg
   have hpl:=pre_len hp
   have hrd2:=Read_ev h (by omega) (show at_+(gam k).length≤l.length by omega)
   cases hrg2:rg l (at_+(gam k).length) with
   | none =>
    rw [hrg2] at hrd2
    refine ⟨none,?_,fun q hq=>by cases hq⟩
    refine step1 (fun _ _ _ _ _=>B0.l1.eq_2 ..) ?_
    exact posD (by omega) (bnd hrd (negB rfl (bnd hrd2 (pos rfl (now _)))))
   | some p2 =>
    obtain ⟨x2,n2⟩:=p2
    rw [hrg2] at hrd2
    obtain ⟨j,rfl,j0,j1,hp2,rfl⟩:=rg_can h hrg2
    have hpl2:=pre_len hp2
    have hu:=unf_rng (n:=k-1) (by omega)
    generalize hyy:(if i=0 then v+unf ((k-1:Nat):Int) else e+(k:Int))=y
    have y0:-8589934592*((i:Int)+1)-1073741900≤y∧y≤8589934592*((i:Int)+1)+1073741900:=by
     rw [← hyy];split <;> omega
    have hnum:(if i=0 then fold (y-v)+1 else (y-e).toNat)=k:=by
     rw [← hyy]
     by_cases h0:i=0
     ·rw [if_pos h0,if_pos h0,show v+unf ((k-1:Nat):Int)-v=unf ((k-1:Nat):Int) by omega,fold_unf];omega
     ·rw [if_neg h0,if_neg h0];omega
    obtain ⟨r,e1,e2⟩:=ih (i+1) (at_+(gam k).length+(gam j).length) (y+((j:Int)+2)) (acc++[(y,(j:Int)+2)]) (by omega) (by omega) (by simp;omega) (by push_cast;omega) (by push_cast;omega)
    rw [if_neg (by omega),show i+1+d=i+(d+1) by omega] at e1
    have main:∀ {res:List Aj × Int × Bool},E1 (fun K k'=>B0.l1 K (pack l) k' ((at_+(gam k).length+(gam j).length:Nat):Int) (y+((j:Int)+2)) ((i+(d+1):Nat):Int) ((i+1:Nat):Int) (acc++[(y,(j:Int)+2)])) res →
      E1 (fun K k'=>B0.l1 K (pack l) k' (at_:Int) (if i=0 then v else e) ((i+(d+1):Nat):Int) (i:Int) acc) res:=by
     intro res h1
     refine step1 (fun _ _ _ _ _=>B0.l1.eq_2 ..) ?_
     refine posD (by omega) (bnd hrd (negB rfl (bnd hrd2 (negB rfl ?_))))
     have hj:∀ {m last':Int},last'+m=y→E1 (fun K k'=>B0.j2 K (B0.l1 K (pack l) k') ((j:Int),((at_+(gam k).length+(gam j).length:Nat):Int),true) ((i+(d+1):Nat):Int) (i:Int) acc last' (pack l) m) res:=by
      intro m last' hm
      have f1:wr .i64 (wr .i64 ((j:Int)-1)+3)=(j:Int)+2:=by rw [w64 (i:=(j:Int)-1) (by omega) (by omega),w64 (by omega) (by omega)];omega
      unfold B0.j2
      simp only [hm,f1]
      rw [w64 (i:=y) (by omega) (by omega),w64 (i:=y+((j:Int)+2)) (by omega) (by omega),w1 (by omega)]
      exact pos (by simp;omega) h1
     by_cases h0:i=0
     ·refine posE (by omega) ?_
      rw [if_pos h0] at hyy ⊢
      have hu2:∀ K,Dk K (wr .i64 ((k:Int)-1))=some (unf ((k-1:Nat):Int)):=by
       intro K
       rw [w64 (by omega) (by omega),show (k:Int)-1=((k-1:Nat):Int) by omega]
       exact unfold_eq (by omega)
      exact bnd (congr (fun K _ _ _ _=>hu2 K) (now _)) (hj hyy)
     ·refine negE (by omega) ?_
      rw [if_neg h0] at hyy ⊢
      exact hj hyy
    cases r with
    | none=>exact ⟨none,main e1,fun q hq=>by cases hq⟩
    | some q =>
     obtain ⟨a1,a2⟩:=e2 q rfl
     have hc:rcod v i e ((y,(j:Int)+2)::q)=k::j::rcod v (i+1) (y+((j:Int)+2)) q:=by
      rw [rcod_cons]
      show (if i=0 then fold (y-v)+1 else (y-e).toNat)::((j:Int)+2-2).toNat::_=_
      rw [hnum,show ((j:Int)+2-2).toNat=j by omega]
     refine ⟨some ((y,(j:Int)+2)::q),main (ofEq e1 ?_),fun q' hq=>?_⟩
     ·simp only [hc,gams_cons,List.length_append,List.append_assoc,List.cons_append,List.nil_append,Nat.add_assoc]
     ·cases hq
      refine ⟨by simp [a1],?_⟩
      rw [hc,gams_cons,gams_cons]
      exact pre_app hp (pre_app hp2 a2)
def IsR (l:List Int) (at_:Nat) (v:Int) (q:List Int):Prop:=MayP q∧runb v q <+: l.drop at_
theorem rread_any {l:List Int} (h:Bt l) (hb:l.length≤1000000) {v:Int} (hv:0≤v) (hv2:v≤15) {at_:Nat} (hat:at_≤l.length) :
  ∃ res:List Int × Int × Bool,E0 (fun K=>Dz K (pack l) (at_:Int) v) res∧(res.2.2=true→∃ q,IsR l at_ v q∧res=(q,((at_+(runb v q).length:Nat):Int),true)):=by
 have bad:∀ {res:List Int × Int × Bool},res=([],0,false)→(res.2.2=true→∃ q,IsR l at_ v q∧res=(q,((at_+(runb v q).length:Nat):Int),true)):=by
  rintro res rfl h;cases h
 have hrd:=Read_ev h (by omega) hat
 cases hrg:rg l at_ with
 | none =>
  rw [hrg] at hrd
  exact ⟨_,bnd (bnd hrd (pos rfl (now _))) (pos rfl (now _)),bad rfl⟩
 | some p =>
  obtain ⟨x,n⟩:=p
  rw [hrg] at hrd
  obtain ⟨k,rfl,k0,k1,hp,rfl⟩:=rg_can h hrg
  have hpl:=pre_len hp
  by_cases c:(k:Int) > 16
  ·exact ⟨_,bnd (bnd hrd (negB rfl (posD c (now _)))) (pos rfl (now _)),bad rfl⟩
  ·obtain ⟨r,e1,e2⟩:=rread_l1 h hb hv hv2 (k-1) 0 (at_+(gam k).length) 0 [] (by omega) (by omega) (by simp) (by omega) (by omega)
   have e0:wr .i64 ((k:Int)-1)=((0+(k-1):Nat):Int):=by rw [w64 (by omega) (by omega)];omega
   cases r with
   | none =>
    have h1:E0 (fun K=>B0 K (pack l) (at_:Int) v) ([],0,false):=bnd hrd (negB rfl (negD c (by rw [e0];exact e1.e1)))
    exact ⟨_,bnd h1 (pos rfl (now _)),bad rfl⟩
   | some q =>
    obtain ⟨a1,a2⟩:=e2 q rfl
    have h1:E0 (fun K=>B0 K (pack l) (at_:Int) v) (q,((at_+(gam k).length+(gams (rcod v 0 0 q)).length:Nat):Int),true):=bnd hrd (negB rfl (negD c (by rw [e0];exact e1.e1)))
    have hpl2:=pre_len a2
    obtain ⟨r2,g1,g2⟩:=gread_any h hb hv hv2 (at_:=at_+(gam k).length+(gams (rcod v 0 0 q)).length) (by omega)
    cases r2 with
    | none=>exact ⟨_,bnd h1 (negB rfl (bnd g1 (pos rfl (now _)))),bad rfl⟩
    | some s =>
     obtain ⟨s1,s2⟩:=g2 s rfl
     have hsl:=s1.len
     have hw:=Whole_ev (r:=q) (q:=s) (by omega) (by omega)
     by_cases hok:OkR (-1) q
     ·rw [if_pos hok,if_pos s1] at hw
      by_cases hm:MayP (sortF (s++alls q))
      ·rw [decide_eq_true hm] at hw
       have hml:=hm.len
       generalize hL:sortF (s++alls q)=L at *
       have hp2:=parts_may hm
       have hr:=(hp2.1.len (by omega)).1
       have hr2:=(hp2.1.len (by omega)).2
       have hsm2:=hp2.2.1.len
       refine ⟨(L,((at_+(gam k).length+(gams (rcod v 0 0 q)).length+(gap v s).length:Nat):Int),decide (parts L=(q,s))),bnd h1 (negB rfl (bnd g1 (negB rfl (bnd hw (negB rfl (bnd (Parts_ev (may_Sm hm)) (bnd (equalR_ev (parts L).1 q (by omega)) ?_))))))),fun hd=>?_⟩
       ·by_cases d1:(parts L).1=q
        ·refine pos (decide_eq_true d1) (bnd (equal_ev (parts L).2 s (by omega)) (nowE ?_))
         have:decide ((parts L).2=s)=decide (parts L=(q,s)):=by
          rw [Bool.eq_iff_iff,decide_eq_true_iff,decide_eq_true_iff,Prod.ext_iff];simp [d1]
         simp only [this]
        ·refine neg (by simpa using d1) (nowE ?_)
         rw [decide_eq_false (fun z=>d1 (by rw [z]))]
       ·have hd:=of_decide_eq_true hd
        have hbb:runb v L=gam k++(gams (rcod v 0 0 q)++gap v s):=by
         rw [runb,hd,gams_cons,a1,show k-1+1=k by omega,List.append_assoc];rfl
        refine ⟨L,⟨hm,?_⟩,?_⟩
        ·rw [hbb];exact pre_app hp (pre_app a2 s2)
        ·rw [decide_eq_true hd,hbb];simp only [List.length_append,Nat.add_assoc]
      ·rw [decide_eq_false hm] at hw
       exact ⟨_,bnd h1 (negB rfl (bnd g1 (negB rfl (bnd hw (pos rfl (now _)))))),bad rfl⟩
     ·rw [if_neg hok] at hw
      exact ⟨_,bnd h1 (negB rfl (bnd g1 (negB rfl (bnd hw (pos rfl (now _)))))),bad rfl⟩
open Classical in
noncomputable def tkR (l:List Int) (at_:Nat) (v:Int):Option (List Int × Nat):=if h:∃ q,IsR l at_ v q then some (h.choose,at_+(runb v h.choose).length) else none
theorem tkR_some {l:List Int} {at_:Nat} {v:Int} {q:List Int} {n:Nat} (h:tkR l at_ v=some (q,n)):IsR l at_ v q∧n=at_+(runb v q).length:=by
 unfold tkR at h
 split at h
 ·rename_i hq;cases h;exact ⟨hq.choose_spec,rfl⟩
 ·cases h
theorem tkR_none {l:List Int} {at_:Nat} {v:Int} (h:tkR l at_ v=none) (q:List Int):¬ IsR l at_ v q:=by
 unfold tkR at h
 split at h
 ·cases h
 ·rename_i hq;exact fun z=>hq ⟨q,z⟩
theorem rread_tk {l:List Int} (h:Bt l) (hb:l.length≤1000000) {v:Int} (hv:0≤v) (hv2:v≤15) {at_:Nat} (hat:at_≤l.length) :
  ∃ res:List Int × Int × Bool,E0 (fun K=>Dz K (pack l) (at_:Int) v) res∧(match tkR l at_ v with | some (q,n)=>res=(q,(n:Int),true) | none=>res.2.2=false):=by
 obtain ⟨res,e1,e2⟩:=rread_any h hb hv hv2 hat
 refine ⟨res,e1,?_⟩
 cases ht:tkR l at_ v with
 | none =>
  simp only
  cases hb2:res.2.2 with
  | false=>rfl
  | true =>
   obtain ⟨q,hq,_⟩:=e2 hb2
   exact absurd hq (tkR_none ht q)
 | some p =>
  obtain ⟨q,n⟩:=p
  obtain ⟨⟨m,hp⟩,rfl⟩:=tkR_some ht
  obtain ⟨b,hb1,hb2⟩:=pre_split hat hp
  have hB:Bt (l.take at_):=fun x hx=>h x (List.mem_of_mem_take hx)
  have hBb:Bt b:=fun x hx=>h x (by rw [hb1];exact List.mem_append_right _ hx)
  have:=RRd_ev (a:=l.take at_) (b:=b) m hv hv2 hB hBb (by rw [← hb1];omega)
  rw [← hb1,List.length_append,hb2] at this
  exact e1.uniq this
end Go.XL
end
section
namespace Go.XL
open Go.XM
theorem rzig_eq {K:Nat} {z:Int} (h:-1000≤z) (h2:z≤1000):Cs K z=some (fold z:Int):=by
 unfold Cs fold
 by_cases c:z<0
 ·rw [if_neg (by simp;omega),if_pos c,w64 (i:=-2*z) (by omega) (by omega),w64 (by omega) (by omega)]
  congr 1;omega
 ·rw [if_pos (by simp;omega),if_neg c,w64 (by omega) (by omega)]
  congr 1;omega
theorem RGaps_ev {v:Int} {l b:List Int} (h:MayP l) (hv:0≤v) (hv2:v≤15) (hlen:b.length≤1099500000000):E0 (fun K=>Bk K b v l) (b++gap v l):=by
 have hl:=h.len
 obtain ⟨_,h2⟩:=(mayP_iff _).1 h
 have hsm:=stp_small h hv hv2
 have key:∀ i,i≤l.length→E1 (fun K k=>Bk.l1 K v l k (i:Int) (b++gams ((l.length+1)::(stp v l).take i))) (b++gap v l):=by
  refine upto ?_ ?_
  ·refine step1 (fun _ _ _ _ _=>Bk.l1.eq_2 ..) ?_
   refine negD (by omega) (nowE ?_)
   rw [List.take_of_length_le (by rw [stp_len];omega)];rfl
  ·intro i hi ih
   refine step1 (fun _ _ _ _ _=>Bk.l1.eq_2 ..) ?_
   obtain ⟨s1,s2⟩:=stp_rng h hv hv2 hi
   have hB2:(b++gams ((l.length+1)::(stp v l).take i)).length≤1099511000000:=by
    have:=gams_len ((l.length+1)::(stp v l).take i) (fun n hn=>by
     rcases List.mem_cons.1 hn with rfl | hn
     ·omega
     ·exact (hsm n (List.mem_of_mem_take hn)).2)
    rw [List.length_cons,List.length_take,stp_len] at this
    rw [List.length_append];omega
   have hnext:b++gams ((l.length+1)::(stp v l).take i)++gam ((stp v l).getD i 0)=b++gams ((l.length+1)::(stp v l).take (i+1)):=by
    rw [take_getD (d:=0) (by rw [stp_len];exact hi:i<(stp v l).length),← List.cons_append,gams_app,List.append_assoc]
    simp [gams]
   have hlay:=RWrite_ev (n:=(stp v l).getD i 0) (l:=b++gams ((l.length+1)::(stp v l).take i)) (by omega) hB2
   rw [hnext] at hlay
   have a:=h2 _ (getD_mem (d:=0) hi)
   rw [w1 (by omega)]
   refine posD (by omega) ?_
   by_cases h0:i=0
   ·subst h0
    refine posE (by omega) (pos (by omega) ?_)
    rw [show (nth l 0:Int)=l.getD 0 0 from rdN l 0,w64 (i:=l.getD 0 0-v) (by omega) (by omega)]
    refine bnd (congr (fun K _ _ _ _=>rzig_eq (by omega) (by omega)) (now _)) ?_
    have e1:wr .i64 ((fold (l.getD 0 0-v):Int)+1)=(((stp v l).getD 0 0:Nat):Int):=by
     rw [stp_get v hi,if_pos rfl,w1 (by unfold fold;split <;> omega)]
    rw [e1]
    exact bnd hlay ih
   ·refine negE (by omega) ?_
    have e2:wr .i64 ((i:Int)-1)=((i-1:Nat):Int):=by rw [w64 (by omega) (by omega)];omega
    have b1:=(h i hi).2.2 (by omega)
    have c:=h2 _ (getD_mem (d:=0) (show i-1<l.length by omega))
    rw [e2,rdN,rdN]
    refine pos (by omega) (pos (by omega) ?_)
    have e1:wr .i64 (l.getD i 0-l.getD (i-1) 0)=(((stp v l).getD i 0:Nat):Int):=by
     rw [stp_get v hi,if_neg h0,w64 (by omega) (by omega)];omega
    rw [e1]
    exact bnd hlay ih
 have hlay:=RWrite_ev (n:=l.length+1) (l:=b) (by omega) (by omega)
 have hk:=(key 0 (by omega)).e1
 rw [List.take_zero] at hk
 have e:gams [l.length+1]=gam (l.length+1):=by simp [gams]
 rw [e] at hk
 refine congr (f:=fun K _ _ _ _=>(Ag K b 2 ((l.length+1:Nat):Int)).bind fun r12=>Bk.l1 K v l K (0:Int) r12) (fun K _ _ _ _=>by unfold Bk;rw [w1 (by omega)]) ?_
 exact bnd hlay hk
def endR (r:List Aj) (i:Nat):Int:=if i=0 then 0 else (r.getD (i-1) default).At+(r.getD (i-1) default).Len
theorem endR_succ (r:List Aj) (i:Nat):endR r (i+1)=(r.getD i default).At+(r.getD i default).Len:=by simp [endR]
theorem rruns_l1 {v:Int} (hv:0≤v) (hv2:v≤15) {r:List Aj} {s:List Int} (hs:MayP s) (hr:r.length≤100) (ho:OkR (-1) r):∀ i,i≤r.length→∀ c:List Int,c.length+30*(r.length-i)≤1099400000000 →
  E1 (fun K k=>Au.l1 K (r,s) v k (i:Int) c) (c++gams (rcod v i (endR r i) (r.drop i))++gap v s):=by
 refine upto ?_ ?_
 ·intro c hl
  refine step1 (fun _ _ _ _ _=>Au.l1.eq_2 ..) ?_
  refine negD (by show ¬ ((r.length:Int)<(r.length:Int));omega) ?_
  refine bnd (RGaps_ev hs hv hv2 (by omega)) (nowE ?_)
  rw [List.drop_length]
  have:rcod v r.length (endR r r.length) []=[]:=by unfold rcod;split <;> rfl
  rw [this];simp [gams]
 ·intro i hi ih c hl
  obtain ⟨x1,x3,x4,x5⟩:=okR_get ho i hi
  refine step1 (fun _ _ _ _ _=>Au.l1.eq_2 ..) ?_
  refine posD (by show (i:Int)<(r.length:Int);omega) ?_
  have hrc:rcod v i (endR r i) (r.drop i)=(if i=0 then fold ((r.getD i default).At-v)+1 else ((r.getD i default).At-endR r i).toNat)::((r.getD i default).Len-2).toNat::rcod v (i+1) (endR r (i+1)) (r.drop (i+1)):=by
   rw [drop_getD (d:=default) hi,rcod_cons,endR_succ]
  rw [hrc]
  have hj:∀ (n:Nat),0<n→n<256→Ev (fun K k _ _ _=>Au.j2 K (Au.l1 K (r,s) v k) (r,s) (i:Int) v (c++gam n)) (c++gams (n::((r.getD i default).Len-2).toNat::rcod v (i+1) (endR r (i+1)) (r.drop (i+1)))++gap v s):=by
   intro n n0 n1
   have hg:=gam_len8 n1
   have e1:wr .i64 ((wr .i64 ((r.getD i default).Len-3))+1)=((((r.getD i default).Len-2).toNat:Nat):Int):=by rw [w64 (i:=(r.getD i default).Len-3) (by omega) (by omega),w64 (by omega) (by omega)];omega
   have hg2:=gam_len8 (show ((r.getD i default).Len-2).toNat<256 by omega)
   refine pos ⟨by omega,by show (i:Int)<(r.length:Int);omega⟩ ?_
   show Ev (fun K k _ _ _=>(Ag K (c++gam n) 2 (wr .i64 ((wr .i64 (((nth r (i:Int)).Len)-3))+1))).bind fun r67=>Au.l1 K (r,s) v k (wr .i64 ((i:Int)+1)) r67) _
   rw [rdR,e1,w1 (by omega)]
   refine bnd (RWrite_ev (by omega) (by rw [List.length_append];omega)) ?_
   have:=ih (c++gam n++gam ((r.getD i default).Len-2).toNat) (by simp only [List.length_append];omega)
   refine ofEq this ?_
   simp only [gams_cons,List.append_assoc]
  by_cases hz:i=0
  ·subst hz
   refine posE rfl (pos ⟨by omega,by show (0:Int)<(r.length:Int);omega⟩ ?_)
   simp only [if_pos rfl]
   rw [show (nth r 0)=r.getD 0 default from rdR r 0,w64 (i:=(r.getD 0 default).At-v) (by omega) (by omega)]
   refine bnd (congr (fun K _ _ _ _=>rzig_eq (by omega) (by omega)) (now _)) ?_
   have hf:fold ((r.getD 0 default).At-v)+1<256:=by unfold fold;split <;> omega
   rw [w1 (by omega)]
   exact bnd (RWrite_ev (by omega) (by omega)) (hj _ (by omega) hf)
  ·simp only [if_neg hz]
   have e0:wr .i64 ((i:Int)-1)=((i-1:Nat):Int):=by rw [w64 (by omega) (by omega)];omega
   obtain ⟨y1,y3,y4,y5⟩:=okR_get ho (i-1) (by omega)
   have x5:=x5 (by omega)
   have he:endR r i=(r.getD (i-1) default).At+(r.getD (i-1) default).Len:=by simp [endR,hz]
   refine negE (by omega) (pos ⟨by omega,by show (i:Int)<(r.length:Int);omega⟩ ?_)
   rw [e0,rdR,rdR]
   refine pos ⟨by omega,by show ((i-1:Nat):Int)<(r.length:Int);omega⟩ (pos ⟨by omega,by show ((i-1:Nat):Int)<(r.length:Int);omega⟩ ?_)
   have e1:wr .i64 ((wr .i64 ((r.getD i default).At-(r.getD (i-1) default).At))-(r.getD (i-1) default).Len)=((((r.getD i default).At-endR r i).toNat:Nat):Int):=by
    rw [he,w64 (i:=(r.getD i default).At-(r.getD (i-1) default).At) (by omega) (by omega),w64 (by omega) (by omega)];omega
   rw [e1]
   exact bnd (RWrite_ev (by omega) (by omega)) (hj _ (by omega) (by omega))
theorem RRuns_ev {v:Int} {l b:List Int} (h:MayP l) (hv:0≤v) (hv2:v≤15) (hlen:b.length≤1099300000000):E0 (fun K=>Au K b v l) (b++runb v l):=by
 obtain ⟨a1,a2,a3⟩:=parts_may h
 have hr:=(a1.len (by omega)).1
 have hr2:=(a1.len (by omega)).2
 have hg:=gam_len8 (show (parts l).1.length+1<256 by omega)
 refine bnd (Split_ev (may_Sm h)) ?_
 show Ev (fun K _ _ _ _=>(Ag K b 2 (wr .i64 ((((parts l).1.length:Nat):Int)+1))).bind fun r19=>Au.l1 K (parts l) v K (0:Int) r19) _
 rw [w1 (by omega)]
 refine bnd (RWrite_ev (by omega) (by omega)) ?_
 have:=rruns_l1 hv hv2 (r:=(parts l).1) a2 (by omega) a1 0 (by omega) (b++gam ((parts l).1.length+1)) (by rw [List.length_append];omega)
 refine ofEq this.e1 ?_
 rw [runb,gams_cons,show rcod v 0 (endR (parts l).1 0) ((parts l).1.drop 0)=rnum v (parts l).1 from rfl]
 simp only [List.append_assoc]
end Go.XL
end
section
namespace Go.XL
open Go.XM
noncomputable def tkL (l:List Int):Nat→Nat→Nat→Option (List (List Int) × Nat)
 | 0,_,at_=>some ([],at_)
 | d+1,v,at_=>match tkR l at_ (v:Int) with
  | none=>none
  | some (q,n)=>match tkL l d (v+1) n with
   | none=>none
   | some (qs,m)=>some (q::qs,m)
theorem tkR_le {l:List Int} {at_:Nat} {v:Int} {q:List Int} {n:Nat} (hat:at_≤l.length) (h:tkR l at_ v=some (q,n)):MayP q∧n≤l.length:=by
 obtain ⟨⟨h1,h2⟩,rfl⟩:=tkR_some h
 have:=pre_len h2
 exact ⟨h1,by omega⟩
theorem tkL_spec {l:List Int}:∀ {d v at_:Nat} {qs:List (List Int)} {m:Nat},at_≤l.length→tkL l d v at_=some (qs,m)→qs.length=d∧(∀ q∈qs,MayP q)∧m≤l.length
 | 0,v,at_,qs,m,hat,h=>by cases h;exact ⟨rfl,fun q hq=>absurd hq (by simp),hat⟩
 | d+1,v,at_,qs,m,hat,h=>by
  simp only [tkL] at h
  split at h
  ·cases h
  ·rename_i q n hr
   obtain ⟨h1,h2⟩:=tkR_le hat hr
   split at h
   ·cases h
   ·rename_i qs' m' hl
    cases h
    obtain ⟨a1,a2,a3⟩:=tkL_spec h2 hl
    refine ⟨by simp [a1],fun y hy=>?_,a3⟩
    rcases List.mem_cons.1 hy with rfl | hy
    ·exact h1
    ·exact a2 y hy
theorem tkL_none {l:List Int} {d v at_:Nat} (h:tkR l at_ (v:Int)=none):tkL l (d+1) v at_=none:=by rw [tkL,h]
theorem tkL_bad {l:List Int} {d v at_ n:Nat} {q:List Int} (h:tkR l at_ (v:Int)=some (q,n)) (h2:tkL l d (v+1) n=none):tkL l (d+1) v at_=none:=by rw [tkL,h];simp only [h2]
theorem tkL_ok {l:List Int} {d v at_ n m:Nat} {q:List Int} {qs:List (List Int)} (h:tkR l at_ (v:Int)=some (q,n)) (h2:tkL l d (v+1) n=some (qs,m)):tkL l (d+1) v at_=some (q::qs,m):=by rw [tkL,h];simp only [h2]
theorem lsum_le {c:Nat}:∀ {ls:List (List Int)},(∀ y∈ls,y.length≤c)→lsum ls≤c*ls.length
 | [],_=>by simp [lsum]
 | y::ls,h=>by
  have h1:=h y List.mem_cons_self
  have h2:=lsum_le (c:=c) (ls:=ls) (fun z hz=>h z (List.mem_cons_of_mem _ hz))
  rw [lsum_cons,List.length_cons,Nat.mul_succ];omega
theorem gsm16 {n:Int} {ls:List (List Int)} (h:ls.length≤16) (h2:∀ y∈ls,y.length≤16):GSm (n,ls):=by
 have:=lsum_le h2
 show ls.length+lsum ls≤1000000
 omega
abbrev G0:Aa:=(0,[])
theorem splice_set {acc:List (List Int)} {q:List Int} {qs:List (List Int)} {v d:Nat} (hv:v<acc.length):(acc.set v q).take (v+1)++qs++(acc.set v q).drop (v+1+d)=acc.take v++(q::qs)++acc.drop (v+(d+1)):=by
 have h1:(acc.set v q).take (v+1)=acc.take v++[q]:=by
  rw [take_getD (d:=[]) (by simpa using hv),getD_set _ _ _ _ hv,if_pos rfl,List.take_set_of_le (Nat.le_refl _)]
 have h2:(acc.set v q).drop (v+1+d)=acc.drop (v+(d+1)):=by
  rw [List.drop_set_of_lt (by omega),show v+1+d=v+(d+1) by omega]
 rw [h1,h2,List.append_assoc,List.append_assoc,List.append_assoc];rfl
theorem lists_l1 {l:List Int} (h:Bt l) (hb:l.length≤1000000) {n f:Nat} (hf:f≤n) (hn:n≤16) {r:List (List Int)}:∀ (d v at_:Nat) (acc:List (List Int)),v+d=f→at_≤l.length→acc.length=n→(∀ y∈acc,y.length≤16) →
  E1 (fun K k=>Av.l1 K ((n:Int),r) (f:Int) k (at_:Int) (v:Int) (pack l).Data (pack l).N 0 acc) (match tkL l d v at_ with | none=>(G0,0,false,pack l) | some (qs,m)=>(((n:Int),acc.take v++qs++acc.drop (v+d)),(m:Int),decide (GraphP ((n:Int),acc.take v++qs++acc.drop (v+d))),pack l)):=by
 intro d
 induction d with
 | zero =>
  intro v at_ acc hv hat hl ha
  refine step1 (fun _ _ _ _ _=>Av.l1.eq_2 ..) ?_
  refine negD (by omega) (bnd (gmayG_ev ((n:Int),acc) (gsm16 (by omega) ha)) (nowE ?_))
  simp only [tkL,List.append_nil,Nat.add_zero,List.take_append_drop]
 | succ d ih =>
  intro v at_ acc hv hat hl ha
  obtain ⟨res,e1,e2⟩:=rread_tk h hb (v:=(v:Int)) (by omega) (by omega) hat
  have r1:E0 (fun K=>Dx K (at_:Int) (v:Int) (pack l)) (res.1,res.2.1,res.2.2,pack l):=bnd e1 (now _)
  refine step1 (fun _ _ _ _ _=>Av.l1.eq_2 ..) ?_
  refine posD (by omega) (bnd r1 ?_)
  cases ht:tkR l at_ (v:Int) with
  | none =>
   rw [ht] at e2
   rw [tkL_none ht]
   exact pos (by rw [e2];rfl) (now _)
  | some p =>
   obtain ⟨q,m⟩:=p
   rw [ht] at e2
   simp only at e2
   subst e2
   obtain ⟨h1,h2⟩:=tkR_le hat ht
   have hql:=h1.len
   have hi:=ih (v+1) m (acc.set v q) (by omega) h2 (by simp [hl]) (fun y hy=>by
    rcases List.mem_or_eq_of_mem_set hy with hy | rfl
    ·exact ha y hy
    ·exact hql)
   refine negB rfl (pos (by omega) ?_)
   rw [w1 (by omega),Int.toNat_natCast]
   refine ofEq hi ?_
   cases hT:tkL l d (v+1) m with
   | none=>rw [tkL_bad ht hT]
   | some p =>
    obtain ⟨qs,m'⟩:=p
    rw [tkL_ok ht hT]
    simp only [splice_set (show v<acc.length by omega)]
noncomputable def hdF (l:List Int):Option (Nat × Nat):=match rg l 0 with
 | none=>none
 | some (k,m)=>if k > 17 then none else some (k.toNat-1,m)
theorem hdF_le {l:List Int} (h:Bt l) {n m:Nat} (hh:hdF l=some (n,m)):n≤16∧m≤l.length:=by
 unfold hdF at hh
 split at hh
 ·cases hh
 ·rename_i k m' hr
  split at hh
  ·cases hh
  ·cases hh
   obtain ⟨j,rfl,j0,j1,hp,rfl⟩:=rg_can h hr
   have:=pre_len hp
   exact ⟨by omega,by omega⟩
theorem fhead_any {l:List Int} (h:Bt l) (hb:l.length≤1000000):E0 (fun K=>Du K (pack l)) (match hdF l with | none=>(0,0,false) | some (n,m)=>((n:Int),(m:Int),true)):=by
 have hrd:=Read_ev h (by omega) (at_:=0) (by omega)
 unfold hdF
 cases hr:rg l 0 with
 | none =>
  rw [hr] at hrd
  exact bnd hrd (pos rfl (now _))
 | some p =>
  obtain ⟨k,m⟩:=p
  rw [hr] at hrd
  obtain ⟨j,rfl,j0,j1,hp,rfl⟩:=rg_can h hr
  by_cases c:(j:Int) > 17
  ·simp only [if_pos c]
   exact bnd hrd (negB rfl (posD c (now _)))
  ·simp only [if_neg c]
   refine bnd hrd (negB rfl (negD c (nowE ?_)))
   simp only
   rw [w64 (by omega) (by omega)]
   congr 1;omega
noncomputable def tkF (l:List Int):Option Aa:=match hdF l with
 | none=>none
 | some (n,at_)=>match tkL l n 0 at_ with
  | none=>none
  | some (qs,m)=>if m=l.length∧GraphP ((n:Int),qs) then some ((n:Int),qs) else none
theorem tkF_G {l:List Int} {g:Aa} (h:tkF l=some g):GraphP g:=by
 unfold tkF at h
 split at h
 ·cases h
 ·split at h
  ·cases h
  ·split at h
   ·rename_i hc;cases h;exact hc.2
   ·cases h
theorem rep_len {n:Nat}:∀ y∈List.replicate n ([]:List Int),y.length≤16:=by
 intro y hy
 obtain ⟨_,rfl⟩:=List.mem_replicate.1 hy
 simp
theorem fread_any {l:List Int} (h:Bt l) (hb:l.length≤1000000):∃ res:Aa × Bool,E0 (fun K=>D5 K (pack l)) res∧(match tkF l with | some g=>res=(g,true) | none=>res.2=false):=by
 have hh:=fhead_any h hb
 unfold tkF
 cases hd:hdF l with
 | none =>
  rw [hd] at hh
  exact ⟨(G0,false),bnd hh (pos rfl (now _)),rfl⟩
 | some p =>
  obtain ⟨n,at_⟩:=p
  rw [hd] at hh
  obtain ⟨hn,hat⟩:=hdF_le h hd
  have hl:=(lists_l1 h hb (Nat.le_refl n) hn (r:=List.replicate n []) n 0 at_ (List.replicate n []) (by omega) hat (by simp) rep_len).e1
  have hl2:E0 (fun K=>Av K (n:Int) (n:Int) (at_:Int) (pack l)) _:=bnd (congr (fun K _ _ _ _=>empty_eq hn) (now _)) hl
  simp only
  cases ht:tkL l n 0 at_ with
  | none =>
   rw [ht] at hl2
   exact ⟨(G0,false),bnd hh (negB rfl (bnd hl2 (negB rfl (now _)))),rfl⟩
  | some p =>
   obtain ⟨qs,m⟩:=p
   rw [ht] at hl2
   obtain ⟨q1,q2,q3⟩:=tkL_spec hat ht
   have hs:(List.replicate n ([]:List Int)).take 0++qs++(List.replicate n ([]:List Int)).drop (0+n)=qs:=by simp
   simp only [hs] at hl2
   simp only
   by_cases c:GraphP ((n:Int),qs)
   ·rw [decide_eq_true c] at hl2
    refine ⟨(((n:Int),qs),((m:Int) == (l.length:Int))),bnd hh (negB rfl (bnd hl2 (pos rfl (now _)))),?_⟩
    by_cases e:m=l.length
    ·rw [if_pos ⟨e,c⟩,e];simp
    ·rw [if_neg (fun z=>e z.1)]
     show (((m:Int) == (l.length:Int)))=false
     simp;omega
   ·rw [decide_eq_false c] at hl2
    rw [if_neg (fun z=>c z.2)]
    exact ⟨(((n:Int),qs),false),bnd hh (negB rfl (bnd hl2 (negB rfl (now _)))),rfl⟩
end Go.XL
end
section
namespace Go.XL
open Go.XM
theorem cjoin_some {ref bl q l:List Int} (h:cjoin ref bl q=some l):MayP l∧cparts ref l=(bl,q):=by
 unfold cjoin at h
 split at h
 ·cases h
 ·split at h
  ·rename_i hc;cases h;exact hc.2.2
  ·cases h
theorem cwhole_any {ref bl q:List Int} (a:MayP ref) (b:MayP q) (hb:bl.length≤1000):∃ res:List Int × Bool,E0 (fun K=>Bd K ref bl q) res∧(match cjoin ref bl q with | some l=>res=(l,true) | none=>res.2=false):=by
 have ha:=a.len
 have hbl:=b.len
 obtain ⟨l,e,hl⟩:=cw_l1 (ref:=ref) (bl:=bl) (q:=q) (by omega) hb (by omega) 0 (by omega) ref true q (by omega) (by omega)
 rw [List.drop_zero] at e hl
 have hw:E0 (fun K=>Bd K ref bl q) _:=bnd (congr (fun K _ _ _ _=>clone_eq K q (by omega)) (now _)) e.e1
 unfold cjoin
 cases hp:pk true ref bl with
 | none =>
  rw [hp] at hw
  exact ⟨_,hw,rfl⟩
 | some P =>
  rw [hp] at hw
  refine ⟨_,hw,?_⟩
  by_cases hh:MayP (sortF (q++P))∧cparts ref (sortF (q++P))=(bl,q)
  ·simp only [if_pos (show MayP ref∧MayP q∧MayP (sortF (q++P))∧cparts ref (sortF (q++P))=(bl,q) from ⟨a,b,hh⟩)]
   rw [← hl P hp hh,decide_eq_true]
   rw [hl P hp hh];exact hh
  ·simp only [if_neg (show ¬ (MayP ref∧MayP q∧MayP (sortF (q++P))∧cparts ref (sortF (q++P))=(bl,q)) from fun h=>hh h.2.2)]
   exact decide_eq_false hh
def ccod (i:Nat) (q:List Int):List Nat:=if i=0 then cnum q else q.map Int.toNat
theorem ccod_nil (i:Nat):ccod i []=[]:=by unfold ccod;split <;> rfl
theorem ccod_cons (i:Nat) (n:Int) (q:List Int):ccod i (n::q)=(if i=0 then (n+1).toNat else n.toNat)::ccod (i+1) q:=by
 unfold ccod
 rw [if_neg (show ¬ i+1=0 by omega)]
 by_cases h:i=0
 ·rw [if_pos h,if_pos h];rfl
 ·rw [if_neg h,if_neg h];rfl
structure AtC (l:List Int) (v:Int) (ref:List Int) (i at_ d:Nat) (acc L q s:List Int):Prop where
 may:MayP L
 parts:cparts ref L=(acc++q,s)
 len:q.length=d
 nums:gams (ccod i q) <+: l.drop at_
 rest:runb v s <+: l.drop (at_+(gams (ccod i q)).length)
abbrev endC (v:Int) (i at_:Nat) (q s:List Int):Nat:=at_+(gams (ccod i q)).length+(runb v s).length
theorem AtC.cons {l:List Int} {v:Int} {ref:List Int} {i at_ d k:Nat} {acc L q s:List Int} (hp:gam k <+: l.drop at_) (h:AtC l v ref (i+1) (at_+(gam k).length) d (acc++[if i=0 then (k:Int)-1 else (k:Int)]) L q s) :
  AtC l v ref i at_ (d+1) acc L ((if i=0 then (k:Int)-1 else (k:Int))::q) s∧endC v i at_ ((if i=0 then (k:Int)-1 else (k:Int))::q) s=endC v (i+1) (at_+(gam k).length) q s:=by
 have hk:(if i=0 then ((if i=0 then (k:Int)-1 else (k:Int))+1).toNat else (if i=0 then (k:Int)-1 else (k:Int)).toNat)=k:=by
  by_cases h0:i=0
  ·simp only [if_pos h0];omega
  ·simp only [if_neg h0];omega
 have hc:ccod i ((if i=0 then (k:Int)-1 else (k:Int))::q)=k::ccod (i+1) q:=by rw [ccod_cons,hk]
 have h5:=h.rest
 refine ⟨⟨h.may,by rw [h.parts,List.append_assoc];rfl,by simp [h.len],?_,?_⟩,?_⟩
 ·rw [hc,gams_cons];exact pre_app hp h.nums
 ·rw [hc,gams_cons,List.length_append,← Nat.add_assoc];exact h5
 ·unfold endC;rw [hc,gams_cons,List.length_append];omega
theorem cread_l1 {l:List Int} (h:Bt l) (hb:l.length≤1000000) {v:Int} (hv:0≤v) (hv2:v≤15) {ref:List Int} (hr:MayP ref):∀ (d i at_:Nat) (acc:List Int),i+d≤17→at_≤l.length→acc.length=i →
  ∃ res:List Int × Int × Bool,E1 (fun K k=>Cd.l1 K (pack l) v ref k (at_:Int) ((i+d:Nat):Int) (i:Int) acc) res∧(res.2.2=true→∃ L q s,AtC l v ref i at_ d acc L q s∧res=(L,((endC v i at_ q s:Nat):Int),true)):=by
 intro d
 induction d with
 | zero =>
  intro i at_ acc hi hat ha
  obtain ⟨rs,g1,g2⟩:=rread_tk h hb hv hv2 hat
  have start:∀ {res:List Int × Int × Bool},Ev (fun K _ _ _ _=>if (!rs.2.2) then some (([]:List Int),0,false) else (Bd K ref acc rs.1).bind fun r66=>some (r66.1,rs.2.1,r66.2)) res→E1 (fun K k=>Cd.l1 K (pack l) v ref k (at_:Int) ((i+0:Nat):Int) (i:Int) acc) res:=by
   intro res hh
   refine step1 (fun _ _ _ _ _=>Cd.l1.eq_2 ..) ?_
   exact negD (by omega) (bnd g1 hh)
  cases ht:tkR l at_ v with
  | none =>
   rw [ht] at g2
   refine ⟨([],0,false),start (pos (by rw [g2];rfl) (now _)),fun hh=>by cases hh⟩
  | some p =>
   obtain ⟨s,n⟩:=p
   rw [ht] at g2
   simp only at g2
   subst g2
   obtain ⟨⟨s1,s2⟩,rfl⟩:=tkR_some ht
   obtain ⟨rw_,w1_,w2⟩:=cwhole_any (bl:=acc) hr s1 (by omega)
   refine ⟨(rw_.1,((at_+(runb v s).length:Nat):Int),rw_.2),start (negB rfl (bnd w1_ (now _))),fun hh=>?_⟩
   cases hj:cjoin ref acc s with
   | none=>rw [hj] at w2;simp only at w2 hh;rw [w2] at hh;cases hh
   | some L =>
    rw [hj] at w2
    simp only at w2
    subst w2
    obtain ⟨k1,k2⟩:=cjoin_some hj
    refine ⟨L,[],s,⟨k1,by rw [k2,List.append_nil],rfl,by rw [ccod_nil];exact List.nil_prefix,by rw [ccod_nil];exact s2⟩,?_⟩
    unfold endC;rw [ccod_nil];rfl
 | succ d ih =>
  intro i at_ acc hi hat ha
  have hrd:=Read_ev h (by omega) hat
  cases hrg:rg l at_ with
  | none =>
   rw [hrg] at hrd
   refine ⟨([],0,false),?_,fun hh=>by cases hh⟩
   refine step1 (fun _ _ _ _ _=>Cd.l1.eq_2 ..) ?_
   exact posD (by omega) (bnd hrd (pos rfl (now _)))
  | some p =>
   obtain ⟨x,n⟩:=p
   rw [hrg] at hrd
   obtain ⟨k,rfl,k0,k1,hp,rfl⟩:=rg_can h hrg
   have hpl:=pre_len hp
   obtain ⟨res,e1,e2⟩:=ih (i+1) (at_+(gam k).length) (acc++[if i=0 then (k:Int)-1 else (k:Int)]) (by omega) (by omega) (by simp [ha])
   rw [show i+1+d=i+(d+1) by omega] at e1
   refine ⟨res,?_,fun hh=>?_⟩
   ·refine step1 (fun _ _ _ _ _=>Cd.l1.eq_2 ..) ?_
    refine posD (by omega) (bnd hrd (negB rfl ?_))
    simp only
    rw [w64 (i:=(k:Int)-1) (by omega) (by omega),w1 (by omega)]
    by_cases h0:i=0
    ·rw [if_pos h0] at e1
     exact posE (by omega) (pos (by simp;omega) e1)
    ·rw [if_neg h0] at e1
     exact negE (by omega) (pos (by simp;omega) e1)
   ·obtain ⟨L,q,s,hA,hres⟩:=e2 hh
    obtain ⟨c1,c2⟩:=hA.cons hp
    exact ⟨L,_,s,c1,by rw [hres,c2]⟩
def IsC (l:List Int) (at_:Nat) (v:Int) (ref q:List Int):Prop:=MayP q∧copb v ref q <+: l.drop at_
open Classical in
noncomputable def tkC (l:List Int) (at_:Nat) (v:Int) (ref:List Int):Option (List Int × Nat):=if h:∃ q,IsC l at_ v ref q then some (h.choose,at_+(copb v ref h.choose).length) else none
theorem tkC_some {l:List Int} {at_:Nat} {v:Int} {ref q:List Int} {n:Nat} (h:tkC l at_ v ref=some (q,n)):IsC l at_ v ref q∧n=at_+(copb v ref q).length:=by
 unfold tkC at h
 split at h
 ·rename_i hq;cases h;exact ⟨hq.choose_spec,rfl⟩
 ·cases h
theorem tkC_none {l:List Int} {at_:Nat} {v:Int} {ref:List Int} (h:tkC l at_ v ref=none) (q:List Int):¬ IsC l at_ v ref q:=by
 unfold tkC at h
 split at h
 ·cases h
 ·rename_i hq;exact fun z=>hq ⟨q,z⟩
theorem copb_eq {v:Int} {ref L:List Int}:copb v ref L=gam ((cparts ref L).1.length+1)++(gams (ccod 0 (cparts ref L).1)++runb v (cparts ref L).2):=by
 rw [copb,gams_cons,List.append_assoc];rfl
theorem at_isC {l:List Int} {at_ k:Nat} {v:Int} {ref L q s:List Int} (hp:gam k <+: l.drop at_) (hk:0<k) (h:AtC l v ref 0 (at_+(gam k).length) (k-1) [] L q s):IsC l at_ v ref L∧endC v 0 (at_+(gam k).length) q s=at_+(copb v ref L).length:=by
 obtain ⟨h1,h2,h3,h4,h5⟩:=h
 rw [List.nil_append] at h2
 have hc:copb v ref L=gam k++(gams (ccod 0 q)++runb v s):=by rw [copb_eq,h2];simp only;rw [h3,show k-1+1=k by omega]
 refine ⟨⟨h1,?_⟩,?_⟩
 ·rw [hc];exact pre_app hp (pre_app h4 h5)
 ·unfold endC;rw [hc,List.length_append,List.length_append];omega
theorem cread_tk {l:List Int} (h:Bt l) (hb:l.length≤1000000) {v:Int} (hv:0≤v) (hv2:v≤15) {ref:List Int} (hr:MayP ref) {at_:Nat} (hat:at_≤l.length) :
  ∃ res:List Int × Int × Bool,E0 (fun K=>Cd K (pack l) (at_:Int) v ref) res∧(match tkC l at_ v ref with | some (q,n)=>res=(q,(n:Int),true) | none=>res.2.2=false):=by
 have snd:∃ res:List Int × Int × Bool,E0 (fun K=>Cd K (pack l) (at_:Int) v ref) res∧(res.2.2=true→∃ q,IsC l at_ v ref q):=by
  have hrd:=Read_ev h (by omega) hat
  cases hrg:rg l at_ with
  | none =>
   rw [hrg] at hrd
   exact ⟨([],0,false),bnd hrd (pos rfl (now _)),fun hh=>by cases hh⟩
  | some p =>
   obtain ⟨x,n⟩:=p
   rw [hrg] at hrd
   obtain ⟨k,rfl,k0,k1,hp,rfl⟩:=rg_can h hrg
   have hpl:=pre_len hp
   by_cases c:(k:Int) > 17
   ·exact ⟨([],0,false),bnd hrd (negB rfl (posD c (now _))),fun hh=>by cases hh⟩
   ·obtain ⟨res,e1,e2⟩:=cread_l1 h hb hv hv2 hr (k-1) 0 (at_+(gam k).length) [] (by omega) (by omega) rfl
    have e0:wr .i64 ((k:Int)-1)=((0+(k-1):Nat):Int):=by rw [w64 (by omega) (by omega)];omega
    refine ⟨res,bnd hrd (negB rfl (negD c ?_)),fun hh=>?_⟩
    ·simp only
     rw [e0];exact e1.e1
    ·obtain ⟨L,q,s,hA,_⟩:=e2 hh
     exact ⟨L,(at_isC hp k0 hA).1⟩
 obtain ⟨res,e1,e2⟩:=snd
 refine ⟨res,e1,?_⟩
 cases ht:tkC l at_ v ref with
 | none =>
  simp only
  cases hb2:res.2.2 with
  | false=>rfl
  | true =>
   obtain ⟨q,hq⟩:=e2 hb2
   exact absurd hq (tkC_none ht q)
 | some p =>
  obtain ⟨q,n⟩:=p
  obtain ⟨⟨m,hp⟩,rfl⟩:=tkC_some ht
  obtain ⟨b,hb1,hb2⟩:=pre_split hat hp
  have hB:Bt (l.take at_):=fun x hx=>h x (List.mem_of_mem_take hx)
  have hBb:Bt b:=fun x hx=>h x (by rw [hb1];exact List.mem_append_right _ hx)
  have:=CRd_ev (a:=l.take at_) (b:=b) hr m hv hv2 hB hBb (by rw [← hb1];omega)
  rw [← hb1,List.length_append,hb2] at this
  exact e1.uniq this
theorem RBy_ev {v:Int} {ref l b:List Int} (hr:MayP ref) (h:MayP l) (hv:0≤v) (hv2:v≤15) (hlen:b.length≤1099200000000):E0 (fun K=>Bn K b v ref l) (b++copb v ref l):=by
 have hbk:=cparts_blks (l:=l) hr
 have hm:=cparts_may (ref:=ref) h
 have hrl:=hr.len
 have hll:=h.len
 generalize hp:cparts ref l=p at *
 obtain ⟨bl,s⟩:=p
 replace hbk:Blks bl:=hbk
 replace hm:MayP s:=hm
 have hbl:=hbk.len
 have hcl:(cnum bl).length=bl.length:=cnum_len bl
 have key:∀ i,i≤bl.length→∀ c:List Int,c.length+30*(bl.length-i)≤1099300000000→E1 (fun K k=>Bn.l1 K (bl,s) v k (i:Int) c) (c++gams ((cnum bl).drop i)++runb v s):=by
  refine upto ?_ ?_
  ·intro c hc
   refine step1 (fun _ _ _ _ _=>Bn.l1.eq_2 ..) ?_
   refine negD (by show ¬ ((bl.length:Int)<(bl.length:Int));omega) (bnd (RRuns_ev hm hv hv2 (by omega)) (nowE ?_))
   rw [List.drop_of_length_le (by omega)];simp [gams]
  ·intro i hi ih c hc
   obtain ⟨n1,n2⟩:=cnum_rng hbk hi
   have hg:=cnum_get hi
   have hgl:=gam_len8 n2
   have ih2:=ih (c++gam ((cnum bl).getD i 0)) (by rw [List.length_append];omega)
   have hd:c++gams ((cnum bl).drop i)=c++gam ((cnum bl).getD i 0)++gams ((cnum bl).drop (i+1)):=by
    rw [drop_getD (d:=0) (by omega:i<(cnum bl).length),gams_cons,List.append_assoc]
   rw [hd]
   have a:=hbk.ge _ (getD_mem (d:=0) hi)
   refine step1 (fun _ _ _ _ _=>Bn.l1.eq_2 ..) ?_
   refine posD (by show (i:Int)<(bl.length:Int);omega) (pos ⟨by omega,by show (i:Int)<(bl.length:Int);omega⟩ ?_)
   simp only
   rw [rdN,w1 (by omega)]
   have hw:=RWrite_ev (n:=(cnum bl).getD i 0) (l:=c) (by omega) (by omega)
   by_cases h0:i=0
   ·refine posE (by omega) ?_
    have e:wr .i64 (bl.getD i 0+1)=(((cnum bl).getD i 0:Nat):Int):=by
     rw [hg,if_pos h0,w64 (by omega) (by omega)];subst h0;omega
    rw [e]
    exact bnd hw ih2
   ·refine negE (by omega) ?_
    have e:bl.getD i 0=(((cnum bl).getD i 0:Nat):Int):=by rw [hg,if_neg h0];omega
    rw [e]
    exact bnd hw ih2
 have hc0:E0 (fun K=>Aq K ref l) (bl,s):=by rw [← hp];exact RCopies_ev (by omega) (by omega)
 refine bnd hc0 ?_
 simp only
 rw [w1 (by omega)]
 refine bnd (RWrite_ev (by omega) (by omega)) ?_
 have hg0:=gam_len8 (show bl.length+1<256 by omega)
 have:=(key 0 (by omega) (b++gam (bl.length+1)) (by rw [List.length_append];omega)).e1
 refine ofEq this ?_
 rw [copb,hp,gams_cons,List.drop_zero]
 simp only [List.append_assoc]
end Go.XL
end
section
namespace Go.XL
open Go.XM
def posns (g:Aa) (i:Nat):List Int:=(List.range i).map fun j=>(posn g j:Int)
theorem posns_succ (g:Aa) (i:Nat):posns g (i+1)=posns g i++[(posn g i:Int)]:=by simp [posns,List.range_succ]
theorem posns_len (g:Aa) (i:Nat):(posns g i).length=i:=by simp [posns]
theorem flay2_ev {g:Aa} (h:GP g):E0 (fun K=>Cq K g) (row (frb g),posns g g.Out.length):=by
 have hle:=h.le
 have hpre:∀ i,i≤g.Out.length→posn g i≤3000:=by
  intro i hi
  have h1:=fr_len 0 (g.Out.take i) (fun l hl=>h.may l (List.mem_of_mem_take hl)) (by simp;omega)
  have h2:=lsum_take_le g.Out i
  have h3:=h.sum
  have h4:=gam_len8 (show g.Out.length+1<256 by omega)
  rw [List.length_take] at h1
  show (gam (g.Out.length+1)++fr 0 (g.Out.take i)).length≤3000
  rw [List.length_append];omega
 have key:∀ i,i≤g.Out.length→E1 (fun K k=>Cq.l1 K g k (g.Out.length:Int) (i:Int) (posn g i:Int) (byts (gam (g.Out.length+1)++fr 0 (g.Out.take i))) (posns g i)) (row (frb g),posns g g.Out.length):=by
  refine upto ?_ ?_
  ·refine step1 (fun _ _ _ _ _=>Cq.l1.eq_2 ..) ?_
   refine negD (by omega) (nowE ?_)
   unfold posn
   rw [List.take_length];rfl
  ·intro i hi ih
   refine step1 (fun _ _ _ _ _=>Cq.l1.eq_2 ..) ?_
   have hm:=h.may _ (getD_mem (d:=[]) hi)
   have hp:=hpre i (by omega)
   have hlay:=RLay_ev (v:=(i:Int)) (b:=gam (g.Out.length+1)++fr 0 (g.Out.take i)) hm (by omega) (by omega) ((gam_Bt _).app (fr_Bt _ _)) (by show posn g i≤_;omega)
   rw [List.append_assoc,← fr_take hi] at hlay
   refine posD (by omega) (pos (by omega) (bnd (now ((posn g i:Int),row (gam (g.Out.length+1)++fr 0 (g.Out.take i)))) (pos (by simp [posns_len];omega) ?_)))
   rw [rd1N,w1 (by omega)]
   refine bnd hlay ?_
   rw [posns_succ] at ih
   exact ih
 have hlay:=Lay_ev (n:=g.Out.length+1) (l:=[]) Bt.nil (by omega) (by omega) (by simp)
 rw [List.nil_append] at hlay
 have e0:wr .i64 (g.N+1)=((g.Out.length+1:Nat):Int):=by rw [h.n,w1 (by omega)]
 have he:=(key 0 (by omega)).e1
 have hz:gam (g.Out.length+1)++fr 0 (g.Out.take 0)=gam (g.Out.length+1):=by simp [fr]
 unfold posn at he
 rw [hz] at he
 refine congr (f:=fun K _ _ _ _=>(Ck K (row []) 2 ((g.Out.length+1:Nat):Int)).bind fun r14=>Cq.l1 K g K ((g.Out.length:Nat):Int) (0:Int) r14.n r14.data ([]:List Int)) (fun K _ _ _ _=>by unfold Cq;rw [e0];rfl) ?_
 exact bnd hlay he
theorem RWrite0_ev {n:Nat} {x:List Int} (hn:n<4611686018427387904):E0 (fun K=>Al K x 2 (n:Int)) (gam n):=by
 have hl:=lg62 hn
 refine congr (f:=fun K _ _ _ _=>(Aw K (n:Int)).bind fun r31=>(Ak K [] 0 r31).bind fun r32=>(Aw K (n:Int)).bind fun r35=>(Ak K r32 (n:Int) (wr .i64 (r35+1))).bind fun r37=>some r37) (fun _ _ _ _ _=>rfl) ?_
 refine bnd (Rlog_ev hn) ?_
 refine bnd (a:=([]:List Int)++nb 0 (Nat.log2 n)) (RPut_ev (v:=0) (by omega) (by simp;omega)) ?_
 refine bnd (Rlog_ev hn) ?_
 rw [w1 (by omega)]
 refine bnd (a:=gam n) ?_ (now _)
 refine ofEq (RPut_ev (v:=n) (w:=Nat.log2 n+1) (by omega) (by simp [nb_len];omega)) ?_
 simp [gam]
theorem RFrame_ev {g:Aa} (h:GP g):E0 (fun K=>Bi K g) (frb g,posns g g.Out.length):=by
 have hle:=h.le
 have hpre:∀ i,i≤g.Out.length→posn g i≤3000:=by
  intro i hi
  have h1:=fr_len 0 (g.Out.take i) (fun l hl=>h.may l (List.mem_of_mem_take hl)) (by simp;omega)
  have h2:=lsum_take_le g.Out i
  have h3:=h.sum
  have h4:=gam_len8 (show g.Out.length+1<256 by omega)
  rw [List.length_take] at h1
  show (gam (g.Out.length+1)++fr 0 (g.Out.take i)).length≤3000
  rw [List.length_append];omega
 have key:∀ i,i≤g.Out.length→E1 (fun K k=>Bi.l1 K g k (i:Int) (gam (g.Out.length+1)++fr 0 (g.Out.take i)) (posns g i)) (frb g,posns g g.Out.length):=by
  refine upto ?_ ?_
  ·refine step1 (fun _ _ _ _ _=>Bi.l1.eq_2 ..) ?_
   refine negD (by rw [h.n];omega) (nowE ?_)
   rw [List.take_length];rfl
  ·intro i hi ih
   refine step1 (fun _ _ _ _ _=>Bi.l1.eq_2 ..) ?_
   have hm:=h.may _ (getD_mem (d:=[]) hi)
   have hp:=hpre i (by omega)
   have hlay:=RRuns_ev (v:=(i:Int)) (b:=gam (g.Out.length+1)++fr 0 (g.Out.take i)) hm (by omega) (by omega) (by show posn g i≤_;omega)
   rw [List.append_assoc,← fr_take hi] at hlay
   refine posD (by rw [h.n];omega) (pos (by simp [posns_len];omega) (pos (by omega) ?_))
   rw [rd1N,w1 (by omega)]
   refine bnd hlay ?_
   rw [posns_succ] at ih
   exact ih
 have e0:wr .i64 (g.N+1)=((g.Out.length+1:Nat):Int):=by rw [h.n,w1 (by omega)]
 have he:=(key 0 (by omega)).e1
 have hz:gam (g.Out.length+1)++fr 0 (g.Out.take 0)=gam (g.Out.length+1):=by simp [fr]
 rw [hz] at he
 refine congr (f:=fun K _ _ _ _=>(Al K ([]:List Int) 2 ((g.Out.length+1:Nat):Int)).bind fun r10=>Bi.l1 K g K (0:Int) r10 ([]:List Int)) (fun K _ _ _ _=>by unfold Bi;rw [e0]) ?_
 exact bnd (RWrite0_ev (by omega)) he
section
variable {ts:List Ao}
end
variable {x:Ce}
end Go.XL
end
section
namespace Go.XL
open Go.XM
theorem FBits2_ev {g:Aa} (h:GP g):E0 (fun K=>D0 K g) (pack (frb g)):=by
 have:=frb_len h
 exact bnd (flay2_ev h) (bnd (congr (fun K _ _ _ _=>bits_eq (by omega) K) (now _)) (now _))
theorem rbase_eq {g:Aa} (h:GP g) (K v:Nat):C1 K g (v:Int)=some (dl g v):=by
 unfold C1 dl
 by_cases hv:v<g.Out.length
 ·rw [if_pos (by rw [h.n];simp;omega),if_pos (by omega),rd1N]
 ·rw [if_neg (by rw [h.n];simp;omega),List.getD_eq_getElem?_getD,List.getElem?_eq_none (by omega)];rfl
theorem RDelta_ev {b g:Aa} (hb:GP b) (h:GP g):E0 (fun K=>Bj K b g) (drb b g):=by
 have hle:=h.le
 have hlen:=drb_len hb h
 have hpre:∀ i,i≤g.Out.length→(gam (g.Out.length+1)++dr b 0 (g.Out.take i)).length≤1099000000000:=by
  intro i hi
  have h1:=dr_len hb 0 (g.Out.take i) (fun l hl=>h.may l (List.mem_of_mem_take hl)) (by simp;omega)
  rw [List.drop_zero] at h1
  have h2:=lsum_take_le g.Out i
  have h3:=h.sum
  have h5:=hb.sum
  have h4:=gam_len8 (show g.Out.length+1<256 by omega)
  rw [List.length_take] at h1
  rw [List.length_append];omega
 have key:∀ i,i≤g.Out.length→E1 (fun K k=>Bj.l1 K b g k (i:Int) (gam (g.Out.length+1)++dr b 0 (g.Out.take i))) (drb b g):=by
  refine upto ?_ ?_
  ·refine step1 (fun _ _ _ _ _=>Bj.l1.eq_2 ..) ?_
   refine negD (by rw [h.n];omega) (nowE ?_)
   rw [List.take_length];rfl
  ·intro i hi ih
   refine step1 (fun _ _ _ _ _=>Bj.l1.eq_2 ..) ?_
   have hm:=h.may _ (getD_mem (d:=[]) hi)
   have hp:=hpre i (by omega)
   have hlay:=RBy_ev (v:=(i:Int)) (b:=gam (g.Out.length+1)++dr b 0 (g.Out.take i)) (dl_may hb i) hm (by omega) (by omega) (by omega)
   rw [List.append_assoc,← dr_take hi] at hlay
   refine posD (by rw [h.n];omega) (bnd (congr (fun K _ _ _ _=>rbase_eq hb K i) (now _)) (pos (by omega) ?_))
   rw [rd1N,w1 (by omega)]
   exact bnd hlay ih
 have e0:wr .i64 (g.N+1)=((g.Out.length+1:Nat):Int):=by rw [h.n,w1 (by omega)]
 have he:=(key 0 (by omega)).e1
 rw [List.take_zero,show dr b 0 []=[] from rfl,List.append_nil] at he
 refine congr (f:=fun K _ _ _ _=>(Al K ([]:List Int) 2 ((g.Out.length+1:Nat):Int)).bind fun r10=>Bj.l1 K b g K (0:Int) r10) (fun K _ _ _ _=>by unfold Bj;rw [e0]) ?_
 exact bnd (RWrite0_ev (by omega)) he
noncomputable def tkM (l:List Int) (b:Aa):Nat→Nat→Nat→Option (List (List Int) × Nat)
 | 0,_,at_=>some ([],at_)
 | d+1,v,at_=>match tkC l at_ (v:Int) (dl b v) with
  | none=>none
  | some (q,n)=>match tkM l b d (v+1) n with
   | none=>none
   | some (qs,m)=>some (q::qs,m)
theorem tkC_le {l:List Int} {at_:Nat} {v:Int} {ref q:List Int} {n:Nat} (hat:at_≤l.length) (h:tkC l at_ v ref=some (q,n)):MayP q∧n≤l.length:=by
 obtain ⟨⟨h1,h2⟩,rfl⟩:=tkC_some h
 have:=pre_len h2
 exact ⟨h1,by omega⟩
variable {b:Aa}
theorem tkM_none {l:List Int} {d v at_:Nat} (h:tkC l at_ (v:Int) (dl b v)=none):tkM l b (d+1) v at_=none:=by rw [tkM,h]
theorem tkM_bad {l:List Int} {d v at_ n:Nat} {q:List Int} (h:tkC l at_ (v:Int) (dl b v)=some (q,n)) (h2:tkM l b d (v+1) n=none):tkM l b (d+1) v at_=none:=by rw [tkM,h];simp only [h2]
theorem tkM_ok {l:List Int} {d v at_ n m:Nat} {q:List Int} {qs:List (List Int)} (h:tkC l at_ (v:Int) (dl b v)=some (q,n)) (h2:tkM l b d (v+1) n=some (qs,m)):tkM l b (d+1) v at_=some (q::qs,m):=by rw [tkM,h];simp only [h2]
theorem dlists_l1 {l:List Int} (h:Bt l) (hb:l.length≤1000000) (hG:GP b) {n f:Nat} (hf:f≤n) (hn:n≤16) {r:List (List Int)}:∀ (d v at_:Nat) (acc:List (List Int)),v+d=f→at_≤l.length→acc.length=n→(∀ y∈acc,y.length≤16) →
  E1 (fun K k=>A4.l1 K ((n:Int),r) (f:Int) k (at_:Int) (v:Int) (pack l).Data (pack l).N b.N b.Out 0 acc) (match tkM l b d v at_ with | none=>(G0,0,false,pack l,b) | some (qs,m)=>(((n:Int),acc.take v++qs++acc.drop (v+d)),(m:Int),decide (GraphP ((n:Int),acc.take v++qs++acc.drop (v+d))),pack l,b)):=by
 intro d
 induction d with
 | zero =>
  intro v at_ acc hv hat hl ha
  refine step1 (fun _ _ _ _ _=>A4.l1.eq_2 ..) ?_
  refine negD (by omega) (bnd (gmayG_ev ((n:Int),acc) (gsm16 (by omega) ha)) (nowE ?_))
  simp only [tkM,List.append_nil,Nat.add_zero,List.take_append_drop]
 | succ d ih =>
  intro v at_ acc hv hat hl ha
  obtain ⟨res,e1,e2⟩:=cread_tk h hb (v:=(v:Int)) (by omega) (by omega) (dl_may hG v) hat
  have r1:E0 (fun K=>Dy K (at_:Int) (v:Int) (pack l) b) (res.1,res.2.1,res.2.2,pack l,b):=bnd (congr (fun K _ _ _ _=>dlist_eq hG K v) (now _)) (bnd e1 (now _))
  refine step1 (fun _ _ _ _ _=>A4.l1.eq_2 ..) ?_
  refine posD (by omega) (bnd r1 ?_)
  cases ht:tkC l at_ (v:Int) (dl b v) with
  | none =>
   rw [ht] at e2
   rw [tkM_none ht]
   exact pos (by rw [e2];rfl) (now _)
  | some p =>
   obtain ⟨q,m⟩:=p
   rw [ht] at e2
   simp only at e2
   subst e2
   obtain ⟨h1,h2⟩:=tkC_le hat ht
   have hql:=h1.len
   have hi:=ih (v+1) m (acc.set v q) (by omega) h2 (by simp [hl]) (fun y hy=>by
    rcases List.mem_or_eq_of_mem_set hy with hy | rfl
    ·exact ha y hy
    ·exact hql)
   refine negB rfl (pos (by omega) ?_)
   rw [w1 (by omega),Int.toNat_natCast]
   refine ofEq hi ?_
   cases hT:tkM l b d (v+1) m with
   | none=>rw [tkM_bad ht hT]
   | some p =>
    obtain ⟨qs,m'⟩:=p
    rw [tkM_ok ht hT]
    simp only [splice_set (show v<acc.length by omega)]
noncomputable def tkD (l:List Int) (b:Aa):Option Aa:=match hdF l with
 | none=>none
 | some (n,at_)=>match tkM l b n 0 at_ with
  | none=>none
  | some (qs,m)=>if m=l.length∧GraphP ((n:Int),qs) then some ((n:Int),qs) else none
theorem tkD_G {l:List Int} {g:Aa} (h:tkD l b=some g):GraphP g:=by
 unfold tkD at h
 split at h
 ·cases h
 ·split at h
  ·cases h
  ·split at h
   ·rename_i hc;cases h;exact hc.2
   ·cases h
theorem dread_any {l:List Int} (h:Bt l) (hb:l.length≤1000000) (hG:GP b):∃ res:Aa × Bool,E0 (fun K=>D6 K b (pack l)) res∧(match tkD l b with | some g=>res=(g,true) | none=>res.2=false):=by
 have hh:=fhead_any h hb
 unfold tkD
 cases hd:hdF l with
 | none =>
  rw [hd] at hh
  exact ⟨(G0,false),bnd hh (pos rfl (now _)),rfl⟩
 | some p =>
  obtain ⟨n,at_⟩:=p
  rw [hd] at hh
  obtain ⟨hn,hat⟩:=hdF_le h hd
  have hl:=(dlists_l1 h hb hG (Nat.le_refl n) hn (r:=List.replicate n []) n 0 at_ (List.replicate n []) (by omega) hat (by simp) rep_len).e1
  have hl2:E0 (fun K=>A4 K (n:Int) (n:Int) (at_:Int) (pack l) b) _:=bnd (congr (fun K _ _ _ _=>empty_eq hn) (now _)) hl
  simp only
  cases ht:tkM l b n 0 at_ with
  | none =>
   rw [ht] at hl2
   exact ⟨(G0,false),bnd hh (negB rfl (bnd hl2 (negB rfl (now _)))),rfl⟩
  | some p =>
   obtain ⟨qs,m⟩:=p
   rw [ht] at hl2
   have hs:(List.replicate n ([]:List Int)).take 0++qs++(List.replicate n ([]:List Int)).drop (0+n)=qs:=by simp
   simp only [hs] at hl2
   simp only
   by_cases c:GraphP ((n:Int),qs)
   ·rw [decide_eq_true c] at hl2
    refine ⟨(((n:Int),qs),((m:Int) == (l.length:Int))),bnd hh (negB rfl (bnd hl2 (pos rfl (now _)))),?_⟩
    by_cases e:m=l.length
    ·rw [if_pos ⟨e,c⟩,e];simp
    ·rw [if_neg (fun z=>e z.1)]
     show (((m:Int) == (l.length:Int)))=false
     simp;omega
   ·rw [decide_eq_false c] at hl2
    rw [if_neg (fun z=>c z.2)]
    exact ⟨(((n:Int),qs),false),bnd hh (negB rfl (bnd hl2 (negB rfl (now _)))),rfl⟩
section
variable {ts:List Ao} {x:Ce}
end
variable {x:Ce}
end Go.XL
end
section
namespace Go.XL
open Go.XM
def ixo (id:Int):List Ab→Nat→Int
 | [],_=>-1
 | o::l,i=>if o.ID=id then (i:Int) else ixo id l (i+1)
abbrev ix (l:List Ab) (id:Int):Int:=ixo id l 0
theorem ixo_spec {id:Int}:∀ (l:List Ab) (i:Nat),(ixo id l i=-1∧∀ o∈l,o.ID≠id)∨∃ j,ixo id l i=((i+j:Nat):Int)∧j<l.length∧(l.getD j default).ID=id
 | [],i=>.inl ⟨rfl,by simp⟩
 | o::l,i=>by
  unfold ixo
  by_cases e:o.ID=id
  ·rw [if_pos e]
   exact .inr ⟨0,by simp,by simp,by simpa using e⟩
  ·rw [if_neg e]
   rcases ixo_spec l (i+1) with ⟨h1,h2⟩ | ⟨j,h1,h2,h3⟩
   ·exact .inl ⟨h1,fun x hx=>(List.mem_cons.1 hx).elim (fun q=>q ▸ e) (h2 x)⟩
   ·exact .inr ⟨j+1,by rw [h1];congr 1;omega,by simpa using h2,by simpa using h3⟩
theorem ix_spec (l:List Ab) (id:Int):(ix l id=-1∧∀ o∈l,o.ID≠id)∨∃ j:Nat,ix l id=(j:Int)∧j<l.length∧(l.getD j default).ID=id:=by
 rcases ixo_spec (id:=id) l 0 with h | ⟨j,h⟩
 ·exact .inl h
 ·exact .inr ⟨j,by simpa using h⟩
theorem find_ev (l:List Ab) (id:Int) (hl:l.length≤1000000):E0 (fun K=>Dr K l id) (ix l id):=by
 have key:∀ i,i≤l.length→E1 (fun K k=>Ah.l1 K l k ((l.length:Nat):Int) (i:Int) id) (ixo id (l.drop i) i,id):=by
  refine upto ?_ ?_
  ·refine step1 (fun _ _ _ _ _=>Ah.l1.eq_2 ..) ?_
   rw [List.drop_length]
   exact negD (by omega) (now _)
  ·intro i hi ih
   refine step1 (fun _ _ _ _ _=>Ah.l1.eq_2 ..) ?_
   refine posD (by omega) (pos (by omega) (bnd (now _) ?_))
   rw [drop_getD (d:=default) hi,ixo]
   by_cases e:(l.getD i default).ID=id
   ·rw [if_pos e]
    refine pos ?_ (now _)
    rw [nthN];simp only [e,beq_self_eq_true]
   ·rw [if_neg e]
    refine neg ?_ ?_
    ·rw [nthN];simpa using e
    ·rw [w1 (by omega)];exact ih
 exact bnd (key 0 (by omega)).e1 (now _)
def ObjP (l:List Ab) (i:Nat):Prop :=
 let o:=l.getD i default
 1≤o.ID∧o.ID≤1048576∧(0<i→(l.getD (i-1) default).ID<o.ID)∧o.Base≠o.ID∧(o.Base≠0→0≤ix l o.Base)∧MayB o.Data
def ObjsP (l:List Ab):Prop:=l.length≤12∧∀ i,i<l.length→ObjP l i
instance (l:List Ab) (i:Nat):Decidable (ObjP l i):=by unfold ObjP;infer_instance
instance (l:List Ab):Decidable (ObjsP l):=by unfold ObjsP;infer_instance
end Go.XL
end
section
namespace Go.XL
open Go.XM
abbrev AllP (l:List Ab) (i:Nat):Prop:=∀ j,j<l.length→i≤j→ObjP l j
theorem allP_no {l:List Ab} {i:Nat} (hi:i<l.length) (h:¬ ObjP l i):false=decide (AllP l i):=(decide_eq_false fun k=>h (k i hi (Nat.le_refl _))).symm
theorem allP_go {l:List Ab} {i:Nat} (h:ObjP l i):decide (AllP l (i+1))=decide (AllP l i) :=
 decide_eq_decide.2 ⟨fun k j hj hi=>by
  by_cases e:j=i
  ·subst e;exact h
  ·exact k j hj (by omega),fun k j hj hi=>k j hj (by omega)⟩
theorem cmay_l1 {l:List Ab} (hl:l.length≤1000000) (hs:∀ o∈l,o.Data.Data.size≤1000000):∀ i,i≤l.length→E1 (fun K k=>C5.l1 K l k ((l.length:Nat):Int) (i:Int)) (decide (AllP l i)):=by
 refine upto ?_ ?_
 ·refine step1 (fun _ _ _ _ _=>C5.l1.eq_2 ..) ?_
  refine negD (by omega) (nowE (decide_eq_true fun j hj hi=>by omega).symm)
 ·intro i hi ih
  refine step1 (fun _ _ _ _ _=>C5.l1.eq_2 ..) ?_
  rw [w1 (by omega),nthN]
  generalize ho:l.getD i default=o
  have hP:ObjP l i↔1≤o.ID∧o.ID≤1048576∧(0<i→(l.getD (i-1) default).ID<o.ID)∧o.Base≠o.ID∧(o.Base≠0→0≤ix l o.Base)∧MayB o.Data:=by unfold ObjP;rw [ho]
  have hso:o.Data.Data.size≤1000000:=by rw [← ho];exact hs _ (getD_mem hi)
  refine posD (by omega) (pos (by omega) ?_)
  by_cases c1:o.ID<1
  ·exact posD c1 (nowE (allP_no hi fun h=>by have:=(hP.1 h).1;omega))
  refine negD c1 ?_
  by_cases c2:o.ID > 1048576
  ·exact posD c2 (nowE (allP_no hi fun h=>by have:=(hP.1 h).2.1;omega))
  refine negD c2 ?_
  have tail:(0<i→(l.getD (i-1) default).ID<o.ID)→∀ {go:Nat→Nat→Option Bool},E1 (fun K k=>go K k) (decide (AllP l (i+1))) →
    Ev (fun K k _ _ _=>(Dv K o.Data).bind fun r41=>if (!r41) then some false else if (o.Base == o.ID) then some false else if (o.Base != 0) then (Dr K l o.Base).bind fun r57=>if decide (r57<0) then some false else go K k else go K k) (decide (AllP l i)):=by
   intro c3 go hgo
   refine bnd (congr (fun K _ _ _ _=>bMay_eq hso K) (now _)) ?_
   by_cases c4:MayB o.Data
   ·refine negM c4 ?_
    by_cases c5:o.Base=o.ID
    ·exact posE c5 (nowE (allP_no hi fun h=>(hP.1 h).2.2.2.1 c5))
    refine negE c5 ?_
    by_cases c6:o.Base=0
    ·exact negN c6 (ofEq hgo (allP_go (hP.2 ⟨by omega,by omega,c3,c5,fun h=>absurd c6 h,c4⟩)))
    refine posN c6 (bnd (find_ev l _ hl) ?_)
    by_cases c7:ix l o.Base<0
    ·exact posD c7 (nowE (allP_no hi fun h=>by have:=(hP.1 h).2.2.2.2.1 c6;omega))
    ·exact negD c7 (ofEq hgo (allP_go (hP.2 ⟨by omega,by omega,c3,c5,fun _=>by omega,c4⟩)))
   ·exact posM c4 (nowE (allP_no hi fun h=>c4 (hP.1 h).2.2.2.2.2))
  by_cases c0:0<i
  ·have e1:wr .i64 ((i:Int)-1)=((i-1:Nat):Int):=by rw [w64 (by omega) (by omega)];omega
   rw [e1,nthN]
   refine posD (by omega) (pos (by omega) ?_)
   by_cases c3:o.ID≤(l.getD (i-1) default).ID
   ·exact posD c3 (nowE (allP_no hi fun h=>by have:=(hP.1 h).2.2.1 c0;omega))
   ·exact negD c3 (tail (fun _=>by omega) ih)
  ·exact negD (by omega) (tail (fun h=>absurd h c0) ih)
theorem cmay_ev {l:List Ab} (hl:l.length≤1000000) (hs:∀ o∈l,o.Data.Data.size≤1000000):E0 (fun K=>C5 K l) (decide (ObjsP l)):=by
 by_cases c:l.length≤12
 ·refine negD (by omega) (ofEq (cmay_l1 hl hs 0 (by omega)).e1 (decide_eq_decide.2 ⟨fun k=>⟨c,fun i hi=>k i hi (by omega)⟩,fun k j hj _=>k.2 j hj⟩))
 ·exact posD (by omega) (nowE (decide_eq_false fun h=>c h.1).symm)
end Go.XL
end
section
namespace Go.XL
open Go.XM
abbrev ob (l:List Ab) (id:Int):Ab:=l.getD (ix l id).toNat default
def wayP (l:List Ab):Nat→Int→List Ab
 | 0,_=>[]
 | m+1,id=>if id=0 then [] else ob l id::wayP l m (ob l id).Base
def There (l:List Ab) (id:Int):Prop:=id=0∨0≤ix l id
theorem ix_lt {l:List Ab} {id:Int} (h:0≤ix l id):ix l id<(l.length:Int)∧(ix l id).toNat<l.length∧(ob l id).ID=id:=by
 rcases ix_spec l id with ⟨e,_⟩ | ⟨j,e,h1,h2⟩
 ·omega
 ·refine ⟨by omega,by omega,?_⟩
  show (l.getD (ix l id).toNat default).ID=id
  rw [e];exact h2
theorem there_base {l:List Ab} (h:ObjsP l) {id:Int} (hi:0≤ix l id):There l (ob l id).Base:=by
 by_cases c:(ob l id).Base=0
 ·exact .inl c
 ·exact .inr ((h.2 _ (ix_lt hi).2.1).2.2.2.2.1 c)
theorem ob_mayB {l:List Ab} (h:ObjsP l) {id:Int} (hi:0≤ix l id):MayB (ob l id).Data:=(h.2 _ (ix_lt hi).2.1).2.2.2.2.2
theorem ix0 {l:List Ab} (h:ObjsP l):ix l 0<0:=by
 rcases ix_spec l 0 with ⟨e,_⟩ | ⟨j,e,h1,h2⟩
 ·omega
 ·have:=(h.2 j h1).1;omega
theorem way_l1 {l:List Ab} (h:ObjsP l) {m:Nat} (hm:m≤1000):∀ (d:Nat) (id:Int) (w:List Ab),w.length+d=m→There l id →
  E1 (fun K k=>Db.l1 K l (m:Int) k id w) (w++wayP l d id)
 | 0,id,w,hd,hi=>by
  refine step1 (fun _ _ _ _ _=>Db.l1.eq_2 ..) ?_
  rw [wayP,List.append_nil]
  by_cases c:id=0
  ·exact negN c (now _)
  ·exact posN c (negD (by omega) (now _))
 | d+1,id,w,hd,hi=>by
  refine step1 (fun _ _ _ _ _=>Db.l1.eq_2 ..) ?_
  rw [wayP]
  by_cases c:id=0
  ·rw [if_pos c,List.append_nil];exact negN c (now _)
  ·rw [if_neg c]
   have hx:0≤ix l id:=hi.resolve_left c
   obtain ⟨x1,x2,x3⟩:=ix_lt hx
   refine posN c (posD (by omega) (bnd (find_ev l id (by have:=h.1;omega)) (pos ⟨hx,x1⟩ (pos (by simp;omega) ?_))))
   have e:nth l (ix l id)=ob l id:=rfl
   rw [e]
   have:=way_l1 h hm d (ob l id).Base (w++[ob l id]) (by simp;omega) (there_base h hx)
   rwa [List.append_assoc] at this
theorem way_ev {l:List Ab} (h:ObjsP l) {m:Nat} (hm:m≤1000) {id:Int} (hi:There l id):E0 (fun K=>Db K l id (m:Int)) (wayP l m id):=by
 have:=(way_l1 h hm m id [] (by simp) hi).e1
 exact this
def Cl (l:List Ab):Prop:=l.length≤12∧∀ id,0≤ix l id→There l (ob l id).Base
theorem ObjsP.cl {l:List Ab} (h:ObjsP l):Cl l:=⟨h.1,fun _ hi=>there_base h hi⟩
def deepP (l:List Ab) (id:Int):Int × Int:=if ix l id<0 then (0,3) else if 3<(wayP l 4 id).length then (0,2) else (((wayP l 4 id).length:Int),0)
theorem deep_ev {l:List Ab} (h:ObjsP l) (id:Int):E0 (fun K=>D4 K l id) (deepP l id):=by
 unfold deepP
 refine bnd (find_ev l id (by have:=h.1;omega)) ?_
 by_cases c:ix l id<0
 ·rw [if_pos c];exact posD c (now _)
 ·rw [if_neg c]
  refine negD c (bnd (way_ev h (m:=4) (by omega) (.inr (by omega))) ?_)
  by_cases c2:3<(wayP l 4 id).length
  ·rw [if_pos c2];exact posD (by omega) (now _)
  ·rw [if_neg c2];exact negD (by omega) (now _)
end Go.XL
end
