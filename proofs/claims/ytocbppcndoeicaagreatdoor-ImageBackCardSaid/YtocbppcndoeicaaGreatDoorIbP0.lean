import Derived.Test.YtocbppcndoeicaaGreatDoorIbC0
import Derived.Laws.BitsLemmas
import Derived.Lib.Strings
import Derived.Lib.TrimByte
set_option linter.all false
section
section
namespace Go.XL
open Go.XM
def Ev {α:Type} (g:Nat→Nat→Nat→Nat→Nat→Option α) (r:α):Prop:=∃ m,∀ K a b c d,m≤K→m≤a→m≤b→m≤c→m≤d→g K a b c d=some r
abbrev E0 {α:Type} (g:Nat→Option α) (r:α):Prop:=Ev (fun K _ _ _ _=>g K) r
abbrev E1 {α:Type} (g:Nat→Nat→Option α) (r:α):Prop:=Ev (fun K a _ _ _=>g K a) r
abbrev E2 {α:Type} (g:Nat→Nat→Nat→Option α) (r:α):Prop:=Ev (fun K a b _ _=>g K a b) r
theorem now {α:Type} (r:α):Ev (fun _ _ _ _ _=>some r) r:=⟨0,fun _ _ _ _ _ _ _ _ _ _=>rfl⟩
theorem nowE {α:Type} {r s:α} (h:s=r):Ev (fun _ _ _ _ _=>some s) r:=⟨0,fun _ _ _ _ _ _ _ _ _ _=>by rw [h]⟩
theorem pos {α:Type} {c:Prop} [Decidable c] {f g:Nat→Nat→Nat→Nat→Nat→Option α} {r:α} (h:c) (k:Ev f r):Ev (fun x y z u v=>if c then f x y z u v else g x y z u v) r:=by
 obtain ⟨m,k⟩:=k
 exact ⟨m,fun x y z u v a b c d e=>(if_pos h).trans (k x y z u v a b c d e)⟩
theorem neg {α:Type} {c:Prop} [Decidable c] {f g:Nat→Nat→Nat→Nat→Nat→Option α} {r:α} (h:¬ c) (k:Ev g r):Ev (fun x y z u v=>if c then f x y z u v else g x y z u v) r:=by
 obtain ⟨m,k⟩:=k
 exact ⟨m,fun x y z u v a b c d e=>(if_neg h).trans (k x y z u v a b c d e)⟩
theorem posD {α:Type} {c:Prop} [Decidable c] {f g:Nat→Nat→Nat→Nat→Nat→Option α} {r:α} (h:c) (k:Ev f r):Ev (fun x y z u v=>if decide c=true then f x y z u v else g x y z u v) r:=pos (decide_eq_true h) k
theorem negD {α:Type} {c:Prop} [Decidable c] {f g:Nat→Nat→Nat→Nat→Nat→Option α} {r:α} (h:¬ c) (k:Ev g r):Ev (fun x y z u v=>if decide c=true then f x y z u v else g x y z u v) r:=neg (by simpa using h) k
theorem posM {α:Type} {c:Prop} [Decidable c] {f g:Nat→Nat→Nat→Nat→Nat→Option α} {r:α} (h:¬ c) (k:Ev f r):Ev (fun x y z u v=>if (!decide c)=true then f x y z u v else g x y z u v) r:=pos (by rw [decide_eq_false h];rfl) k
theorem negM {α:Type} {c:Prop} [Decidable c] {f g:Nat→Nat→Nat→Nat→Nat→Option α} {r:α} (h:c) (k:Ev g r):Ev (fun x y z u v=>if (!decide c)=true then f x y z u v else g x y z u v) r:=neg (by rw [decide_eq_true h];decide) k
theorem posE {α:Type} {p q:Int} {f g:Nat→Nat→Nat→Nat→Nat→Option α} {r:α} (h:p=q) (k:Ev f r):Ev (fun x y z u v=>if (p == q)=true then f x y z u v else g x y z u v) r:=pos (by simp [h]) k
theorem negE {α:Type} {p q:Int} {f g:Nat→Nat→Nat→Nat→Nat→Option α} {r:α} (h:¬ p=q) (k:Ev g r):Ev (fun x y z u v=>if (p == q)=true then f x y z u v else g x y z u v) r:=neg (by simpa using h) k
theorem posN {α:Type} {p q:Int} {f g:Nat→Nat→Nat→Nat→Nat→Option α} {r:α} (h:¬ p=q) (k:Ev f r):Ev (fun x y z u v=>if (p != q)=true then f x y z u v else g x y z u v) r:=pos (by simpa using h) k
theorem negN {α:Type} {p q:Int} {f g:Nat→Nat→Nat→Nat→Nat→Option α} {r:α} (h:p=q) (k:Ev g r):Ev (fun x y z u v=>if (p != q)=true then f x y z u v else g x y z u v) r:=neg (by simp [h]) k
theorem bnd {α β:Type} {g:Nat→Nat→Nat→Nat→Nat→Option α} {f:Nat→Nat→Nat→Nat→Nat→α→Option β} {a:α} {r:β} (h:Ev g a) (k:Ev (fun x y z u v=>f x y z u v a) r):Ev (fun x y z u v=>(g x y z u v).bind (f x y z u v)) r:=by
 obtain ⟨m,h⟩:=h
 obtain ⟨m',k⟩:=k
 refine ⟨max m m',fun x y z u v a b c d e=>?_⟩
 show (g x y z u v).bind _=_
 rw [h x y z u v (by omega) (by omega) (by omega) (by omega) (by omega)]
 exact k x y z u v (by omega) (by omega) (by omega) (by omega) (by omega)
theorem tail {α:Type} {g:Nat→Nat→Nat→Nat→Nat→Option α} {r:α} (h:Ev g r):Ev (fun x y z u v=>(g x y z u v).bind fun t=>some t) r:=bnd h (now r)
theorem ofEq {α:Type} {g:Nat→Nat→Nat→Nat→Nat→Option α} {r s:α} (h:Ev g r) (e:r=s):Ev g s:=e ▸ h
theorem congr {α:Type} {f g:Nat→Nat→Nat→Nat→Nat→Option α} {r:α} (e:∀ x y z u v,g x y z u v=f x y z u v) (h:Ev f r):Ev g r:=by
 obtain ⟨m,h⟩:=h
 exact ⟨m,fun x y z u v a b c d k=>by rw [e];exact h x y z u v a b c d k⟩
theorem step1 {α:Type} {f g:Nat→Nat→Nat→Nat→Nat→Option α} {r:α} (e:∀ x y z u v,g x (y+1) z u v=f x y z u v) (h:Ev f r):Ev g r:=by
 obtain ⟨m,h⟩:=h
 refine ⟨m+1,fun x y z u v a b c d k=>?_⟩
 obtain ⟨y,rfl⟩:∃ n,y=n+1:=⟨y-1,by omega⟩
 rw [e];exact h x y z u v (by omega) (by omega) (by omega) (by omega) (by omega)
theorem step2 {α:Type} {f g:Nat→Nat→Nat→Nat→Nat→Option α} {r:α} (e:∀ x y z u v,g x y (z+1) u v=f x y z u v) (h:Ev f r):Ev g r:=by
 obtain ⟨m,h⟩:=h
 refine ⟨m+1,fun x y z u v a b c d k=>?_⟩
 obtain ⟨z,rfl⟩:∃ n,z=n+1:=⟨z-1,by omega⟩
 rw [e];exact h x y z u v (by omega) (by omega) (by omega) (by omega) (by omega)
theorem Ev.e1 {α:Type} {g:Nat→Nat→Nat→Nat→Nat→Option α} {r:α} (h:Ev g r):Ev (fun x y z u v=>g x x z u v) r:=by
 obtain ⟨m,h⟩:=h
 exact ⟨m,fun x y z u v a b c d k=>h x x z u v a a c d k⟩
theorem Ev.e2 {α:Type} {g:Nat→Nat→Nat→Nat→Nat→Option α} {r:α} (h:Ev g r):Ev (fun x y z u v=>g x y x u v) r:=by
 obtain ⟨m,h⟩:=h
 exact ⟨m,fun x y z u v a b c d k=>h x y x u v a b a d k⟩
theorem Ev.e3 {α:Type} {g:Nat→Nat→Nat→Nat→Nat→Option α} {r:α} (h:Ev g r):Ev (fun x y z u v=>g x y z x v) r:=by
 obtain ⟨m,h⟩:=h
 exact ⟨m,fun x y z u v a b c d k=>h x y z x v a b c a k⟩
theorem Ev.e4 {α:Type} {g:Nat→Nat→Nat→Nat→Nat→Option α} {r:α} (h:Ev g r):Ev (fun x y z u v=>g x y z u x) r:=by
 obtain ⟨m,h⟩:=h
 exact ⟨m,fun x y z u v a b c d k=>h x y z u x a b c d a⟩
theorem Ev.all {α:Type} {g:Nat→Option α} {r:α} (h:E0 g r):∃ m,∀ K,m≤K→g K=some r:=by
 obtain ⟨m,h⟩:=h
 exact ⟨m,fun K hK=>h K K K K K hK hK hK hK hK⟩
theorem Ev.get {α:Type} {g:Nat→Option α} {r:α} (h:E0 g r):∃ K,g K=some r:=by
 obtain ⟨m,h⟩:=h.all
 exact ⟨m,h m (Nat.le_refl _)⟩
theorem Ev.uniq {α:Type} {g:Nat→Nat→Nat→Nat→Nat→Option α} {r s:α} (h:Ev g r) (k:Ev g s):r=s:=by
 obtain ⟨K,h⟩:=h
 obtain ⟨K',k⟩:=k
 have e:=h (max K K') (max K K') (max K K') (max K K') (max K K') (by omega) (by omega) (by omega) (by omega) (by omega)
 rw [k _ _ _ _ _ (by omega) (by omega) (by omega) (by omega) (by omega)] at e
 injection e with e
 exact e.symm
theorem w64 {i:Int} (h:-9223372036854775808≤i) (h':i≤9223372036854775807):wr .i64 i=i:=by show Go.RowKit.wrap64 i=i;unfold Go.RowKit.wrap64;omega
theorem w1 {i:Nat} (h:i<4611686018427387904):wr .i64 ((i:Int)+1)=((i+1:Nat):Int):=by rw [w64 (by omega) (by omega)];omega
theorem upto {n:Nat} {Q:Nat→Prop} (base:Q n) (step:∀ i,i<n→Q (i+1)→Q i):∀ i,i≤n→Q i:=by
 have key:∀ d i,i+d=n→Q i:=by
  intro d
  induction d with
  | zero=>intro i hi;rw [show i=n by omega];exact base
  | succ d ih=>intro i hi;exact step i (by omega) (ih (i+1) (by omega))
 intro i hi
 exact key (n-i) i (by omega)
theorem getD_lt {α:Type} {d:α} {xs:List α} {i:Nat} (h:i<xs.length):xs.getD i d=xs[i]:=by simp [List.getD_eq_getElem?_getD,List.getElem?_eq_getElem h]
theorem getD_mem {α:Type} {d:α} {xs:List α} {i:Nat} (h:i<xs.length):xs.getD i d∈xs:=by rw [getD_lt h];exact List.getElem_mem h
theorem drop_getD {α:Type} {d:α} {xs:List α} {i:Nat} (h:i<xs.length):xs.drop i=xs.getD i d::xs.drop (i+1):=by rw [getD_lt h];exact List.drop_eq_getElem_cons h
theorem take_getD {α:Type} {d:α} {xs:List α} {i:Nat} (h:i<xs.length):xs.take (i+1)=xs.take i++[xs.getD i d]:=by rw [getD_lt h,List.take_succ_eq_append_getElem h]
theorem getD_set {α:Type} {d:α} (xs:List α) (i j:Nat) (v:α) (h:i<xs.length):(xs.set i v).getD j d=if j=i then v else xs.getD j d:=by
 simp only [List.getD_eq_getElem?_getD,List.getElem?_set]
 by_cases e:i=j
 ·subst e;simp [h]
 ·simp [e,Ne.symm e]
theorem nthN {α:Type} [Inhabited α] (xs:List α) (i:Nat):nth xs (i:Int)=xs.getD i default:=by simp [nth]
theorem rdI (xs:List Int) (i:Int):nth xs i=xs.getD i.toNat 0:=rfl
theorem rdN (xs:List Int) (i:Nat):nth xs (i:Int)=xs.getD i 0:=nthN xs i
theorem rd1N (xs:List (List Int)) (i:Nat):nth xs (i:Int)=xs.getD i []:=nthN xs i
def lsum (xs:List (List Int)):Nat:=(xs.map List.length).sum
theorem lsum_cons (x:List Int) (xs:List (List Int)):lsum (x::xs)=x.length+lsum xs:=by simp [lsum]
theorem lsum_append (xs ys:List (List Int)):lsum (xs++ys)=lsum xs+lsum ys:=by simp [lsum]
theorem lsum_mem {x:List Int} {xs:List (List Int)} (h:x∈xs):x.length≤lsum xs:=by
 induction xs with
 | nil=>simp at h
 | cons y ys ih =>
  rw [lsum_cons]
  rcases List.mem_cons.1 h with rfl | h
  ·omega
  ·have:=ih h;omega
theorem lsum_drop {xs:List (List Int)} {i:Nat} (h:i<xs.length):lsum (xs.drop i)=(xs.getD i []).length+lsum (xs.drop (i+1)):=by rw [drop_getD (d:=[]) h,lsum_cons]
theorem lsum_take {xs:List (List Int)} {i:Nat} (h:i<xs.length):lsum (xs.take (i+1))=lsum (xs.take i)+(xs.getD i []).length:=by rw [take_getD (d:=[]) h,lsum_append];simp [lsum]
theorem lsum_take_le (xs:List (List Int)) (i:Nat):lsum (xs.take i)≤lsum xs:=by
 have:=lsum_append (xs.take i) (xs.drop i)
 rw [List.take_append_drop] at this
 omega
theorem negB {α:Type} {b:Bool} {f g:Nat→Nat→Nat→Nat→Nat→Option α} {r:α} (h:b=false) (k:Ev g r):Ev (fun x y z u v=>if b=true then f x y z u v else g x y z u v) r:=neg (by rw [h];decide) k
end Go.XL
end
end
section
section
namespace Go.XL
open Go.XM
theorem lists_ev (xs:List (List Int)) (hl:xs.length≤17592186044416) (hx:∀ y∈xs,y.length≤17592186044416) :
  ∃ r:Int,E0 (fun K=>Bv K xs) r∧0≤r∧r≤35184372088832∧(r<1048576→r=xs.length+lsum xs):=by
 have key:∀ i,i≤xs.length→∀ s:Int,0≤s→s≤35184372088832→∃ r:Int,E1 (fun K k=>Bv.l1 K xs k s (i:Int)) r∧0≤r∧r≤35184372088832∧(r<1048576→r=s+lsum (xs.drop i)):=by
  refine upto ?_ ?_
  ·intro s h0 h1
   refine ⟨s,?_,h0,h1,fun _=>by simp [lsum]⟩
   refine step1 (fun _ _ _ _ _=>Bv.l1.eq_2 ..) ?_
   exact negD (by omega) (now s)
  ·intro i hi ih s h0 h1
   by_cases hs:s<1048576
   ·have hy:=hx _ (getD_mem (d:=[]) hi)
    obtain ⟨r,h,a,b,c⟩:=ih (s+((xs.getD i []).length:Int)) (by omega) (by omega)
    refine ⟨r,?_,a,b,fun hr=>by rw [c hr,lsum_drop hi];omega⟩
    refine step1 (fun _ _ _ _ _=>Bv.l1.eq_2 ..) ?_
    refine posD (by omega) (posD hs (pos (by omega) ?_))
    rw [rd1N,w64 (by omega) (by omega),w1 (by omega)]
    exact h
   ·refine ⟨s,?_,h0,h1,fun h=>by omega⟩
    refine step1 (fun _ _ _ _ _=>Bv.l1.eq_2 ..) ?_
    exact posD (by omega) (negD hs (now s))
 obtain ⟨r,h,a,b,c⟩:=key 0 (by omega) xs.length (by omega) (by omega)
 exact ⟨r,h.e1,a,b,fun hr=>by rw [c hr];simp⟩
def OkAt (xs:List Int) (i:Nat):Prop:=0≤xs.getD i 0∧xs.getD i 0≤15∧(0<i→xs.getD (i-1) 0<xs.getD i 0)
instance (xs:List Int) (i:Nat):Decidable (OkAt xs i):=by unfold OkAt;infer_instance
def MayP (xs:List Int):Prop:=∀ i,i<xs.length→OkAt xs i
instance (xs:List Int):Decidable (MayP xs):=by unfold MayP;infer_instance
theorem ok_ge {xs:List Int}:∀ i:Nat,(∀ j,j≤i→OkAt xs j)→(i:Int)≤xs.getD i 0:=by
 intro i
 induction i with
 | zero=>intro h;exact_mod_cast (h 0 (by omega)).1
 | succ i ih =>
  intro h
  have h1:=ih (fun j hj=>h j (by omega))
  have h2:=(h (i+1) (by omega)).2.2 (by omega)
  simp only [Nat.add_sub_cancel] at h2
  omega
theorem MayP.len {xs:List Int} (h:MayP xs):xs.length≤16:=by
 rcases Nat.eq_zero_or_pos xs.length with h0 | h0
 ·omega
 ·have h1:=ok_ge (xs:=xs) (xs.length-1) (fun j hj=>h j (by omega))
  have h2:=(h (xs.length-1) (by omega)).2.1
  omega
theorem num_eq (K:Nat) (a b:Int):Ex K a b=some (decide (0≤a∧a≤b)):=by
 unfold Ex
 by_cases h:a≥0
 ·rw [if_pos (decide_eq_true h)];simp [h]
 ·rw [if_neg (by simpa using h)];simp;omega
theorem is_eq (K:Nat) (a:Int):Fs K a=some (decide (0≤a∧a≤15)):=by
 unfold Fs
 by_cases h:a≥0
 ·rw [if_pos (decide_eq_true h)];simp [h];omega
 ·rw [if_neg (by simpa using h)];simp;omega
theorem gmay_ev (xs:List Int) (hl:xs.length≤17592186044416):E0 (fun K=>Dx K xs) (decide (MayP xs)):=by
 have key:∀ i,i≤xs.length→(∀ j,j<i→OkAt xs j)→E1 (fun K k=>Dx.l1 K xs k ((xs.length:Nat):Int) (i:Int)) (decide (MayP xs)):=by
  refine upto ?_ ?_
  ·intro hok
   have hm:MayP xs:=hok
   refine step1 (fun _ _ _ _ _=>Dx.l1.eq_2 ..) ?_
   exact negD (by omega) (nowE (by simp [hm]))
  ·intro i hi ih hok
   refine step1 (fun _ _ _ _ _=>Dx.l1.eq_2 ..) ?_
   refine posD (by omega) (pos (by omega) ?_)
   simp only [is_eq]
   rw [rdN]
   refine bnd (now _) ?_
   by_cases ho:0≤xs.getD i 0∧xs.getD i 0≤15
   ·refine negM ho ?_
    rcases Nat.eq_zero_or_pos i with h0 | h0
    ·refine negD (by omega) ?_
     rw [w1 (by omega)]
     refine ih fun j hj=>?_
     by_cases e:j=i
     ·subst e;exact ⟨ho.1,ho.2,fun h=>by omega⟩
     ·exact hok j (by omega)
    ·refine posD (by omega) ?_
     have e1:wr .i64 ((i:Int)-1)=((i-1:Nat):Int):=by rw [w64 (by omega) (by omega)];omega
     rw [e1,rdN]
     refine pos (by omega) ?_
     by_cases hlt:xs.getD i 0≤xs.getD (i-1) 0
     ·refine posD hlt (nowE ?_)
      have:¬ MayP xs:=fun hm=>by have:=(hm i hi).2.2 h0;omega
      simp [this]
     ·refine negD hlt ?_
      rw [w1 (by omega)]
      refine ih fun j hj=>?_
      by_cases e:j=i
      ·subst e;exact ⟨ho.1,ho.2,fun h=>by omega⟩
      ·exact hok j (by omega)
   ·refine posM ho (nowE ?_)
    have:¬ MayP xs:=fun hm=>ho ⟨(hm i hi).1,(hm i hi).2.1⟩
    simp [this]
 exact (key 0 (by omega) (fun j hj=>by omega)).e1
theorem ext_getD {xs ys:List Int} (hl:xs.length=ys.length) (h:∀ j,j<xs.length→xs.getD j 0=ys.getD j 0):xs=ys:=by
 refine List.ext_getElem hl fun j h1 h2=>?_
 have:=h j h1
 rwa [getD_lt h1,getD_lt h2] at this
theorem eqn_ev (xs ys:List Int) (h:xs.length≤1000000):E0 (fun K=>A8 K xs ys) (decide (xs=ys)):=by
 unfold A8
 by_cases hl:xs.length=ys.length
 ·have key:∀ i,i≤xs.length→(∀ j,j<i→xs.getD j 0=ys.getD j 0)→E1 (fun K k=>A8.l1 K xs ys k (i:Int)) (decide (xs=ys)):=by
   refine upto ?_ ?_
   ·intro hd
    refine step1 (fun _ _ _ _ _=>A8.l1.eq_2 ..) ?_
    exact negD (by omega) (nowE (by rw [ext_getD hl hd];simp))
   ·intro i hi ih hd
    refine step1 (fun _ _ _ _ _=>A8.l1.eq_2 ..) ?_
    refine posD (by omega) (pos (by omega) (pos (by omega) ?_))
    rw [rdN,rdN,w1 (by omega)]
    by_cases e:xs.getD i 0=ys.getD i 0
    ·refine negN e (ih fun j hj=>?_)
     by_cases q:j=i
     ·rw [q];exact e
     ·exact hd j (by omega)
    ·refine posN e (nowE ?_)
     have:¬ xs=ys:=fun h=>e (by rw [h])
     simp [this]
  exact negN (by omega) (key 0 (by omega) (fun j hj=>by omega)).e1
 ·refine posN (by omega) (nowE ?_)
  have:¬ xs=ys:=fun h=>hl (by rw [h])
  simp [this]
theorem clone_eq (K:Nat) (xs:List Int) (h:xs.length≤1000000):Cm K xs=some xs:=by
 unfold Cm
 rw [if_pos (by simp;omega)];rfl
end Go.XL
end
end
section
section
namespace Go.XL
open Go.XM
def follow (x:Int):List Int→Nat
 | []=>0
 | y::l=>if y=x+1 then follow y l+1 else 0
theorem follow_le:∀ (x:Int) (l:List Int),follow x l≤l.length
 | _,[]=>Nat.le_refl _
 | x,y::l=>by
  simp only [follow]
  split
  ·have:=follow_le y l;simp;omega
  ·simp
theorem follow_lt:∀ {x:Int} {l:List Int} {t:Nat},t<follow x l→(x::l).getD (t+1) 0=(x::l).getD t 0+1
 | x,[],t,h=>by simp [follow] at h
 | x,y::l,t,h=>by
  simp only [follow] at h
  split at h
  ·rename_i e
   cases t with
   | zero=>simpa using e
   | succ t=>exact follow_lt (x:=y) (l:=l) (t:=t) (by omega)
  ·omega
theorem follow_end:∀ {x:Int} {l:List Int},follow x l<l.length→(x::l).getD (follow x l+1) 0≠(x::l).getD (follow x l) 0+1
 | x,[],h=>by simp [follow] at h
 | x,y::l,h=>by
  simp only [follow] at h ⊢
  split
  ·rename_i e
   rw [if_pos e] at h
   exact follow_end (x:=y) (l:=l) (by simpa using h)
  ·rename_i e;simpa using e
def parts:List Int→List Ao × List Int
 | []=>([],[])
 | x::l =>
  if 2≤follow x l then ((x,((follow x l+1:Nat):Int))::(parts (l.drop (follow x l))).1,(parts (l.drop (follow x l))).2)
  else ((parts (l.drop (follow x l))).1,x::l.take (follow x l)++(parts (l.drop (follow x l))).2)
termination_by l=>l.length
decreasing_by all_goals (simp;omega)
def Sm (l:List Int):Prop:=l.length≤1000∧∀ x∈l,-1000000≤x∧x≤1000000
theorem drop_cons {L:List Int} {i:Nat} (hi:i<L.length):L.drop i=L.getD i 0::L.drop (i+1):=drop_getD hi
theorem getD_drop (L:List Int) (i t:Nat):(L.drop i).getD t 0=L.getD (i+t) 0:=by simp [List.getD_eq_getElem?_getD]
theorem runs_Parts_l2 {L:List Int} (hL:Sm L) {go:Nat→Nat→Int→List Ao→List Int→Option (List Ao × List Int)} {i:Nat} (hi:i<L.length) {r:List Ao} {s:List Int} (hr:r.length≤i) (hs:s.length≤i) {z:List Ao × List Int}
  (hgo:let n:=follow (L.getD i 0) (L.drop (i+1));Ev (fun K k _ _ _=>go K k ((i+1+n:Nat):Int) (if 2≤n then r++[(L.getD i 0,((n+1:Nat):Int))] else r) (if 2≤n then s else s++(L.drop i).take (n+1))) z) :
  E2 (fun K k k'=>Cq.l2 K (go K k) (i:Int) L k' ((i+1:Nat):Int) r s) z:=by
 generalize hn:follow (L.getD i 0) (L.drop (i+1))=n at hgo
 simp only at hgo
 have hnle:i+1+n≤L.length:=by
  have:=follow_le (L.getD i 0) (L.drop (i+1))
  rw [hn,List.length_drop] at this;omega
 have hlen:=hL.1
 have key:∀ t,t≤n→E2 (fun K k k'=>Cq.l2 K (go K k) (i:Int) L k' ((i+1+t:Nat):Int) r s) z:=by
  refine upto ?_ ?_
  ·have fin:E2 (fun K k k'=>if decide ((wr .i64 (((i+1+n:Nat):Int)-(i:Int)))≥3) then
     if (0:Int)≤(i:Int)∧(i:Int)<((L.length:Nat):Int) then
     if (r.length+([((nth L (i:Int),wr .i64 (((i+1+n:Nat):Int)-(i:Int))):Ao)]:List Ao).length)*16≤140737488355328 then
     go K k ((i+1+n:Nat):Int) (r++([((nth L (i:Int),wr .i64 (((i+1+n:Nat):Int)-(i:Int))):Ao)]:List Ao)) s
     else none
     else none
    else
     if (0:Int)≤(i:Int)∧(i:Int)≤((i+1+n:Nat):Int)∧((i+1+n:Nat):Int)≤((L.length:Nat):Int) then
     if (s.length+(((L).drop ((i:Int)).toNat).take ((((i+1+n:Nat):Int)).toNat-((i:Int)).toNat)).length)*8≤140737488355328 then
     go K k ((i+1+n:Nat):Int) r (s++(((L).drop ((i:Int)).toNat).take ((((i+1+n:Nat):Int)).toNat-((i:Int)).toNat)))
     else none
     else none) z:=by
    have e1:wr .i64 (((i+1+n:Nat):Int)-(i:Int))=((n+1:Nat):Int):=by rw [w64 (by omega) (by omega)];omega
    rw [e1]
    by_cases h2:2≤n
    ·rw [if_pos h2,if_pos h2] at hgo
     refine posD (by omega) (pos (by omega) (pos (by simp;omega) ?_))
     rw [rdN];exact hgo
    ·rw [if_neg h2,if_neg h2] at hgo
     refine negD (by omega) (pos (by omega) ?_)
     rw [Int.toNat_natCast,Int.toNat_natCast,show i+1+n-i=n+1 by omega]
     exact pos (by simp;omega) hgo
   refine step2 (fun _ _ _ _ _=>Cq.l2.eq_2 ..) ?_
   by_cases he:i+1+n<L.length
   ·refine posD (by omega) (pos (by omega) ?_)
    have e2:wr .i64 (((i+1+n:Nat):Int)-1)=((i+n:Nat):Int):=by rw [w64 (by omega) (by omega)];omega
    rw [e2,rdN,rdN]
    have hb:=hL.2 _ (getD_mem (d:=0) (show i+n<L.length by omega))
    rw [w64 (i:=L.getD (i+n) 0+1) (by omega) (by omega)]
    refine pos (by omega) (negE ?_ fin)
    have:=follow_end (x:=L.getD i 0) (l:=L.drop (i+1)) (by rw [hn,List.length_drop];omega)
    rw [hn,← drop_cons hi,getD_drop,getD_drop] at this
    rw [show i+1+n=i+(n+1) by omega];exact this
   ·exact negD (by omega) fin
  ·intro t ht ih
   refine step2 (fun _ _ _ _ _=>Cq.l2.eq_2 ..) ?_
   refine posD (by omega) (pos (by omega) ?_)
   have e2:wr .i64 (((i+1+t:Nat):Int)-1)=((i+t:Nat):Int):=by rw [w64 (by omega) (by omega)];omega
   rw [e2,rdN,rdN]
   have hb:=hL.2 _ (getD_mem (d:=0) (show i+t<L.length by omega))
   rw [w64 (i:=L.getD (i+t) 0+1) (by omega) (by omega)]
   refine pos (by omega) (posE ?_ ?_)
   ·have:=follow_lt (x:=L.getD i 0) (l:=L.drop (i+1)) (t:=t) (by omega)
    rw [← drop_cons hi,getD_drop,getD_drop] at this
    rw [show i+1+t=i+(t+1) by omega];exact this
   ·rw [w1 (by omega)];exact ih
 exact key 0 (by omega)
theorem runs_Parts_l1 {L:List Int} (hL:Sm L):∀ (d i:Nat),i+d=L.length→∀ (r:List Ao) (s:List Int),r.length≤i→s.length≤i →
  E1 (fun K k=>Cq.l1 K L k (i:Int) r s) (r++(parts (L.drop i)).1,s++(parts (L.drop i)).2):=by
 have hlen:=hL.1
 intro d
 induction d using Nat.strongRecOn with
 | _ d ih =>
  intro i hi r s hr hs
  refine step1 (fun _ _ _ _ _=>Cq.l1.eq_2 ..) ?_
  by_cases h:i<L.length
  ·refine posD (by omega) ?_
   have hnle:=follow_le (L.getD i 0) (L.drop (i+1))
   rw [List.length_drop] at hnle
   have hz:=ih (d-(1+follow (L.getD i 0) (L.drop (i+1)))) (by omega) (i+1+follow (L.getD i 0) (L.drop (i+1))) (by omega)
   have hd:L.drop (i+1+follow (L.getD i 0) (L.drop (i+1)))=(L.drop (i+1)).drop (follow (L.getD i 0) (L.drop (i+1))):=by rw [List.drop_drop]
   rw [hd] at hz
   rw [w1 (by omega)]
   refine Ev.e2 (runs_Parts_l2 (go:=fun K k=>Cq.l1 K L k) hL h hr hs ?_)
   rw [drop_cons h,parts]
   simp only
   by_cases h2:2≤follow (L.getD i 0) (L.drop (i+1))
   ·simp only [if_pos h2]
    refine ofEq (hz _ _ (by simp;omega) (by omega)) (by simp)
   ·simp only [if_neg h2]
    refine ofEq (hz _ _ (by omega) (by simp;omega)) (by simp [List.take_succ_cons])
  ·refine negD (by omega) (nowE ?_)
   rw [List.drop_eq_nil_of_le (by omega),parts];simp
theorem Parts_ev {L:List Int} (hL:Sm L):E0 (fun K=>Cq K L) (parts L):=by
 have:=runs_Parts_l1 hL L.length 0 (by omega) [] [] (by simp) (by simp)
 refine ofEq this.e1 (by simp)
end Go.XL
end
end
section
section
namespace Go.XL
open Go.XM
def nums (x:Ao):List Int:=(List.range x.Len.toNat).map fun (k:Nat)=>x.At+(k:Int)
def alls (r:List Ao):List Int:=r.flatMap nums
def OkR:Int→List Ao→Prop
 | _,[]=>True
 | e,x::r=>(3≤x.Len∧e<x.At∧0≤x.At∧x.At≤15∧x.At+x.Len≤16)∧OkR (x.At+x.Len) r
instance decOkR:∀ (e:Int) (r:List Ao),Decidable (OkR e r)
 | _,[]=>.isTrue trivial
 | e,x::r=>@instDecidableAnd _ _ _ (decOkR _ r)
theorem sort_len (l:List Int):(sortF l).length=l.length:=List.length_mergeSort l
theorem mem_nums {x:Ao} {a:Int} (h:0≤x.Len):a∈nums x↔x.At≤a∧a<x.At+x.Len:=by
 simp only [nums,List.mem_map,List.mem_range]
 constructor
 ·rintro ⟨k,hk,rfl⟩;omega
 ·rintro ⟨h1,h2⟩;exact ⟨(a-x.At).toNat,by omega,by omega⟩
theorem OkR.mem:∀ {e:Int} {r:List Ao},OkR e r→∀ a∈alls r,0≤a∧a≤15∧(-1≤e→e<a)
 | e,[],_,a,ha=>by simp [alls] at ha
 | e,x::r,h,a,ha=>by
  obtain ⟨⟨h1,h2,h3,h4,h5⟩,hr⟩:=h
  rcases List.mem_append.1 (show a∈nums x++alls r from by simpa [alls] using ha) with ha | ha
  ·rw [mem_nums (by omega)] at ha;omega
  ·have:=OkR.mem hr a ha;omega
theorem nums_len (x:Ao):(nums x).length=x.Len.toNat:=by simp [nums]
theorem alls_cons (x:Ao) (r:List Ao):alls (x::r)=nums x++alls r:=by simp [alls]
theorem OkR.len:∀ {e:Int} {r:List Ao},e≤16→OkR e r→e+(alls r).length≤16∧3*r.length≤(alls r).length
 | e,[],he,h=>by simp [alls];exact he
 | e,x::r,he,h=>by
  obtain ⟨⟨h1,h2,h3,h4,h5⟩,hr⟩:=h
  obtain ⟨a1,a2⟩:=OkR.len (by omega) hr
  rw [alls_cons,List.length_append,nums_len,List.length_cons]
  omega
theorem whole_l2 {go:Nat→Nat→Int→Int→Int→List Int→Option (List Int × Bool)} {t11 t12:Int} {r:List Ao} {q:List Int} {x:Ao} (h0:0≤x.Len) (h1:x.Len≤16) (h2:0≤x.At) (h3:x.At≤15) {s:List Int} (hs:s.length≤1000100) {z:List Int × Bool}
  (hgo:Ev (fun K k _ _ _=>go K k (x.At+x.Len) t11 (wr .i64 (t12+1)) (s++nums x)) z):E2 (fun K k k'=>Cn.l2 K (go K k) t11 t12 r q k' (x.At+x.Len) x.At s) z:=by
 have hl:=nums_len x
 have key:∀ t,t≤x.Len.toNat→E2 (fun K k k'=>Cn.l2 K (go K k) t11 t12 r q k' (x.At+x.Len) (x.At+(t:Int)) (s++(nums x).take t)) z:=by
  refine upto ?_ ?_
  ·refine step2 (fun _ _ _ _ _=>Cn.l2.eq_2 ..) ?_
   refine negD (by omega) ?_
   rw [List.take_of_length_le (by omega)]
   exact hgo
  ·intro t ht ih
   refine step2 (fun _ _ _ _ _=>Cn.l2.eq_2 ..) ?_
   refine posD (by omega) (pos ?_ ?_)
   ·simp only [List.length_append,List.length_take,List.length_singleton];omega
   ·rw [w64 (by omega) (by omega)]
    have e:s++(nums x).take t++[x.At+(t:Int)]=s++(nums x).take (t+1):=by
     rw [take_getD (d:=0) (by omega:t<(nums x).length),List.append_assoc]
     congr 3
     rw [getD_lt (by omega)]
     simp [nums]
    rw [e]
    refine ofEq (congr (fun _ _ _ _ _=>?_) ih) rfl
    congr 1
    omega
 have:=key 0 (by omega)
 simpa using this
theorem rdR (xs:List Ao) (i:Nat):nth xs (i:Int)=xs.getD i default:=nthN xs i
theorem whole_l1 {r:List Ao} {q:List Int} (hq:q.length≤1000000) (hr:r.length≤1000000):∀ i,i≤r.length→∀ (e:Int) (s:List Int),-1≤e→e≤16→(s.length:Int)≤1000000+e+1 →
  E1 (fun K k=>Cn.l1 K r q k e (r.length:Int) (i:Int) s) (if OkR e (r.drop i) then (sortF (s++alls (r.drop i)),if MayP q then decide (MayP (sortF (s++alls (r.drop i)))) else false) else ([],false)):=by
 refine upto ?_ ?_
 ·intro e s he he2 hs
  refine step1 (fun _ _ _ _ _=>Cn.l1.eq_2 ..) ?_
  refine negD (by omega) (pos (by omega) ?_)
  rw [List.drop_length,if_pos (show OkR e [] from trivial),show alls []=[] from rfl,List.append_nil]
  refine bnd (gmay_ev q (by omega)) ?_
  by_cases hm:MayP q
  ·rw [if_pos hm]
   refine pos (decide_eq_true hm) ?_
   exact bnd (gmay_ev _ (by rw [sort_len];omega)) (now _)
  ·rw [if_neg hm]
   exact neg (by simpa using hm) (now _)
 ·intro i hi ih e s he he2 hs
  refine step1 (fun _ _ _ _ _=>Cn.l1.eq_2 ..) ?_
  refine posD (by omega) (pos (by omega) ?_)
  rw [rdR,drop_getD (d:=default) hi]
  generalize r.getD i default=x
  by_cases c1:x.Len<3
  ·rw [if_neg (fun h=>by have:=h.1.1;omega)]
   exact posD c1 (now _)
  refine negD c1 ?_
  by_cases c2:x.Len > 16
  ·rw [if_neg (fun h=>by have:=h.1;omega)]
   exact posD c2 (now _)
  refine negD c2 ?_
  by_cases c3:x.At≤e
  ·rw [if_neg (fun h=>by have:=h.1;omega)]
   exact posD c3 (now _)
  refine negD c3 ?_
  simp only [is_eq]
  refine bnd (now _) ?_
  by_cases c4:0≤x.At∧x.At≤15
  ·refine negM c4 ?_
   rw [w64 (i:=x.At+x.Len) (by omega) (by omega),w64 (i:=x.At+x.Len-1) (by omega) (by omega)]
   refine bnd (now _) ?_
   by_cases c5:0≤x.At+x.Len-1∧x.At+x.Len-1≤15
   ·refine negM c5 ?_
    have hx:3≤x.Len∧e<x.At∧0≤x.At∧x.At≤15∧x.At+x.Len≤16:=by omega
    refine Ev.e2 (whole_l2 (go:=fun K k=>Cn.l1 K r q k) (by omega) (by omega) (by omega) (by omega) (by omega) ?_)
    rw [w1 (by omega)]
    have hi2:=ih (x.At+x.Len) (s++nums x) (by omega) (by omega) (by rw [List.length_append,nums_len];omega)
    refine ofEq hi2 ?_
    by_cases ho:OkR (x.At+x.Len) (r.drop (i+1))
    ·rw [if_pos ho,if_pos (show OkR e (x::r.drop (i+1)) from ⟨hx,ho⟩),alls_cons,List.append_assoc]
    ·rw [if_neg ho,if_neg (fun h=>ho h.2)]
   ·rw [if_neg (fun h=>c5 (by have:=h.1;omega))]
    exact posM c5 (now _)
  ·rw [if_neg (fun h=>c4 (by have:=h.1;omega))]
   exact posM c4 (now _)
theorem Whole_ev {r:List Ao} {q:List Int} (hq:q.length≤1000000) (hr:r.length≤1000000):E0 (fun K=>Cn K r q) (if OkR (-1) r then (sortF (q++alls r),if MayP q then decide (MayP (sortF (q++alls r))) else false) else ([],false)):=by
 refine bnd (congr (fun K _ _ _ _=>clone_eq K q hq) (now _)) ?_
 exact (whole_l1 hq hr 0 (by omega) (-1) q (by omega) (by omega) (by omega)).e1
end Go.XL
end
end
section
section
namespace Go.XL
open Go.XM
theorem may_lt {xs:List Int} (h:MayP xs):∀ (d i:Nat),i+d+1<xs.length→xs.getD i 0<xs.getD (i+d+1) 0
 | 0,i,hi=>by
  have:=(h (i+1) (by omega)).2.2 (by omega)
  simpa using this
 | d+1,i,hi=>by
  have h1:=may_lt h d i (by omega)
  have h2:=(h (i+(d+1)+1) (by omega)).2.2 (by omega)
  rw [show i+(d+1)+1-1=i+d+1 by omega] at h2
  omega
theorem mayP_iff (xs:List Int):MayP xs↔xs.Pairwise (·<·)∧∀ x∈xs,0≤x∧x≤15:=by
 constructor
 ·intro h
  refine ⟨List.pairwise_iff_getElem.2 fun i j hi hj hij=>?_,fun x hx=>?_⟩
  ·have:=may_lt h (j-i-1) i (by omega)
   rw [show i+(j-i-1)+1=j by omega,getD_lt hi,getD_lt hj] at this
   exact this
  ·obtain ⟨i,hi,rfl⟩:=List.mem_iff_getElem.1 hx
   have:=h i hi
   rw [← getD_lt (d:=0) hi];exact ⟨this.1,this.2.1⟩
 ·rintro ⟨h1,h2⟩ i hi
  have hm:=h2 _ (getD_mem (d:=0) hi)
  refine ⟨hm.1,hm.2,fun h0=>?_⟩
  have:=List.pairwise_iff_getElem.1 h1 (i-1) i (by omega) hi (by omega)
  rw [getD_lt (show i-1<xs.length by omega),getD_lt hi];exact this
def U16:List Int:=(List.range 16).map fun (k:Nat)=>(k:Int)
def flt (S:List Int):List Int:=U16.filter fun a=>decide (a∈S)
theorem nodup_of_lt {xs:List Int} (h:xs.Pairwise (·<·)):xs.Nodup:=by
 rw [List.nodup_iff_pairwise_ne]
 exact h.imp fun h=>by omega
theorem sort_le (l:List Int):(sortF l).Pairwise (·≤·):=by
 have:=List.pairwise_mergeSort (le:=fun (x y:Int)=>decide (x≤y)) (fun a b c h1 h2=>by simp at *;omega) (fun a b=>by simp;omega) l
 exact this.imp fun h=>by simpa using h
def mk (S:List Int):List Bool:=(List.range 16).map fun (k:Nat)=>decide ((k:Int)∈S)
end Go.XL
end
end
section
section
namespace Go.XL
open Go.XM
theorem le8 {n c:Nat} (h:n*c≤140737488351232) (hc:8≤c):n≤17592186044416:=by
 have:=Nat.mul_le_mul_left n hc
 omega
theorem copy_ev (xs:List Int) (h:xs.length≤1000000):E0 (fun K=>Aw K xs) xs:=by
 have key:∀ i,i≤xs.length→E1 (fun K k=>Aw.l1 K xs k (i:Int) (xs.take i)) xs:=by
  refine upto ?_ ?_
  ·refine step1 (fun _ _ _ _ _=>Aw.l1.eq_2 ..) ?_
   exact negD (by omega) (nowE (List.take_length))
  ·intro i hi ih
   refine step1 (fun _ _ _ _ _=>Aw.l1.eq_2 ..) ?_
   refine posD (by omega) (pos (by omega) (pos (by simp;omega) ?_))
   rw [rdN,w1 (by omega),← take_getD hi]
   exact ih
 exact (key 0 (by omega)).e1
theorem ext_getR {xs ys:List Ao} (hl:xs.length=ys.length) (h:∀ j,j<xs.length→xs.getD j default=ys.getD j default):xs=ys:=by
 refine List.ext_getElem hl fun j h1 h2=>?_
 have:=h j h1
 rwa [getD_lt h1,getD_lt h2] at this
theorem eqRun (a b:Ao):(!((a.At == b.At) && ((a.Len == b.Len) && true)))=!decide (a=b):=by
 obtain ⟨a1,a2⟩:=a
 obtain ⟨b1,b2⟩:=b
 show (!((a1 == b1) && ((a2 == b2) && true)))=_
 rw [Bool.eq_iff_iff];simp [Prod.ext_iff]
end Go.XL
end
end
section
section
namespace Go.XL
open Go.XM
theorem equal_ev (xs ys:List Int) (h:xs.length≤1000000):E0 (fun K=>Ay K xs ys) (decide (xs=ys)):=by
 unfold Ay
 by_cases hl:xs.length=ys.length
 ·have key:∀ i,i≤xs.length→(∀ j,j<i→xs.getD j 0=ys.getD j 0)→E1 (fun K k=>Ay.l1 K xs ys k ((xs.length:Nat):Int) (i:Int)) (decide (xs=ys)):=by
   refine upto ?_ ?_
   ·intro hd
    refine step1 (fun _ _ _ _ _=>Ay.l1.eq_2 ..) ?_
    exact negD (by omega) (nowE (by rw [ext_getD hl hd];simp))
   ·intro i hi ih hd
    refine step1 (fun _ _ _ _ _=>Ay.l1.eq_2 ..) ?_
    refine posD (by omega) (pos (by omega) (pos (by omega) ?_))
    rw [rdN,rdN,w1 (by omega)]
    by_cases e:xs.getD i 0=ys.getD i 0
    ·refine negN e (ih fun j hj=>?_)
     by_cases q:j=i
     ·rw [q];exact e
     ·exact hd j (by omega)
    ·refine posN e (nowE ?_)
     have:¬ xs=ys:=fun h=>e (by rw [h])
     simp [this]
  exact negN (by omega) (key 0 (by omega) (fun j hj=>by omega)).e1
 ·refine posN (by omega) (nowE ?_)
  have:¬ xs=ys:=fun h=>hl (by rw [h])
  simp [this]
end Go.XL
end
end
section
section
namespace Go.XL
open Go.XM
theorem in_ev (xs:List Int) (a:Int) (h:xs.length≤1000000):∃ r,E0 (fun K=>Ch K xs a) r∧(0≤r↔a∈xs):=by
 have key:∀ i,i≤xs.length→∃ r,E1 (fun K k=>Ch.l1 K xs a k (i:Int)) r∧(0≤r↔a∈xs.drop i):=by
  refine upto ?_ ?_
  ·refine ⟨-1,?_,by simp⟩
   refine step1 (fun _ _ _ _ _=>Ch.l1.eq_2 ..) ?_
   exact negD (by omega) (now _)
  ·intro i hi ih
   obtain ⟨r,h1,h2⟩:=ih
   by_cases e:xs.getD i 0=a
   ·refine ⟨i,?_,by rw [drop_getD (d:=0) hi,e];simp⟩
    refine step1 (fun _ _ _ _ _=>Ch.l1.eq_2 ..) ?_
    refine posD (by omega) (pos (by omega) ?_)
    rw [rdN]
    exact posE e (now _)
   ·refine ⟨r,?_,by rw [drop_getD (d:=0) hi,h2,List.mem_cons];exact ⟨.inr,fun q=>q.resolve_left (fun q=>e q.symm)⟩⟩
    refine step1 (fun _ _ _ _ _=>Ch.l1.eq_2 ..) ?_
    refine posD (by omega) (pos (by omega) ?_)
    rw [rdN,w1 (by omega)]
    exact negE e h1
 obtain ⟨r,h1,h2⟩:=key 0 (by omega)
 exact ⟨r,h1.e1,by simpa using h2⟩
theorem contains_ev (xs:List Int) (a:Int) (h:xs.length≤1000000):E0 (fun K=>Cv K xs a) (decide (a∈xs)):=by
 have key:∀ i,i≤xs.length→∃ r,E1 (fun K k=>Bj.l1 K xs a k ((xs.length:Nat):Int) (i:Int)) r∧(0≤r↔a∈xs.drop i):=by
  refine upto ?_ ?_
  ·refine ⟨-1,?_,by simp⟩
   refine step1 (fun _ _ _ _ _=>Bj.l1.eq_2 ..) ?_
   exact negD (by omega) (now _)
  ·intro i hi ih
   obtain ⟨r,h1,h2⟩:=ih
   by_cases e:a=xs.getD i 0
   ·refine ⟨i,?_,by rw [drop_getD (d:=0) hi,← e];simp⟩
    refine step1 (fun _ _ _ _ _=>Bj.l1.eq_2 ..) ?_
    refine posD (by omega) (pos (by omega) ?_)
    rw [rdN]
    exact posE e (now _)
   ·refine ⟨r,?_,by rw [drop_getD (d:=0) hi,h2,List.mem_cons];exact ⟨.inr,fun q=>q.resolve_left e⟩⟩
    refine step1 (fun _ _ _ _ _=>Bj.l1.eq_2 ..) ?_
    refine posD (by omega) (pos (by omega) ?_)
    rw [rdN,w1 (by omega)]
    exact negE e h1
 obtain ⟨r,h1,h2⟩:=key 0 (by omega)
 unfold Cv Bj
 refine bnd h1.e1 (nowE ?_)
 exact decide_eq_decide.2 (by simpa using h2)
end Go.XL
end
end
section
section
namespace Go.XL
open Go.XM
theorem fdivN (a b:Nat):((a:Int)).fdiv (b:Int)=((a / b:Nat):Int):=(Int.ofNat_fdiv a b).symm
theorem tdivN (a b:Nat):((a:Int)).tdiv (b:Int)=((a / b:Nat):Int):=(Int.ofNat_tdiv a b).symm
theorem tmodN (a b:Nat):((a:Int)).tmod (b:Int)=((a % b:Nat):Int):=(Int.ofNat_tmod a b).symm
theorem u8N {a:Nat} (h:a<256):wr .u8 (a:Int)=(a:Int):=by
 show IntKind.wrap .u8 _=_
 unfold IntKind.wrap
 simp only [IntKind.bits,IntKind.signed]
 simp
 omega
theorem and1 {a:Nat} (h:a<9223372036854775808):ib .and .i64 (a:Int) 1=((a % 2:Nat):Int):=by
 have h2:(BitVec.ofInt 64 (a:Int) &&& BitVec.ofInt 64 1).toNat=a % 2:=by
  rw [BitVec.toNat_and]
  simp only [BitVec.ofInt_natCast,BitVec.toNat_ofNat]
  rw [show (BitVec.ofInt 64 1).toNat=1 from rfl,Nat.mod_eq_of_lt (by omega),Nat.and_one_is_mod]
 show IntKind.wrap .i64 ((BitVec.ofInt 64 (a:Int) &&& BitVec.ofInt 64 1).toNat:Int)=_
 rw [h2,wr_eq]
 exact w64 (by omega) (by omega)
def Bt (l:List Int):Prop:=∀ x∈l,x=0∨x=1
theorem Bt.nil:Bt []:=by simp [Bt]
theorem Bt.app {a b:List Int} (h:Bt a) (k:Bt b):Bt (a++b):=by
 intro x hx
 rcases List.mem_append.1 hx with hx | hx
 ·exact h x hx
 ·exact k x hx
theorem Bt.one {v:Int} (h:v=0∨v=1):Bt [v]:=by intro x hx;obtain rfl:=List.mem_singleton.1 hx;exact h
theorem Bt.get {l:List Int} (h:Bt l) (i:Nat):l.getD i 0=0∨l.getD i 0=1:=by
 by_cases hi:i<l.length
 ·exact h _ (getD_mem hi)
 ·left;simp [List.getD_eq_getElem?_getD,List.getElem?_eq_none (by omega:l.length≤i)]
theorem gd_ge {l:List Int} {i:Nat} (h:l.length≤i):l.getD i 0=0:=by simp [List.getD_eq_getElem?_getD,List.getElem?_eq_none h]
def byt (l:List Int) (j:Nat):Int:=128*l.getD (8*j) 0+64*l.getD (8*j+1) 0+32*l.getD (8*j+2) 0+16*l.getD (8*j+3) 0+8*l.getD (8*j+4) 0+4*l.getD (8*j+5) 0+2*l.getD (8*j+6) 0+l.getD (8*j+7) 0
def byts (l:List Int):List Int:=(List.range ((l.length+7) / 8)).map (byt l)
theorem byts_len (l:List Int):(byts l).length=(l.length+7) / 8:=by simp [byts]
theorem byt_rng {l:List Int} (h:Bt l) (j:Nat):0≤byt l j∧byt l j≤255:=by
 unfold byt
 rcases h.get (8*j) with h0 | h0 <;> rcases h.get (8*j+1) with h1 | h1 <;> rcases h.get (8*j+2) with h2 | h2 <;> rcases h.get (8*j+3) with h3 | h3 <;>
 rw [h0,h1,h2,h3] <;>
 rcases h.get (8*j+4) with h4 | h4 <;> rcases h.get (8*j+5) with h5 | h5 <;> rcases h.get (8*j+6) with h6 | h6 <;> rcases h.get (8*j+7) with h7 | h7 <;> rw [h4,h5,h6,h7] <;> decide
end Go.XL
end
end
section
section
namespace Go.XL
open Go.XM
def nb (v:Nat):Nat→List Int
 | 0=>[]
 | w+1=>((v / 2 ^ w % 2:Nat):Int)::nb v w
theorem nb_len (v:Nat):∀ w,(nb v w).length=w
 | 0=>rfl
 | w+1=>by simp [nb,nb_len v w]
theorem mod2 (n:Nat):((n % 2:Nat):Int)=0∨((n % 2:Nat):Int)=1:=by omega
theorem nb_Bt (v:Nat):∀ w,Bt (nb v w)
 | 0=>Bt.nil
 | w+1=>by
  intro x hx
  rcases List.mem_cons.1 hx with rfl | hx
  ·exact mod2 _
  ·exact nb_Bt v w x hx
theorem nb_zero:∀ w,nb 0 w=List.replicate w 0
 | 0=>rfl
 | w+1=>by simp [nb,nb_zero w,List.replicate_succ]
def pack (l:List Int):Ap:=(bytesOf (byts l),(l.length:Int))
theorem bytesOf_size (ns:List Int):(bytesOf ns).size=ns.length:=by
 have key:∀ (ns:List Int) (s:ByteArray),(ns.foldl (fun s n=>s.push (UInt8.ofNat n.toNat)) s).size=s.size+ns.length:=by
  intro ns
  induction ns with
  | nil=>intro s;rfl
  | cons n ns ih=>intro s;rw [List.foldl_cons,ih];simp [ByteArray.size_push];omega
 have:=key ns .empty
 simpa [bytesOf] using this
theorem bytesOf_data (ns:List Int):(bytesOf ns).data.toList=ns.map fun n=>UInt8.ofNat n.toNat:=by
 have key:∀ (ns:List Int) (s:ByteArray),(ns.foldl (fun s n=>s.push (UInt8.ofNat n.toNat)) s).data.toList=s.data.toList++ns.map fun n=>UInt8.ofNat n.toNat:=by
  intro ns
  induction ns with
  | nil=>intro s;simp
  | cons n ns ih=>intro s;rw [List.foldl_cons,ih];simp [ByteArray.push]
 have:=key ns .empty
 simpa [bytesOf] using this
theorem bt_pack {l:List Int} (h:Bt l) {j:Nat} (hj:j<(l.length+7) / 8):bt (bytesOf (byts l)) (j:Int)=byt l j:=by
 obtain ⟨r1,r2⟩:=byt_rng h j
 unfold bt
 rw [bytesOf_data,Int.toNat_natCast,List.getD_eq_getElem?_getD,List.getElem?_map]
 have:(byts l)[j]?=some (byt l j):=by simp [byts,hj]
 rw [this]
 simp
 omega
theorem byt_bit {l:List Int} (h:Bt l) (j t:Nat) (ht:t<8):∃ a:Nat,byt l j=(a:Int)∧a<256∧((a / 2 ^ (7-t) % 2:Nat):Int)=l.getD (8*j+t) 0:=by
 obtain ⟨r1,r2⟩:=byt_rng h j
 obtain ⟨a,ha⟩:=Int.eq_ofNat_of_zero_le r1
 have b0:=h.get (8*j)
 have b1:=h.get (8*j+1)
 have b2:=h.get (8*j+2)
 have b3:=h.get (8*j+3)
 have b4:=h.get (8*j+4)
 have b5:=h.get (8*j+5)
 have b6:=h.get (8*j+6)
 have b7:=h.get (8*j+7)
 refine ⟨a,ha,by omega,?_⟩
 unfold byt at ha
 have:t=0∨t=1∨t=2∨t=3∨t=4∨t=5∨t=6∨t=7:=by omega
 rcases this with rfl | rfl | rfl | rfl | rfl | rfl | rfl | rfl
 ·show ((a / 128 % 2:Nat):Int)=l.getD (8*j) 0;omega
 ·show ((a / 64 % 2:Nat):Int)=l.getD (8*j+1) 0;omega
 ·show ((a / 32 % 2:Nat):Int)=l.getD (8*j+2) 0;omega
 ·show ((a / 16 % 2:Nat):Int)=l.getD (8*j+3) 0;omega
 ·show ((a / 8 % 2:Nat):Int)=l.getD (8*j+4) 0;omega
 ·show ((a / 4 % 2:Nat):Int)=l.getD (8*j+5) 0;omega
 ·show ((a / 2 % 2:Nat):Int)=l.getD (8*j+6) 0;omega
 ·show ((a / 1 % 2:Nat):Int)=l.getD (8*j+7) 0;omega
theorem bit_eq {l:List Int} (h:Bt l) {K i:Nat} (hi:i<l.length) (hb:l.length≤1099511627776):F3 K (pack l) (i:Int)=some (l.getD i 0):=by
 obtain ⟨a,a1,a2,a3⟩:=byt_bit h (i / 8) (i % 8) (by omega)
 have f1:wr .i64 ((i:Int).tdiv 8)=((i / 8:Nat):Int):=by rw [show (8:Int)=((8:Nat):Int) from rfl,tdivN];exact w64 (by omega) (by omega)
 have f2:wr .i64 (7-((i:Int).tmod 8))=((7-i % 8:Nat):Int):=by rw [show (8:Int)=((8:Nat):Int) from rfl,tmodN,w64 (by omega) (by omega)];omega
 have f3:(a:Int).fdiv (2 ^ min (((7-i % 8:Nat):Int)).toNat 8)=((a / 2 ^ (7-i % 8):Nat):Int):=by
  have e:((2:Int) ^ min (((7-i % 8:Nat):Int)).toNat 8)=((2 ^ (7-i % 8):Nat):Int):=by rw [Int.toNat_natCast,Nat.min_eq_left (by omega)];push_cast;rfl
  rw [e,fdivN]
 have hle:a / 2 ^ (7-i % 8)≤a:=Nat.div_le_self _ _
 obtain ⟨q,hq⟩:∃ q,q=a / 2 ^ (7-i % 8):=⟨_,rfl⟩
 rw [← hq] at f3 hle a3
 clear hq
 unfold F3
 have hd:(pack l).Data=bytesOf (byts l):=rfl
 rw [hd,f1,f2,bt_pack h (by omega),a1,f3,w64 (i:=(q:Int)) (by omega) (by omega),and1 (by omega),a3,show 8*(i / 8)+i % 8=i by omega]
 rw [if_pos (by decide),if_pos ⟨by omega,by rw [bytesOf_size,byts_len];omega⟩,if_pos (by decide),if_pos (by omega)]
def ahead:List Int→Option Nat
 | []=>none
 | x::l=>if x=1 then some 0 else (ahead l).map (·+1)
theorem ahead_ev {l:List Int} (h:Bt l) (hb:l.length≤1099511627776) {at_:Nat}:∀ i,i≤l.length→at_≤i→E1 (fun K k=>Dm.l1 K (pack l) (at_:Int) k (i:Int)) (match ahead (l.drop i) with | some n=>((i-at_+n:Nat):Int) | none=>-1):=by
 refine upto ?_ ?_
 ·intro _
  refine step1 (fun _ _ _ _ _=>Dm.l1.eq_2 ..) ?_
  refine negD (show ¬ ((l.length:Int)<(l.length:Int)) by omega) (nowE ?_)
  rw [List.drop_length];rfl
 ·intro i hi ih hat
  refine step1 (fun _ _ _ _ _=>Dm.l1.eq_2 ..) ?_
  refine posD (show ((i:Int)<(l.length:Int)) by omega) ?_
  rw [show (fun (K k:Nat) (_ _ _:Nat)=>(F3 K (pack l) (i:Int)).bind fun r15=>if (r15 == 1)=true then some (wr .i64 ((i:Int)-(at_:Int))) else Dm.l1 K (pack l) (at_:Int) k (wr .i64 ((i:Int)+1)))=fun (K k:Nat) (_ _ _:Nat)=>if (l.getD i 0 == 1)=true then some (wr .i64 ((i:Int)-(at_:Int))) else Dm.l1 K (pack l) (at_:Int) k (wr .i64 ((i:Int)+1)) from by
   funext K k _ _ _
   rw [bit_eq h hi hb];rfl]
  rw [drop_getD (d:=0) hi]
  by_cases e:l.getD i 0=1
  ·refine posE e (nowE ?_)
   rw [w64 (by omega) (by omega)]
   simp only [ahead,if_pos e]
   omega
  ·refine negE e ?_
   rw [w1 (by omega)]
   refine ofEq (ih (by omega)) ?_
   simp only [ahead,if_neg e]
   cases ahead (l.drop (i+1)) with
   | none=>rfl
   | some n=>simp only [Option.map_some];omega
theorem Ahead_ev {l:List Int} (h:Bt l) (hb:l.length≤1099511627776) {i:Nat} (hi:i≤l.length):E0 (fun K=>Dm K (pack l) (i:Int)) (match ahead (l.drop i) with | some n=>(n:Int) | none=>-1):=by
 refine ofEq (ahead_ev h hb i hi (Nat.le_refl _)).e1 ?_
 cases ahead (l.drop i) with
 | none=>rfl
 | some n=>simp only;omega
end Go.XL
end
end
section
section
namespace Go.XL
open Go.XM
def val (l:List Int):Int:=l.foldl (fun v b=>2*v+b) 0
theorem val_snoc (l:List Int) (b:Int):val (l++[b])=2*val l+b:=by simp [val]
theorem val_rng {l:List Int} (h:Bt l):0≤val l∧val l<2 ^ l.length:=by
 have key:∀ (l:List Int) (v:Int),0≤v→Bt l→0≤l.foldl (fun v b=>2*v+b) v∧l.foldl (fun v b=>2*v+b) v<(v+1)*2 ^ l.length:=by
  intro l
  induction l with
  | nil=>intro v hv _;simp;omega
  | cons x l ih =>
   intro v hv h
   have hx:=h x List.mem_cons_self
   obtain ⟨a1,a2⟩:=ih (2*v+x) (by omega) (fun y hy=>h y (List.mem_cons_of_mem _ hy))
   refine ⟨a1,Int.lt_of_lt_of_le a2 ?_⟩
   rw [List.length_cons,Int.pow_succ,← Int.mul_assoc,Int.mul_right_comm]
   exact Int.mul_le_mul_of_nonneg_right (by omega) (by have:(0:Int)<2 ^ l.length:=Int.pow_pos (by decide);omega)
 have:=key l 0 (by omega) h
 simpa [val] using this
theorem or64 {a b:Nat} (hb:b<2) (ha:a % 2=0) (h:a+b<9223372036854775808):ib .or .i64 (a:Int) (b:Int)=((a+b:Nat):Int):=by
 have h1:a ||| b=a+b:=by
  have:=Nat.two_pow_add_eq_or_of_lt (i:=1) (by simpa using hb) (a / 2)
  simp only [Nat.pow_one] at this
  rw [Nat.mul_div_cancel' (Nat.dvd_of_mod_eq_zero ha)] at this
  omega
 have h2:(BitVec.ofInt 64 (a:Int) ||| BitVec.ofInt 64 (b:Int)).toNat=a+b:=by
  rw [BitVec.toNat_or]
  simp only [BitVec.ofInt_natCast,BitVec.toNat_ofNat]
  rw [Nat.mod_eq_of_lt (by omega),Nat.mod_eq_of_lt (by omega),h1]
 show IntKind.wrap .i64 ((BitVec.ofInt 64 (a:Int) ||| BitVec.ofInt 64 (b:Int)).toNat:Int)=_
 rw [h2,wr_eq]
 exact w64 (by omega) (by omega)
theorem or1 {v b:Int} (h0:0≤v) (h1:v<4611686018427387904) (hb:b=0∨b=1):ib .or .i64 (wr .i64 (v*2 ^ min ((1:Int)).toNat 64)) b=2*v+b:=by
 have e:v*2 ^ min ((1:Int)).toNat 64=2*v:=by show v*2 ^ 1=_;omega
 rw [e,w64 (by omega) (by omega)]
 obtain ⟨n,rfl⟩:=Int.eq_ofNat_of_zero_le h0
 have:=or64 (a:=2*n) (b:=b.toNat) (by omega) (by omega) (by omega)
 rcases hb with rfl | rfl
 ·simpa using this
 ·simpa using this
theorem look_ev {l:List Int} (h:Bt l) (hb:l.length≤1099511627776) {at_ w:Nat} (hw:at_+w≤l.length) (hw2:w≤60):∀ i,i≤w→E1 (fun K k=>Dw.l1 K (pack l) (at_:Int) (w:Int) k (val ((l.drop at_).take i)) (i:Int)) (val ((l.drop at_).take w),true):=by
 refine upto ?_ ?_
 ·refine step1 (fun _ _ _ _ _=>Dw.l1.eq_2 ..) ?_
  exact negD (by omega) (now _)
 ·intro i hi ih
  have hB:Bt ((l.drop at_).take i):=fun x hx=>h x (List.mem_of_mem_drop (List.mem_of_mem_take hx))
  obtain ⟨v0,v1⟩:=val_rng hB
  have hlen:((l.drop at_).take i).length=i:=by simp;omega
  rw [hlen] at v1
  have hp:(2:Int) ^ i≤2 ^ 60:=by
   have:2 ^ i≤2 ^ 60:=Nat.pow_le_pow_right (by omega) (by omega)
   exact_mod_cast this
  have hp2:(2:Int) ^ 60=1152921504606846976:=by decide
  refine step1 (fun _ _ _ _ _=>Dw.l1.eq_2 ..) ?_
  refine posD (by omega) (pos (by decide) ?_)
  have e1:wr .i64 ((at_:Int)+(i:Int))=((at_+i:Nat):Int):=by rw [w64 (by omega) (by omega)];omega
  refine congr (fun K k _ _ _=>?_) ih
  show (F3 K (pack l) (wr .i64 ((at_:Int)+(i:Int)))).bind _=_
  rw [e1,bit_eq h (by omega) hb]
  show Dw.l1 K (pack l) (at_:Int) (w:Int) k _ _=_
  rw [or1 v0 (by omega) (h.get _),w1 (by omega)]
  have:(l.drop at_).take (i+1)=(l.drop at_).take i++[l.getD (at_+i) 0]:=by
   rw [take_getD (d:=0) (by simp;omega),show (l.drop at_).getD i 0=l.getD (at_+i) 0 by simp [List.getD_eq_getElem?_getD]]
  rw [this,val_snoc]
theorem Look_ev {l:List Int} (h:Bt l) (hb:l.length≤1099511627776) {at_ w:Nat} (hat:at_≤l.length) (hw2:w≤60):E0 (fun K=>Dw K (pack l) (at_:Int) (w:Int)) (if at_+w≤l.length then (val ((l.drop at_).take w),true) else (0,false)):=by
 have hs:wr .i64 ((pack l).N-(at_:Int))=((l.length-at_:Nat):Int):=by show wr .i64 ((l.length:Int)-(at_:Int))=_;rw [w64 (by omega) (by omega)];omega
 refine congr (f:=fun K _ _ _ _=>if decide ((at_:Int) > (l.length:Int))=true then some (0,false) else if decide ((w:Int) > ((l.length-at_:Nat):Int))=true then some (0,false) else Dw.l1 K (pack l) (at_:Int) (w:Int) K (0:Int) (0:Int)) (fun K _ _ _ _=>by unfold Dw;rw [hs];rfl) ?_
 refine negD (by omega) ?_
 by_cases e:at_+w≤l.length
 ·rw [if_pos e]
  refine negD (by omega) ?_
  exact (look_ev h hb e hw2 0 (by omega)).e1
 ·rw [if_neg e]
  exact posD (by omega) (now _)
def rg (l:List Int) (at_:Nat):Option (Int × Nat):=match ahead (l.drop at_) with
 | none=>none
 | some n=>if n≤30∧at_+n+(n+1)≤l.length∧val ((l.drop (at_+n)).take (n+1))≤1073741824 then some (val ((l.drop (at_+n)).take (n+1)),at_+n+(n+1)) else none
theorem ahead_lt:∀ {l:List Int} {n:Nat},ahead l=some n→n<l.length
 | [],n,h=>by cases h
 | x::l,n,h=>by
  simp only [ahead] at h
  split at h
  ·cases h;simp
  ·rw [Option.map_eq_some_iff] at h
   obtain ⟨m,hm,rfl⟩:=h
   have:=ahead_lt hm
   simp;omega
theorem look_r {l:List Int} (h:Bt l) (hb:l.length≤1099511627776) {at_ w:Nat} (hat:at_≤l.length) (hw2:w≤60):E0 (fun K=>Cw K ((pack l,(at_:Int),false):Bi) (w:Int))
  (if at_+w≤l.length then (val ((l.drop at_).take w),((pack l,((at_+w:Nat):Int),false):Bi)) else (0,((pack l,(at_:Int),true):Bi))):=by
 refine bnd (Look_ev h hb hat hw2) ?_
 refine negB rfl ?_
 by_cases e:at_+w≤l.length
 ·rw [if_pos e,if_pos e]
  refine negB rfl (nowE ?_)
  show (_,(pack l,wr .i64 ((at_:Int)+(w:Int)),false))=_
  rw [w64 (by omega) (by omega)]
  rfl
 ·rw [if_neg e,if_neg e]
  exact pos rfl (now _)
theorem look_bad {l:List Int} (h:Bt l) (hb:l.length≤1099511627776) {at_ w:Nat} (hat:at_≤l.length) (hw2:w≤60):E0 (fun K=>Cw K ((pack l,(at_:Int),true):Bi) (w:Int)) (0,((pack l,(at_:Int),true):Bi)) :=
 bnd (Look_ev h hb hat hw2) (pos rfl (now _))
theorem zeros_r {l:List Int} (h:Bt l) (hb:l.length≤1099511627776) {at_:Nat} (hat:at_≤l.length):E0 (fun K=>D9 K ((pack l,(at_:Int),false):Bi) 30)
  (match ahead (l.drop at_) with
  | none=>(0,((pack l,(at_:Int),true):Bi))
  | some n=>if n≤30 then ((n:Int),((pack l,((at_+n:Nat):Int),false):Bi)) else (0,((pack l,(at_:Int),true):Bi))):=by
 have hz:=Ahead_ev h hb hat
 cases hah:ahead (l.drop at_) with
 | none =>
  rw [hah] at hz
  exact bnd hz (negB rfl (posD (by decide) (now _)))
 | some n =>
  rw [hah] at hz
  have hn:=ahead_lt hah
  rw [List.length_drop] at hn
  by_cases h30:n≤30
  ·simp only [if_pos h30]
   refine bnd hz (negB rfl (negD (by simp) (negD (by simp;omega) (nowE ?_))))
   show (_,(pack l,wr .i64 ((at_:Int)+(n:Int)),false))=_
   rw [w64 (by omega) (by omega)]
   rfl
  ·simp only [if_neg h30]
   exact bnd hz (negB rfl (negD (by simp) (posD (by simp;omega) (now _))))
theorem gamma_r {l:List Int} (h:Bt l) (hb:l.length≤1099511627776) {at_:Nat} (hat:at_≤l.length):∃ a:Int,E0 (fun K=>Dr K ((pack l,(at_:Int),false):Bi))
  (match ahead (l.drop at_) with
  | none=>(0,((pack l,a,true):Bi))
  | some n=>if n≤30∧at_+n+(n+1)≤l.length then (val ((l.drop (at_+n)).take (n+1)),((pack l,((at_+n+(n+1):Nat):Int),false):Bi)) else (0,((pack l,a,true):Bi))):=by
 have hz:=zeros_r h hb hat
 have e1:wr .i64 ((0:Int)+1)=((1:Nat):Int):=w64 (by decide) (by decide)
 cases hah:ahead (l.drop at_) with
 | none =>
  rw [hah] at hz
  refine ⟨at_,bnd hz ?_⟩
  simp only [e1]
  exact bnd (look_bad h hb hat (by omega)) (now _)
 | some n =>
  rw [hah] at hz
  have hn:=ahead_lt hah
  rw [List.length_drop] at hn
  by_cases h30:n≤30
  ·simp only [if_pos h30] at hz
   refine ⟨((at_+n:Nat):Int),bnd hz ?_⟩
   simp only
   rw [w1 (by omega)]
   have hl:=look_r h hb (at_:=at_+n) (by omega) (w:=n+1) (by omega)
   by_cases e:at_+n+(n+1)≤l.length
   ·rw [if_pos e] at hl
    rw [if_pos ⟨h30,e⟩]
    exact bnd hl (now _)
   ·rw [if_neg e] at hl
    rw [if_neg (fun k=>e k.2)]
    exact bnd hl (now _)
  ·simp only [if_neg h30] at hz
   refine ⟨at_,bnd hz ?_⟩
   simp only [e1]
   rw [if_neg (fun k=>h30 k.1)]
   exact bnd (look_bad h hb hat (by omega)) (now _)
theorem Read_ev {l:List Int} (h:Bt l) (hb:l.length≤1099511627776) {at_:Nat} (hat:at_≤l.length):E0 (fun K=>Cs K (pack l) (at_:Int) 2)
  (match rg l at_ with
  | some (v,n)=>(v,(n:Int),true)
  | none=>(0,0,false)):=by
 obtain ⟨a,hg⟩:=gamma_r h hb hat
 refine congr (f:=fun K _ _ _ _=>(Dr K ((pack l,(at_:Int),false):Bi)).bind fun r27=>Cs.j1 K r27.1 r27.2.b.Data r27.2.b.N r27.2.at_ r27.2.bad) (fun K _ _ _ _=>rfl) ?_
 refine bnd hg ?_
 unfold rg
 have hj:∀ (K:Nat) (n:Int) (d:ByteArray) (m a:Int) (bad:Bool),Cs.j1 K n d m a bad=some (if bad=false∧n≤1073741824 then (n,a,true) else (0,0,false)):=by
  intro K n d m a bad
  unfold Cs.j1
  cases bad with
  | true=>rfl
  | false =>
   by_cases e:n > 1073741824
   ·rw [if_neg (by decide),if_pos (decide_eq_true e),if_neg (fun k=>by omega)]
   ·rw [if_neg (by decide),if_neg (by simpa using e),if_pos ⟨rfl,by omega⟩]
 cases hah:ahead (l.drop at_) with
 | none=>refine nowE ?_ |> congr (fun K _ _ _ _=>hj ..);rfl
 | some n =>
  simp only
  by_cases e:n≤30∧at_+n+(n+1)≤l.length
  ·rw [if_pos e]
   refine congr (fun K _ _ _ _=>hj ..) (nowE ?_)
   by_cases e2:val ((l.drop (at_+n)).take (n+1))≤1073741824
   ·rw [if_pos ⟨rfl,e2⟩,if_pos ⟨e.1,e.2,e2⟩]
   ·rw [if_neg (fun k=>e2 k.2),if_neg (fun k=>e2 k.2.2)]
  ·rw [if_neg e,if_neg (fun k=>e ⟨k.1,k.2.1⟩)]
   refine congr (fun K _ _ _ _=>hj ..) (nowE rfl)
end Go.XL
end
end
section
section
namespace Go.XL
open Go.XM
def gam (n:Nat):List Int:=nb 0 (Nat.log2 n)++nb n (Nat.log2 n+1)
theorem gam_Bt (n:Nat):Bt (gam n):=(nb_Bt _ _).app (nb_Bt _ _)
theorem gam_len (n:Nat):(gam n).length=2*Nat.log2 n+1:=by simp [gam,nb_len];omega
end Go.XL
end
end
section
section
namespace Go.XL
open Go.XM
theorem val_cons (x:Int) (l:List Int):val (x::l)=x*2 ^ l.length+val l:=by
 have key:∀ (l:List Int) (v:Int),l.foldl (fun v b=>2*v+b) v=v*2 ^ l.length+l.foldl (fun v b=>2*v+b) 0:=by
  intro l
  induction l with
  | nil=>intro v;simp
  | cons y l ih =>
   intro v
   rw [List.foldl_cons,List.foldl_cons,ih (2*v+y),ih (2*0+y),List.length_cons,Int.pow_succ]
   have:(2*v+y)*2 ^ l.length=v*(2 ^ l.length*2)+(2*0+y)*2 ^ l.length:=by
    rw [Int.add_mul,Int.mul_comm 2 v,Int.mul_assoc,Int.mul_comm 2 (2 ^ l.length)];simp
   rw [this,Int.add_assoc]
 show (x::l).foldl _ 0=_
 rw [List.foldl_cons,key]
 simp [val]
theorem val_nb (n:Nat):∀ w,val (nb n w)=((n % 2 ^ w:Nat):Int)
 | 0=>by simp [nb,val,Nat.mod_one]
 | w+1=>by
  rw [nb,val_cons,nb_len,val_nb n w,Nat.mod_pow_succ]
  push_cast
  rw [Int.mul_comm,Int.add_comm]
theorem gam_eq {n:Nat} (h:0<n):gam n=List.replicate (Nat.log2 n) 0++1::nb n (Nat.log2 n):=by
 have h1:2 ^ Nat.log2 n≤n:=Nat.log2_self_le (by omega)
 have h2:n<2 ^ (Nat.log2 n+1):=Nat.lt_log2_self
 have h3:n / 2 ^ Nat.log2 n=1:=by
  rw [Nat.pow_succ] at h2
  exact Nat.div_eq_of_lt_le (by omega) (by omega)
 rw [gam,nb_zero]
 simp only [nb,h3]
 rfl
theorem ahead_rep (r:List Int):∀ k,ahead (List.replicate k 0++1::r)=some k
 | 0=>rfl
 | k+1=>by
  rw [List.replicate_succ,List.cons_append,ahead,if_neg (by decide),ahead_rep r k];rfl
theorem rg_gam {n:Nat} (h:0<n) (hn:n≤1073741824) (a b:List Int):rg (a++gam n++b) a.length=some ((n:Int),(a++gam n).length):=by
 have hl:Nat.log2 n≤30:=by
  have:=(Nat.log2_lt (by omega:n≠0) (k:=31)).2 (by omega);omega
 have h2:n<2 ^ (Nat.log2 n+1):=Nat.lt_log2_self
 have hlen:=gam_len n
 unfold rg
 rw [List.append_assoc,List.drop_left,gam_eq h,List.append_assoc,List.cons_append,ahead_rep]
 have e:(a++(List.replicate (Nat.log2 n) 0++1::(nb n (Nat.log2 n)++b))).drop (a.length+Nat.log2 n)=1::(nb n (Nat.log2 n)++b):=by
  have h1:(a++List.replicate (Nat.log2 n) (0:Int)).length=a.length+Nat.log2 n:=by simp
  rw [← List.append_assoc,← h1,List.drop_left]
 have et:(1::(nb n (Nat.log2 n)++b)).take (Nat.log2 n+1)=1::nb n (Nat.log2 n):=by
  rw [List.take_succ_cons]
  have:(nb n (Nat.log2 n)).length=Nat.log2 n:=nb_len _ _
  rw [List.take_append_of_le_length (by omega),List.take_of_length_le (by omega)]
 have ev:val (1::nb n (Nat.log2 n))=(n:Int):=by
  have h1:2 ^ Nat.log2 n≤n:=Nat.log2_self_le (by omega)
  rw [val_cons,nb_len,val_nb,Nat.mod_eq_sub_mod h1,Nat.mod_eq_of_lt (by rw [Nat.pow_succ] at h2;omega)]
  have:(1:Int)*2 ^ Nat.log2 n=((2 ^ Nat.log2 n:Nat):Int):=by simp
  rw [this];omega
 simp only
 rw [e,et,ev,if_pos ⟨hl,by simp [nb_len];omega,by omega⟩]
 congr 2
 simp [nb_len];omega
theorem reads {n:Nat} (h:0<n) (hn:n≤1073741824) {a b:List Int} (ha:Bt a) (hb:Bt b) (hl:(a++gam n++b).length≤1099511627776):E0 (fun K=>Cs K (pack (a++gam n++b)) (a.length:Int) 2) ((n:Int),((a++gam n).length:Int),true):=by
 have:=Read_ev (l:=a++gam n++b) ((ha.app (gam_Bt n)).app hb) hl (at_:=a.length) (by simp)
 rw [rg_gam h hn a b] at this
 exact this
def gams (l:List Nat):List Int:=l.flatMap gam
theorem gams_cons (n:Nat) (l:List Nat):gams (n::l)=gam n++gams l:=by simp [gams]
theorem gams_app (l m:List Nat):gams (l++m)=gams l++gams m:=by simp [gams]
theorem gams_Bt (l:List Nat):Bt (gams l):=by
 intro x hx
 simp only [gams,List.mem_flatMap] at hx
 obtain ⟨n,_,hx⟩:=hx
 exact gam_Bt n x hx
def fold (z:Int):Nat:=if z<0 then (-2*z-1).toNat else (2*z).toNat
def unf (n:Int):Int:=if n % 2=1 then -((n+1) / 2) else n / 2
theorem unf_fold (z:Int):unf (fold z:Int)=z:=by unfold unf fold;split <;> split <;> omega
theorem unfold_eq {K:Nat} {n:Nat} (h:n≤1073741824):Eo K (n:Int)=some (unf n):=by
 unfold Eo unf
 have em:((n:Int).tmod 2)=((n % 2:Nat):Int):=(Int.ofNat_tmod n 2).symm
 have ed:((n:Int).tdiv 2)=((n / 2:Nat):Int):=(Int.ofNat_tdiv n 2).symm
 rw [em,ed,if_pos (by decide)]
 by_cases c:n % 2=1
 ·rw [if_pos (by simp [c]),if_pos (by decide),if_pos (by omega),w64 (i:=(n:Int)+1) (by omega) (by omega),w64 (i:=0-((n:Int)+1)) (by omega) (by omega)]
  have:(0-((n:Int)+1)).tdiv 2=-(((n:Int)+1) / 2):=by
   rw [Int.zero_sub,Int.neg_tdiv]
   congr 1
  rw [this,w64 (by omega) (by omega)]
 ·rw [if_neg (by simp;omega),if_pos (by decide),if_neg (by omega),w64 (by omega) (by omega)]
  congr 1
def dif:Int→List Int→List Nat
 | _,[]=>[]
 | p,x::l=>(x-p).toNat::dif x l
def stp (v:Int):List Int→List Nat
 | []=>[]
 | x::l=>(fold (x-v)+1)::dif x l
theorem dif_len:∀ (p:Int) (l:List Int),(dif p l).length=l.length
 | _,[]=>rfl
 | p,x::l=>by simp [dif,dif_len x l]
theorem stp_len (v:Int) (l:List Int):(stp v l).length=l.length:=by cases l <;> simp [stp,dif_len]
theorem dif_get:∀ (p:Int) (l:List Int) (i:Nat),i<l.length→(dif p l).getD i 0=(l.getD i 0-(if i=0 then p else l.getD (i-1) 0)).toNat
 | _,[],i,h=>by simp at h
 | p,x::l,0,h=>by simp [dif]
 | p,x::l,i+1,h=>by
  have:=dif_get x l i (by simpa using h)
  simp only [dif,List.getD_cons_succ,this]
  cases i with
  | zero=>simp
  | succ i=>simp
theorem stp_get (v:Int) {l:List Int} {i:Nat} (h:i<l.length):(stp v l).getD i 0=if i=0 then fold (l.getD 0 0-v)+1 else (l.getD i 0-l.getD (i-1) 0).toNat:=by
 cases l with
 | nil=>simp at h
 | cons x l =>
  cases i with
  | zero=>simp [stp]
  | succ i =>
   have:=dif_get x l i (by simpa using h)
   simp only [stp,List.getD_cons_succ,this]
   rw [if_neg (show ¬ i+1=0 by omega)]
   cases i with
   | zero=>simp
   | succ i=>simp
def gap (v:Int) (l:List Int):List Int:=gams ((l.length+1)::stp v l)
theorem stp_rng {v:Int} {l:List Int} (h:MayP l) (hv:0≤v) (hv2:v≤15) {i:Nat} (hi:i<l.length):0<(stp v l).getD i 0∧(stp v l).getD i 0<256:=by
 rw [stp_get v hi]
 obtain ⟨_,h2⟩:=(mayP_iff _).1 h
 have a:=h2 _ (getD_mem (d:=0) hi)
 split
 ·rename_i e;subst e
  unfold fold;split <;> omega
 ·have b:=(h i hi).2.2 (by omega)
  have c:=h2 _ (getD_mem (d:=0) (show i-1<l.length by omega))
  omega
theorem stp_small {v:Int} {l:List Int} (h:MayP l) (hv:0≤v) (hv2:v≤15):∀ n∈stp v l,0<n∧n<256:=by
 intro n hn
 obtain ⟨i,hi,rfl⟩:=List.mem_iff_getElem.1 hn
 rw [stp_len] at hi
 have:=stp_rng h hv hv2 hi
 rwa [getD_lt (by rw [stp_len];exact hi)] at this
theorem gap_Bt (v:Int) (l:List Int):Bt (gap v l):=gams_Bt _
end Go.XL
end
end
section
section
namespace Go.XL
open Go.XM
theorem unf1 {z:Int} (h:-1000≤z) (h2:z≤1000) {K:Nat}:Eo K (wr .i64 (((fold z+1:Nat):Int)-1))=some z:=by
 have e:wr .i64 (((fold z+1:Nat):Int)-1)=((fold z:Nat):Int):=by
  rw [w64 (by omega) (by unfold fold;split <;> omega)];omega
 rw [e,unfold_eq (by unfold fold;split <;> omega),unf_fold]
theorem gams_split {ns:List Nat} {i:Nat} (hi:i<ns.length):gams ns=gams (ns.take i)++gam (ns.getD i 0)++gams (ns.drop (i+1)):=by
 have:ns=ns.take i++(ns.getD i 0::ns.drop (i+1)):=by rw [← drop_getD (d:=0) hi,List.take_append_drop]
 conv=>lhs;rw [this]
 rw [gams_app,gams_cons,List.append_assoc]
theorem gams_take {ns:List Nat} {i:Nat} (hi:i<ns.length):gams (ns.take (i+1))=gams (ns.take i)++gam (ns.getD i 0):=by
 rw [take_getD (d:=0) hi,gams_app];simp [gams]
theorem reads_at {ns:List Nat} (hns:∀ n∈ns,0<n∧n<256) {i:Nat} (hi:i<ns.length) {a b:List Int} (ha:Bt a) (hb:Bt b) (hl:(a++gams ns++b).length≤1099511627776) :
  E0 (fun K=>Cs K (pack (a++gams ns++b)) ((a++gams (ns.take i)).length:Int) 2) (((ns.getD i 0:Nat):Int),((a++gams (ns.take (i+1))).length:Int),true):=by
 have hn:=hns _ (getD_mem (d:=0) hi)
 have e:a++gams ns++b=(a++gams (ns.take i))++gam (ns.getD i 0)++(gams (ns.drop (i+1))++b):=by
  rw [gams_split hi];simp only [List.append_assoc]
 have hl2:=hl
 rw [e] at hl2 ⊢
 have:=reads hn.1 (by omega) (ha.app (gams_Bt (ns.take i))) ((gams_Bt (ns.drop (i+1))).app hb) hl2
 rw [gams_take hi]
 rw [List.append_assoc a] at this
 simp only [List.append_assoc] at this ⊢
 exact this
theorem gapsRead_ev {v:Int} {l a b:List Int} (h:MayP l) (hv:0≤v) (hv2:v≤15) (ha:Bt a) (hb:Bt b) (hlen:(a++gap v l++b).length≤1099511627776) :
  E0 (fun K=>Ce K (pack (a++gap v l++b)) (a.length:Int) v) (l,((a++gap v l).length:Int),true):=by
 have hl:=h.len
 obtain ⟨_,h2⟩:=(mayP_iff _).1 h
 have hsm:=stp_small h hv hv2
 have hns:∀ n∈(l.length+1)::stp v l,0<n∧n<256:=by
  intro n hn
  rcases List.mem_cons.1 hn with rfl | hn
  ·omega
  ·exact hsm n hn
 have rd:=fun i (hi:i<((l.length+1)::stp v l).length)=>reads_at hns hi ha hb hlen
 have key:∀ i,i≤l.length→E1 (fun K k=>Ce.l1 K (pack (a++gap v l++b)) k ((a++gams (((l.length+1)::stp v l).take (i+1))).length:Int) (if i=0 then v else l.getD (i-1) 0) (l.length:Int) (i:Int) (l.take i)) (l,((a++gap v l).length:Int),true):=by
  refine upto ?_ ?_
  ·refine step1 (fun _ _ _ _ _=>Ce.l1.eq_2 ..) ?_
   refine negD (by omega) (nowE ?_)
   rw [List.take_length,List.take_of_length_le (by simp [stp_len])];rfl
  ·intro i hi ih
   refine step1 (fun _ _ _ _ _=>Ce.l1.eq_2 ..) ?_
   refine posD (by omega) (bnd (rd (i+1) (by simp [stp_len];omega)) (negB rfl ?_))
   have x:=h2 _ (getD_mem (d:=0) hi)
   have hj:∀ {n last:Int},last+n=l.getD i 0→E1 (fun K k=>Ce.j2 K (Ce.l1 K (pack (a++gap v l++b)) k) (l.take i) last (((((l.length+1)::stp v l).getD (i+1) 0:Nat):Int),((a++gams (((l.length+1)::stp v l).take (i+1+1))).length:Int),true) (l.length:Int) (i:Int) (pack (a++gap v l++b)) n) (l,((a++gap v l).length:Int),true):=by
    intro n last e
    refine congr (f:=fun K k _ _ _=>(Fs K (l.getD i 0)).bind fun r50=>if (!r50) then some (([]:List Int),0,false) else if ((l.take i).length+([l.getD i 0]:List Int).length)*8≤140737488355328 then Ce.l1 K (pack (a++gap v l++b)) k ((a++gams (((l.length+1)::stp v l).take (i+1+1))).length:Int) (l.getD i 0) (l.length:Int) (wr .i64 ((i:Int)+1)) (l.take i++[l.getD i 0]) else none) (fun K k _ _ _=>by unfold Ce.j2;rw [e,w64 (i:=l.getD i 0) (by omega) (by omega)]) ?_
    simp only [is_eq]
    refine bnd (now _) (negM x (pos (by simp;omega) ?_))
    rw [w1 (by omega),← take_getD (d:=0) hi]
    simpa using ih
   have hget:((l.length+1)::stp v l).getD (i+1) 0=(stp v l).getD i 0:=by simp
   by_cases h0:i=0
   ·refine posE (by omega) ?_
    have hu:∀ K,Eo K (wr .i64 (((((l.length+1)::stp v l).getD (i+1) 0:Nat):Int)-1))=some (l.getD i 0-v):=by
     intro K
     rw [hget,stp_get v hi,if_pos h0]
     subst h0
     exact unf1 (by omega) (by omega)
    refine bnd (congr (fun K _ _ _ _=>hu K) (now _)) ?_
    refine hj ?_
    rw [if_pos h0];omega
   ·refine negE (by omega) (hj ?_)
    have b1:=(h i hi).2.2 (by omega)
    rw [if_neg h0]
    show l.getD (i-1) 0+((((l.length+1)::stp v l).getD (i+1) 0:Nat):Int)=_
    rw [hget,stp_get v hi,if_neg h0];omega
 have r0:=rd 0 (by simp)
 rw [List.take_zero,show gams []=[] from rfl,List.append_nil] at r0
 refine bnd r0 (negB rfl (negD ?_ ?_))
 ·show ¬ (((l.length+1:Nat):Int) > 17);omega
 ·have e:wr .i64 (((((l.length+1)::stp v l).getD 0 0:Nat):Int)-1)=(l.length:Int):=by
   show wr .i64 (((l.length+1:Nat):Int)-1)=_
   rw [w64 (by omega) (by omega)];omega
  rw [e]
  exact (key 0 (by omega)).e1
end Go.XL
end
end
section
section
namespace Go.XL
open Go.XM
theorem nums_mk (x:Int) (n:Nat):nums (x,(n:Int))=(List.range n).map fun (k:Nat)=>x+(k:Int):=by
 show (List.range ((n:Int)).toNat).map (fun (k:Nat)=>x+(k:Int))=_
 rw [Int.toNat_natCast]
theorem mem_nums_mk {x a:Int} {n:Nat}:a∈nums (x,(n:Int))↔x≤a∧a<x+(n:Int):=mem_nums (x:=(x,(n:Int))) (by show (0:Int)≤(n:Int);omega)
theorem nums_mk_len (x:Int) (n:Nat):(nums (x,(n:Int))).length=n:=by rw [nums_mk];simp
theorem follow_take:∀ (x:Int) (l:List Int),(x::l).take (follow x l+1)=nums (x,((follow x l+1:Nat):Int))
 | x,[]=>by rw [nums_mk];simp [follow]
 | x,y::l=>by
  simp only [follow]
  split
  ·rename_i e
   have ih:=follow_take y l
   rw [List.take_succ_cons,ih]
   rw [nums_mk,nums_mk]
   rw [List.range_succ_eq_map (n:=follow y l+1),List.map_cons,List.map_map]
   subst e
   congr 1
   ·simp
   ·refine List.map_congr_left fun k _=>?_
    simp only [Function.comp];push_cast;omega
  ·rw [nums_mk];simp
theorem parts_ok:∀ (n:Nat) (l:List Int),l.length≤n→l.Pairwise (·<·)→(∀ y∈l,0≤y∧y≤15)→∀ e:Int,(∀ y∈l,e<y) →
  OkR e (parts l).1∧(parts l).2.Sublist l∧((parts l).2++alls (parts l).1).Perm l:=by
 intro n
 induction n with
 | zero =>
  intro l h _ _ e _
  obtain rfl:=List.eq_nil_of_length_eq_zero (by omega:l.length=0)
  simp [parts,OkR,alls]
 | succ n ih =>
  intro l h hp hb e he
  cases l with
  | nil=>simp [parts,OkR,alls]
  | cons x l =>
   have hf:=follow_le x l
   have htk:=follow_take x l
   generalize hn:follow x l=m at *
   have hsplit:x::l=nums (x,((m+1:Nat):Int))++l.drop m:=by
    rw [← htk];exact (List.take_append_drop (m+1) (x::l)).symm
   have hsub:(l.drop m).Sublist (x::l):=(List.drop_sublist m l).trans (List.sublist_cons_self x l)
   have hlast:x+m∈x::l:=by rw [hsplit];exact List.mem_append_left _ (mem_nums_mk.2 (by omega))
   have hx:=hb x List.mem_cons_self
   have hgt:∀ y∈l.drop m,x+(m:Int)+1<y:=by
    intro y hy
    rw [hsplit,List.pairwise_append] at hp
    have h1:=hp.2.2 (x+(m:Int)) (mem_nums_mk.2 (by omega)) y hy
    have h2:y≠x+(m:Int)+1:=by
     intro e2
     obtain ⟨i,hi,hi2⟩:=List.mem_iff_getElem.1 hy
     have hlt:m<l.length:=by simp at hi;omega
     have hend:=follow_end (x:=x) (l:=l) (by rw [hn];exact hlt)
     rw [hn] at hend
     have g1:(x::l).getD m 0=x+(m:Int):=by
      rw [hsplit,List.getD_eq_getElem?_getD,List.getElem?_append_left (by rw [nums_mk_len];omega),nums_mk]
      simp
     have g2:(x::l).getD (m+1) 0=(l.drop m).getD 0 0:=by
      rw [hsplit,List.getD_eq_getElem?_getD,List.getElem?_append_right (by rw [nums_mk_len];omega),nums_mk_len]
      simp [List.getD_eq_getElem?_getD]
     rw [g1,g2] at hend
     have h0:(l.drop m).getD 0 0≤y:=by
      rw [getD_lt (by omega:0<(l.drop m).length),← hi2]
      by_cases c:i=0
      ·subst c;exact Int.le_refl _
      ·exact Int.le_of_lt (List.pairwise_iff_getElem.1 hp.2.1 0 i (by omega) hi (by omega))
     have h3:=hp.2.2 (x+(m:Int)) (mem_nums_mk.2 (by omega)) ((l.drop m).getD 0 0) (getD_mem (by omega))
     omega
    omega
   have hp2:=hp.sublist hsub
   have hb2:∀ y∈l.drop m,0≤y∧y≤15:=fun y hy=>hb y (hsub.subset hy)
   have hlen:(l.drop m).length≤n:=by simp at h ⊢;omega
   have hl15:=hb _ hlast
   rw [parts,hn]
   have hnum:x::l.take m=nums (x,((m+1:Nat):Int)):=by rw [← htk];rfl
   split
   ·rename_i h2
    obtain ⟨a1,a2,a3⟩:=ih (l.drop m) hlen hp2 hb2 (x+((m+1:Nat):Int)) (fun y hy=>by have:=hgt y hy;push_cast;omega)
    refine ⟨⟨show 3≤((m+1:Nat):Int)∧e<x∧0≤x∧x≤15∧x+((m+1:Nat):Int)≤16 from ⟨by omega,he x List.mem_cons_self,hx.1,hx.2,by omega⟩,a1⟩,a2.trans hsub,?_⟩
    rw [alls_cons]
    conv=>rhs;rw [hsplit]
    exact (List.perm_append_comm_assoc _ _ _).trans (List.Perm.append_left _ a3)
   ·obtain ⟨a1,a2,a3⟩:=ih (l.drop m) hlen hp2 hb2 e (fun y hy=>he y (hsub.subset hy))
    refine ⟨a1,?_,?_⟩
    ·show (x::l.take m++_).Sublist _
     rw [hnum]
     conv=>rhs;rw [hsplit]
     exact List.Sublist.append (List.Sublist.refl _) a2
    ·show ((x::l.take m++_)++_).Perm _
     rw [hnum,List.append_assoc]
     conv=>rhs;rw [hsplit]
     exact List.Perm.append_left _ a3
theorem parts_may {l:List Int} (h:MayP l):OkR (-1) (parts l).1∧MayP (parts l).2∧((parts l).2++alls (parts l).1).Perm l:=by
 obtain ⟨h1,h2⟩:=(mayP_iff _).1 h
 obtain ⟨a1,a2,a3⟩:=parts_ok l.length l (Nat.le_refl _) h1 h2 (-1) (fun y hy=>by have:=h2 y hy;omega)
 exact ⟨a1,(mayP_iff _).2 ⟨h1.sublist a2,fun x hx=>h2 x (a2.subset hx)⟩,a3⟩
theorem sort_perm {l m:List Int} (hm:MayP m) (hp:l.Perm m):sortF l=m:=by
 obtain ⟨h1,h2⟩:=(mayP_iff _).1 hm
 exact List.Perm.eq_of_pairwise (le:=(·≤·)) (fun a b _ _ h1 h2=>by omega) (sort_le l) (h1.imp fun h=>by omega) ((List.mergeSort_perm l _).trans hp)
end Go.XL
end
end
section
section
namespace Go.XL
open Go.XM
theorem may_Sm {l:List Int} (h:MayP l):Sm l:=by
 have:=h.len
 obtain ⟨_,h2⟩:=(mayP_iff _).1 h
 exact ⟨by omega,fun x hx=>by have:=h2 x hx;omega⟩
end Go.XL
end
end
section
section
namespace Go.XL
open Go.XM
theorem and8 {a t:Nat} (ha:a<256) (ht:t≤8):ib .and .u8 (a:Int) ((2 ^ t-1:Nat):Int)=((a % 2 ^ t:Nat):Int):=by
 have hp:2 ^ t≤2 ^ 8:=Nat.pow_le_pow_right (by omega) ht
 have hm:a % 2 ^ t≤a:=Nat.mod_le _ _
 have h2:(BitVec.ofInt 8 (a:Int) &&& BitVec.ofInt 8 ((2 ^ t-1:Nat):Int)).toNat=a % 2 ^ t:=by
  rw [BitVec.toNat_and]
  simp only [BitVec.ofInt_natCast,BitVec.toNat_ofNat]
  rw [Nat.mod_eq_of_lt (show a<2 ^ 8 by omega),Nat.mod_eq_of_lt (show 2 ^ t-1<2 ^ 8 by omega),Nat.and_two_pow_sub_one_eq_mod]
 show IntKind.wrap .u8 ((BitVec.ofInt 8 (a:Int) &&& BitVec.ofInt 8 ((2 ^ t-1:Nat):Int)).toNat:Int)=_
 rw [h2]
 exact u8N (by omega)
def rtl:Int→List Ao→List Nat
 | _,[]=>[]
 | e,x::r=>(x.At-e).toNat::(x.Len-2).toNat::rtl (x.At+x.Len) r
def rnum (v:Int):List Ao→List Nat
 | []=>[]
 | x::r=>(fold (x.At-v)+1)::(x.Len-2).toNat::rtl (x.At+x.Len) r
def rcod (v:Int) (i:Nat) (e:Int) (r:List Ao):List Nat:=if i=0 then rnum v r else rtl e r
def runb (v:Int) (l:List Int):List Int:=gams (((parts l).1.length+1)::rnum v (parts l).1)++gap v (parts l).2
theorem rcod_cons (v:Int) (i:Nat) (e:Int) (x:Ao) (r:List Ao):rcod v i e (x::r)=(if i=0 then fold (x.At-v)+1 else (x.At-e).toNat)::(x.Len-2).toNat::rcod v (i+1) (x.At+x.Len) r:=by
 unfold rcod
 rw [if_neg (show ¬ i+1=0 by omega)]
 by_cases h:i=0
 ·rw [if_pos h,if_pos h];rfl
 ·rw [if_neg h,if_neg h];rfl
end Go.XL
end
end
section
section
namespace Go.XL
open Go.XM
theorem equalR_ev (xs ys:List Ao) (h:xs.length≤1000000):E0 (fun K=>Au K xs ys) (decide (xs=ys)):=by
 unfold Au
 by_cases hl:xs.length=ys.length
 ·have key:∀ i,i≤xs.length→(∀ j,j<i→xs.getD j default=ys.getD j default)→E1 (fun K k=>Au.l1 K xs ys k (xs.length:Int) (i:Int)) (decide (xs=ys)):=by
   refine upto ?_ ?_
   ·intro hd
    refine step1 (fun _ _ _ _ _=>Au.l1.eq_2 ..) ?_
    exact negD (by omega) (nowE (by rw [ext_getR hl hd];simp))
   ·intro i hi ih hd
    refine step1 (fun _ _ _ _ _=>Au.l1.eq_2 ..) ?_
    refine posD (by omega) (pos (by omega) (pos (by omega) ?_))
    rw [rdR,rdR,w1 (by omega),eqRun]
    by_cases e:xs.getD i default=ys.getD i default
    ·refine negM e (ih fun j hj=>?_)
     by_cases q:j=i
     ·rw [q];exact e
     ·exact hd j (by omega)
    ·refine posM e (nowE ?_)
     have:¬ xs=ys:=fun h=>e (by rw [h])
     simp [this]
  exact negN (by omega) (key 0 (by omega) (fun j hj=>by omega)).e1
 ·refine posN (by omega) (nowE ?_)
  have:¬ xs=ys:=fun h=>hl (by rw [h])
  simp [this]
theorem read_l1 {v:Int} (hv:0≤v) (hv2:v≤15) {r:List Ao} (hr:r.length≤100) {b:List Int} (hb:Bt b):∀ i,i≤r.length→∀ (e:Int) (a:List Int),(0<i→0≤e∧e≤16)→OkR (if i=0 then -1 else e) (r.drop i)→Bt a→(a++gams (rcod v i e (r.drop i))++b).length≤1099511627776 →
  E1 (fun K k=>Cf.l1 K (pack (a++gams (rcod v i e (r.drop i))++b)) k (a.length:Int) (if i=0 then v else e) (r.length:Int) (i:Int) (r.take i)) (r,((a++gams (rcod v i e (r.drop i))).length:Int),true):=by
 refine upto ?_ ?_
 ·intro e a h1 ho ha hl
  refine step1 (fun _ _ _ _ _=>Cf.l1.eq_2 ..) ?_
  refine negD (by omega) (nowE ?_)
  rw [List.drop_length]
  have:rcod v r.length e []=[]:=by unfold rcod;split <;> rfl
  rw [this,List.take_length];simp [gams]
 ·intro i hi ih e a h1 ho ha hl
  have htk:=take_getD (d:=default) hi
  rw [drop_getD (d:=default) hi] at ho hl ⊢
  rw [rcod_cons] at hl ⊢
  generalize r.getD i default=x at *
  obtain ⟨⟨x1,x2,x3,x4,x5⟩,ho2⟩:=ho
  have hn:0<(if i=0 then fold (x.At-v)+1 else (x.At-e).toNat)∧(if i=0 then fold (x.At-v)+1 else (x.At-e).toNat)<256:=by
   by_cases hz:i=0
   ·rw [if_pos hz];unfold fold;split <;> omega
   ·have:=h1 (by omega);rw [if_neg hz];rw [if_neg hz] at x2;omega
  generalize hnn:(if i=0 then fold (x.At-v)+1 else (x.At-e).toNat)=n at *
  have hL:a++gams (n::(x.Len-2).toNat::rcod v (i+1) (x.At+x.Len) (r.drop (i+1)))++b=a++gam n++gam (x.Len-2).toNat++gams (rcod v (i+1) (x.At+x.Len) (r.drop (i+1)))++b:=by
   simp only [gams_cons,List.append_assoc]
  rw [hL] at hl ⊢
  have r1:=reads (n:=n) (a:=a) (b:=gam (x.Len-2).toNat++(gams (rcod v (i+1) (x.At+x.Len) (r.drop (i+1)))++b)) hn.1 (by omega) ha ((gam_Bt _).app ((gams_Bt _).app hb)) (by simp only [List.append_assoc] at hl ⊢;exact hl)
  have r2:=reads (n:=(x.Len-2).toNat) (a:=a++gam n) (b:=gams (rcod v (i+1) (x.At+x.Len) (r.drop (i+1)))++b) (by omega) (by omega) (ha.app (gam_Bt _)) ((gams_Bt _).app hb) (by simp only [List.append_assoc] at hl ⊢;exact hl)
  have ih2:=ih (x.At+x.Len) (a++gam n++gam (x.Len-2).toNat) (fun _=>by omega) (by rw [if_neg (by omega)];exact ho2) ((ha.app (gam_Bt _)).app (gam_Bt _)) hl
  simp only [← List.append_assoc] at r1 r2
  refine step1 (fun _ _ _ _ _=>Cf.l1.eq_2 ..) ?_
  refine posD (by omega) (bnd r1 (negB rfl (bnd r2 (negB rfl ?_))))
  have hj:∀ {m last:Int},last+m=x.At→E1 (fun K k=>Cf.j2 K (Cf.l1 K (pack (a++gam n++gam (x.Len-2).toNat++gams (rcod v (i+1) (x.At+x.Len) (r.drop (i+1)))++b)) k) ((((x.Len-2).toNat:Nat):Int),((a++gam n++gam (x.Len-2).toNat).length:Int),true) (r.length:Int) (i:Int) (r.take i) last (pack (a++gam n++gam (x.Len-2).toNat++gams (rcod v (i+1) (x.At+x.Len) (r.drop (i+1)))++b)) m) (r,((a++gams (n::(x.Len-2).toNat::rcod v (i+1) (x.At+x.Len) (r.drop (i+1)))).length:Int),true):=by
   intro m last hm
   have e1:wr .i64 ((wr .i64 ((((x.Len-2).toNat:Nat):Int)-1))+3)=x.Len:=by rw [w64 (i:=(((x.Len-2).toNat:Nat):Int)-1) (by omega) (by omega),w64 (by omega) (by omega)];omega
   have e2:wr .i64 (x.At+x.Len)=x.At+x.Len:=w64 (by omega) (by omega)
   unfold Cf.j2
   rw [hm,w64 (i:=x.At) (by omega) (by omega),e1,e2,w1 (by omega)]
   refine pos (by simp;omega) ?_
   have ex:((x.At,x.Len):Ao)=x:=rfl
   rw [ex,← htk]
   have ih3:=ih2
   rw [if_neg (by omega)] at ih3
   refine ofEq ih3 ?_
   simp only [gams_cons,List.append_assoc]
  by_cases hz:i=0
  ·refine posE (by omega) ?_
   rw [if_pos hz] at hnn ⊢
   subst hnn
   refine bnd (congr (fun K _ _ _ _=>unf1 (by omega) (by omega)) (now _)) (hj (by omega))
  ·refine negE (by omega) ?_
   have he:=h1 (by omega)
   rw [if_neg hz] at hnn x2 ⊢
   exact hj (by omega)
theorem runb_Bt (v:Int) (l:List Int):Bt (runb v l):=(gams_Bt _).app (gap_Bt _ _)
theorem RRd_ev {v:Int} {l a b:List Int} (h:MayP l) (hv:0≤v) (hv2:v≤15) (ha:Bt a) (hb:Bt b) (hlen:(a++runb v l++b).length≤1099511627776) :
  E0 (fun K=>Fv K (pack (a++runb v l++b)) (a.length:Int) v) (l,((a++runb v l).length:Int),true):=by
 obtain ⟨a1,a2,a3⟩:=parts_may h
 have hr:=(a1.len (by omega)).1
 have hr2:=(a1.len (by omega)).2
 have hlm:=h.len
 have hml:=a2.len
 have hL:a++runb v l++b=a++gam ((parts l).1.length+1)++gams (rcod v 0 0 ((parts l).1.drop 0))++(gap v (parts l).2++b):=by
  rw [runb,gams_cons,show rcod v 0 0 ((parts l).1.drop 0)=rnum v (parts l).1 from rfl]
  simp only [List.append_assoc]
 have hL2:a++runb v l++b=(a++gam ((parts l).1.length+1)++gams (rcod v 0 0 ((parts l).1.drop 0)))++gap v (parts l).2++b:=by
  rw [hL];simp only [List.append_assoc]
 have rd:E0 (fun K=>Cf K (pack (a++runb v l++b)) (a.length:Int) v) ((parts l).1,((a++gam ((parts l).1.length+1)++gams (rcod v 0 0 ((parts l).1.drop 0))).length:Int),true):=by
  have r0:=reads (n:=(parts l).1.length+1) (a:=a) (b:=gams (rcod v 0 0 ((parts l).1.drop 0))++(gap v (parts l).2++b)) (by omega) (by omega) ha ((gams_Bt _).app ((gap_Bt _ _).app hb)) (by
   have:=hlen;rw [hL] at this;simp only [List.append_assoc] at this ⊢;exact this)
  rw [← List.append_assoc,← hL] at r0
  refine bnd r0 (negB rfl (negD ?_ ?_))
  ·show ¬ (((((parts l).1.length+1:Nat):Int)) > 16);omega
  ·have e:wr .i64 ((((parts l).1.length+1:Nat):Int)-1)=((parts l).1.length:Int):=by rw [w64 (by omega) (by omega)];omega
   simp only
   rw [e]
   have:=read_l1 hv hv2 (r:=(parts l).1) (by omega) (b:=gap v (parts l).2++b) ((gap_Bt _ _).app hb) 0 (by omega) 0 (a++gam ((parts l).1.length+1)) (fun h=>by omega) a1 (ha.app (gam_Bt _)) (by rw [← hL];exact hlen)
   rw [← hL] at this
   exact this.e1
 refine bnd rd (negB rfl ?_)
 have hg:=gapsRead_ev (l:=(parts l).2) (a:=a++gam ((parts l).1.length+1)++gams (rcod v 0 0 ((parts l).1.drop 0))) (b:=b) a2 hv hv2 ((ha.app (gam_Bt _)).app (gams_Bt _)) hb (by rw [← hL2];exact hlen)
 rw [← hL2] at hg
 refine bnd hg (negB rfl ?_)
 have hw:=Whole_ev (r:=(parts l).1) (q:=(parts l).2) (by omega) (by omega)
 rw [if_pos a1,if_pos a2,sort_perm h a3,decide_eq_true h] at hw
 refine bnd hw (negB rfl (bnd (Parts_ev (may_Sm h)) (bnd (equalR_ev _ _ (show (parts l).1.length≤1000000 by omega)) (pos (decide_eq_true rfl) (bnd (equal_ev _ _ (show (parts l).2.length≤1000000 by omega)) (nowE ?_))))))
 simp only [decide_true]
 congr 2
 rw [runb,gams_cons,show rcod v 0 0 ((parts l).1.drop 0)=rnum v (parts l).1 from rfl]
 simp only [List.append_assoc]
end Go.XL
end
end
section
section
namespace Go.XL
open Go.XM
abbrev q4:List Int:=[0,1,2,3]
variable {r25:List (List Int)}
end Go.XL
end
end
section
section
namespace Go.XL
open Go.XM
theorem eqB {a b:Bool} (h:a=b):¬ (!(a == b))=true:=by simp [h]
theorem neB {a b:Bool} (h:¬ a=b):(!(a == b))=true:=by simpa using h
def blk (l:List Int):Bool→Int→List Int→List Int
 | _,_,[]=>[]
 | inn,m,x::r=>if decide (x∈l)=inn then blk l inn (m+1) r else m::blk l (!inn) 1 r
def cparts (ref l:List Int):List Int × List Int:=(blk l true 0 ref,l.filter fun a=>!decide (a∈ref))
theorem blk_len (l:List Int):∀ (inn:Bool) (m:Int) (r:List Int),(blk l inn m r).length≤r.length
 | _,_,[]=>Nat.le_refl _
 | inn,m,x::r=>by
  simp only [blk]
  split
  ·have:=blk_len l inn (m+1) r;simp;omega
  ·have:=blk_len l (!inn) 1 r;simp;omega
theorem cp_l2 {ref l bl:List Int} (h1:ref.length≤1000000) (h2:l.length≤1000000):∀ j,j≤l.length→∀ s:List Int,s.length≤j→E1 (fun K k=>Cg.l2 K ref l k (l.length:Int) (j:Int) bl s) (bl,s++(l.drop j).filter fun a=>!decide (a∈ref)):=by
 refine upto ?_ ?_
 ·intro s hs
  refine step1 (fun _ _ _ _ _=>Cg.l2.eq_2 ..) ?_
  exact negD (by omega) (nowE (by simp))
 ·intro j hj ih s hs
  refine step1 (fun _ _ _ _ _=>Cg.l2.eq_2 ..) ?_
  refine posD (by omega) (pos (by omega) ?_)
  rw [rdN,drop_getD (d:=0) hj,w1 (by omega)]
  refine bnd (contains_ev ref (l.getD j 0) h1) ?_
  by_cases h:l.getD j 0∈ref
  ·refine negM h ?_
   refine ofEq (ih s (by omega)) ?_
   rw [List.filter_cons_of_neg (by simpa using h)]
  ·refine posM h (pos (by simp;omega) ?_)
   refine ofEq (ih (s++[l.getD j 0]) (by simp;omega)) ?_
   rw [List.filter_cons_of_pos (by simpa using h)];simp
theorem cp_l1 {ref l:List Int} (h1:ref.length≤1000000) (h2:l.length≤1000000):∀ i,i≤ref.length→∀ (inn:Bool) (m:Int) (b:List Int),0≤m→m≤i→b.length≤i →
  E1 (fun K k=>Cg.l1 K ref l k inn m (ref.length:Int) (i:Int) b) (b++blk l inn m (ref.drop i),l.filter fun a=>!decide (a∈ref)):=by
 refine upto ?_ ?_
 ·intro inn m b hm hm2 hb
  refine step1 (fun _ _ _ _ _=>Cg.l1.eq_2 ..) ?_
  refine negD (by omega) ?_
  refine ofEq (cp_l2 h1 h2 0 (by omega) [] (by simp)).e1 ?_
  rw [List.drop_length];simp [blk]
 ·intro i hi ih inn m b hm hm2 hb
  refine step1 (fun _ _ _ _ _=>Cg.l1.eq_2 ..) ?_
  refine posD (by omega) (pos (by omega) ?_)
  rw [rdN,drop_getD (d:=0) hi,w1 (by omega)]
  refine bnd (contains_ev l (ref.getD i 0) h2) ?_
  by_cases h:decide (ref.getD i 0∈l)=inn
  ·refine neg (eqB h) ?_
   rw [w64 (i:=m+1) (by omega) (by omega)]
   refine ofEq (ih inn (m+1) b (by omega) (by omega) (by omega)) ?_
   simp only [blk,if_pos h]
  ·refine pos (neB h) (pos (by simp;omega) ?_)
   rw [w64 (i:=0+1) (by omega) (by omega)]
   refine ofEq (ih (!inn) (0+1) (b++[m]) (by omega) (by omega) (by simp;omega)) ?_
   simp only [blk,if_neg h];simp
theorem CParts_ev {ref l:List Int} (h1:ref.length≤1000000) (h2:l.length≤1000000):E0 (fun K=>Cg K ref l) (cparts ref l) :=
 ofEq (cp_l1 h1 h2 0 (by omega) true 0 [] (by omega) (by omega) (by simp)).e1 (by simp [cparts])
def pk:Bool→List Int→List Int→Option (List Int)
 | inn,left,[]=>some (if inn then left else [])
 | inn,left,n::bs=>if n<0∨n > left.length then none else (pk (!inn) (left.drop n.toNat) bs).map fun r=>(if inn then left.take n.toNat else [])++r
def cjoin (ref bl q:List Int):Option (List Int):=match pk true ref bl with
 | none=>none
 | some P=>if MayP ref∧MayP q∧MayP (sortF (q++P))∧cparts ref (sortF (q++P))=(bl,q) then some (sortF (q++P)) else none
theorem cw_j3 {ref bl q t:List Int} (h1:ref.length≤1000000) (h2:bl.length≤1000000) (h3:q.length≤1000000) (h4:t.length≤1000000) :
  ∃ l:List Int,E0 (fun K=>Bc.j3 K ref bl q t) (l,decide (MayP (sortF t)∧cparts ref (sortF t)=(bl,q)))∧(MayP (sortF t)∧cparts ref (sortF t)=(bl,q)→l=sortF t):=by
 have hs:(sortF t).length≤1000000:=by rw [sort_len];exact h4
 by_cases hm:MayP (sortF t)
 ·refine ⟨sortF t,pos (by omega) (bnd (gmay_ev _ (by omega)) (negM hm (bnd (CParts_ev h1 hs) ?_))),fun _=>rfl⟩
  have hb:(cparts ref (sortF t)).1.length≤1000000:=Nat.le_trans (blk_len _ _ _ _) h1
  have hq:(cparts ref (sortF t)).2.length≤1000000:=Nat.le_trans (List.length_filter_le _ _) hs
  refine bnd (equal_ev _ _ hb) ?_
  by_cases e1:(cparts ref (sortF t)).1=bl
  ·refine pos (decide_eq_true e1) (bnd (equal_ev _ _ hq) (nowE ?_))
   congr 1
   rw [Bool.eq_iff_iff];simp [hm,Prod.ext_iff,e1]
  ·refine neg (by simpa using e1) (nowE ?_)
   congr 1
   rw [Bool.eq_iff_iff];simp [hm,Prod.ext_iff,e1]
 ·refine ⟨[],pos (by omega) (bnd (gmay_ev _ (by omega)) (posM hm (nowE ?_))),fun h=>absurd h.1 hm⟩
  simp [hm]
theorem cw_l1 {ref bl q:List Int} (h1:ref.length≤1000) (h2:bl.length≤1000) (h3:q.length≤10000):∀ i,i≤bl.length→∀ (left:List Int) (inn:Bool) (s:List Int),left.length≤1000→s.length+left.length≤100000 →
  ∃ l:List Int,E1 (fun K k=>Bc.l1 K ref bl q k left inn (bl.length:Int) (i:Int) s)
   (match pk inn left (bl.drop i) with
   | none=>([],false)
   | some P=>(l,decide (MayP (sortF (s++P))∧cparts ref (sortF (s++P))=(bl,q)))) ∧
   ∀ P,pk inn left (bl.drop i)=some P→MayP (sortF (s++P))∧cparts ref (sortF (s++P))=(bl,q)→l=sortF (s++P):=by
 refine upto ?_ ?_
 ·intro left inn s hl hs
  have hj:=cw_j3 (ref:=ref) (bl:=bl) (q:=q) (t:=s++if inn then left else []) (by omega) (by omega) (by omega) (by cases inn <;> simp <;> omega)
  obtain ⟨l,e,hl2⟩:=hj
  refine ⟨l,?_,fun P hP h=>?_⟩
  ·refine step1 (fun _ _ _ _ _=>Bc.l1.eq_2 ..) ?_
   refine negD (by omega) ?_
   rw [List.drop_length]
   simp only [pk]
   cases inn with
   | true=>exact pos rfl (pos (by omega) e)
   | false =>
    refine negB rfl ?_
    simpa using e
  ·rw [List.drop_length] at hP
   simp only [pk,Option.some.injEq] at hP
   subst hP
   exact hl2 h
 ·intro i hi ih left inn s hl hs
  rw [drop_getD (d:=0) hi]
  generalize hn:bl.getD i 0=n
  simp only [pk]
  by_cases c:n<0∨n > left.length
  ·rw [if_pos c]
   refine ⟨[],?_,fun P h=>by cases h⟩
   refine step1 (fun _ _ _ _ _=>Bc.l1.eq_2 ..) ?_
   refine posD (by omega) (pos (by omega) ?_)
   rw [rdN,hn]
   by_cases c1:n<0
   ·exact posD c1 (now _)
   ·exact negD c1 (posD (by omega) (now _))
  ·rw [if_neg c]
   obtain ⟨l,e,hl2⟩:=ih (left.drop n.toNat) (!inn) (s++(if inn then left.take n.toNat else [])) (by simp;omega) (by cases inn <;> simp <;> omega)
   refine ⟨l,?_,fun P hP h=>?_⟩
   ·refine step1 (fun _ _ _ _ _=>Bc.l1.eq_2 ..) ?_
    refine posD (by omega) (pos (by omega) ?_)
    rw [rdN,hn]
    refine negD (by omega) (negD (by omega) ?_)
    have hj2:E1 (fun K k=>Bc.j2 K (Bc.l1 K ref bl q k) (bl.length:Int) (i:Int) left inn ref bl q n (s++(if inn then left.take n.toNat else [])))
      (match (pk (!inn) (left.drop n.toNat) (bl.drop (i+1))).map fun r=>(if inn then left.take n.toNat else [])++r with
      | none=>([],false)
      | some P=>(l,decide (MayP (sortF (s++P))∧cparts ref (sortF (s++P))=(bl,q)))):=by
     refine pos (by omega) ?_
     have e1:(left.drop n.toNat).take (((left.length:Nat):Int).toNat-n.toNat)=left.drop n.toNat:=List.take_of_length_le (by simp)
     rw [e1,w1 (by omega)]
     refine ofEq e ?_
     cases pk (!inn) (left.drop n.toNat) (bl.drop (i+1)) with
     | none=>rfl
     | some P=>simp only [Option.map_some,List.append_assoc]
    cases inn with
    | true =>
     refine pos rfl (pos (by omega) (pos (by simp;omega) ?_))
     simpa using hj2
    | false =>
     refine negB rfl ?_
     simpa using hj2
   ·rw [Option.map_eq_some_iff] at hP
    obtain ⟨P',hP',rfl⟩:=hP
    rw [← List.append_assoc] at h ⊢
    exact hl2 P' hP' h
end Go.XL
end
end
section
section
namespace Go.XL
open Go.XM
def fin (ref bl q S:List Int):List Int × Bool:=(flt (S++q),decide (cparts ref (flt (S++q))=(bl,q)))
end Go.XL
end
end
section
section
namespace Go.XL
open Go.XM
theorem blk_ge {l:List Int}:∀ {inn:Bool} {m:Int} {r:List Int},0≤m→(∀ n∈blk l inn m r,0≤n)∧(∀ i,0<i→i<(blk l inn m r).length→1≤(blk l inn m r).getD i 0)∧(1≤m→∀ n∈blk l inn m r,1≤n)
 | inn,m,[],h=>by simp [blk]
 | inn,m,x::r,h=>by
  simp only [blk]
  split
  ·obtain ⟨a1,a2,a3⟩:=blk_ge (l:=l) (inn:=inn) (m:=m+1) (r:=r) (by omega)
   exact ⟨a1,a2,fun _=>a3 (by omega)⟩
  ·obtain ⟨a1,a2,a3⟩:=blk_ge (l:=l) (inn:=!inn) (m:=1) (r:=r) (by omega)
   have a3:=a3 (by omega)
   refine ⟨fun n hn=>?_,fun i hi hl=>?_,fun hm n hn=>?_⟩
   ·rcases List.mem_cons.1 hn with rfl | hn
    ·exact h
    ·exact a1 n hn
   ·obtain ⟨i,rfl⟩:∃ k,i=k+1:=⟨i-1,by omega⟩
    rw [List.getD_cons_succ]
    exact a3 _ (getD_mem (by simpa using hl))
   ·rcases List.mem_cons.1 hn with rfl | hn
    ·exact hm
    ·exact a3 n hn
theorem blk_sum {l:List Int}:∀ {inn:Bool} {m:Int} {r:List Int},(blk l inn m r).sum≤m+r.length∨blk l inn m r=[]
 | inn,m,[]=>.inr rfl
 | inn,m,x::r=>by
  simp only [blk]
  split
  ·rcases blk_sum (l:=l) (inn:=inn) (m:=m+1) (r:=r) with h | h
   ·left;simp only [List.length_cons];push_cast;omega
   ·exact .inr h
  ·left
   rcases blk_sum (l:=l) (inn:=!inn) (m:=1) (r:=r) with h | h
   ·simp only [List.sum_cons,List.length_cons];push_cast;omega
   ·simp only [h,List.sum_cons,List.sum_nil,List.length_cons];push_cast;omega
theorem pk_blk {l:List Int}:∀ (r:List Int) (inn:Bool) (pre:List Int),pk inn (pre++r) (blk l inn (pre.length:Int) r)=some ((if inn then pre else [])++r.filter fun a=>decide (a∈l))
 | [],inn,pre=>by simp [blk,pk]
 | x::r,inn,pre=>by
  simp only [blk]
  by_cases h:decide (x∈l)=inn
  ·rw [if_pos h]
   have ih:=pk_blk (l:=l) r inn (pre++[x])
   rw [show ((pre++[x]).length:Int)=(pre.length:Int)+1 by simp] at ih
   rw [show pre++x::r=pre++[x]++r by simp,ih]
   cases inn with
   | true =>
    have hm:x∈l:=by simpa using h
    simp [hm]
   | false =>
    have hm:x ∉ l:=by simpa using h
    simp [hm]
  ·rw [if_neg h]
   have ih:=pk_blk (l:=l) r (!inn) [x]
   simp only [pk]
   rw [if_neg (by simp;omega),Int.toNat_natCast,List.drop_left,List.take_left]
   rw [show (x::r)=[x]++r from rfl,show ((1:Int))=(([x]:List Int).length:Int) from rfl,ih]
   cases inn with
   | true =>
    have:decide (x∈l)=false:=by cases hd:decide (x∈l) <;> simp_all
    have hm:x ∉ l:=by simpa using this
    simp [hm]
   | false =>
    have:decide (x∈l)=true:=by cases hd:decide (x∈l) <;> simp_all
    have hm:x∈l:=by simpa using this
    simp [hm]
theorem cjoin_parts {ref l:List Int} (h1:MayP ref) (h2:MayP l):cjoin ref (cparts ref l).1 (cparts ref l).2=some l:=by
 obtain ⟨r1,r2⟩:=(mayP_iff _).1 h1
 obtain ⟨l1,l2⟩:=(mayP_iff _).1 h2
 have hp:=pk_blk (l:=l) ref true []
 simp only [List.nil_append,List.length_nil,if_true] at hp
 have hp:pk true ref (cparts ref l).1=some (ref.filter fun a=>decide (a∈l)):=hp
 have hperm:((cparts ref l).2++ref.filter fun a=>decide (a∈l)).Perm l:=by
  have e1:(ref.filter fun a=>decide (a∈l)).Perm (l.filter fun a=>decide (a∈ref)):=by
   refine (List.perm_ext_iff_of_nodup ((nodup_of_lt r1).sublist List.filter_sublist) ((nodup_of_lt l1).sublist List.filter_sublist)).2 fun a=>?_
   simp [List.mem_filter,and_comm]
  refine (List.Perm.append_left _ e1).trans (List.perm_append_comm.trans ?_)
  exact List.filter_append_perm (fun a=>decide (a∈ref)) l
 have e:=sort_perm h2 hperm
 have hm:MayP (cparts ref l).2:=(mayP_iff _).2 ⟨l1.sublist List.filter_sublist,fun x hx=>l2 x (List.mem_filter.1 hx).1⟩
 unfold cjoin
 rw [hp]
 simp only [e]
 rw [if_pos ⟨h1,hm,h2,trivial⟩]
theorem cparts_may {ref l:List Int} (h2:MayP l):MayP (cparts ref l).2:=by
 obtain ⟨l1,l2⟩:=(mayP_iff _).1 h2
 exact (mayP_iff _).2 ⟨l1.sublist List.filter_sublist,fun x hx=>l2 x (List.mem_filter.1 hx).1⟩
def cnum:List Int→List Nat
 | []=>[]
 | n::t=>(n+1).toNat::t.map Int.toNat
theorem cnum_len (b:List Int):(cnum b).length=b.length:=by cases b <;> simp [cnum]
theorem cnum_get {b:List Int} {i:Nat} (h:i<b.length):(cnum b).getD i 0=if i=0 then (b.getD 0 0+1).toNat else (b.getD i 0).toNat:=by
 cases b with
 | nil=>simp at h
 | cons n t =>
  cases i with
  | zero=>simp [cnum]
  | succ i =>
   rw [if_neg (by omega)]
   simp only [cnum,List.getD_cons_succ]
   rw [getD_lt (by simpa using h),getD_lt (by simpa using h)]
   simp
structure Blks (b:List Int):Prop where
 len:b.length≤16
 ge:∀ n∈b,0≤n∧n≤17
 one:∀ i,0<i→i<b.length→1≤b.getD i 0
theorem blk_le {l:List Int}:∀ {inn:Bool} {m:Int} {r:List Int},∀ n∈blk l inn m r,n≤(if 1≤m then m else 1)+r.length
 | inn,m,[],n,h=>by simp [blk] at h
 | inn,m,x::r,n,h=>by
  simp only [blk] at h
  split at h
  ·have:=blk_le n h
   simp only [List.length_cons]
   push_cast
   split at this <;> split <;> omega
  ·rcases List.mem_cons.1 h with rfl | h
   ·simp only [List.length_cons];push_cast;split <;> omega
   ·have:=blk_le n h
    simp only [List.length_cons]
    push_cast
    split at this <;> split <;> omega
theorem cparts_blks {ref l:List Int} (h:MayP ref):Blks (cparts ref l).1:=by
 have hl:=h.len
 obtain ⟨a1,a2,a3⟩:=blk_ge (l:=l) (inn:=true) (m:=0) (r:=ref) (by omega)
 refine ⟨Nat.le_trans (blk_len _ _ _ _) hl,fun n hn=>⟨a1 n hn,?_⟩,a2⟩
 have:=blk_le n hn
 rw [if_neg (by omega)] at this
 omega
def copb (v:Int) (ref l:List Int):List Int:=gams (((cparts ref l).1.length+1)::cnum (cparts ref l).1)++runb v (cparts ref l).2
theorem cnum_rng {b:List Int} (h:Blks b) {i:Nat} (hi:i<b.length):0<(cnum b).getD i 0∧(cnum b).getD i 0<256:=by
 rw [cnum_get hi]
 have a:=h.ge _ (getD_mem (d:=0) hi)
 split
 ·rename_i e;subst e;omega
 ·have:=h.one i (by omega) hi;omega
theorem cnum_small {b:List Int} (h:Blks b):∀ n∈cnum b,0<n∧n<256:=by
 intro n hn
 obtain ⟨i,hi,rfl⟩:=List.mem_iff_getElem.1 hn
 rw [cnum_len] at hi
 have:=cnum_rng h hi
 rwa [getD_lt (by rw [cnum_len];exact hi)] at this
end Go.XL
end
end
section
section
namespace Go.XL
open Go.XM
theorem CWhole_ok {ref l:List Int} (h1:MayP ref) (h2:MayP l):E0 (fun K=>Bc K ref (cparts ref l).1 (cparts ref l).2) (l,true):=by
 have hbl:=(cparts_blks (l:=l) h1).len
 have hm:=cparts_may (ref:=ref) h2
 have hm2:=hm.len
 have hrl:=h1.len
 have hj:=cjoin_parts h1 h2
 obtain ⟨l',e,hl⟩:=cw_l1 (ref:=ref) (bl:=(cparts ref l).1) (q:=(cparts ref l).2) (by omega) (by omega) (by omega) 0 (by omega) ref true (cparts ref l).2 (by omega) (by omega)
 rw [List.drop_zero] at e hl
 have hw:E0 (fun K=>Bc K ref (cparts ref l).1 (cparts ref l).2) _:=bnd (congr (fun K _ _ _ _=>clone_eq K (cparts ref l).2 (by omega)) (now _)) e.e1
 refine ofEq hw ?_
 unfold cjoin at hj
 cases hp:pk true ref (cparts ref l).1 with
 | none=>rw [hp] at hj;cases hj
 | some P =>
  rw [hp] at hj
  simp only at hj
  split at hj
  ·rename_i hc
   have hj:=Option.some.inj hj
   show (l',decide _)=(l,true)
   rw [hl P hp hc.2.2,decide_eq_true hc.2.2,hj]
  ·cases hj
theorem CRd_ev {v:Int} {ref l a b:List Int} (hr:MayP ref) (h:MayP l) (hv:0≤v) (hv2:v≤15) (ha:Bt a) (hb:Bt b) (hlen:(a++copb v ref l++b).length≤1099511627776) :
  E0 (fun K=>Cu K (pack (a++copb v ref l++b)) (a.length:Int) v ref) (l,((a++copb v ref l).length:Int),true):=by
 have hbl:=cparts_blks (l:=l) hr
 have hm2:=cparts_may (ref:=ref) h
 have hW:=CWhole_ok hr h
 unfold copb at hlen ⊢
 generalize hc:cparts ref l=c at *
 obtain ⟨bl,rs⟩:=c
 simp only at hbl hm2 hW hlen ⊢
 have hsm:=cnum_small hbl
 have hL:=hbl.len
 have hns:∀ n∈(bl.length+1)::cnum bl,0<n∧n<256:=by
  intro n hn
  rcases List.mem_cons.1 hn with rfl | hn
  ·omega
  ·exact hsm n hn
 have hS:a++(gams ((bl.length+1)::cnum bl)++runb v rs)++b=a++gams ((bl.length+1)::cnum bl)++(runb v rs++b):=by simp only [List.append_assoc]
 have hS2:a++(gams ((bl.length+1)::cnum bl)++runb v rs)++b=(a++gams ((bl.length+1)::cnum bl))++runb v rs++b:=by simp only [List.append_assoc]
 have rd:=fun i (hi:i<((bl.length+1)::cnum bl).length)=>reads_at hns hi ha ((runb_Bt v rs).app hb) (by rw [← hS];exact hlen)
 rw [← hS] at rd
 have hrr:=RRd_ev (l:=rs) (a:=a++gams ((bl.length+1)::cnum bl)) (b:=b) hm2 hv hv2 (ha.app (gams_Bt _)) hb (by rw [← hS2];exact hlen)
 rw [← hS2] at hrr
 generalize hX:pack (a++(gams ((bl.length+1)::cnum bl)++runb v rs)++b)=X at *
 have key:∀ i,i≤bl.length→E1 (fun K k=>Cu.l1 K X v ref k ((a++gams (((bl.length+1)::cnum bl).take (i+1))).length:Int) (bl.length:Int) (i:Int) (bl.take i)) (l,((a++(gams ((bl.length+1)::cnum bl)++runb v rs)).length:Int),true):=by
  refine upto ?_ ?_
  ·refine step1 (fun _ _ _ _ _=>Cu.l1.eq_2 ..) ?_
   refine negD (by omega) ?_
   rw [List.take_length,List.take_of_length_le (by simp [cnum_len])]
   refine bnd hrr (negB rfl (bnd hW (nowE ?_)))
   simp only [List.append_assoc]
  ·intro i hi ih
   refine step1 (fun _ _ _ _ _=>Cu.l1.eq_2 ..) ?_
   refine posD (by omega) (bnd (rd (i+1) (by simp [cnum_len];omega)) (negB rfl ?_))
   have hget:((bl.length+1)::cnum bl).getD (i+1) 0=(cnum bl).getD i 0:=by simp
   have a1:=hbl.ge _ (getD_mem (d:=0) hi)
   simp only
   rw [hget,w1 (by omega)]
   by_cases h0:i=0
   ·refine posE (by omega) (pos (by simp;omega) ?_)
    have e1:wr .i64 ((((cnum bl).getD i 0:Nat):Int)-1)=bl.getD i 0:=by
     rw [cnum_get hi,if_pos h0]
     subst h0
     rw [w64 (by omega) (by omega)];omega
    rw [e1,← take_getD (d:=0) hi]
    exact ih
   ·refine negE (by omega) (pos (by simp;omega) ?_)
    have e1:(((cnum bl).getD i 0:Nat):Int)=bl.getD i 0:=by
     rw [cnum_get hi,if_neg h0];omega
    rw [e1,← take_getD (d:=0) hi]
    exact ih
 have r0:=rd 0 (by simp)
 rw [List.take_zero,show gams []=[] from rfl,List.append_nil] at r0
 refine bnd r0 (negB rfl (negD ?_ ?_))
 ·show ¬ (((bl.length+1:Nat):Int) > 17);omega
 ·have e:wr .i64 (((((bl.length+1)::cnum bl).getD 0 0:Nat):Int)-1)=(bl.length:Int):=by
   show wr .i64 (((bl.length+1:Nat):Int)-1)=_
   rw [w64 (by omega) (by omega)];omega
  rw [e]
  exact (key 0 (by omega)).e1
end Go.XL
end
end
section
section
namespace Go.XL
open Go.XM
theorem z3:(wr .i64 ((wr .i64 ((0:Int)+0))+0))=0:=by
 rw [w64 (i:=0+0) (by omega) (by omega),w64 (by omega) (by omega)];rfl
end Go.XL
end
end
section
section
namespace Go.XL
open Go.XM
def wt (g:Aa):Nat:=g.Out.length+lsum g.Out
abbrev zG:Aa:=default
theorem rdG (xs:List Aa) (i:Nat):nth xs (i:Int)=xs.getD i zG:=nthN xs i
def Gfit (g:Aa):Prop:=g.Out.length≤17592186044416∧∀ y∈g.Out,y.length≤17592186044416
theorem weight_ev (gs:List Aa) (hl:gs.length≤17592186044416) (hx:∀ g∈gs,Gfit g) :
  ∃ r:Int,E0 (fun K=>A9 K gs) r∧0≤r∧r≤52776558133248∧(r<1048576→(gs.length:Int)≤r∧∀ g∈gs,(wt g:Int)≤r):=by
 have key:∀ i,i≤gs.length→∀ s:Int,0≤s→s≤52776558133248→∃ r:Int,E1 (fun K k=>A9.l1 K gs k s (i:Int)) r∧0≤r∧r≤52776558133248∧s≤r∧(r<1048576→∀ g∈gs.drop i,(wt g:Int)≤r):=by
  refine upto ?_ ?_
  ·intro s h0 h1
   refine ⟨s,?_,h0,h1,by omega,fun _=>by simp⟩
   refine step1 (fun _ _ _ _ _=>A9.l1.eq_2 ..) ?_
   exact negD (by omega) (now s)
  ·intro i hi ih s h0 h1
   by_cases hs:s<1048576
   ·have hg:=hx _ (getD_mem (d:=zG) hi)
    obtain ⟨q,e,q0,q1,q2⟩:=lists_ev (gs.getD i zG).Out hg.1 hg.2
    obtain ⟨r,h,a,b,l,c⟩:=ih (s+q) (by omega) (by omega)
    refine ⟨r,?_,a,b,by omega,fun hr=>?_⟩
    ·refine step1 (fun _ _ _ _ _=>A9.l1.eq_2 ..) ?_
     refine posD (by omega) (posD hs (pos (by omega) ?_))
     rw [rdG,w1 (by omega)]
     refine bnd e ?_
     rw [w64 (by omega) (by omega)]
     exact h
    ·rw [drop_getD (d:=zG) hi]
     intro g hg'
     rcases List.mem_cons.1 hg' with rfl | hg'
     ·have:=q2 (by omega)
      simp only [wt];omega
     ·exact c hr g hg'
   ·refine ⟨s,?_,h0,h1,by omega,fun h=>by omega⟩
    refine step1 (fun _ _ _ _ _=>A9.l1.eq_2 ..) ?_
    exact posD (by omega) (negD hs (now s))
 obtain ⟨r,h,a,b,l,c⟩:=key 0 (by omega) gs.length (by omega) (by omega)
 exact ⟨r,h.e1,a,b,fun hr=>⟨l,by simpa using c hr⟩⟩
theorem heavy6_ev (x:Dh) (hl:x.G.length≤17592186044416) (hx:∀ g∈x.G,Gfit g) (ha:x.A.length≤17592186044416):∃ b:Bool,E0 (fun K=>Ec K x) b∧(b=false→x.G.length≤1200∧x.A.length≤1200∧∀ g∈x.G,wt g≤1200):=by
 obtain ⟨r,e,r0,r1,r2⟩:=weight_ev x.G hl hx
 refine ⟨_,bnd e (now _),fun hb=>?_⟩
 rw [w64 (by omega) (by omega)] at hb
 have hb:r+(x.A.length:Int)≤1200:=by simpa using hb
 obtain ⟨ha,hw⟩:=r2 (by omega)
 exact ⟨by omega,by omega,fun g hg=>by have:=hw g hg;omega⟩
def GSm (g:Aa):Prop:=g.Out.length+lsum g.Out≤1000000
instance (g:Aa):Decidable (GSm g):=by unfold GSm;infer_instance
theorem GSm.row {g:Aa} (h:GSm g) {i:Nat} (hi:i<g.Out.length):(g.Out.getD i []).length≤1000000:=by
 have:=lsum_mem (getD_mem (d:=[]) hi)
 unfold GSm at h
 omega
theorem many_ev (g:Aa) (hl:GSm g):E0 (fun K=>Dy K g) (lsum g.Out:Int):=by
 unfold GSm at hl
 have key:∀ i,i≤g.Out.length→E1 (fun K k=>Dy.l1 K g k (lsum (g.Out.take i):Int) ((g.Out.length:Nat):Int) (i:Int)) (lsum g.Out:Int):=by
  refine upto ?_ ?_
  ·refine step1 (fun _ _ _ _ _=>Dy.l1.eq_2 ..) ?_
   exact negD (by omega) (nowE (by rw [List.take_length]))
  ·intro i hi ih
   have h1:=lsum_take hi
   have h2:=lsum_take_le g.Out (i+1)
   refine step1 (fun _ _ _ _ _=>Dy.l1.eq_2 ..) ?_
   refine posD (by omega) (pos (by omega) ?_)
   rw [rd1N,w64 (by omega) (by omega),w1 (by omega),show ((lsum (g.Out.take i):Int)+((g.Out.getD i []).length:Int))=(lsum (g.Out.take (i+1)):Int) by omega]
   exact ih
 exact (key 0 (by omega)).e1
def RowP (n:Int) (xs:List Int):Prop:=MayP xs∧(0<xs.length→xs.getD (xs.length-1) 0<n)
instance (n:Int) (xs:List Int):Decidable (RowP n xs):=by unfold RowP;infer_instance
def GraphP (g:Aa):Prop:=0≤g.N∧g.N≤16∧(g.Out.length:Int)=g.N∧(∀ i,i<g.Out.length→RowP g.N (g.Out.getD i []))∧lsum g.Out≤120
instance (g:Aa):Decidable (GraphP g):=by unfold GraphP;infer_instance
theorem gmayG_ev (g:Aa) (hs:GSm g):E0 (fun K=>C9 K g) (decide (GraphP g)):=by
 have key:(g.Out.length:Int)=g.N→0≤g.N→g.N≤16→∀ i,i≤g.Out.length→(∀ j,j<i→RowP g.N (g.Out.getD j []))→E1 (fun K k=>C9.l1 K g k ((g.Out.length:Nat):Int) (i:Int)) (decide (GraphP g)):=by
  intro hn n0 n16
  refine upto ?_ ?_
  ·intro hok
   refine step1 (fun _ _ _ _ _=>C9.l1.eq_2 ..) ?_
   refine negD (by omega) (bnd (many_ev g hs) (nowE ?_))
   have:GraphP g↔lsum g.Out≤120:=⟨fun h=>h.2.2.2.2,fun h=>⟨n0,n16,hn,hok,h⟩⟩
   simp [this];omega
  ·intro i hi ih hok
   have hr:=hs.row hi
   refine step1 (fun _ _ _ _ _=>C9.l1.eq_2 ..) ?_
   refine posD (by omega) (pos (by omega) ?_)
   rw [rd1N]
   refine bnd (gmay_ev _ (by omega)) ?_
   have hno:¬ RowP g.N (g.Out.getD i [])→decide (GraphP g)=false:=fun h=>by
    have:¬ GraphP g:=fun hg=>h (hg.2.2.2.1 i hi)
    simp [this]
   have hgo:RowP g.N (g.Out.getD i [])→∀ j,j<i+1→RowP g.N (g.Out.getD j []):=fun h j hj=>by
    by_cases e:j=i
    ·subst e;exact h
    ·exact hok j (by omega)
   by_cases hm:MayP (g.Out.getD i [])
   ·refine neg (by simpa using hm) ?_
    rw [w1 (by omega)]
    by_cases h0:0<(g.Out.getD i []).length
    ·refine posD (by omega) ?_
     have e1:wr .i64 (((g.Out.getD i []).length:Int)-1)=(((g.Out.getD i []).length-1:Nat):Int):=by rw [w64 (by omega) (by omega)];omega
     rw [e1,rdN]
     refine pos (by omega) ?_
     by_cases hlt:(g.Out.getD i []).getD ((g.Out.getD i []).length-1) 0≥g.N
     ·exact posD hlt (nowE (hno fun h=>by have:=h.2 h0;omega).symm)
     ·exact negD hlt (ih (hgo ⟨hm,fun _=>by omega⟩))
    ·exact negD (by omega) (ih (hgo ⟨hm,fun h=>absurd h h0⟩))
   ·exact pos (by simpa using hm) (nowE (hno fun h=>hm h.1).symm)
 unfold C9
 by_cases h0:g.N<0
 ·exact posD h0 (nowE (by have:¬ GraphP g:=fun hg=>by have:=hg.1;omega
                          simp [this]))
 ·refine negD h0 ?_
  by_cases h1:g.N > 16
  ·exact posD h1 (nowE (by have:¬ GraphP g:=fun hg=>by have:=hg.2.1;omega
                           simp [this]))
  ·refine negD h1 ?_
   by_cases hn:(g.Out.length:Int)=g.N
   ·exact negN hn (key hn (by omega) (by omega) 0 (by omega) (fun j hj=>by omega)).e1
   ·exact posN hn (nowE (by have:¬ GraphP g:=fun hg=>hn hg.2.2.1
                            simp [this]))
theorem eqG_ev (g:Aa) (hs:GSm g):E0 (fun K=>Ed K g g) true:=by
 have key:∀ i,i≤g.Out.length→E1 (fun K k=>Ba.l1 K g.Out g.Out k (i:Int)) true:=by
  have hl:g.Out.length≤1000000:=by unfold GSm at hs;omega
  refine upto ?_ ?_
  ·refine step1 (fun _ _ _ _ _=>Ba.l1.eq_2 ..) ?_
   exact negD (by omega) (now _)
  ·intro i hi ih
   refine step1 (fun _ _ _ _ _=>Ba.l1.eq_2 ..) ?_
   refine posD (by omega) (pos (by omega) (pos (by omega) ?_))
   rw [rd1N]
   refine bnd (eqn_ev _ _ (hs.row hi)) (negM rfl ?_)
   rw [w1 (by omega)]
   exact ih
 unfold Ed Ba
 exact posE rfl (tail (negN rfl (key 0 (by omega)).e1))
end Go.XL
end
end
section
section
namespace Go.XL
open Go.XM
structure GP (g:Aa):Prop where
 n:g.N=(g.Out.length:Int)
 le:g.Out.length≤16
 may:∀ l∈g.Out,MayP l
 sum:lsum g.Out≤120
theorem GraphP.gp {g:Aa} (h:GraphP g):GP g:=by
 obtain ⟨h1,h2,h3,h4,h5⟩:=h
 refine ⟨h3.symm,by omega,fun l hl=>?_,h5⟩
 obtain ⟨i,hi,rfl⟩:=List.mem_iff_getElem.1 hl
 have:=(h4 i hi).1
 rwa [getD_lt hi] at this
theorem GraphP.sm {g:Aa} (h:GraphP g):GSm g:=by
 have:=h.gp
 have a:=this.le
 have b:=this.sum
 unfold GSm;omega
end Go.XL
end
end
section
section
namespace Go.XL
open Go.XM
def part (g:Aa) (m:Nat):Aa:=(g.N,g.Out.take m++List.replicate (g.Out.length-m) [])
theorem empty_eq {K n:Nat} (h:n≤16):Ep K (n:Int)=some ((n:Int),List.replicate n []):=by
 unfold Ep
 rw [if_pos ⟨rfl,by omega,by omega,by omega⟩]
 rfl
end Go.XL
end
end
section
section
namespace Go.XL
open Go.XM
def dl (g:Aa) (v:Nat):List Int:=g.Out.getD v []
theorem dl_may {g:Aa} (h:GP g) (v:Nat):MayP (dl g v):=by
 unfold dl
 by_cases hv:v<g.Out.length
 ·exact h.may _ (getD_mem hv)
 ·rw [List.getD_eq_getElem?_getD,List.getElem?_eq_none (by omega)];decide
theorem dlist_eq {g:Aa} (h:GP g) (K v:Nat):Gd K g (v:Int)=some (dl g v):=by
 have hi:∀ K,F4 K g (v:Int)=some (decide (0≤(v:Int)∧(v:Int)<g.N)):=by
  intro K
  unfold F4
  by_cases c:(v:Int)≥0
  ·rw [if_pos (decide_eq_true c)];simp [c]
  ·omega
 unfold Gd
 rw [hi,h.n]
 by_cases hv:v<g.Out.length
 ·rw [decide_eq_true (by omega)]
  show (if (0:Int)≤(v:Int)∧(v:Int)<((g.Out.length:Nat):Int) then some (nth g.Out (v:Int)) else none)=_
  rw [if_pos ⟨by omega,by omega⟩,rd1N];rfl
 ·rw [decide_eq_false (by omega)]
  show some ([]:List Int)=_
  unfold dl
  rw [List.getD_eq_getElem?_getD,List.getElem?_eq_none (by omega)];rfl
end Go.XL
end
end
section
section
namespace Go.XL
open Go.XM
theorem bt_nat (s:ByteArray) (j:Int):∃ a:Nat,bt s j=(a:Int)∧a<256:=by
 unfold bt
 generalize s.data.toList.getD j.toNat 0=u
 exact ⟨u.toNat,rfl,u.toNat_lt⟩
def bof (s:ByteArray) (i:Nat):Int:=(((bt s ((i / 8:Nat):Int)).toNat / 2 ^ (7-i % 8) % 2:Nat):Int)
theorem bof_01 (s:ByteArray) (i:Nat):bof s i=0∨bof s i=1:=mod2 _
def Zs (s:ByteArray) (n:Nat):Prop:=∀ i,i<8*s.size→n≤i→bof s i=0
instance (s:ByteArray) (n:Nat):Decidable (Zs s n):=by unfold Zs;infer_instance
def MayB (b:Ap):Prop:=0≤b.N∧b.N≤6000∧b.Data.size=(b.N.toNat+7) / 8∧Zs b.Data b.N.toNat
instance (b:Ap):Decidable (MayB b):=by unfold MayB;infer_instance
def ofb (b:Ap):List Int:=(List.range b.N.toNat).map (bof b.Data)
theorem ofb_len (b:Ap):(ofb b).length=b.N.toNat:=by simp [ofb]
theorem ofb_Bt (b:Ap):Bt (ofb b):=by
 intro x hx
 simp only [ofb,List.mem_map] at hx
 obtain ⟨i,_,rfl⟩:=hx
 exact bof_01 _ _
theorem Zs_last {s:ByteArray} {q t:Nat} (hs:s.size=q+1) (ht:t<8) (h0:0<t) {a:Nat} (ha:bt s (q:Int)=(a:Int)) (ha2:a<256):Zs s (8*q+t)↔a % 2 ^ (8-t)=0:=by
 have hb:∀ r,r<8→bof s (8*q+r)=((a / 2 ^ (7-r) % 2:Nat):Int):=by
  intro r hr
  unfold bof
  rw [show (8*q+r) / 8=q by omega,show (8*q+r) % 8=r by omega,ha,Int.toNat_natCast]
 have:t=1∨t=2∨t=3∨t=4∨t=5∨t=6∨t=7:=by omega
 constructor
 ·intro z
  have hz:∀ r,t≤r→r<8→a / 2 ^ (7-r) % 2=0:=by
   intro r h1 h2
   have:=z (8*q+r) (by omega) (by omega)
   rw [hb r h2] at this;omega
  have z1:=hz 1;have z2:=hz 2;have z3:=hz 3;have z4:=hz 4;have z5:=hz 5;have z6:=hz 6;have z7:=hz 7
  simp only [Nat.reduceSub,Nat.reducePow,Nat.reduceLT,forall_const] at z1 z2 z3 z4 z5 z6 z7
  rcases this with rfl | rfl | rfl | rfl | rfl | rfl | rfl <;> simp only [Nat.reduceSub,Nat.reducePow] <;> omega
 ·intro hm i h1 h2
  obtain ⟨r,rfl⟩:∃ r,i=8*q+r:=⟨i-8*q,by omega⟩
  rw [hb r (by omega)]
  have hr:r=1∨r=2∨r=3∨r=4∨r=5∨r=6∨r=7:=by omega
  rcases this with rfl | rfl | rfl | rfl | rfl | rfl | rfl <;> simp only [Nat.reduceSub,Nat.reducePow] at hm <;> rcases hr with rfl | rfl | rfl | rfl | rfl | rfl | rfl <;> simp only [Nat.reduceSub,Nat.reducePow] <;> omega
theorem bMay_eq {b:Ap} (hs:b.Data.size≤1000000) (K:Nat):Fg K b=some (decide (MayB b)):=by
 unfold Fg
 by_cases h1:b.N<0
 ·rw [if_pos (decide_eq_true h1),decide_eq_false (fun z=>by have:=z.1;omega)]
 rw [if_neg (by simpa using h1)]
 by_cases h2:b.N > 6000
 ·rw [if_pos (decide_eq_true h2),decide_eq_false (fun z=>by have:=z.2.1;omega)]
 rw [if_neg (by simpa using h2),if_pos (by decide)]
 obtain ⟨n,hn⟩:=Int.eq_ofNat_of_zero_le (show 0≤b.N by omega)
 have e1:wr .i64 ((wr .i64 ((wr .i64 (b.N+8))-1)).tdiv 8)=(((n+7) / 8:Nat):Int):=by
  rw [w64 (i:=b.N+8) (by omega) (by omega),w64 (i:=b.N+8-1) (by omega) (by omega),show b.N+8-1=((n+7:Nat):Int) by omega]
  rw [show (8:Int)=((8:Nat):Int) from rfl,tdivN,w64 (by omega) (by omega)]
 have e2:(b.N.tmod 8)=((n % 8:Nat):Int):=by rw [hn];exact tmodN _ 8
 have e0:b.N.toNat=n:=by omega
 rw [e1,e2]
 by_cases h3:b.Data.size=(n+7) / 8
 ·rw [if_neg (by simp [h3]),if_pos (by decide)]
  by_cases h4:n % 8=0
  ·rw [if_pos (by simp [h4]),decide_eq_true]
   exact ⟨by omega,by omega,by rw [e0];exact h3,fun i a1 a2=>by omega⟩
  ·obtain ⟨a,a1,a2⟩:=bt_nat b.Data ((n / 8:Nat):Int)
   have e3:wr .i64 (((b.Data.size:Nat):Int)-1)=((n / 8:Nat):Int):=by rw [w64 (by omega) (by omega)];omega
   have e4:(255:Int).fdiv (2 ^ min (((n % 8:Nat):Int)).toNat 8)=((2 ^ (8-n % 8)-1:Nat):Int):=by
    rw [Int.toNat_natCast]
    have:n % 8=1∨n % 8=2∨n % 8=3∨n % 8=4∨n % 8=5∨n % 8=6∨n % 8=7:=by omega
    rcases this with e | e | e | e | e | e | e <;> rw [e] <;> decide
   rw [if_neg (by simp;omega),e3,if_pos ⟨by omega,by omega⟩,if_pos (by omega),a1,e4,and8 a2 (by omega)]
   have hz:=Zs_last (s:=b.Data) (q:=n / 8) (t:=n % 8) (by omega) (by omega) (by omega) a1 a2
   rw [show 8*(n / 8)+n % 8=n by omega] at hz
   congr 1
   rw [Bool.eq_iff_iff,decide_eq_true_iff]
   constructor
   ·intro q
    have:a % 2 ^ (8-n % 8)=0:=by have:=of_decide_eq_true q;omega
    exact ⟨by omega,by omega,by rw [e0];exact h3,by rw [e0];exact hz.2 this⟩
   ·intro q
    have:=hz.1 (by have:=q.2.2.2;rwa [e0] at this)
    rw [this];rfl
 ·rw [if_pos (by simp;omega),decide_eq_false (fun z=>h3 (by have:=z.2.2.1;rwa [e0] at this))]
theorem ofb_get {b:Ap} (h:MayB b) {i:Nat} (hi:i<8*b.Data.size):(ofb b).getD i 0=bof b.Data i:=by
 by_cases c:i<b.N.toNat
 ·rw [getD_lt (by rw [ofb_len];exact c)];simp [ofb]
 ·rw [gd_ge (by rw [ofb_len];omega)]
  exact (h.2.2.2 i hi (by omega)).symm
theorem byt_ofb {b:Ap} (h:MayB b) {j:Nat} (hj:j<b.Data.size):byt (ofb b) j=bt b.Data (j:Int):=by
 obtain ⟨a,a1,a2⟩:=bt_nat b.Data (j:Int)
 have e:∀ t,t<8→(ofb b).getD (8*j+t) 0=((a / 2 ^ (7-t) % 2:Nat):Int):=by
  intro t ht
  rw [ofb_get h (by omega)]
  unfold bof
  rw [show (8*j+t) / 8=j by omega,show (8*j+t) % 8=t by omega,a1,Int.toNat_natCast]
 have e0:=e 0 (by omega)
 rw [Nat.add_zero] at e0
 unfold byt
 rw [e0,e 1 (by omega),e 2 (by omega),e 3 (by omega),e 4 (by omega),e 5 (by omega),e 6 (by omega),e 7 (by omega),a1]
 simp only [Nat.reduceSub,Nat.reducePow]
 omega
theorem bt_eq {s:ByteArray} {j:Nat} (hj:j<s.data.toList.length):bt s (j:Int)=((s.data.toList[j]).toNat:Int):=by
 unfold bt;rw [Int.toNat_natCast,List.getD_eq_getElem?_getD,List.getElem?_eq_getElem hj];rfl
theorem pack_ofb {b:Ap} (h:MayB b):pack (ofb b)=b:=by
 obtain ⟨h1,h2,h3,h4⟩:=id h
 have e1:bytesOf (byts (ofb b))=b.Data:=by
  apply ByteArray.ext
  apply Array.ext'
  have hb:b.Data.data.toList.length=b.Data.size:=rfl
  refine List.ext_getElem (by rw [bytesOf_data,List.length_map,byts_len,ofb_len,hb,h3]) fun j j1 j2=>?_
  have hj:j<b.Data.size:=j2
  have e:=byt_ofb h hj
  rw [bt_eq j2] at e
  have hlen:(bytesOf (byts (ofb b))).data.toList=(byts (ofb b)).map fun n=>UInt8.ofNat n.toNat:=bytesOf_data _
  have e3:(bytesOf (byts (ofb b))).data.toList[j]=UInt8.ofNat (byt (ofb b) j).toNat:=by
   rw [List.getElem_of_eq hlen];simp [byts]
  rw [e3,e,Int.toNat_natCast];simp
 show (bytesOf (byts (ofb b)),((ofb b).length:Int))=b
 rw [e1,ofb_len]
 show (b.1,((b.2.toNat:Nat):Int))=b
 rw [show ((b.2.toNat:Nat):Int)=b.2 from Int.toNat_of_nonneg h1]
end Go.XL
end
end
section
section
namespace Go.XL
open Go.XM
theorem ahead_split:∀ {m:List Int} {z:Nat},Bt m→ahead m=some z→m=List.replicate z 0++1::m.drop (z+1)
 | [],z,_,h=>by cases h
 | x::m,z,hB,h=>by
  simp only [ahead] at h
  split at h
  ·rename_i e;cases h;subst e;simp
  ·rename_i e
   rw [Option.map_eq_some_iff] at h
   obtain ⟨z',h,rfl⟩:=h
   have hx:=(hB x List.mem_cons_self).resolve_right e
   have ih:=ahead_split (fun y hy=>hB y (List.mem_cons_of_mem _ hy)) h
   subst hx
   rw [List.replicate_succ,List.cons_append,List.drop_succ_cons]
   congr 1
theorem nb_val:∀ {t:List Int},Bt t→∀ m:Nat,nb (m*2 ^ t.length+(val t).toNat) t.length=t
 | [],_,m=>rfl
 | x::t,h,m=>by
  have ht:Bt t:=fun y hy=>h y (List.mem_cons_of_mem _ hy)
  obtain ⟨v0,v1⟩:=val_rng ht
  obtain ⟨b,hb⟩:=Int.eq_ofNat_of_zero_le v0
  have hb2:b<2 ^ t.length:=by
   rw [hb] at v1
   have:((b:Nat):Int)<((2 ^ t.length:Nat):Int):=by push_cast;exact v1
   omega
  obtain ⟨a,ha,ha2⟩:∃ a:Nat,x=(a:Int)∧a<2:=by
   rcases h x List.mem_cons_self with e | e
   ·exact ⟨0,e,by omega⟩
   ·exact ⟨1,e,by omega⟩
  have hv:(val (x::t)).toNat=a*2 ^ t.length+b:=by
   rw [val_cons,ha,hb]
   have:((a:Int)*2 ^ t.length+(b:Int))=((a*2 ^ t.length+b:Nat):Int):=by push_cast;rfl
   rw [this,Int.toNat_natCast]
  have ih:=nb_val ht (2*m+a)
  rw [hb,Int.toNat_natCast] at ih
  have e:m*2 ^ (x::t).length+(val (x::t)).toNat=(2*m+a)*2 ^ t.length+b:=by
   rw [hv,List.length_cons,Nat.pow_succ,Nat.add_mul,← Nat.mul_assoc,Nat.mul_comm (m*2 ^ t.length) 2,← Nat.mul_assoc,Nat.add_assoc]
  rw [e,List.length_cons]
  simp only [nb]
  rw [ih]
  have hp:0<2 ^ t.length:=Nat.two_pow_pos _
  have e2:((2*m+a)*2 ^ t.length+b) / 2 ^ t.length=2*m+a:=by
   rw [Nat.mul_comm,Nat.mul_add_div hp,Nat.div_eq_of_lt hb2,Nat.add_zero]
  rw [e2,ha,show (2*m+a) % 2=a by omega]
theorem rg_can {l:List Int} (h:Bt l) {at_:Nat} {v:Int} {n:Nat} (hr:rg l at_=some (v,n)):∃ k:Nat,v=(k:Int)∧0<k∧k≤1073741824∧gam k <+: l.drop at_∧n=at_+(gam k).length:=by
 unfold rg at hr
 cases hah:ahead (l.drop at_) with
 | none=>rw [hah] at hr;cases hr
 | some z =>
  rw [hah] at hr
  simp only at hr
  split at hr
  ·rename_i c
   obtain ⟨c1,c2,c3⟩:=c
   have hB:Bt (l.drop at_):=fun x hx=>h x (List.mem_of_mem_drop hx)
   have hs:=ahead_split hB hah
   generalize hm:(l.drop at_).drop (z+1)=m at hs
   have hlen:z≤m.length:=by rw [← hm];simp;omega
   have hd:l.drop (at_+z)=1::m:=by
    rw [← List.drop_drop,hs]
    rw [List.drop_append_of_le_length (by simp)]
    simp
   have ht:(l.drop (at_+z)).take (z+1)=1::m.take z:=by rw [hd,List.take_succ_cons]
   rw [ht] at hr c3
   have hBt:Bt (m.take z):=fun x hx=>by
    refine hB x ?_
    rw [hs];exact List.mem_append_right _ (List.mem_cons_of_mem _ (List.mem_of_mem_take hx))
   have htl:(m.take z).length=z:=by simp;omega
   obtain ⟨w0,w1⟩:=val_rng hBt
   obtain ⟨b,hb⟩:=Int.eq_ofNat_of_zero_le w0
   have hb2:b<2 ^ z:=by
    rw [hb,htl] at w1
    have:((b:Nat):Int)<((2 ^ z:Nat):Int):=by push_cast;exact w1
    omega
   have hv:val (1::m.take z)=((2 ^ z+b:Nat):Int):=by rw [val_cons,htl,hb];push_cast;omega
   rw [hv] at hr c3
   cases hr
   have hp:0<2 ^ z:=Nat.two_pow_pos _
   have hlog:Nat.log2 (2 ^ z+b)=z:=by
    have h1:z≤Nat.log2 (2 ^ z+b):=(Nat.le_log2 (by omega)).2 (by omega)
    have h2:Nat.log2 (2 ^ z+b)<z+1:=(Nat.log2_lt (by omega)).2 (by rw [Nat.pow_succ];omega)
    omega
   have hnb:=nb_val hBt 1
   rw [htl,hb,Int.toNat_natCast,Nat.one_mul] at hnb
   have hg:gam (2 ^ z+b)=List.replicate z 0++1::m.take z:=by rw [gam_eq (by omega),hlog,hnb]
   refine ⟨2 ^ z+b,rfl,by omega,by omega,?_,?_⟩
   ·rw [hg,hs]
    refine (List.prefix_append_right_inj _).2 ?_
    rw [List.cons_prefix_cons]
    exact ⟨rfl,List.take_prefix _ _⟩
   ·rw [gam_len,hlog];omega
  ·cases hr
theorem pre_split {l x:List Int} {at_:Nat} (hat:at_≤l.length) (h:x <+: l.drop at_):∃ b,l=l.take at_++x++b∧(l.take at_).length=at_:=by
 obtain ⟨b,hb⟩:=h
 exact ⟨b,by rw [List.append_assoc,hb,List.take_append_drop],by simp;omega⟩
theorem pre_len {l x:List Int} {at_:Nat} (h:x <+: l.drop at_):x.length≤l.length-at_:=by
 have:=h.length_le;rwa [List.length_drop] at this
theorem pre_app {l x y:List Int} {at_:Nat} (h1:x <+: l.drop at_) (h2:y <+: l.drop (at_+x.length)):x++y <+: l.drop at_:=by
 obtain ⟨b,hb⟩:=h1
 rw [← List.drop_drop,← hb,List.drop_left] at h2
 rw [← hb]
 exact (List.prefix_append_right_inj _).2 h2
theorem pre_inv {l x y:List Int} {at_:Nat} (h:x++y <+: l.drop at_):x <+: l.drop at_∧y <+: l.drop (at_+x.length):=by
 obtain ⟨b,hb⟩:=h
 refine ⟨⟨y++b,by rw [← hb,List.append_assoc]⟩,?_⟩
 rw [← List.drop_drop,← hb,List.append_assoc,List.drop_left]
 exact ⟨b,rfl⟩
theorem rg_pre {l:List Int} {at_ n:Nat} (hat:at_≤l.length) (h0:0<n) (hn:n≤1073741824) (h:gam n <+: l.drop at_):rg l at_=some ((n:Int),at_+(gam n).length):=by
 obtain ⟨b,hb,hl⟩:=pre_split hat h
 have:=rg_gam h0 hn (l.take at_) b
 rw [← hb,List.length_append,hl] at this
 exact this
theorem fold_unf (n:Nat):fold (unf (n:Int))=n:=by unfold unf fold;split <;> split <;> omega
theorem unf_rng {n:Nat} (h:n≤1073741824):-1073741824≤unf (n:Int)∧unf (n:Int)≤1073741824:=by unfold unf;split <;> omega
def cod (v:Int) (i:Nat) (last:Int) (q:List Int):List Nat:=if i=0 then stp v q else dif last q
theorem cod_nil (v:Int) (i:Nat) (last:Int):cod v i last []=[]:=by unfold cod;split <;> rfl
theorem cod_cons (v:Int) (i:Nat) (last x:Int) (q:List Int):cod v i last (x::q)=(if i=0 then fold (x-v)+1 else (x-last).toNat)::cod v (i+1) x q:=by
 unfold cod
 rw [if_neg (show ¬ i+1=0 by omega)]
 by_cases h:i=0
 ·rw [if_pos h,if_pos h];rfl
 ·rw [if_neg h,if_neg h];rfl
end Go.XL
end
end
section
section
namespace Go.XL
open Go.XM
theorem gj2 {go:Nat→Nat→Int→Int→Int→Int→List Int→Option (List Int × Int × Bool)} {b:Ap} {acc:List Int} {last m y:Int} {p:Int × Int × Bool} {t10:Int} {i:Nat} {res:List Int × Int × Bool} (hy:last+m=y)
  (y0:-1099511627776≤y) (y1:y≤1099511627776) (ha:acc.length≤1000) (hi:i≤1000) (hgo:0≤y∧y≤15→E1 (fun K k=>go K k p.2.1 y t10 ((i+1:Nat):Int) (acc++[y])) res) (hno:¬ (0≤y∧y≤15)→res=([],0,false)) :
  E1 (fun K k=>Ce.j2 K (go K k) acc last p t10 (i:Int) b m) res:=by
 refine congr (f:=fun K k _ _ _=>(Fs K y).bind fun r50=>if (!r50) then some (([]:List Int),0,false) else if (acc.length+([y]:List Int).length)*8≤140737488355328 then go K k p.2.1 y t10 ((i+1:Nat):Int) (acc++[y]) else none) (fun K k _ _ _=>by unfold Ce.j2;rw [hy,w64 (i:=y) (by omega) (by omega),w1 (by omega)]) ?_
 refine bnd (congr (fun K _ _ _ _=>is_eq K y) (now _)) ?_
 by_cases c:0≤y∧y≤15
 ·exact negM c (pos (by simp;omega) (hgo c))
 ·rw [hno c];exact posM c (now _)
theorem gread_l1 {l:List Int} (h:Bt l) (hb:l.length≤1000000) {v:Int} (hv:0≤v) (hv2:v≤15):∀ (d i at_:Nat) (last:Int) (acc:List Int),i+d≤17→at_≤l.length→acc.length≤i→(0<i→0≤last∧last≤15) →
  ∃ r:Option (List Int),E1 (fun K k=>Ce.l1 K (pack l) k (at_:Int) (if i=0 then v else last) ((i+d:Nat):Int) (i:Int) acc) (match r with | some q=>(acc++q,((at_+(gams (cod v i last q)).length:Nat):Int),true) | none=>([],0,false)) ∧
   ∀ q,r=some q→q.length=d∧gams (cod v i last q) <+: l.drop at_∧q.Pairwise (·<·)∧(∀ x∈q,0≤x∧x≤15)∧(0<i→∀ x∈q,last<x):=by
 intro d
 induction d with
 | zero =>
  intro i at_ last acc hi hat ha hl
  refine ⟨some [],?_,fun q hq=>by cases hq;simp [cod_nil,gams]⟩
  refine step1 (fun _ _ _ _ _=>Ce.l1.eq_2 ..) ?_
  refine negD (by omega) (nowE ?_)
  simp [cod_nil,gams]
 | succ d ih =>
  intro i at_ last acc hi hat ha hl
  have hrd:=Read_ev h (by omega) hat
  cases hrg:rg l at_ with
  | none =>
   rw [hrg] at hrd
   refine ⟨none,?_,fun q hq=>by cases hq⟩
   refine step1 (fun _ _ _ _ _=>Ce.l1.eq_2 ..) ?_
   exact posD (by omega) (bnd hrd (pos rfl (now _)))
  | some p =>
   obtain ⟨x,n⟩:=p
   rw [hrg] at hrd
   obtain ⟨k,rfl,k0,k1,hp,rfl⟩:=rg_can h hrg
   have hpl:=pre_len hp
   have hu:=unf_rng (n:=k-1) (by omega)
   generalize hyy:(if i=0 then v+unf ((k-1:Nat):Int) else last+(k:Int))=y
   have y0:-1099511627776≤y∧y≤1099511627776:=by
    rw [← hyy];split
    ·omega
    ·have:=hl (by omega);omega
   have hnum:(if i=0 then fold (y-v)+1 else (y-last).toNat)=k:=by
    rw [← hyy]
    by_cases h0:i=0
    ·rw [if_pos h0,if_pos h0,show v+unf ((k-1:Nat):Int)-v=unf ((k-1:Nat):Int) by omega,fold_unf];omega
    ·rw [if_neg h0,if_neg h0];omega
   have main:∀ {res:List Int × Int × Bool},(0≤y∧y≤15→E1 (fun K k'=>Ce.l1 K (pack l) k' ((at_+(gam k).length:Nat):Int) y ((i+(d+1):Nat):Int) ((i+1:Nat):Int) (acc++[y])) res)→(¬ (0≤y∧y≤15)→res=([],0,false)) →
     E1 (fun K k'=>Ce.l1 K (pack l) k' (at_:Int) (if i=0 then v else last) ((i+(d+1):Nat):Int) (i:Int) acc) res:=by
    intro res h1 h2
    refine step1 (fun _ _ _ _ _=>Ce.l1.eq_2 ..) ?_
    refine posD (by omega) (bnd hrd (negB rfl ?_))
    have hj:∀ {m last':Int},last'+m=y→E1 (fun K k'=>Ce.j2 K (Ce.l1 K (pack l) k') acc last' ((k:Int),((at_+(gam k).length:Nat):Int),true) ((i+(d+1):Nat):Int) (i:Int) (pack l) m) res:=fun e =>
     gj2 (go:=fun K k'=>Ce.l1 K (pack l) k') e (by omega) (by omega) (by omega) (by omega) h1 h2
    by_cases h0:i=0
    ·refine posE (by omega) ?_
     rw [if_pos h0] at hyy ⊢
     have hu2:∀ K,Eo K (wr .i64 ((k:Int)-1))=some (unf ((k-1:Nat):Int)):=by
      intro K
      rw [w64 (by omega) (by omega),show (k:Int)-1=((k-1:Nat):Int) by omega]
      exact unfold_eq (by omega)
     exact bnd (congr (fun K _ _ _ _=>hu2 K) (now _)) (hj hyy)
    ·refine negE (by omega) ?_
     rw [if_neg h0] at hyy ⊢
     exact hj hyy
   by_cases c:0≤y∧y≤15
   ·obtain ⟨r,e1,e2⟩:=ih (i+1) (at_+(gam k).length) y (acc++[y]) (by omega) (by omega) (by simp;omega) (fun _=>c)
    rw [if_neg (by omega),show i+1+d=i+(d+1) by omega] at e1
    cases r with
    | none=>exact ⟨none,main (fun _=>e1) (fun _=>rfl),fun q hq=>by cases hq⟩
    | some q =>
     obtain ⟨a1,a2,a3,a4,a5⟩:=e2 q rfl
     have a5:=a5 (by omega)
     have hc:cod v i last (y::q)=k::cod v (i+1) y q:=by rw [cod_cons,hnum]
     refine ⟨some (y::q),main (fun _=>?_) (fun z=>absurd c z),fun q' hq=>?_⟩
     ·refine ofEq e1 ?_
      simp only [hc,gams_cons,List.length_append,List.append_assoc,List.cons_append,List.nil_append,Nat.add_assoc]
     ·cases hq
      refine ⟨by simp [a1],by rw [hc,gams_cons];exact pre_app hp a2,List.pairwise_cons.2 ⟨a5,a3⟩,fun x hx=>?_,fun hi2 x hx=>?_⟩
      ·rcases List.mem_cons.1 hx with rfl | hx
       ·exact c
       ·exact a4 x hx
      ·have hly:last<y:=by rw [← hyy,if_neg (by omega)];omega
       rcases List.mem_cons.1 hx with rfl | hx
       ·exact hly
       ·have:=a5 x hx;omega
   ·exact ⟨none,main (fun z=>absurd z c) (fun _=>rfl),fun q hq=>by cases hq⟩
theorem gread_any {l:List Int} (h:Bt l) (hb:l.length≤1000000) {v:Int} (hv:0≤v) (hv2:v≤15) {at_:Nat} (hat:at_≤l.length) :
  ∃ r:Option (List Int),E0 (fun K=>Ce K (pack l) (at_:Int) v) (match r with | some q=>(q,((at_+(gap v q).length:Nat):Int),true) | none=>([],0,false))∧∀ q,r=some q→MayP q∧gap v q <+: l.drop at_:=by
 have hrd:=Read_ev h (by omega) hat
 cases hrg:rg l at_ with
 | none =>
  rw [hrg] at hrd
  exact ⟨none,bnd hrd (pos rfl (now _)),fun q hq=>by cases hq⟩
 | some p =>
  obtain ⟨x,n⟩:=p
  rw [hrg] at hrd
  obtain ⟨k,rfl,k0,k1,hp,rfl⟩:=rg_can h hrg
  have hpl:=pre_len hp
  by_cases c:(k:Int) > 17
  ·exact ⟨none,bnd hrd (negB rfl (posD c (now _))),fun q hq=>by cases hq⟩
  ·obtain ⟨r,e1,e2⟩:=gread_l1 h hb hv hv2 (k-1) 0 (at_+(gam k).length) 0 [] (by omega) (by omega) (by simp) (fun h=>by omega)
   have e0:wr .i64 ((k:Int)-1)=((0+(k-1):Nat):Int):=by rw [w64 (by omega) (by omega)];omega
   cases r with
   | none =>
    refine ⟨none,bnd hrd (negB rfl (negD c ?_)),fun q hq=>by cases hq⟩
    rw [e0];exact e1.e1
   | some q =>
    obtain ⟨a1,a2,a3,a4,_⟩:=e2 q rfl
    have hg:gap v q=gam k++gams (cod v 0 0 q):=by rw [gap,gams_cons,a1,show k-1+1=k by omega];rfl
    refine ⟨some q,bnd hrd (negB rfl (negD c ?_)),fun q' hq=>?_⟩
    ·rw [e0]
     refine ofEq e1.e1 ?_
     simp only [hg,List.length_append,List.nil_append,Nat.add_assoc]
    ·cases hq
     exact ⟨(mayP_iff _).2 ⟨a3,a4⟩,by rw [hg];exact pre_app hp a2⟩
theorem rread_l1 {l:List Int} (h:Bt l) (hb:l.length≤1000000) {v:Int} (hv:0≤v) (hv2:v≤15):∀ (d i at_:Nat) (e:Int) (acc:List Ao),i+d≤17→at_≤l.length→acc.length≤i→-8589934592*((i:Int)+1)≤e→e≤8589934592*((i:Int)+1) →
  ∃ r:Option (List Ao),E1 (fun K k=>Cf.l1 K (pack l) k (at_:Int) (if i=0 then v else e) ((i+d:Nat):Int) (i:Int) acc) (match r with | some q=>(acc++q,((at_+(gams (rcod v i e q)).length:Nat):Int),true) | none=>([],0,false)) ∧
   ∀ q,r=some q→q.length=d∧gams (rcod v i e q) <+: l.drop at_:=by
 intro d
 have rnil:∀ (i:Nat) (e:Int),rcod v i e []=[]:=fun i e=>by unfold rcod;split <;> rfl
 induction d with
 | zero =>
  intro i at_ e acc hi hat ha h1 h2
  refine ⟨some [],?_,fun q hq=>by cases hq;simp [rnil,gams]⟩
  refine step1 (fun _ _ _ _ _=>Cf.l1.eq_2 ..) ?_
  refine negD (by omega) (nowE ?_)
  simp [rnil,gams]
 | succ d ih =>
  intro i at_ e acc hi hat ha he1 he2
  have hrd:=Read_ev h (by omega) hat
  cases hrg:rg l at_ with
  | none =>
   rw [hrg] at hrd
   refine ⟨none,?_,fun q hq=>by cases hq⟩
   refine step1 (fun _ _ _ _ _=>Cf.l1.eq_2 ..) ?_
   exact posD (by omega) (bnd hrd (pos rfl (now _)))
  | some p =>
   obtain ⟨x,n⟩:=p
   rw [hrg] at hrd
   obtain ⟨k,rfl,k0,k1,hp,rfl⟩:=rg_can h hrg
   have hpl:=pre_len hp
   have hrd2:=Read_ev h (by omega) (show at_+(gam k).length≤l.length by omega)
   cases hrg2:rg l (at_+(gam k).length) with
   | none =>
    rw [hrg2] at hrd2
    refine ⟨none,?_,fun q hq=>by cases hq⟩
    refine step1 (fun _ _ _ _ _=>Cf.l1.eq_2 ..) ?_
    exact posD (by omega) (bnd hrd (negB rfl (bnd hrd2 (pos rfl (now _)))))
   | some p2 =>
    obtain ⟨x2,n2⟩:=p2
    rw [hrg2] at hrd2
    obtain ⟨j,rfl,j0,j1,hp2,rfl⟩:=rg_can h hrg2
    have hpl2:=pre_len hp2
    have hu:=unf_rng (n:=k-1) (by omega)
    generalize hyy:(if i=0 then v+unf ((k-1:Nat):Int) else e+(k:Int))=y
    have y0:-8589934592*((i:Int)+1)-1073741900≤y∧y≤8589934592*((i:Int)+1)+1073741900:=by
     rw [← hyy];split <;> omega
    have hnum:(if i=0 then fold (y-v)+1 else (y-e).toNat)=k:=by
     rw [← hyy]
     by_cases h0:i=0
     ·rw [if_pos h0,if_pos h0,show v+unf ((k-1:Nat):Int)-v=unf ((k-1:Nat):Int) by omega,fold_unf];omega
     ·rw [if_neg h0,if_neg h0];omega
    obtain ⟨r,e1,e2⟩:=ih (i+1) (at_+(gam k).length+(gam j).length) (y+((j:Int)+2)) (acc++[(y,(j:Int)+2)]) (by omega) (by omega) (by simp;omega) (by push_cast;omega) (by push_cast;omega)
    rw [if_neg (by omega),show i+1+d=i+(d+1) by omega] at e1
    have main:∀ {res:List Ao × Int × Bool},E1 (fun K k'=>Cf.l1 K (pack l) k' ((at_+(gam k).length+(gam j).length:Nat):Int) (y+((j:Int)+2)) ((i+(d+1):Nat):Int) ((i+1:Nat):Int) (acc++[(y,(j:Int)+2)])) res →
      E1 (fun K k'=>Cf.l1 K (pack l) k' (at_:Int) (if i=0 then v else e) ((i+(d+1):Nat):Int) (i:Int) acc) res:=by
     intro res h1
     refine step1 (fun _ _ _ _ _=>Cf.l1.eq_2 ..) ?_
     refine posD (by omega) (bnd hrd (negB rfl (bnd hrd2 (negB rfl ?_))))
     have hj:∀ {m last':Int},last'+m=y→E1 (fun K k'=>Cf.j2 K (Cf.l1 K (pack l) k') ((j:Int),((at_+(gam k).length+(gam j).length:Nat):Int),true) ((i+(d+1):Nat):Int) (i:Int) acc last' (pack l) m) res:=by
      intro m last' hm
      have f1:wr .i64 (wr .i64 ((j:Int)-1)+3)=(j:Int)+2:=by rw [w64 (i:=(j:Int)-1) (by omega) (by omega),w64 (by omega) (by omega)];omega
      unfold Cf.j2
      simp only [hm,f1]
      rw [w64 (i:=y) (by omega) (by omega),w64 (i:=y+((j:Int)+2)) (by omega) (by omega),w1 (by omega)]
      exact pos (by simp;omega) h1
     by_cases h0:i=0
     ·refine posE (by omega) ?_
      rw [if_pos h0] at hyy ⊢
      have hu2:∀ K,Eo K (wr .i64 ((k:Int)-1))=some (unf ((k-1:Nat):Int)):=by
       intro K
       rw [w64 (by omega) (by omega),show (k:Int)-1=((k-1:Nat):Int) by omega]
       exact unfold_eq (by omega)
      exact bnd (congr (fun K _ _ _ _=>hu2 K) (now _)) (hj hyy)
     ·refine negE (by omega) ?_
      rw [if_neg h0] at hyy ⊢
      exact hj hyy
    cases r with
    | none=>exact ⟨none,main e1,fun q hq=>by cases hq⟩
    | some q =>
     obtain ⟨a1,a2⟩:=e2 q rfl
     have hc:rcod v i e ((y,(j:Int)+2)::q)=k::j::rcod v (i+1) (y+((j:Int)+2)) q:=by
      rw [rcod_cons]
      show (if i=0 then fold (y-v)+1 else (y-e).toNat)::((j:Int)+2-2).toNat::_=_
      rw [hnum,show ((j:Int)+2-2).toNat=j by omega]
     refine ⟨some ((y,(j:Int)+2)::q),main (ofEq e1 ?_),fun q' hq=>?_⟩
     ·simp only [hc,gams_cons,List.length_append,List.append_assoc,List.cons_append,List.nil_append,Nat.add_assoc]
     ·cases hq
      refine ⟨by simp [a1],?_⟩
      rw [hc,gams_cons,gams_cons]
      exact pre_app hp (pre_app hp2 a2)
def IsR (l:List Int) (at_:Nat) (v:Int) (q:List Int):Prop:=MayP q∧runb v q <+: l.drop at_
theorem rread_any {l:List Int} (h:Bt l) (hb:l.length≤1000000) {v:Int} (hv:0≤v) (hv2:v≤15) {at_:Nat} (hat:at_≤l.length) :
  ∃ res:List Int × Int × Bool,E0 (fun K=>Fv K (pack l) (at_:Int) v) res∧(res.2.2=true→∃ q,IsR l at_ v q∧res=(q,((at_+(runb v q).length:Nat):Int),true)):=by
 have bad:∀ {res:List Int × Int × Bool},res=([],0,false)→(res.2.2=true→∃ q,IsR l at_ v q∧res=(q,((at_+(runb v q).length:Nat):Int),true)):=by
  rintro res rfl h;cases h
 have hrd:=Read_ev h (by omega) hat
 cases hrg:rg l at_ with
 | none =>
  rw [hrg] at hrd
  exact ⟨_,bnd (bnd hrd (pos rfl (now _))) (pos rfl (now _)),bad rfl⟩
 | some p =>
  obtain ⟨x,n⟩:=p
  rw [hrg] at hrd
  obtain ⟨k,rfl,k0,k1,hp,rfl⟩:=rg_can h hrg
  have hpl:=pre_len hp
  by_cases c:(k:Int) > 16
  ·exact ⟨_,bnd (bnd hrd (negB rfl (posD c (now _)))) (pos rfl (now _)),bad rfl⟩
  ·obtain ⟨r,e1,e2⟩:=rread_l1 h hb hv hv2 (k-1) 0 (at_+(gam k).length) 0 [] (by omega) (by omega) (by simp) (by omega) (by omega)
   have e0:wr .i64 ((k:Int)-1)=((0+(k-1):Nat):Int):=by rw [w64 (by omega) (by omega)];omega
   cases r with
   | none =>
    have h1:E0 (fun K=>Cf K (pack l) (at_:Int) v) ([],0,false):=bnd hrd (negB rfl (negD c (by rw [e0];exact e1.e1)))
    exact ⟨_,bnd h1 (pos rfl (now _)),bad rfl⟩
   | some q =>
    obtain ⟨a1,a2⟩:=e2 q rfl
    have h1:E0 (fun K=>Cf K (pack l) (at_:Int) v) (q,((at_+(gam k).length+(gams (rcod v 0 0 q)).length:Nat):Int),true):=bnd hrd (negB rfl (negD c (by rw [e0];exact e1.e1)))
    have hpl2:=pre_len a2
    obtain ⟨r2,g1,g2⟩:=gread_any h hb hv hv2 (at_:=at_+(gam k).length+(gams (rcod v 0 0 q)).length) (by omega)
    cases r2 with
    | none=>exact ⟨_,bnd h1 (negB rfl (bnd g1 (pos rfl (now _)))),bad rfl⟩
    | some s =>
     obtain ⟨s1,s2⟩:=g2 s rfl
     have hsl:=s1.len
     have hw:=Whole_ev (r:=q) (q:=s) (by omega) (by omega)
     by_cases hok:OkR (-1) q
     ·rw [if_pos hok,if_pos s1] at hw
      by_cases hm:MayP (sortF (s++alls q))
      ·rw [decide_eq_true hm] at hw
       have hml:=hm.len
       generalize hL:sortF (s++alls q)=L at *
       have hp2:=parts_may hm
       have hr:=(hp2.1.len (by omega)).1
       have hr2:=(hp2.1.len (by omega)).2
       have hsm2:=hp2.2.1.len
       refine ⟨(L,((at_+(gam k).length+(gams (rcod v 0 0 q)).length+(gap v s).length:Nat):Int),decide (parts L=(q,s))),bnd h1 (negB rfl (bnd g1 (negB rfl (bnd hw (negB rfl (bnd (Parts_ev (may_Sm hm)) (bnd (equalR_ev (parts L).1 q (by omega)) ?_))))))),fun hd=>?_⟩
       ·by_cases d1:(parts L).1=q
        ·refine pos (decide_eq_true d1) (bnd (equal_ev (parts L).2 s (by omega)) (nowE ?_))
         have:decide ((parts L).2=s)=decide (parts L=(q,s)):=by
          rw [Bool.eq_iff_iff,decide_eq_true_iff,decide_eq_true_iff,Prod.ext_iff];simp [d1]
         simp only [this]
        ·refine neg (by simpa using d1) (nowE ?_)
         rw [decide_eq_false (fun z=>d1 (by rw [z]))]
       ·have hd:=of_decide_eq_true hd
        have hbb:runb v L=gam k++(gams (rcod v 0 0 q)++gap v s):=by
         rw [runb,hd,gams_cons,a1,show k-1+1=k by omega,List.append_assoc];rfl
        refine ⟨L,⟨hm,?_⟩,?_⟩
        ·rw [hbb];exact pre_app hp (pre_app a2 s2)
        ·rw [decide_eq_true hd,hbb];simp only [List.length_append,Nat.add_assoc]
      ·rw [decide_eq_false hm] at hw
       exact ⟨_,bnd h1 (negB rfl (bnd g1 (negB rfl (bnd hw (pos rfl (now _)))))),bad rfl⟩
     ·rw [if_neg hok] at hw
      exact ⟨_,bnd h1 (negB rfl (bnd g1 (negB rfl (bnd hw (pos rfl (now _)))))),bad rfl⟩
open Classical in
noncomputable def tkR (l:List Int) (at_:Nat) (v:Int):Option (List Int × Nat):=if h:∃ q,IsR l at_ v q then some (h.choose,at_+(runb v h.choose).length) else none
theorem tkR_some {l:List Int} {at_:Nat} {v:Int} {q:List Int} {n:Nat} (h:tkR l at_ v=some (q,n)):IsR l at_ v q∧n=at_+(runb v q).length:=by
 unfold tkR at h
 split at h
 ·rename_i hq;cases h;exact ⟨hq.choose_spec,rfl⟩
 ·cases h
theorem tkR_none {l:List Int} {at_:Nat} {v:Int} (h:tkR l at_ v=none) (q:List Int):¬ IsR l at_ v q:=by
 unfold tkR at h
 split at h
 ·cases h
 ·rename_i hq;exact fun z=>hq ⟨q,z⟩
theorem rread_tk {l:List Int} (h:Bt l) (hb:l.length≤1000000) {v:Int} (hv:0≤v) (hv2:v≤15) {at_:Nat} (hat:at_≤l.length) :
  ∃ res:List Int × Int × Bool,E0 (fun K=>Fv K (pack l) (at_:Int) v) res∧(match tkR l at_ v with | some (q,n)=>res=(q,(n:Int),true) | none=>res.2.2=false):=by
 obtain ⟨res,e1,e2⟩:=rread_any h hb hv hv2 hat
 refine ⟨res,e1,?_⟩
 cases ht:tkR l at_ v with
 | none =>
  simp only
  cases hb2:res.2.2 with
  | false=>rfl
  | true =>
   obtain ⟨q,hq,_⟩:=e2 hb2
   exact absurd hq (tkR_none ht q)
 | some p =>
  obtain ⟨q,n⟩:=p
  obtain ⟨⟨m,hp⟩,rfl⟩:=tkR_some ht
  obtain ⟨b,hb1,hb2⟩:=pre_split hat hp
  have hB:Bt (l.take at_):=fun x hx=>h x (List.mem_of_mem_take hx)
  have hBb:Bt b:=fun x hx=>h x (by rw [hb1];exact List.mem_append_right _ hx)
  have:=RRd_ev (a:=l.take at_) (b:=b) m hv hv2 hB hBb (by rw [← hb1];omega)
  rw [← hb1,List.length_append,hb2] at this
  exact e1.uniq this
end Go.XL
end
end
section
section
namespace Go.XL
open Go.XM
theorem cjoin_some {ref bl q l:List Int} (h:cjoin ref bl q=some l):MayP l∧cparts ref l=(bl,q):=by
 unfold cjoin at h
 split at h
 ·cases h
 ·split at h
  ·rename_i hc;cases h;exact hc.2.2
  ·cases h
theorem cwhole_any {ref bl q:List Int} (a:MayP ref) (b:MayP q) (hb:bl.length≤1000):∃ res:List Int × Bool,E0 (fun K=>Bc K ref bl q) res∧(match cjoin ref bl q with | some l=>res=(l,true) | none=>res.2=false):=by
 have ha:=a.len
 have hbl:=b.len
 obtain ⟨l,e,hl⟩:=cw_l1 (ref:=ref) (bl:=bl) (q:=q) (by omega) hb (by omega) 0 (by omega) ref true q (by omega) (by omega)
 rw [List.drop_zero] at e hl
 have hw:E0 (fun K=>Bc K ref bl q) _:=bnd (congr (fun K _ _ _ _=>clone_eq K q (by omega)) (now _)) e.e1
 unfold cjoin
 cases hp:pk true ref bl with
 | none =>
  rw [hp] at hw
  exact ⟨_,hw,rfl⟩
 | some P =>
  rw [hp] at hw
  refine ⟨_,hw,?_⟩
  by_cases hh:MayP (sortF (q++P))∧cparts ref (sortF (q++P))=(bl,q)
  ·simp only [if_pos (show MayP ref∧MayP q∧MayP (sortF (q++P))∧cparts ref (sortF (q++P))=(bl,q) from ⟨a,b,hh⟩)]
   rw [← hl P hp hh,decide_eq_true]
   rw [hl P hp hh];exact hh
  ·simp only [if_neg (show ¬ (MayP ref∧MayP q∧MayP (sortF (q++P))∧cparts ref (sortF (q++P))=(bl,q)) from fun h=>hh h.2.2)]
   exact decide_eq_false hh
def ccod (i:Nat) (q:List Int):List Nat:=if i=0 then cnum q else q.map Int.toNat
theorem ccod_nil (i:Nat):ccod i []=[]:=by unfold ccod;split <;> rfl
theorem ccod_cons (i:Nat) (n:Int) (q:List Int):ccod i (n::q)=(if i=0 then (n+1).toNat else n.toNat)::ccod (i+1) q:=by
 unfold ccod
 rw [if_neg (show ¬ i+1=0 by omega)]
 by_cases h:i=0
 ·rw [if_pos h,if_pos h];rfl
 ·rw [if_neg h,if_neg h];rfl
structure AtC (l:List Int) (v:Int) (ref:List Int) (i at_ d:Nat) (acc L q s:List Int):Prop where
 may:MayP L
 parts:cparts ref L=(acc++q,s)
 len:q.length=d
 nums:gams (ccod i q) <+: l.drop at_
 rest:runb v s <+: l.drop (at_+(gams (ccod i q)).length)
abbrev endC (v:Int) (i at_:Nat) (q s:List Int):Nat:=at_+(gams (ccod i q)).length+(runb v s).length
theorem AtC.cons {l:List Int} {v:Int} {ref:List Int} {i at_ d k:Nat} {acc L q s:List Int} (hp:gam k <+: l.drop at_) (h:AtC l v ref (i+1) (at_+(gam k).length) d (acc++[if i=0 then (k:Int)-1 else (k:Int)]) L q s) :
  AtC l v ref i at_ (d+1) acc L ((if i=0 then (k:Int)-1 else (k:Int))::q) s∧endC v i at_ ((if i=0 then (k:Int)-1 else (k:Int))::q) s=endC v (i+1) (at_+(gam k).length) q s:=by
 have hk:(if i=0 then ((if i=0 then (k:Int)-1 else (k:Int))+1).toNat else (if i=0 then (k:Int)-1 else (k:Int)).toNat)=k:=by
  by_cases h0:i=0
  ·simp only [if_pos h0];omega
  ·simp only [if_neg h0];omega
 have hc:ccod i ((if i=0 then (k:Int)-1 else (k:Int))::q)=k::ccod (i+1) q:=by rw [ccod_cons,hk]
 have h5:=h.rest
 refine ⟨⟨h.may,by rw [h.parts,List.append_assoc];rfl,by simp [h.len],?_,?_⟩,?_⟩
 ·rw [hc,gams_cons];exact pre_app hp h.nums
 ·rw [hc,gams_cons,List.length_append,← Nat.add_assoc];exact h5
 ·unfold endC;rw [hc,gams_cons,List.length_append];omega
theorem AtC.head {l:List Int} {v:Int} {ref:List Int} (hr:MayP ref) {i at_ d:Nat} {acc L q s:List Int} (hat:at_≤l.length) (ha:acc.length=i) (h:AtC l v ref i at_ (d+1) acc L q s) :
  ∃ (q':List Int) (k:Nat),k≤17∧rg l at_=some ((k:Int),at_+(gam k).length)∧AtC l v ref (i+1) (at_+(gam k).length) d (acc++[if i=0 then (k:Int)-1 else (k:Int)]) L q' s∧endC v i at_ q s=endC v (i+1) (at_+(gam k).length) q' s:=by
 obtain ⟨h1,h2,h3,h4,h5⟩:=h
 have hrl:=hr.len
 match q,h3 with
 | n::q',h3 =>
  have hbk:=cparts_blks (l:=L) hr
  rw [h2] at hbk
  have hmem:n∈acc++n::q':=by simp
  have hge:=hbk.ge n hmem
  have hsum:n≤16:=by
   have hs:=blk_sum (l:=L) (inn:=true) (m:=0) (r:=ref)
   have hcp:blk L true 0 ref=acc++n::q':=by have:=congrArg Prod.fst h2;exact this
   rw [hcp] at hs
   rcases hs with hs | hs
   ·have hall:∀ x∈acc++n::q',0≤x:=fun x hx=>(hbk.ge x hx).1
    have:∀ (L:List Int),(∀ x∈L,0≤x)→∀ y∈L,y≤L.sum:=by
     intro L
     induction L with
     | nil=>intro _ y hy;cases hy
     | cons z L ih =>
      intro hz y hy
      have hs0:0≤L.sum:=by
       clear ih hy
       induction L with
       | nil=>simp
       | cons w L ih2 =>
        have:=hz w (by simp)
        have:=ih2 (fun x hx=>hz x (by rcases List.mem_cons.1 hx with rfl | hx <;> simp [*]))
        simp only [List.sum_cons];omega
      have h0:=hz z List.mem_cons_self
      rw [List.sum_cons]
      rcases List.mem_cons.1 hy with rfl | hy
      ·omega
      ·have:=ih (fun x hx=>hz x (List.mem_cons_of_mem _ hx)) y hy;omega
    have:=this _ hall n hmem
    omega
   ·simp at hs
  have hc:=ccod_cons i n q'
  generalize hk:(if i=0 then (n+1).toNat else n.toNat)=k at hc
  have hn:n=if i=0 then (k:Int)-1 else (k:Int):=by
   rw [← hk]
   by_cases h0:i=0
   ·simp only [if_pos h0];omega
   ·simp only [if_neg h0];omega
  have hk1:0<k∧k≤17:=by
   rw [← hk]
   by_cases h0:i=0
   ·rw [if_pos h0];omega
   ·rw [if_neg h0]
    have:=hbk.one i (by omega) (by simp;omega)
    rw [List.getD_eq_getElem?_getD,List.getElem?_append_right (by omega),ha] at this
    simp at this;omega
  rw [hc,gams_cons] at h4 h5
  obtain ⟨p1,p2⟩:=pre_inv h4
  refine ⟨q',k,hk1.2,rg_pre hat hk1.1 (by omega) p1,⟨h1,by rw [h2,← hn,List.append_assoc];rfl,by simpa using h3,p2,?_⟩,?_⟩
  ·rw [List.length_append,← Nat.add_assoc] at h5;exact h5
  ·unfold endC;rw [hc,gams_cons,List.length_append];omega
theorem cread_l1 {l:List Int} (h:Bt l) (hb:l.length≤1000000) {v:Int} (hv:0≤v) (hv2:v≤15) {ref:List Int} (hr:MayP ref):∀ (d i at_:Nat) (acc:List Int),i+d≤17→at_≤l.length→acc.length=i →
  ∃ res:List Int × Int × Bool,E1 (fun K k=>Cu.l1 K (pack l) v ref k (at_:Int) ((i+d:Nat):Int) (i:Int) acc) res∧(res.2.2=true→∃ L q s,AtC l v ref i at_ d acc L q s∧res=(L,((endC v i at_ q s:Nat):Int),true)):=by
 intro d
 induction d with
 | zero =>
  intro i at_ acc hi hat ha
  obtain ⟨rs,g1,g2⟩:=rread_tk h hb hv hv2 hat
  have start:∀ {res:List Int × Int × Bool},Ev (fun K _ _ _ _=>if (!rs.2.2) then some (([]:List Int),0,false) else (Bc K ref acc rs.1).bind fun r66=>some (r66.1,rs.2.1,r66.2)) res→E1 (fun K k=>Cu.l1 K (pack l) v ref k (at_:Int) ((i+0:Nat):Int) (i:Int) acc) res:=by
   intro res hh
   refine step1 (fun _ _ _ _ _=>Cu.l1.eq_2 ..) ?_
   exact negD (by omega) (bnd g1 hh)
  cases ht:tkR l at_ v with
  | none =>
   rw [ht] at g2
   refine ⟨([],0,false),start (pos (by rw [g2];rfl) (now _)),fun hh=>by cases hh⟩
  | some p =>
   obtain ⟨s,n⟩:=p
   rw [ht] at g2
   simp only at g2
   subst g2
   obtain ⟨⟨s1,s2⟩,rfl⟩:=tkR_some ht
   obtain ⟨rw_,w1_,w2⟩:=cwhole_any (bl:=acc) hr s1 (by omega)
   refine ⟨(rw_.1,((at_+(runb v s).length:Nat):Int),rw_.2),start (negB rfl (bnd w1_ (now _))),fun hh=>?_⟩
   cases hj:cjoin ref acc s with
   | none=>rw [hj] at w2;simp only at w2 hh;rw [w2] at hh;cases hh
   | some L =>
    rw [hj] at w2
    simp only at w2
    subst w2
    obtain ⟨k1,k2⟩:=cjoin_some hj
    refine ⟨L,[],s,⟨k1,by rw [k2,List.append_nil],rfl,by rw [ccod_nil];exact List.nil_prefix,by rw [ccod_nil];exact s2⟩,?_⟩
    unfold endC;rw [ccod_nil];rfl
 | succ d ih =>
  intro i at_ acc hi hat ha
  have hrd:=Read_ev h (by omega) hat
  cases hrg:rg l at_ with
  | none =>
   rw [hrg] at hrd
   refine ⟨([],0,false),?_,fun hh=>by cases hh⟩
   refine step1 (fun _ _ _ _ _=>Cu.l1.eq_2 ..) ?_
   exact posD (by omega) (bnd hrd (pos rfl (now _)))
  | some p =>
   obtain ⟨x,n⟩:=p
   rw [hrg] at hrd
   obtain ⟨k,rfl,k0,k1,hp,rfl⟩:=rg_can h hrg
   have hpl:=pre_len hp
   obtain ⟨res,e1,e2⟩:=ih (i+1) (at_+(gam k).length) (acc++[if i=0 then (k:Int)-1 else (k:Int)]) (by omega) (by omega) (by simp [ha])
   rw [show i+1+d=i+(d+1) by omega] at e1
   refine ⟨res,?_,fun hh=>?_⟩
   ·refine step1 (fun _ _ _ _ _=>Cu.l1.eq_2 ..) ?_
    refine posD (by omega) (bnd hrd (negB rfl ?_))
    simp only
    rw [w64 (i:=(k:Int)-1) (by omega) (by omega),w1 (by omega)]
    by_cases h0:i=0
    ·rw [if_pos h0] at e1
     exact posE (by omega) (pos (by simp;omega) e1)
    ·rw [if_neg h0] at e1
     exact negE (by omega) (pos (by simp;omega) e1)
   ·obtain ⟨L,q,s,hA,hres⟩:=e2 hh
    obtain ⟨c1,c2⟩:=hA.cons hp
    exact ⟨L,_,s,c1,by rw [hres,c2]⟩
def IsC (l:List Int) (at_:Nat) (v:Int) (ref q:List Int):Prop:=MayP q∧copb v ref q <+: l.drop at_
open Classical in
noncomputable def tkC (l:List Int) (at_:Nat) (v:Int) (ref:List Int):Option (List Int × Nat):=if h:∃ q,IsC l at_ v ref q then some (h.choose,at_+(copb v ref h.choose).length) else none
theorem tkC_some {l:List Int} {at_:Nat} {v:Int} {ref q:List Int} {n:Nat} (h:tkC l at_ v ref=some (q,n)):IsC l at_ v ref q∧n=at_+(copb v ref q).length:=by
 unfold tkC at h
 split at h
 ·rename_i hq;cases h;exact ⟨hq.choose_spec,rfl⟩
 ·cases h
theorem tkC_none {l:List Int} {at_:Nat} {v:Int} {ref:List Int} (h:tkC l at_ v ref=none) (q:List Int):¬ IsC l at_ v ref q:=by
 unfold tkC at h
 split at h
 ·cases h
 ·rename_i hq;exact fun z=>hq ⟨q,z⟩
theorem copb_eq {v:Int} {ref L:List Int}:copb v ref L=gam ((cparts ref L).1.length+1)++(gams (ccod 0 (cparts ref L).1)++runb v (cparts ref L).2):=by
 rw [copb,gams_cons,List.append_assoc];rfl
theorem at_isC {l:List Int} {at_ k:Nat} {v:Int} {ref L q s:List Int} (hp:gam k <+: l.drop at_) (hk:0<k) (h:AtC l v ref 0 (at_+(gam k).length) (k-1) [] L q s):IsC l at_ v ref L∧endC v 0 (at_+(gam k).length) q s=at_+(copb v ref L).length:=by
 obtain ⟨h1,h2,h3,h4,h5⟩:=h
 rw [List.nil_append] at h2
 have hc:copb v ref L=gam k++(gams (ccod 0 q)++runb v s):=by rw [copb_eq,h2];simp only;rw [h3,show k-1+1=k by omega]
 refine ⟨⟨h1,?_⟩,?_⟩
 ·rw [hc];exact pre_app hp (pre_app h4 h5)
 ·unfold endC;rw [hc,List.length_append,List.length_append];omega
theorem cread_tk {l:List Int} (h:Bt l) (hb:l.length≤1000000) {v:Int} (hv:0≤v) (hv2:v≤15) {ref:List Int} (hr:MayP ref) {at_:Nat} (hat:at_≤l.length) :
  ∃ res:List Int × Int × Bool,E0 (fun K=>Cu K (pack l) (at_:Int) v ref) res∧(match tkC l at_ v ref with | some (q,n)=>res=(q,(n:Int),true) | none=>res.2.2=false):=by
 have snd:∃ res:List Int × Int × Bool,E0 (fun K=>Cu K (pack l) (at_:Int) v ref) res∧(res.2.2=true→∃ q,IsC l at_ v ref q):=by
  have hrd:=Read_ev h (by omega) hat
  cases hrg:rg l at_ with
  | none =>
   rw [hrg] at hrd
   exact ⟨([],0,false),bnd hrd (pos rfl (now _)),fun hh=>by cases hh⟩
  | some p =>
   obtain ⟨x,n⟩:=p
   rw [hrg] at hrd
   obtain ⟨k,rfl,k0,k1,hp,rfl⟩:=rg_can h hrg
   have hpl:=pre_len hp
   by_cases c:(k:Int) > 17
   ·exact ⟨([],0,false),bnd hrd (negB rfl (posD c (now _))),fun hh=>by cases hh⟩
   ·obtain ⟨res,e1,e2⟩:=cread_l1 h hb hv hv2 hr (k-1) 0 (at_+(gam k).length) [] (by omega) (by omega) rfl
    have e0:wr .i64 ((k:Int)-1)=((0+(k-1):Nat):Int):=by rw [w64 (by omega) (by omega)];omega
    refine ⟨res,bnd hrd (negB rfl (negD c ?_)),fun hh=>?_⟩
    ·simp only
     rw [e0];exact e1.e1
    ·obtain ⟨L,q,s,hA,_⟩:=e2 hh
     exact ⟨L,(at_isC hp k0 hA).1⟩
 obtain ⟨res,e1,e2⟩:=snd
 refine ⟨res,e1,?_⟩
 cases ht:tkC l at_ v ref with
 | none =>
  simp only
  cases hb2:res.2.2 with
  | false=>rfl
  | true =>
   obtain ⟨q,hq⟩:=e2 hb2
   exact absurd hq (tkC_none ht q)
 | some p =>
  obtain ⟨q,n⟩:=p
  obtain ⟨⟨m,hp⟩,rfl⟩:=tkC_some ht
  obtain ⟨b,hb1,hb2⟩:=pre_split hat hp
  have hB:Bt (l.take at_):=fun x hx=>h x (List.mem_of_mem_take hx)
  have hBb:Bt b:=fun x hx=>h x (by rw [hb1];exact List.mem_append_right _ hx)
  have:=CRd_ev (a:=l.take at_) (b:=b) hr m hv hv2 hB hBb (by rw [← hb1];omega)
  rw [← hb1,List.length_append,hb2] at this
  exact e1.uniq this
end Go.XL
end
end
section
section
namespace Go.XL
open Go.XM
noncomputable def tkL (l:List Int):Nat→Nat→Nat→Option (List (List Int) × Nat)
 | 0,_,at_=>some ([],at_)
 | d+1,v,at_=>match tkR l at_ (v:Int) with
  | none=>none
  | some (q,n)=>match tkL l d (v+1) n with
   | none=>none
   | some (qs,m)=>some (q::qs,m)
theorem tkR_le {l:List Int} {at_:Nat} {v:Int} {q:List Int} {n:Nat} (hat:at_≤l.length) (h:tkR l at_ v=some (q,n)):MayP q∧n≤l.length:=by
 obtain ⟨⟨h1,h2⟩,rfl⟩:=tkR_some h
 have:=pre_len h2
 exact ⟨h1,by omega⟩
theorem tkL_spec {l:List Int}:∀ {d v at_:Nat} {qs:List (List Int)} {m:Nat},at_≤l.length→tkL l d v at_=some (qs,m)→qs.length=d∧(∀ q∈qs,MayP q)∧m≤l.length
 | 0,v,at_,qs,m,hat,h=>by cases h;exact ⟨rfl,fun q hq=>absurd hq (by simp),hat⟩
 | d+1,v,at_,qs,m,hat,h=>by
  simp only [tkL] at h
  split at h
  ·cases h
  ·rename_i q n hr
   obtain ⟨h1,h2⟩:=tkR_le hat hr
   split at h
   ·cases h
   ·rename_i qs' m' hl
    cases h
    obtain ⟨a1,a2,a3⟩:=tkL_spec h2 hl
    refine ⟨by simp [a1],fun y hy=>?_,a3⟩
    rcases List.mem_cons.1 hy with rfl | hy
    ·exact h1
    ·exact a2 y hy
theorem tkL_none {l:List Int} {d v at_:Nat} (h:tkR l at_ (v:Int)=none):tkL l (d+1) v at_=none:=by rw [tkL,h]
theorem tkL_bad {l:List Int} {d v at_ n:Nat} {q:List Int} (h:tkR l at_ (v:Int)=some (q,n)) (h2:tkL l d (v+1) n=none):tkL l (d+1) v at_=none:=by rw [tkL,h];simp only [h2]
theorem tkL_ok {l:List Int} {d v at_ n m:Nat} {q:List Int} {qs:List (List Int)} (h:tkR l at_ (v:Int)=some (q,n)) (h2:tkL l d (v+1) n=some (qs,m)):tkL l (d+1) v at_=some (q::qs,m):=by rw [tkL,h];simp only [h2]
theorem lsum_le {c:Nat}:∀ {ls:List (List Int)},(∀ y∈ls,y.length≤c)→lsum ls≤c*ls.length
 | [],_=>by simp [lsum]
 | y::ls,h=>by
  have h1:=h y List.mem_cons_self
  have h2:=lsum_le (c:=c) (ls:=ls) (fun z hz=>h z (List.mem_cons_of_mem _ hz))
  rw [lsum_cons,List.length_cons,Nat.mul_succ];omega
theorem gsm16 {n:Int} {ls:List (List Int)} (h:ls.length≤16) (h2:∀ y∈ls,y.length≤16):GSm (n,ls):=by
 have:=lsum_le h2
 show ls.length+lsum ls≤1000000
 omega
abbrev G0:Aa:=(0,[])
theorem splice_set {acc:List (List Int)} {q:List Int} {qs:List (List Int)} {v d:Nat} (hv:v<acc.length):(acc.set v q).take (v+1)++qs++(acc.set v q).drop (v+1+d)=acc.take v++(q::qs)++acc.drop (v+(d+1)):=by
 have h1:(acc.set v q).take (v+1)=acc.take v++[q]:=by
  rw [take_getD (d:=[]) (by simpa using hv),getD_set _ _ _ _ hv,if_pos rfl,List.take_set_of_le (Nat.le_refl _)]
 have h2:(acc.set v q).drop (v+1+d)=acc.drop (v+(d+1)):=by
  rw [List.drop_set_of_lt (by omega),show v+1+d=v+(d+1) by omega]
 rw [h1,h2,List.append_assoc,List.append_assoc,List.append_assoc];rfl
theorem lists_l1 {l:List Int} (h:Bt l) (hb:l.length≤1000000) {n f:Nat} (hf:f≤n) (hn:n≤16) {r:List (List Int)}:∀ (d v at_:Nat) (acc:List (List Int)),v+d=f→at_≤l.length→acc.length=n→(∀ y∈acc,y.length≤16) →
  E1 (fun K k=>Bn.l1 K ((n:Int),r) (f:Int) k (at_:Int) (v:Int) (pack l).Data (pack l).N 0 acc) (match tkL l d v at_ with | none=>(G0,0,false,pack l) | some (qs,m)=>(((n:Int),acc.take v++qs++acc.drop (v+d)),(m:Int),decide (GraphP ((n:Int),acc.take v++qs++acc.drop (v+d))),pack l)):=by
 intro d
 induction d with
 | zero =>
  intro v at_ acc hv hat hl ha
  refine step1 (fun _ _ _ _ _=>Bn.l1.eq_2 ..) ?_
  refine negD (by omega) (bnd (gmayG_ev ((n:Int),acc) (gsm16 (by omega) ha)) (nowE ?_))
  simp only [tkL,List.append_nil,Nat.add_zero,List.take_append_drop]
 | succ d ih =>
  intro v at_ acc hv hat hl ha
  obtain ⟨res,e1,e2⟩:=rread_tk h hb (v:=(v:Int)) (by omega) (by omega) hat
  have r1:E0 (fun K=>F9 K (at_:Int) (v:Int) (pack l)) (res.1,res.2.1,res.2.2,pack l):=bnd e1 (now _)
  refine step1 (fun _ _ _ _ _=>Bn.l1.eq_2 ..) ?_
  refine posD (by omega) (bnd r1 ?_)
  cases ht:tkR l at_ (v:Int) with
  | none =>
   rw [ht] at e2
   rw [tkL_none ht]
   exact pos (by rw [e2];rfl) (now _)
  | some p =>
   obtain ⟨q,m⟩:=p
   rw [ht] at e2
   simp only at e2
   subst e2
   obtain ⟨h1,h2⟩:=tkR_le hat ht
   have hql:=h1.len
   have hi:=ih (v+1) m (acc.set v q) (by omega) h2 (by simp [hl]) (fun y hy=>by
    rcases List.mem_or_eq_of_mem_set hy with hy | rfl
    ·exact ha y hy
    ·exact hql)
   refine negB rfl (pos (by omega) ?_)
   rw [w1 (by omega),Int.toNat_natCast]
   refine ofEq hi ?_
   cases hT:tkL l d (v+1) m with
   | none=>rw [tkL_bad ht hT]
   | some p =>
    obtain ⟨qs,m'⟩:=p
    rw [tkL_ok ht hT]
    simp only [splice_set (show v<acc.length by omega)]
noncomputable def hdF (l:List Int):Option (Nat × Nat):=match rg l 0 with
 | none=>none
 | some (k,m)=>if k > 17 then none else some (k.toNat-1,m)
theorem hdF_le {l:List Int} (h:Bt l) {n m:Nat} (hh:hdF l=some (n,m)):n≤16∧m≤l.length:=by
 unfold hdF at hh
 split at hh
 ·cases hh
 ·rename_i k m' hr
  split at hh
  ·cases hh
  ·cases hh
   obtain ⟨j,rfl,j0,j1,hp,rfl⟩:=rg_can h hr
   have:=pre_len hp
   exact ⟨by omega,by omega⟩
theorem fhead_any {l:List Int} (h:Bt l) (hb:l.length≤1000000):E0 (fun K=>F6 K (pack l)) (match hdF l with | none=>(0,0,false) | some (n,m)=>((n:Int),(m:Int),true)):=by
 have hrd:=Read_ev h (by omega) (at_:=0) (by omega)
 unfold hdF
 cases hr:rg l 0 with
 | none =>
  rw [hr] at hrd
  exact bnd hrd (pos rfl (now _))
 | some p =>
  obtain ⟨k,m⟩:=p
  rw [hr] at hrd
  obtain ⟨j,rfl,j0,j1,hp,rfl⟩:=rg_can h hr
  by_cases c:(j:Int) > 17
  ·simp only [if_pos c]
   exact bnd hrd (negB rfl (posD c (now _)))
  ·simp only [if_neg c]
   refine bnd hrd (negB rfl (negD c (nowE ?_)))
   simp only
   rw [w64 (by omega) (by omega)]
   congr 1;omega
noncomputable def tkF (l:List Int):Option Aa:=match hdF l with
 | none=>none
 | some (n,at_)=>match tkL l n 0 at_ with
  | none=>none
  | some (qs,m)=>if m=l.length∧GraphP ((n:Int),qs) then some ((n:Int),qs) else none
theorem tkF_G {l:List Int} {g:Aa} (h:tkF l=some g):GraphP g:=by
 unfold tkF at h
 split at h
 ·cases h
 ·split at h
  ·cases h
  ·split at h
   ·rename_i hc;cases h;exact hc.2
   ·cases h
theorem rep_len {n:Nat}:∀ y∈List.replicate n ([]:List Int),y.length≤16:=by
 intro y hy
 obtain ⟨_,rfl⟩:=List.mem_replicate.1 hy
 simp
theorem fread_any {l:List Int} (h:Bt l) (hb:l.length≤1000000):∃ res:Aa × Bool,E0 (fun K=>Gm K (pack l)) res∧(match tkF l with | some g=>res=(g,true) | none=>res.2=false):=by
 have hh:=fhead_any h hb
 unfold tkF
 cases hd:hdF l with
 | none =>
  rw [hd] at hh
  exact ⟨(G0,false),bnd hh (pos rfl (now _)),rfl⟩
 | some p =>
  obtain ⟨n,at_⟩:=p
  rw [hd] at hh
  obtain ⟨hn,hat⟩:=hdF_le h hd
  have hl:=(lists_l1 h hb (Nat.le_refl n) hn (r:=List.replicate n []) n 0 at_ (List.replicate n []) (by omega) hat (by simp) rep_len).e1
  have hl2:E0 (fun K=>Bn K (n:Int) (n:Int) (at_:Int) (pack l)) _:=bnd (congr (fun K _ _ _ _=>empty_eq hn) (now _)) hl
  simp only
  cases ht:tkL l n 0 at_ with
  | none =>
   rw [ht] at hl2
   exact ⟨(G0,false),bnd hh (negB rfl (bnd hl2 (negB rfl (now _)))),rfl⟩
  | some p =>
   obtain ⟨qs,m⟩:=p
   rw [ht] at hl2
   obtain ⟨q1,q2,q3⟩:=tkL_spec hat ht
   have hs:(List.replicate n ([]:List Int)).take 0++qs++(List.replicate n ([]:List Int)).drop (0+n)=qs:=by simp
   simp only [hs] at hl2
   simp only
   by_cases c:GraphP ((n:Int),qs)
   ·rw [decide_eq_true c] at hl2
    refine ⟨(((n:Int),qs),((m:Int) == (l.length:Int))),bnd hh (negB rfl (bnd hl2 (pos rfl (now _)))),?_⟩
    by_cases e:m=l.length
    ·rw [if_pos ⟨e,c⟩,e];simp
    ·rw [if_neg (fun z=>e z.1)]
     show (((m:Int) == (l.length:Int)))=false
     simp;omega
   ·rw [decide_eq_false c] at hl2
    rw [if_neg (fun z=>c z.2)]
    exact ⟨(((n:Int),qs),false),bnd hh (negB rfl (bnd hl2 (negB rfl (now _)))),rfl⟩
end Go.XL
end
end
section
section
namespace Go.XL
open Go.XM
theorem copyL_ev (xs:List (List Int)) (hl:xs.length≤1000000) (hx:∀ y∈xs,y.length≤1000000):E0 (fun K=>Az K xs) xs:=by
 have key:∀ i,i≤xs.length→E1 (fun K k=>Az.l1 K xs k (i:Int) (xs.take i)) xs:=by
  refine upto ?_ ?_
  ·refine step1 (fun _ _ _ _ _=>Az.l1.eq_2 ..) ?_
   exact negD (by omega) (nowE List.take_length)
  ·intro i hi ih
   have hy:=hx _ (getD_mem (d:=[]) hi)
   refine step1 (fun _ _ _ _ _=>Az.l1.eq_2 ..) ?_
   refine posD (by omega) (pos (by omega) ?_)
   rw [rd1N]
   refine bnd (copy_ev _ hy) (pos (by simp;omega) ?_)
   rw [w1 (by omega),← take_getD (d:=[]) hi]
   exact ih
 exact (key 0 (by omega)).e1
theorem copyG_ev (g:Aa) (hs:GSm g):E0 (fun K=>Ef K g) g:=by
 unfold GSm at hs
 exact bnd (copyL_ev g.Out (by omega) (fun y hy=>by have:=lsum_mem hy;omega)) (now _)
section
variable {ts:List Ap}
end
variable {x:Dh}
end Go.XL
end
end
section
section
namespace Go.XL
open Go.XM
noncomputable def tkM (l:List Int) (b:Aa):Nat→Nat→Nat→Option (List (List Int) × Nat)
 | 0,_,at_=>some ([],at_)
 | d+1,v,at_=>match tkC l at_ (v:Int) (dl b v) with
  | none=>none
  | some (q,n)=>match tkM l b d (v+1) n with
   | none=>none
   | some (qs,m)=>some (q::qs,m)
theorem tkC_le {l:List Int} {at_:Nat} {v:Int} {ref q:List Int} {n:Nat} (hat:at_≤l.length) (h:tkC l at_ v ref=some (q,n)):MayP q∧n≤l.length:=by
 obtain ⟨⟨h1,h2⟩,rfl⟩:=tkC_some h
 have:=pre_len h2
 exact ⟨h1,by omega⟩
variable {b:Aa}
theorem tkM_none {l:List Int} {d v at_:Nat} (h:tkC l at_ (v:Int) (dl b v)=none):tkM l b (d+1) v at_=none:=by rw [tkM,h]
theorem tkM_bad {l:List Int} {d v at_ n:Nat} {q:List Int} (h:tkC l at_ (v:Int) (dl b v)=some (q,n)) (h2:tkM l b d (v+1) n=none):tkM l b (d+1) v at_=none:=by rw [tkM,h];simp only [h2]
theorem tkM_ok {l:List Int} {d v at_ n m:Nat} {q:List Int} {qs:List (List Int)} (h:tkC l at_ (v:Int) (dl b v)=some (q,n)) (h2:tkM l b d (v+1) n=some (qs,m)):tkM l b (d+1) v at_=some (q::qs,m):=by rw [tkM,h];simp only [h2]
theorem dlists_l1 {l:List Int} (h:Bt l) (hb:l.length≤1000000) (hG:GP b) {n f:Nat} (hf:f≤n) (hn:n≤16) {r:List (List Int)}:∀ (d v at_:Nat) (acc:List (List Int)),v+d=f→at_≤l.length→acc.length=n→(∀ y∈acc,y.length≤16) →
  E1 (fun K k=>Bo.l1 K ((n:Int),r) (f:Int) k (at_:Int) (v:Int) (pack l).Data (pack l).N b.N b.Out 0 acc) (match tkM l b d v at_ with | none=>(G0,0,false,pack l,b) | some (qs,m)=>(((n:Int),acc.take v++qs++acc.drop (v+d)),(m:Int),decide (GraphP ((n:Int),acc.take v++qs++acc.drop (v+d))),pack l,b)):=by
 intro d
 induction d with
 | zero =>
  intro v at_ acc hv hat hl ha
  refine step1 (fun _ _ _ _ _=>Bo.l1.eq_2 ..) ?_
  refine negD (by omega) (bnd (gmayG_ev ((n:Int),acc) (gsm16 (by omega) ha)) (nowE ?_))
  simp only [tkM,List.append_nil,Nat.add_zero,List.take_append_drop]
 | succ d ih =>
  intro v at_ acc hv hat hl ha
  obtain ⟨res,e1,e2⟩:=cread_tk h hb (v:=(v:Int)) (by omega) (by omega) (dl_may hG v) hat
  have r1:E0 (fun K=>Ga K (at_:Int) (v:Int) (pack l) b) (res.1,res.2.1,res.2.2,pack l,b):=bnd (congr (fun K _ _ _ _=>dlist_eq hG K v) (now _)) (bnd e1 (now _))
  refine step1 (fun _ _ _ _ _=>Bo.l1.eq_2 ..) ?_
  refine posD (by omega) (bnd r1 ?_)
  cases ht:tkC l at_ (v:Int) (dl b v) with
  | none =>
   rw [ht] at e2
   rw [tkM_none ht]
   exact pos (by rw [e2];rfl) (now _)
  | some p =>
   obtain ⟨q,m⟩:=p
   rw [ht] at e2
   simp only at e2
   subst e2
   obtain ⟨h1,h2⟩:=tkC_le hat ht
   have hql:=h1.len
   have hi:=ih (v+1) m (acc.set v q) (by omega) h2 (by simp [hl]) (fun y hy=>by
    rcases List.mem_or_eq_of_mem_set hy with hy | rfl
    ·exact ha y hy
    ·exact hql)
   refine negB rfl (pos (by omega) ?_)
   rw [w1 (by omega),Int.toNat_natCast]
   refine ofEq hi ?_
   cases hT:tkM l b d (v+1) m with
   | none=>rw [tkM_bad ht hT]
   | some p =>
    obtain ⟨qs,m'⟩:=p
    rw [tkM_ok ht hT]
    simp only [splice_set (show v<acc.length by omega)]
noncomputable def tkD (l:List Int) (b:Aa):Option Aa:=match hdF l with
 | none=>none
 | some (n,at_)=>match tkM l b n 0 at_ with
  | none=>none
  | some (qs,m)=>if m=l.length∧GraphP ((n:Int),qs) then some ((n:Int),qs) else none
theorem tkD_G {l:List Int} {g:Aa} (h:tkD l b=some g):GraphP g:=by
 unfold tkD at h
 split at h
 ·cases h
 ·split at h
  ·cases h
  ·split at h
   ·rename_i hc;cases h;exact hc.2
   ·cases h
theorem dread_any {l:List Int} (h:Bt l) (hb:l.length≤1000000) (hG:GP b):∃ res:Aa × Bool,E0 (fun K=>Gn K b (pack l)) res∧(match tkD l b with | some g=>res=(g,true) | none=>res.2=false):=by
 have hh:=fhead_any h hb
 unfold tkD
 cases hd:hdF l with
 | none =>
  rw [hd] at hh
  exact ⟨(G0,false),bnd hh (pos rfl (now _)),rfl⟩
 | some p =>
  obtain ⟨n,at_⟩:=p
  rw [hd] at hh
  obtain ⟨hn,hat⟩:=hdF_le h hd
  have hl:=(dlists_l1 h hb hG (Nat.le_refl n) hn (r:=List.replicate n []) n 0 at_ (List.replicate n []) (by omega) hat (by simp) rep_len).e1
  have hl2:E0 (fun K=>Bo K (n:Int) (n:Int) (at_:Int) (pack l) b) _:=bnd (congr (fun K _ _ _ _=>empty_eq hn) (now _)) hl
  simp only
  cases ht:tkM l b n 0 at_ with
  | none =>
   rw [ht] at hl2
   exact ⟨(G0,false),bnd hh (negB rfl (bnd hl2 (negB rfl (now _)))),rfl⟩
  | some p =>
   obtain ⟨qs,m⟩:=p
   rw [ht] at hl2
   have hs:(List.replicate n ([]:List Int)).take 0++qs++(List.replicate n ([]:List Int)).drop (0+n)=qs:=by simp
   simp only [hs] at hl2
   simp only
   by_cases c:GraphP ((n:Int),qs)
   ·rw [decide_eq_true c] at hl2
    refine ⟨(((n:Int),qs),((m:Int) == (l.length:Int))),bnd hh (negB rfl (bnd hl2 (pos rfl (now _)))),?_⟩
    by_cases e:m=l.length
    ·rw [if_pos ⟨e,c⟩,e];simp
    ·rw [if_neg (fun z=>e z.1)]
     show (((m:Int) == (l.length:Int)))=false
     simp;omega
   ·rw [decide_eq_false c] at hl2
    rw [if_neg (fun z=>c z.2)]
    exact ⟨(((n:Int),qs),false),bnd hh (negB rfl (bnd hl2 (negB rfl (now _)))),rfl⟩
section
variable {ts:List Ap} {x:Dh}
end
variable {x:Dh}
end Go.XL
end
end
section
section
namespace Go.XL
open Go.XM
def ixo (id:Int):List Al→Nat→Int
 | [],_=>-1
 | o::l,i=>if o.ID=id then (i:Int) else ixo id l (i+1)
abbrev ix (l:List Al) (id:Int):Int:=ixo id l 0
theorem ixo_spec {id:Int}:∀ (l:List Al) (i:Nat),(ixo id l i=-1∧∀ o∈l,o.ID≠id)∨∃ j,ixo id l i=((i+j:Nat):Int)∧j<l.length∧(l.getD j default).ID=id
 | [],i=>.inl ⟨rfl,by simp⟩
 | o::l,i=>by
  unfold ixo
  by_cases e:o.ID=id
  ·rw [if_pos e]
   exact .inr ⟨0,by simp,by simp,by simpa using e⟩
  ·rw [if_neg e]
   rcases ixo_spec l (i+1) with ⟨h1,h2⟩ | ⟨j,h1,h2,h3⟩
   ·exact .inl ⟨h1,fun x hx=>(List.mem_cons.1 hx).elim (fun q=>q ▸ e) (h2 x)⟩
   ·exact .inr ⟨j+1,by rw [h1];congr 1;omega,by simpa using h2,by simpa using h3⟩
theorem ix_spec (l:List Al) (id:Int):(ix l id=-1∧∀ o∈l,o.ID≠id)∨∃ j:Nat,ix l id=(j:Int)∧j<l.length∧(l.getD j default).ID=id:=by
 rcases ixo_spec (id:=id) l 0 with h | ⟨j,h⟩
 ·exact .inl h
 ·exact .inr ⟨j,by simpa using h⟩
theorem find_ev (l:List Al) (id:Int) (hl:l.length≤1000000):E0 (fun K=>E8 K l id) (ix l id):=by
 have key:∀ i,i≤l.length→E1 (fun K k=>Af.l1 K l k ((l.length:Nat):Int) (i:Int) id) (ixo id (l.drop i) i,id):=by
  refine upto ?_ ?_
  ·refine step1 (fun _ _ _ _ _=>Af.l1.eq_2 ..) ?_
   rw [List.drop_length]
   exact negD (by omega) (now _)
  ·intro i hi ih
   refine step1 (fun _ _ _ _ _=>Af.l1.eq_2 ..) ?_
   refine posD (by omega) (pos (by omega) (bnd (now _) ?_))
   rw [drop_getD (d:=default) hi,ixo]
   by_cases e:(l.getD i default).ID=id
   ·rw [if_pos e]
    refine pos ?_ (now _)
    rw [nthN];simp only [e,beq_self_eq_true]
   ·rw [if_neg e]
    refine neg ?_ ?_
    ·rw [nthN];simpa using e
    ·rw [w1 (by omega)];exact ih
 exact bnd (key 0 (by omega)).e1 (now _)
def ObjP (l:List Al) (i:Nat):Prop :=
 let o:=l.getD i default
 1≤o.ID∧o.ID≤1048576∧(0<i→(l.getD (i-1) default).ID<o.ID)∧o.Base≠o.ID∧(o.Base≠0→0≤ix l o.Base)∧MayB o.Data
def ObjsP (l:List Al):Prop:=l.length≤12∧∀ i,i<l.length→ObjP l i
instance (l:List Al) (i:Nat):Decidable (ObjP l i):=by unfold ObjP;infer_instance
instance (l:List Al):Decidable (ObjsP l):=by unfold ObjsP;infer_instance
end Go.XL
end
end
section
section
namespace Go.XL
open Go.XM
abbrev AllP (l:List Al) (i:Nat):Prop:=∀ j,j<l.length→i≤j→ObjP l j
theorem allP_no {l:List Al} {i:Nat} (hi:i<l.length) (h:¬ ObjP l i):false=decide (AllP l i):=(decide_eq_false fun k=>h (k i hi (Nat.le_refl _))).symm
theorem allP_go {l:List Al} {i:Nat} (h:ObjP l i):decide (AllP l (i+1))=decide (AllP l i) :=
 decide_eq_decide.2 ⟨fun k j hj hi=>by
  by_cases e:j=i
  ·subst e;exact h
  ·exact k j hj (by omega),fun k j hj hi=>k j hj (by omega)⟩
theorem cmay_l1 {l:List Al} (hl:l.length≤1000000) (hs:∀ o∈l,o.Data.Data.size≤1000000):∀ i,i≤l.length→E1 (fun K k=>Dv.l1 K l k ((l.length:Nat):Int) (i:Int)) (decide (AllP l i)):=by
 refine upto ?_ ?_
 ·refine step1 (fun _ _ _ _ _=>Dv.l1.eq_2 ..) ?_
  refine negD (by omega) (nowE (decide_eq_true fun j hj hi=>by omega).symm)
 ·intro i hi ih
  refine step1 (fun _ _ _ _ _=>Dv.l1.eq_2 ..) ?_
  rw [w1 (by omega),nthN]
  generalize ho:l.getD i default=o
  have hP:ObjP l i↔1≤o.ID∧o.ID≤1048576∧(0<i→(l.getD (i-1) default).ID<o.ID)∧o.Base≠o.ID∧(o.Base≠0→0≤ix l o.Base)∧MayB o.Data:=by unfold ObjP;rw [ho]
  have hso:o.Data.Data.size≤1000000:=by rw [← ho];exact hs _ (getD_mem hi)
  refine posD (by omega) (pos (by omega) ?_)
  by_cases c1:o.ID<1
  ·exact posD c1 (nowE (allP_no hi fun h=>by have:=(hP.1 h).1;omega))
  refine negD c1 ?_
  by_cases c2:o.ID > 1048576
  ·exact posD c2 (nowE (allP_no hi fun h=>by have:=(hP.1 h).2.1;omega))
  refine negD c2 ?_
  have tail:(0<i→(l.getD (i-1) default).ID<o.ID)→∀ {go:Nat→Nat→Option Bool},E1 (fun K k=>go K k) (decide (AllP l (i+1))) →
    Ev (fun K k _ _ _=>(Fg K o.Data).bind fun r41=>if (!r41) then some false else if (o.Base == o.ID) then some false else if (o.Base != 0) then (E8 K l o.Base).bind fun r57=>if decide (r57<0) then some false else go K k else go K k) (decide (AllP l i)):=by
   intro c3 go hgo
   refine bnd (congr (fun K _ _ _ _=>bMay_eq hso K) (now _)) ?_
   by_cases c4:MayB o.Data
   ·refine negM c4 ?_
    by_cases c5:o.Base=o.ID
    ·exact posE c5 (nowE (allP_no hi fun h=>(hP.1 h).2.2.2.1 c5))
    refine negE c5 ?_
    by_cases c6:o.Base=0
    ·exact negN c6 (ofEq hgo (allP_go (hP.2 ⟨by omega,by omega,c3,c5,fun h=>absurd c6 h,c4⟩)))
    refine posN c6 (bnd (find_ev l _ hl) ?_)
    by_cases c7:ix l o.Base<0
    ·exact posD c7 (nowE (allP_no hi fun h=>by have:=(hP.1 h).2.2.2.2.1 c6;omega))
    ·exact negD c7 (ofEq hgo (allP_go (hP.2 ⟨by omega,by omega,c3,c5,fun _=>by omega,c4⟩)))
   ·exact posM c4 (nowE (allP_no hi fun h=>c4 (hP.1 h).2.2.2.2.2))
  by_cases c0:0<i
  ·have e1:wr .i64 ((i:Int)-1)=((i-1:Nat):Int):=by rw [w64 (by omega) (by omega)];omega
   rw [e1,nthN]
   refine posD (by omega) (pos (by omega) ?_)
   by_cases c3:o.ID≤(l.getD (i-1) default).ID
   ·exact posD c3 (nowE (allP_no hi fun h=>by have:=(hP.1 h).2.2.1 c0;omega))
   ·exact negD c3 (tail (fun _=>by omega) ih)
  ·exact negD (by omega) (tail (fun h=>absurd h c0) ih)
theorem cmay_ev {l:List Al} (hl:l.length≤1000000) (hs:∀ o∈l,o.Data.Data.size≤1000000):E0 (fun K=>Dv K l) (decide (ObjsP l)):=by
 by_cases c:l.length≤12
 ·refine negD (by omega) (ofEq (cmay_l1 hl hs 0 (by omega)).e1 (decide_eq_decide.2 ⟨fun k=>⟨c,fun i hi=>k i hi (by omega)⟩,fun k j hj _=>k.2 j hj⟩))
 ·exact posD (by omega) (nowE (decide_eq_false fun h=>c h.1).symm)
end Go.XL
end
end
section
section
namespace Go.XL
open Go.XM
abbrev ob (l:List Al) (id:Int):Al:=l.getD (ix l id).toNat default
def wayP (l:List Al):Nat→Int→List Al
 | 0,_=>[]
 | m+1,id=>if id=0 then [] else ob l id::wayP l m (ob l id).Base
def There (l:List Al) (id:Int):Prop:=id=0∨0≤ix l id
theorem ix_lt {l:List Al} {id:Int} (h:0≤ix l id):ix l id<(l.length:Int)∧(ix l id).toNat<l.length∧(ob l id).ID=id:=by
 rcases ix_spec l id with ⟨e,_⟩ | ⟨j,e,h1,h2⟩
 ·omega
 ·refine ⟨by omega,by omega,?_⟩
  show (l.getD (ix l id).toNat default).ID=id
  rw [e];exact h2
theorem there_base {l:List Al} (h:ObjsP l) {id:Int} (hi:0≤ix l id):There l (ob l id).Base:=by
 by_cases c:(ob l id).Base=0
 ·exact .inl c
 ·exact .inr ((h.2 _ (ix_lt hi).2.1).2.2.2.2.1 c)
theorem ob_mayB {l:List Al} (h:ObjsP l) {id:Int} (hi:0≤ix l id):MayB (ob l id).Data:=(h.2 _ (ix_lt hi).2.1).2.2.2.2.2
theorem ix0 {l:List Al} (h:ObjsP l):ix l 0<0:=by
 rcases ix_spec l 0 with ⟨e,_⟩ | ⟨j,e,h1,h2⟩
 ·omega
 ·have:=(h.2 j h1).1;omega
theorem way_l1 {l:List Al} (h:ObjsP l) {m:Nat} (hm:m≤1000):∀ (d:Nat) (id:Int) (w:List Al),w.length+d=m→There l id →
  E1 (fun K k=>D7.l1 K l (m:Int) k id w) (w++wayP l d id)
 | 0,id,w,hd,hi=>by
  refine step1 (fun _ _ _ _ _=>D7.l1.eq_2 ..) ?_
  rw [wayP,List.append_nil]
  by_cases c:id=0
  ·exact negN c (now _)
  ·exact posN c (negD (by omega) (now _))
 | d+1,id,w,hd,hi=>by
  refine step1 (fun _ _ _ _ _=>D7.l1.eq_2 ..) ?_
  rw [wayP]
  by_cases c:id=0
  ·rw [if_pos c,List.append_nil];exact negN c (now _)
  ·rw [if_neg c]
   have hx:0≤ix l id:=hi.resolve_left c
   obtain ⟨x1,x2,x3⟩:=ix_lt hx
   refine posN c (posD (by omega) (bnd (find_ev l id (by have:=h.1;omega)) (pos ⟨hx,x1⟩ (pos (by simp;omega) ?_))))
   have e:nth l (ix l id)=ob l id:=rfl
   rw [e]
   have:=way_l1 h hm d (ob l id).Base (w++[ob l id]) (by simp;omega) (there_base h hx)
   rwa [List.append_assoc] at this
theorem way_ev {l:List Al} (h:ObjsP l) {m:Nat} (hm:m≤1000) {id:Int} (hi:There l id):E0 (fun K=>D7 K l id (m:Int)) (wayP l m id):=by
 have:=(way_l1 h hm m id [] (by simp) hi).e1
 exact this
def deepP (l:List Al) (id:Int):Int × Int:=if ix l id<0 then (0,3) else if 3<(wayP l 4 id).length then (0,2) else (((wayP l 4 id).length:Int),0)
theorem deep_ev {l:List Al} (h:ObjsP l) (id:Int):E0 (fun K=>Gl K l id) (deepP l id):=by
 unfold deepP
 refine bnd (find_ev l id (by have:=h.1;omega)) ?_
 by_cases c:ix l id<0
 ·rw [if_pos c];exact posD c (now _)
 ·rw [if_neg c]
  refine negD c (bnd (way_ev h (m:=4) (by omega) (.inr (by omega))) ?_)
  by_cases c2:3<(wayP l 4 id).length
  ·rw [if_pos c2];exact posD (by omega) (now _)
  ·rw [if_neg c2];exact negD (by omega) (now _)
end Go.XL
end
end
section
section
namespace Go.XL
open Go.XM
noncomputable def stepG (g:Aa) (o:Al):Option Aa:=if o.Base=0 then tkF (ofb o.Data) else tkD (ofb o.Data) g
noncomputable def foldG:Aa→List Al→Option Aa
 | g,[]=>some g
 | g,o::r=>match stepG g o with
  | some g'=>foldG g' r
  | none=>none
noncomputable def tell (x:Option Aa):Aa × Int:=match x with
 | some g=>(g,0)
 | none=>(G0,9)
theorem stepG_G {g g':Aa} {o:Al} (h:stepG g o=some g'):GraphP g':=by
 unfold stepG at h
 split at h
 ·exact tkF_G h
 ·exact tkD_G h
theorem foldG_G:∀ {w:List Al} {g g':Aa},foldG g w=some g'→w≠[]→GraphP g'
 | [],g,g',h,hn=>absurd rfl hn
 | o::w,g,g',h,_=>by
  simp only [foldG] at h
  cases hs:stepG g o with
  | none=>rw [hs] at h;cases h
  | some g1 =>
   rw [hs] at h
   cases w with
   | nil=>simp only [foldG,Option.some.injEq] at h;subst h;exact stepG_G hs
   | cons x w=>exact foldG_G h (by simp)
theorem of_l1:∀ (w:List Al) (g:Aa),(∀ o∈w,MayB o.Data)→(∀ o r,w=o::r→o.Base≠0→GP g)→E0 (fun K=>Eb.l1 K w 0 0 g.N g.Out) (tell (foldG g w))
 | [],g,_,_=>now _
 | o::w,g,hw,hg=>by
  have hb:=hw o List.mem_cons_self
  have hB:Bt (ofb o.Data):=ofb_Bt _
  have hl:(ofb o.Data).length≤1000000:=by rw [ofb_len];have:=hb.2.1;omega
  have hp:pack (ofb o.Data)=o.Data:=pack_ofb hb
  have next:∀ {g':Aa},stepG g o=some g'→E0 (fun K=>Eb.l1 K w 0 0 g'.N g'.Out) (tell (foldG g (o::w))):=by
   intro g' hs
   have:foldG g (o::w)=foldG g' w:=by simp only [foldG,hs]
   rw [this]
   exact of_l1 w g' (fun x hx=>hw x (List.mem_cons_of_mem _ hx)) (fun _ _ _ _=>(stepG_G hs).gp)
  have stop:stepG g o=none→tell (foldG g (o::w))=(G0,9):=fun hs=>by simp only [foldG,hs,tell]
  by_cases c:o.Base=0
  ·obtain ⟨res,h1,h2⟩:=fread_any hB hl
   rw [hp] at h1
   refine posE c (bnd h1 ?_)
   cases ht:tkF (ofb o.Data) with
   | none =>
    rw [ht] at h2
    rw [stop (by unfold stepG;rw [if_pos c,ht])]
    exact pos (by rw [h2];rfl) (now _)
   | some g' =>
    rw [ht] at h2
    subst h2
    exact negB rfl (next (by unfold stepG;rw [if_pos c,ht]))
  ·obtain ⟨res,h1,h2⟩:=dread_any hB hl (hg o w rfl c)
   rw [hp] at h1
   refine negE c (bnd h1 ?_)
   cases ht:tkD (ofb o.Data) g with
   | none =>
    rw [ht] at h2
    rw [stop (by unfold stepG;rw [if_neg c,ht])]
    exact pos (by rw [h2];rfl) (now _)
   | some g' =>
    rw [ht] at h2
    subst h2
    exact negB rfl (next (by unfold stepG;rw [if_neg c,ht]))
theorem way_end {l:List Al}:∀ (m:Nat) (id:Int),id≠0→(wayP l (m+1) id).length≤m→(∀ k,wayP l (m+k) id=wayP l m id)∧∃ o r,(wayP l m id).reverse=o::r∧o.Base=0
 | 0,id,h0,h=>by
  rw [wayP,if_neg h0] at h
  simp at h
 | m+1,id,h0,h=>by
  rw [wayP,if_neg h0,List.length_cons] at h
  have e:∀ k,wayP l (k+1) id=ob l id::wayP l k (ob l id).Base:=fun k=>by rw [wayP,if_neg h0]
  by_cases c:(ob l id).Base=0
  ·have z:∀ k,wayP l k 0=[]:=fun k=>by cases k <;> simp [wayP]
   refine ⟨fun k=>?_,ob l id,[],?_,c⟩
   ·rw [show m+1+k=m+k+1 by omega,e,e,c,z,z]
   ·rw [e,c,z];rfl
  ·obtain ⟨h1,o,r,h2,h3⟩:=way_end (l:=l) m (ob l id).Base c (by omega)
   refine ⟨fun k=>?_,o,r++[ob l id],?_,h3⟩
   ·rw [show m+1+k=m+k+1 by omega,e,e,h1]
   ·rw [e,List.reverse_cons,h2];rfl
noncomputable def resP (l:List Al) (id:Int):Aa × Int:=if (deepP l id).2≠0 then (G0,(deepP l id).2) else tell (foldG G0 (wayP l 3 id).reverse)
theorem deep_ok {l:List Al} {id:Int} (h:(deepP l id).2=0):0≤ix l id∧(wayP l 4 id).length≤3∧(deepP l id).1=((wayP l 4 id).length:Int):=by
 unfold deepP at h ⊢
 split at h
 ·cases h
 ·split at h
  ·cases h
  ·rename_i c1 c2
   exact ⟨by omega,by omega,by rw [if_neg c1,if_neg c2]⟩
theorem way_mem {l:List Al} (h:ObjsP l):∀ (m:Nat) (id:Int),There l id→∀ o∈wayP l m id,MayB o.Data
 | 0,id,hi,o,ho=>by simp [wayP] at ho
 | m+1,id,hi,o,ho=>by
  rw [wayP] at ho
  by_cases c:id=0
  ·rw [if_pos c] at ho;cases ho
  ·rw [if_neg c] at ho
   have hx:0≤ix l id:=hi.resolve_left c
   rcases List.mem_cons.1 ho with rfl | ho
   ·exact ob_mayB h hx
   ·exact way_mem h m _ (there_base h hx) o ho
theorem way_len {l:List Al}:∀ (m:Nat) (id:Int),(wayP l m id).length≤m
 | 0,id=>by simp [wayP]
 | m+1,id=>by
  rw [wayP]
  split
  ·simp
  ·have:=way_len (l:=l) m (ob l id).Base
   simp only [List.length_cons];omega
theorem cof_ev {l:List Al} (h:ObjsP l) (id:Int):E0 (fun K=>Eb K l id) (resP l id):=by
 unfold resP
 refine bnd (deep_ev h id) ?_
 by_cases c:(deepP l id).2=0
 ·rw [if_neg (by simpa using c)]
  obtain ⟨h1,h2,h3⟩:=deep_ok c
  have h0:id≠0:=fun e=>by subst e;have:=ix0 h;omega
  obtain ⟨_,o,r,h4,h5⟩:=way_end 3 id h0 h2
  have hw:=way_len (l:=l) 3 id
  refine negN c (bnd (way_ev h (m:=3) (by omega) (.inr h1)) (pos (by omega) ?_))
  refine of_l1 _ G0 (fun o ho=>way_mem h 3 id (.inr h1) o (List.mem_reverse.1 ho)) (fun o' r' e hb=>?_)
  rw [h4] at e
  cases e
  exact absurd h5 hb
 ·rw [if_pos (by simpa using c)]
  exact posN c (now _)
theorem resP_G {l:List Al} {id:Int} (ho:ObjsP l) (h:(resP l id).2=0):GraphP (resP l id).1:=by
 unfold resP at h ⊢
 split at h
 ·rename_i c;exact absurd h c
 ·rename_i c
  have c:(deepP l id).2=0:=by simpa using c
  rw [if_neg (by simpa using c)]
  obtain ⟨h1,h2,h3⟩:=deep_ok c
  cases hf:foldG G0 (wayP l 3 id).reverse with
  | none=>rw [hf] at h;cases h
  | some g =>
   refine foldG_G hf fun e=>?_
   have h0:id≠0:=fun e=>by subst e;have:=ix0 ho;omega
   obtain ⟨_,o,r,h4,_⟩:=way_end (l:=l) 3 id h0 h2
   rw [h4] at e;cases e
end Go.XL
end
end
section
section
namespace Go.XL
open Go.XM
theorem oweight_ev (bs:List Al) (hl:bs.length≤17592186044416) (hx:∀ b∈bs,b.Data.Data.size≤140737488351232) :
  ∃ r:Int,E0 (fun K=>A7 K bs) r∧0≤r∧r≤52776558133248∧(r<1048576→(bs.length:Int)≤r∧∀ b∈bs,(b.Data.Data.size:Int)≤4*r+3):=by
 have key:∀ i,i≤bs.length→∀ s:Int,0≤s→s≤40000000000000→∃ r:Int,E1 (fun K k=>A7.l1 K bs k s (i:Int)) r∧0≤r∧r≤52776558133248∧s≤r∧(r<1048576→∀ b∈bs.drop i,(b.Data.Data.size:Int)≤4*r+3):=by
  refine upto ?_ ?_
  ·intro s h0 h1
   refine ⟨s,?_,h0,by omega,by omega,fun _=>by simp⟩
   refine step1 (fun _ _ _ _ _=>A7.l1.eq_2 ..) ?_
   exact negD (by omega) (now s)
  ·intro i hi ih s h0 h1
   by_cases hs:s<1048576
   ·have hb:=hx _ (getD_mem (d:=default) hi)
    have e4:(((bs.getD i default).Data.Data.size:Nat):Int).tdiv 4=(((bs.getD i default).Data.Data.size / 4:Nat):Int):=Int.ofNat_tdiv _ 4 |>.symm
    obtain ⟨r,h,a,b,l,c⟩:=ih (s+(((bs.getD i default).Data.Data.size / 4:Nat):Int)) (by omega) (by omega)
    refine ⟨r,?_,a,b,by omega,fun hr=>?_⟩
    ·refine step1 (fun _ _ _ _ _=>A7.l1.eq_2 ..) ?_
     refine posD (by omega) (posD hs (pos (by omega) (pos (by decide) ?_)))
     rw [nthN,e4,w64 (i:=(((bs.getD i default).Data.Data.size / 4:Nat):Int)) (by omega) (by omega),w64 (by omega) (by omega),w1 (by omega)]
     exact h
    ·rw [drop_getD (d:=default) hi]
     intro g hg'
     rcases List.mem_cons.1 hg' with rfl | hg'
     ·omega
     ·exact c hr g hg'
   ·refine ⟨s,?_,h0,by omega,by omega,fun h=>by omega⟩
    refine step1 (fun _ _ _ _ _=>A7.l1.eq_2 ..) ?_
    exact posD (by omega) (negD hs (now s))
 obtain ⟨r,h,a,b,l,c⟩:=key 0 (by omega) bs.length (by omega) (by omega)
 exact ⟨r,h.e1,a,b,fun hr=>⟨l,by simpa using c hr⟩⟩
def ObSm (l:List Al):Prop:=l.length≤1000∧∀ o∈l,o.Data.Data.size≤1000000
theorem heavy9_ev (x:D8) (h1:x.L.length≤17592186044416) (h2:∀ l∈x.L,l.length≤17592186044416∧∀ o∈l,o.Data.Data.size≤140737488351232) (h3:x.N.length≤17592186044416)
  (hl:x.G.G.length≤17592186044416) (hx:∀ g∈x.G.G,Gfit g) (ha:x.G.A.length≤17592186044416) :
  ∃ b:Bool,E0 (fun K=>Bd K x) b∧(b=false→x.L.length≤1000∧x.N.length≤1000∧(∀ l∈x.L,ObSm l)∧∀ g∈x.G.G,wt g≤1200):=by
 obtain ⟨b6,e6,g6⟩:=heavy6_ev x.G hl hx ha
 have fin:∀ {s:Int},∃ b:Bool,Ev (fun K _ _ _ _=>if decide (s > 700) then some true else (Ec K x.G).bind fun r36=>some r36) b∧(b=false→s≤700∧b6=false):=by
  intro s
  by_cases c:s > 700
  ·exact ⟨true,posD c (now _),fun h=>by cases h⟩
  ·exact ⟨b6,negD c (bnd e6 (now _)),fun h=>⟨by omega,h⟩⟩
 have key:∀ i,i≤x.L.length→∀ s:Int,0≤s→s≤40000000000000→∃ b:Bool,E1 (fun K k=>Bd.l1 K x k s (i:Int)) b∧(b=false→s≤700∧b6=false∧∀ l∈x.L.drop i,ObSm l):=by
  refine upto ?_ ?_
  ·intro s h0 h1
   obtain ⟨b,q1,q2⟩:=fin (s:=s)
   refine ⟨b,?_,fun h=>⟨(q2 h).1,(q2 h).2,by simp⟩⟩
   refine step1 (fun _ _ _ _ _=>Bd.l1.eq_2 ..) ?_
   exact negD (by omega) q1
  ·intro i hi ih s h0 hs1
   by_cases hs:s<1048576
   ·have hb:=h2 _ (getD_mem (d:=default) hi)
    obtain ⟨r,w1',w2,w3,w4⟩:=oweight_ev (x.L.getD i default) hb.1 hb.2
    by_cases hr:s+r≤40000000000000
    ·obtain ⟨b,q1,q2⟩:=ih (s+r) (by omega) hr
     refine ⟨b,?_,fun h=>?_⟩
     ·refine step1 (fun _ _ _ _ _=>Bd.l1.eq_2 ..) ?_
      refine posD (by omega) (posD hs (pos (by omega) ?_))
      rw [nthN]
      refine bnd w1' ?_
      rw [w64 (by omega) (by omega),w1 (by omega)]
      exact q1
     ·obtain ⟨p1,p2,p3⟩:=q2 h
      obtain ⟨p4,p5⟩:=w4 (by omega)
      refine ⟨by omega,p2,fun l hl=>?_⟩
      rw [drop_getD (d:=default) hi] at hl
      rcases List.mem_cons.1 hl with rfl | hl
      ·exact ⟨by omega,fun o ho=>by have:=p5 o ho;omega⟩
      ·exact p3 l hl
    ·-- the next round says: too heavy
     have big:E1 (fun K k=>Bd.l1 K x k (s+r) ((i+1:Nat):Int)) true:=by
      refine step1 (fun _ _ _ _ _=>Bd.l1.eq_2 ..) ?_
      by_cases c:i+1<x.L.length
      ·exact posD (by omega) (negD (by omega) (posD (by omega) (now _)))
      ·exact negD (by omega) (posD (by omega) (now _))
     refine ⟨true,?_,fun h=>by cases h⟩
     refine step1 (fun _ _ _ _ _=>Bd.l1.eq_2 ..) ?_
     refine posD (by omega) (posD hs (pos (by omega) ?_))
     rw [nthN]
     refine bnd w1' ?_
     rw [w64 (by omega) (by omega),w1 (by omega)]
     exact big
   ·refine ⟨true,?_,fun h=>by cases h⟩
    refine step1 (fun _ _ _ _ _=>Bd.l1.eq_2 ..) ?_
    exact posD (by omega) (negD hs (posD (by omega) (now _)))
 have hst:wr .i64 (((x.N.length:Nat):Int)+((x.L.length:Nat):Int))=(x.N.length:Int)+(x.L.length:Int):=w64 (by omega) (by omega)
 obtain ⟨b,q1,q2⟩:=key 0 (by omega) ((x.N.length:Int)+(x.L.length:Int)) (by omega) (by omega)
 refine ⟨b,?_,fun h=>?_⟩
 ·unfold Bd
  rw [hst];exact q1.e1
 ·obtain ⟨p1,p2,p3⟩:=q2 h
  exact ⟨by omega,by omega,by simpa using p3,(g6 p2).2.2⟩
end Go.XL
end
end
section
section
namespace Go.XL
open Go.XM
instance (xs:List Int) (i:Nat):Decidable (OkAt xs i):=by unfold OkAt;infer_instance
instance (xs:List Int):Decidable (MayP xs):=by unfold MayP;infer_instance
instance (g:Aa):Decidable (GSm g):=by unfold GSm;infer_instance
instance (n:Int) (xs:List Int):Decidable (RowP n xs):=by unfold RowP;infer_instance
instance (g:Aa):Decidable (GraphP g):=by unfold GraphP;infer_instance
end Go.XL
end
end
section
section
namespace Go.XL
open Go.XM
theorem MayP.mono {xs:List Int} (h:MayP xs):∀ d j:Nat,j+d<xs.length→xs.getD j 0+d≤xs.getD (j+d) 0:=by
 intro d
 induction d with
 | zero=>intro j hj;simp
 | succ d ih =>
  intro j hj
  have h1:=ih j (by omega)
  have h2:=(h (j+(d+1)) hj).2.2 (by omega)
  rw [show j+(d+1)-1=j+d by omega] at h2
  omega
theorem RowP.mem {n:Int} {xs:List Int} (h:RowP n xs) {v:Int} (hv:v∈xs):0≤v∧v<n:=by
 obtain ⟨j,hj,rfl⟩:=List.mem_iff_getElem.1 hv
 rw [← getD_lt (d:=0) hj]
 have h0:=h.1.mono (xs.length-1-j) j (by omega)
 have h1:=h.2 (by omega)
 rw [show j+(xs.length-1-j)=xs.length-1 by omega] at h0
 exact ⟨(h.1 j hj).1,by omega⟩
structure Good (N:Nat) (out:List (List Int)):Prop where
 le:N≤16
 len:out.length=N
 row:∀ i,i<N→∀ v∈out.getD i [],0≤v∧v<N
 may:∀ i,i<N→MayP (out.getD i [])
 sum:lsum out≤120
theorem GraphP.good {g:Aa} (h:GraphP g):g.N=(g.N.toNat:Int)∧Good g.N.toNat g.Out:=by
 obtain ⟨h0,h1,h2,h3,h4⟩:=h
 have e:g.N=(g.N.toNat:Int):=by omega
 refine ⟨e,⟨by omega,by omega,fun i hi v hv=>?_,fun i hi=>(h3 i (by omega)).1,h4⟩⟩
 have:=(h3 i (by omega)).mem hv
 omega
theorem Good.rlen {N:Nat} {out:List (List Int)} (h:Good N out) (i:Nat):(out.getD i []).length≤16:=by
 by_cases hi:i<N
 ·exact (h.may i hi).len
 ·have:=h.len;simp [List.getD_eq_getElem?_getD,List.getElem?_eq_none (show out.length≤i by omega)]
theorem Good.at {N:Nat} {out:List (List Int)} (h:Good N out) {i j:Nat} (hi:i<N) (hj:j<(out.getD i []).length):0≤(out.getD i []).getD j 0∧(out.getD i []).getD j 0<N:=h.row i hi _ (getD_mem hj)
def prs:Nat→List (List Int)→List Eh
 | _,[]=>[]
 | i,r::rs=>r.map (fun v=>((i,v):Eh))++prs (i+1) rs
theorem prs_length:∀ (i:Nat) (xs:List (List Int)),(prs i xs).length=lsum xs
 | _,[]=>rfl
 | i,r::rs=>by rw [prs,List.length_append,List.length_map,prs_length (i+1) rs,lsum_cons]
def pad (c:List Int) (l:Nat):List Int:=c++List.replicate (l+1-c.length) 0
def cstep (c:List Int) (r:List Int):List Int:=(pad c r.length).set r.length (wr .i64 ((pad c r.length).getD r.length 0+1))
theorem pad_length (c:List Int) (l:Nat):(pad c l).length=max c.length (l+1):=by unfold pad;simp;omega
theorem cstep_length (c r:List Int):(cstep c r).length=max c.length (r.length+1):=by unfold cstep;rw [List.length_set,pad_length]
def flat (ps:List Eh):List Int:=ps.flatMap fun p=>[p.A,p.B]
theorem flat_length (ps:List Eh):(flat ps).length=2*ps.length:=by
 unfold flat
 induction ps with
 | nil=>rfl
 | cons p ps ih=>rw [List.flatMap_cons,List.length_append,ih];simp;omega
end Go.XL
end
end
section
section
namespace Go.XL
open Go.XM
theorem nodup_le:∀ (xs ys:List Int),xs.Nodup→(∀ x∈xs,x∈ys)→xs.length≤ys.length
 | [],_,_,_=>Nat.zero_le _
 | x::xs,ys,hn,hs=>by
  have hx:=hs x (by simp)
  obtain ⟨h1,h2⟩:=List.nodup_cons.1 hn
  have:=nodup_le xs (ys.erase x) h2 (fun y hy=>(List.mem_erase_of_ne (fun e=>h1 (by rw [← e];exact hy))).2 (hs y (by simp [hy])))
  rw [List.length_erase_of_mem hx] at this
  have:=List.length_pos_of_mem hx
  simp only [List.length_cons]
  omega
def Edge (out:List (List Int)) (u w:Nat):Prop:=(w:Int)∈out.getD u []
theorem edge_of {N:Nat} {out:List (List Int)} (h:Good N out) {u j:Nat} (hu:u<N) (hj:j<(out.getD u []).length):Edge out u ((out.getD u []).getD j 0).toNat∧((out.getD u []).getD j 0).toNat<N∧(((out.getD u []).getD j 0).toNat:Int)=(out.getD u []).getD j 0:=by
 have:=h.at hu hj
 have e:(((out.getD u []).getD j 0).toNat:Int)=(out.getD u []).getD j 0:=by omega
 exact ⟨by unfold Edge;rw [e];exact getD_mem hj,by omega,e⟩
theorem edge_at {out:List (List Int)} {u w:Nat} (h:Edge out u w):∃ j,j<(out.getD u []).length∧(out.getD u []).getD j 0=(w:Int):=by
 obtain ⟨j,hj,e⟩:=List.mem_iff_getElem.1 h
 exact ⟨j,hj,by rw [getD_lt hj,e]⟩
structure Half (N:Nat) (out:List (List Int)) (a:Nat) (d:List Int):Prop where
 len:d.length=N
 src:d.getD a 0=0
 zero:∀ v,v<N→d.getD v 0=0→v=a
 low:∀ v,v<N→-1≤d.getD v 0
 pred:∀ v,v<N→0<d.getD v 0→∃ u,u<N∧Edge out u v∧d.getD u 0=d.getD v 0-1
theorem Half.init {N:Nat} {out:List (List Int)} {a:Nat} (ha:a<N):Half N out a ((List.replicate N (-1)).set a 0):=by
 have hg:∀ v,v<N→((List.replicate N (-1:Int)).set a 0).getD v 0=if v=a then 0 else -1:=fun v hv=>by
  rw [getD_set _ _ _ _ (by simpa using ha)]
  split
  ·rfl
  ·simp [List.getD_eq_getElem?_getD,List.getElem?_replicate,hv]
 refine ⟨by simp,by rw [hg a ha];simp,fun v hv h=>?_,fun v hv=>?_,fun v hv h=>?_⟩
 ·rw [hg v hv] at h
  split at h
  ·assumption
  ·omega
 ·rw [hg v hv];split <;> omega
 ·rw [hg v hv] at h
  split at h <;> omega
theorem Half.put {N:Nat} {out:List (List Int)} {a:Nat} {d:List Int} (h:Half N out a d) {u w:Nat} (hu:u<N) (hw:w<N) (he:Edge out u w) (h0:0≤d.getD u 0) (h1:d.getD w 0<0):Half N out a (d.set w (d.getD u 0+1)):=by
 have hl:=h.len
 have hs:=h.src
 have hg:∀ v,(d.set w (d.getD u 0+1)).getD v 0=if v=w then d.getD u 0+1 else d.getD v 0:=fun v=>getD_set _ _ _ _ (by omega)
 refine ⟨by simpa using hl,?_,fun v hv hz=>?_,fun v hv=>?_,fun v hv hp=>?_⟩
 ·rw [hg]
  split
  ·rename_i e;rw [e] at hs;omega
  ·exact hs
 ·rw [hg] at hz
  split at hz
  ·omega
  ·exact h.zero v hv hz
 ·rw [hg]
  have:=h.low v hv
  split <;> omega
 ·rw [hg] at hp
  split at hp
  ·rename_i e
   refine ⟨u,hu,by rw [e];exact he,?_⟩
   rw [hg,hg,if_pos e,if_neg (by intro e2;rw [e2] at h0;omega)]
   omega
  ·rename_i e
   obtain ⟨p,hp1,hp2,hp3⟩:=h.pred v hv hp
   refine ⟨p,hp1,hp2,?_⟩
   rw [hg,hg,if_neg e,if_neg (by intro e2;rw [e2] at hp3;omega)]
   exact hp3
theorem Half.lt {N:Nat} {out:List (List Int)} {a:Nat} {d:List Int} (h:Half N out a d) {v:Nat} (hv:v<N):d.getD v 0<N:=by
 have key:∀ s:Nat,∀ v,v<N→d.getD v 0=s→∀ t:Nat,t≤s→∃ u,u<N∧d.getD u 0=t:=by
  intro s
  induction s with
  | zero=>intro v hv hs t ht;exact ⟨v,hv,by rw [hs];omega⟩
  | succ s ih =>
   intro v hv hs t ht
   by_cases e:t=s+1
   ·exact ⟨v,hv,by rw [hs,e]⟩
   ·obtain ⟨u,hu,_,h3⟩:=h.pred v hv (by omega)
    exact ih u hu (by omega) t (by omega)
 by_cases h0:d.getD v 0<0
 ·omega
 ·have hk:=key (d.getD v 0).toNat v hv (by omega)
  have:=nodup_le ((List.range ((d.getD v 0).toNat+1)).map fun (t:Nat)=>(t:Int)) d ?_ ?_
  ·simp only [List.length_map,List.length_range] at this
   have:=h.len
   omega
  ·refine List.Pairwise.map _ (fun x y (hxy:x≠y)=>?_) List.nodup_range
   omega
  ·intro x hx
   obtain ⟨t,ht,rfl⟩:=List.mem_map.1 hx
   obtain ⟨u,hu,e⟩:=hk t (by have:=List.mem_range.1 ht;omega)
   rw [← e]
   exact getD_mem (by have:=h.len;omega)
structure Dist (N:Nat) (out:List (List Int)) (a:Nat) (d:List Int):Prop where
 half:Half N out a d
 edge:∀ u w,u<N→w<N→Edge out u w→0≤d.getD u 0→0≤d.getD w 0∧d.getD w 0≤d.getD u 0+1
theorem Dist.below {N:Nat} {out:List (List Int)} {a:Nat} {d d':List Int} (h:Dist N out a d) (h':Dist N out a d'):∀ s:Nat,∀ v,v<N→d.getD v 0=s→0≤d'.getD v 0∧d'.getD v 0≤d.getD v 0:=by
 intro s
 induction s with
 | zero =>
  intro v hv hs
  obtain rfl:=h.half.zero v hv (by simpa using hs)
  rw [h'.half.src,h.half.src];omega
 | succ s ih =>
  intro v hv hs
  obtain ⟨u,hu,he,h3⟩:=h.half.pred v hv (by omega)
  have h4:=ih u hu (by omega)
  have h5:=h'.edge u v hu hv he h4.1
  omega
theorem Dist.uniq {N:Nat} {out:List (List Int)} {a:Nat} {d d':List Int} (h:Dist N out a d) (h':Dist N out a d'):d=d':=by
 have l:=h.half.len
 have l':=h'.half.len
 refine ext_getD (by omega) fun v hv=>?_
 have hv:v<N:=by omega
 have a1:=h.half.low v hv
 have a2:=h'.half.low v hv
 by_cases h0:0≤d.getD v 0
 ·have:=h.below h' (d.getD v 0).toNat v hv (by omega)
  have:=h'.below h (d'.getD v 0).toNat v hv (by omega)
  omega
 ·by_cases h1:0≤d'.getD v 0
  ·have:=h'.below h (d'.getD v 0).toNat v hv (by omega)
   omega
  ·omega
structure Lev (N:Nat) (out:List (List Int)) (a t:Nat) (d:List Int):Prop where
 half:Half N out a d
 cap:∀ v,v<N→d.getD v 0≤t
 clos:∀ u w,u<N→w<N→Edge out u w→0≤d.getD u 0→d.getD u 0<t→0≤d.getD w 0∧d.getD w 0≤d.getD u 0+1
structure Lin (N:Nat) (out:List (List Int)) (a t u0 j0:Nat) (d:List Int):Prop where
 half:Half N out a d
 cap:∀ v,v<N→d.getD v 0≤t+1
 clos:∀ u w,u<N→w<N→Edge out u w→0≤d.getD u 0→d.getD u 0<t→0≤d.getD w 0∧d.getD w 0≤d.getD u 0+1
 fin:∀ u w,u<u0→u<N→w<N→Edge out u w→d.getD u 0=t→0≤d.getD w 0
 part:∀ j,j<j0→j<(out.getD u0 []).length→d.getD u0 0=t→0≤d.getD ((out.getD u0 []).getD j 0).toNat 0
theorem Lin.put {N:Nat} {out:List (List Int)} {a t u0 j0:Nat} {d:List Int} (hg:Good N out) (h:Lin N out a t u0 j0 d) (hu:u0<N) (hj:j0<(out.getD u0 []).length) (ht:d.getD u0 0=t) (hw:d.getD ((out.getD u0 []).getD j0 0).toNat 0<0) :
  Lin N out a t u0 (j0+1) (d.set ((out.getD u0 []).getD j0 0).toNat ((t:Int)+1)):=by
 obtain ⟨he,hwN,hwe⟩:=edge_of hg hu hj
 have hl:=h.half.len
 generalize ((out.getD u0 []).getD j0 0).toNat=w at *
 have hG:∀ v,(d.set w ((t:Int)+1)).getD v 0=if v=w then (t:Int)+1 else d.getD v 0:=fun v=>getD_set _ _ _ _ (by omega)
 refine ⟨by have:=h.half.put hu hwN he (by omega) hw;rwa [ht] at this,fun v hv=>?_,fun u x hu' hx hE h0 h1=>?_,fun u x h1 h2 h3 hE h4=>?_,fun j hj1 hj2 h4=>?_⟩
 ·rw [hG];have:=h.cap v hv;split <;> omega
 ·rw [hG] at h0 h1 ⊢
  rw [hG u]
  by_cases e:u=w
  ·rw [if_pos e] at h1;omega
  ·rw [if_neg e] at h0 h1 ⊢
   have:=h.clos u x hu' hx hE h0 h1
   by_cases e2:x=w
   ·rw [e2] at this;omega
   ·rw [if_neg e2];exact this
 ·rw [hG] at h4 ⊢
  by_cases e:u=w
  ·rw [if_pos e] at h4;omega
  ·rw [if_neg e] at h4
   have:=h.fin u x h1 h2 h3 hE h4
   split <;> omega
 ·rw [hG]
  split
  ·omega
  ·rename_i e
   by_cases e2:j=j0
   ·subst e2;omega
   ·exact h.part j (by omega) hj2 ht
theorem Lin.keep {N:Nat} {out:List (List Int)} {a t u0 j0:Nat} {d:List Int} (h:Lin N out a t u0 j0 d) (hw:0≤d.getD ((out.getD u0 []).getD j0 0).toNat 0):Lin N out a t u0 (j0+1) d :=
 ⟨h.half,h.cap,h.clos,h.fin,fun j h1 h2 h3=>by
  by_cases e:j=j0
  ·subst e;exact hw
  ·exact h.part j (by omega) h2 h3⟩
theorem Lin.next {N:Nat} {out:List (List Int)} {a t u0 j0:Nat} {d:List Int} (hg:Good N out) (h:Lin N out a t u0 j0 d) (hu:u0<N) (hd:d.getD u0 0=t→(out.getD u0 []).length≤j0):Lin N out a t (u0+1) 0 d :=
 ⟨h.half,h.cap,h.clos,fun u w h1 h2 h3 hE h4=>by
  by_cases e:u=u0
  ·subst e
   obtain ⟨j,hj,ej⟩:=edge_at hE
   have:=h.part j (by have:=hd h4;omega) hj h4
   rwa [ej,Int.toNat_natCast] at this
  ·exact h.fin u w (by omega) h2 h3 hE h4,fun j h1=>by omega⟩
def unv:List Int→Nat
 | []=>0
 | x::xs=>(if x<0 then 1 else 0)+unv xs
theorem unv_set:∀ (d:List Int) (w:Nat) (v:Int),w<d.length→d.getD w 0<0→0≤v→unv (d.set w v)+1=unv d
 | [],w,v,h,_,_=>by simp at h
 | x::d,0,v,_,h1,h2=>by
  have h1:x<0:=by simpa using h1
  simp only [List.set_cons_zero,unv]
  rw [if_neg (by omega),if_pos h1];omega
 | x::d,w+1,v,h,h1,h2=>by
  have:=unv_set d w v (by simpa using h) (by simpa using h1) h2
  simp only [List.set_cons_succ,unv]
  omega
theorem unv_le:∀ d:List Int,unv d≤d.length
 | []=>Nat.le_refl _
 | x::d=>by
  have:=unv_le d
  simp only [unv,List.length_cons]
  split <;> omega
structure Bfs (N:Nat) (out:List (List Int)) (a:Nat) (d q:List Int):Prop where
 half:Half N out a d
 qin:∀ x∈q,0≤x∧x<N∧0≤d.getD x.toNat 0
 clos:∀ u,u<N→0≤d.getD u 0→(u:Int) ∉ q→∀ w,w<N→Edge out u w→0≤d.getD w 0∧d.getD w 0≤d.getD u 0+1
 cap:∀ x∈q,∀ v,v<N→d.getD v 0≤d.getD x.toNat 0+1
 srt:q.Pairwise fun x y=>d.getD x.toNat 0≤d.getD y.toNat 0
structure Bin (N:Nat) (out:List (List Int)) (a x j0:Nat) (d q:List Int):Prop where
 half:Half N out a d
 qin:∀ x∈q,0≤x∧x<N∧0≤d.getD x.toNat 0
 vis:0≤d.getD x 0
 clos:∀ u,u<N→0≤d.getD u 0→(u:Int) ∉ q→u≠x→∀ w,w<N→Edge out u w→0≤d.getD w 0∧d.getD w 0≤d.getD u 0+1
 part:∀ j,j<j0→j<(out.getD x []).length→0≤d.getD ((out.getD x []).getD j 0).toNat 0
 cap:∀ v,v<N→d.getD v 0≤d.getD x 0+1
 low:∀ y∈q,d.getD x 0≤d.getD y.toNat 0
 srt:q.Pairwise fun x y=>d.getD x.toNat 0≤d.getD y.toNat 0
theorem Bin.put {N:Nat} {out:List (List Int)} {a x j0:Nat} {d q:List Int} (hg:Good N out) (h:Bin N out a x j0 d q) (hx:x<N) (hj:j0<(out.getD x []).length) (hw:d.getD ((out.getD x []).getD j0 0).toNat 0<0) :
  Bin N out a x (j0+1) (d.set ((out.getD x []).getD j0 0).toNat (d.getD x 0+1)) (q++[(out.getD x []).getD j0 0]):=by
 obtain ⟨he,hwN,hwe⟩:=edge_of hg hx hj
 have hl:=h.half.len
 have hpt:=h.part
 generalize hwd:((out.getD x []).getD j0 0).toNat=w at *
 rw [← hwe]
 have hG:∀ v,(d.set w (d.getD x 0+1)).getD v 0=if v=w then d.getD x 0+1 else d.getD v 0:=fun v=>getD_set _ _ _ _ (by omega)
 have hv:=h.vis
 have hxw:x≠w:=fun e=>by rw [← e] at hw;omega
 have hGx:(d.set w (d.getD x 0+1)).getD x 0=d.getD x 0:=by rw [hG,if_neg hxw]
 have hq:∀ y∈q,(d.set w (d.getD x 0+1)).getD y.toNat 0=d.getD y.toNat 0:=fun y hy=>by
  rw [hG,if_neg]
  intro e
  have:=(h.qin y hy).2.2
  rw [e] at this
  omega
 have hGw:(d.set w (d.getD x 0+1)).getD w 0=d.getD x 0+1:=by rw [hG,if_pos rfl]
 refine ⟨h.half.put hx hwN he hv hw,fun y hy=>?_,by rw [hGx];exact hv,fun u hu h0 hn hne v hvN hE=>?_,fun j hj1 hj2=>?_,fun v hvN=>?_,fun y hy=>?_,?_⟩
 ·rcases List.mem_append.1 hy with hy | hy
  ·rw [hq y hy];exact h.qin y hy
  ·obtain rfl:=List.mem_singleton.1 hy
   rw [Int.toNat_natCast,hGw];omega
 ·have hn1:(u:Int) ∉ q:=fun m=>hn (List.mem_append.2 (.inl m))
  have hn2:u≠w:=fun e=>hn (List.mem_append.2 (.inr (by simp [e])))
  rw [hG,if_neg hn2] at h0
  have:=h.clos u hu h0 hn1 hne v hvN hE
  rw [hG,hG u,if_neg hn2]
  by_cases e:v=w
  ·rw [e] at this;omega
  ·rw [if_neg e];exact this
 ·rw [hG]
  split
  ·omega
  ·rename_i e
   by_cases e2:j=j0
   ·subst e2;omega
   ·exact hpt j (by omega) hj2
 ·rw [hG,hGx];have:=h.cap v hvN;split <;> omega
 ·rw [hGx]
  rcases List.mem_append.1 hy with hy | hy
  ·rw [hq y hy];exact h.low y hy
  ·obtain rfl:=List.mem_singleton.1 hy
   rw [Int.toNat_natCast,hGw];omega
 ·refine List.pairwise_append.2 ⟨?_,List.pairwise_singleton _ _,fun y hy z hz=>?_⟩
  ·refine h.srt.imp_of_mem fun {y z} hy hz hyz=>?_
   rw [hq y hy,hq z hz];exact hyz
  ·obtain rfl:=List.mem_singleton.1 hz
   rw [hq y hy,Int.toNat_natCast,hGw]
   exact h.cap _ (by have:=h.qin y hy;omega)
theorem Bin.keep {N:Nat} {out:List (List Int)} {a x j0:Nat} {d q:List Int} (h:Bin N out a x j0 d q) (hw:0≤d.getD ((out.getD x []).getD j0 0).toNat 0):Bin N out a x (j0+1) d q :=
 ⟨h.half,h.qin,h.vis,h.clos,fun j h1 h2=>by
  by_cases e:j=j0
  ·subst e;exact hw
  ·exact h.part j (by omega) h2,h.cap,h.low,h.srt⟩
theorem Bin.out {N:Nat} {out:List (List Int)} {a x j0:Nat} {d q:List Int} (h:Bin N out a x j0 d q) (hj:(out.getD x []).length≤j0):Bfs N out a d q :=
 ⟨h.half,h.qin,fun u hu h0 hn w hw hE=>by
  by_cases e:u=x
  ·subst e
   obtain ⟨j,hj1,ej⟩:=edge_at hE
   have:=h.part j (by omega) hj1
   rw [ej,Int.toNat_natCast] at this
   exact ⟨this,h.cap w hw⟩
  ·exact h.clos u hu h0 hn e w hw hE,fun y hy v hv=>by have:=h.cap v hv;have:=h.low y hy;omega,h.srt⟩
end Go.XL
end
end
section
section
namespace Go.XL
open Go.XM
def mn (a b:Int):Int:=if b<a then b else a
def Conn (N:Nat) (out:List (List Int)) (u v:Nat):Prop:=∀ f:Nat→Int,(∀ a b,a<N→b<N→Edge out a b→f a=f b)→f u=f v
theorem Conn.rfl' {N:Nat} {out:List (List Int)} (u:Nat):Conn N out u u:=fun _ _=>rfl
theorem Conn.symm {N:Nat} {out:List (List Int)} {u v:Nat} (h:Conn N out u v):Conn N out v u:=fun f hf=>(h f hf).symm
theorem Conn.trans {N:Nat} {out:List (List Int)} {u v w:Nat} (h:Conn N out u v) (k:Conn N out v w):Conn N out u w:=fun f hf=>(h f hf).trans (k f hf)
theorem Conn.of {N:Nat} {out:List (List Int)} {u v:Nat} (hu:u<N) (hv:v<N) (h:Edge out u v):Conn N out u v:=fun f hf=>hf u v hu hv h
structure PHalf (N:Nat) (out:List (List Int)) (l:List Int):Prop where
 len:l.length=N
 num:∀ v,v<N→0≤l.getD v 0∧l.getD v 0≤v
 con:∀ v,v<N→Conn N out v (l.getD v 0).toNat
structure PartOf (N:Nat) (out:List (List Int)) (l:List Int):Prop where
 half:PHalf N out l
 edge:∀ u w,u<N→w<N→Edge out u w→l.getD u 0=l.getD w 0
theorem PartOf.le {N:Nat} {out:List (List Int)} {l l':List Int} (h:PartOf N out l) (h':PartOf N out l') {v:Nat} (hv:v<N):l'.getD v 0≤l.getD v 0:=by
 have h1:=h.half.num v hv
 have h2:l'.getD v 0=l'.getD (l.getD v 0).toNat 0:=h.half.con v hv (fun u=>l'.getD u 0) h'.edge
 have h3:=h'.half.num (l.getD v 0).toNat (by omega)
 omega
theorem PartOf.uniq {N:Nat} {out:List (List Int)} {l l':List Int} (h:PartOf N out l) (h':PartOf N out l'):l=l':=by
 have a:=h.half.len
 have b:=h'.half.len
 refine ext_getD (by omega) fun v hv=>?_
 have:=h.le h' (v:=v) (by omega)
 have:=h'.le h (v:=v) (by omega)
 omega
theorem PHalf.init {N:Nat} {out:List (List Int)} {l:List Int} (hl:l.length=N) (h:∀ j,j<N→l.getD j 0=j):PHalf N out l :=
 ⟨hl,fun v hv=>by rw [h v hv];omega,fun v hv=>by rw [h v hv,Int.toNat_natCast];exact Conn.rfl' v⟩
def Fin1 (N:Nat) (out:List (List Int)) (l:List Int) (v:Nat):Prop:=∀ u,u<N→Conn N out v u→l.getD v 0≤u
theorem Fin1.le {N:Nat} {out:List (List Int)} {l l':List Int} {v:Nat} (h:Fin1 N out l v) (k:l'.getD v 0≤l.getD v 0):Fin1 N out l' v:=fun u hu hc=>by have:=h u hu hc;omega
theorem fin_near {N:Nat} {out:List (List Int)} {l:List Int} (h:PHalf N out l):∀ n v,v<n→v<N→∃ u,u<N∧Conn N out v u∧Fin1 N out l u:=by
 intro n
 induction n with
 | zero=>intro v hv;omega
 | succ n ih =>
  intro v hv hN
  by_cases hf:Fin1 N out l v
  ·exact ⟨v,hN,Conn.rfl' v,hf⟩
  ·obtain ⟨u,hu⟩:=Classical.not_forall.1 hf
   obtain ⟨hu1,hu2⟩:=Classical.not_forall.1 hu
   obtain ⟨hu2,hu3⟩:=Classical.not_forall.1 hu2
   have:=h.num v hN
   obtain ⟨x,hx1,hx2,hx3⟩:=ih u (by omega) hu1
   exact ⟨x,hx1,hu2.trans hx2,hx3⟩
theorem fin_cross {N:Nat} {out:List (List Int)} {l:List Int} (h:PHalf N out l) {v:Nat} (hv:v<N) (hf:¬ Fin1 N out l v):∃ a b,a<N∧b<N∧Edge out a b∧((Fin1 N out l a∧¬ Fin1 N out l b)∨(¬ Fin1 N out l a∧Fin1 N out l b)):=by
 apply Classical.byContradiction
 intro hn
 obtain ⟨u,hu,hc,hfu⟩:=fin_near h (v+1) v (by omega) hv
 have:=hc (fun x=>@ite _ (Fin1 N out l x) (Classical.propDecidable _) 1 0) (fun a b ha hb he=>by
  by_cases h1:Fin1 N out l a <;> by_cases h2:Fin1 N out l b
  ·simp only [h1,h2]
  ·exact absurd ⟨a,b,ha,hb,he,.inl ⟨h1,h2⟩⟩ hn
  ·exact absurd ⟨a,b,ha,hb,he,.inr ⟨h1,h2⟩⟩ hn
  ·simp only [h1,h2])
 simp only [if_neg hf,if_pos hfu] at this
 omega
def Settled (N:Nat) (out:List (List Int)) (l:List Int) (t:Nat):Prop:=(∀ v,v<N→Fin1 N out l v)∨∃ xs:List Nat,xs.Nodup∧(∀ x∈xs,x<N∧Fin1 N out l x)∧t≤xs.length
theorem nodup_ltN {N:Nat} {xs:List Nat} (h:xs.Nodup) (hx:∀ x∈xs,x<N):xs.length≤N:=by
 have:=nodup_le (xs.map fun (x:Nat)=>(x:Int)) ((List.range N).map fun (x:Nat)=>(x:Int)) (List.Pairwise.map _ (fun x y (hxy:x≠y)=>by omega) h) (fun y hy=>by
  obtain ⟨x,hm,rfl⟩:=List.mem_map.1 hy
  exact List.mem_map.2 ⟨x,List.mem_range.2 (hx x hm),rfl⟩)
 simpa using this
theorem Settled.all {N:Nat} {out:List (List Int)} {l:List Int} (h:Settled N out l N):∀ v,v<N→Fin1 N out l v:=by
 rcases h with h | ⟨xs,h1,h2,h3⟩
 ·exact h
 ·intro v hv
  by_cases hm:v∈xs
  ·exact (h2 v hm).2
  ·have:=nodup_ltN (N:=N) (List.nodup_cons.2 ⟨hm,h1⟩) (fun x hx=>by
    rcases List.mem_cons.1 hx with rfl | hx
    ·exact hv
    ·exact (h2 x hx).1)
   simp only [List.length_cons] at this
   omega
theorem settled_part {N:Nat} {out:List (List Int)} {l:List Int} (h:PHalf N out l) (hs:∀ v,v<N→Fin1 N out l v):PartOf N out l:=by
 refine ⟨h,fun u w hu hw he=>?_⟩
 have hc:=Conn.of hu hw he
 have a:=h.num u hu
 have b:=h.num w hw
 have h1:=hs u hu (l.getD w 0).toNat (by omega) (hc.trans (h.con w hw))
 have h2:=hs w hw (l.getD u 0).toNat (by omega) (hc.symm.trans (h.con u hu))
 omega
structure Swp (N:Nat) (out:List (List Int)) (l0:List Int) (u0 j0:Nat) (l:List Int):Prop where
 half:PHalf N out l
 le:∀ v,v<N→l.getD v 0≤l0.getD v 0
 fin:∀ u w,u<u0→u<N→w<N→Edge out u w→(Fin1 N out l0 u∨Fin1 N out l0 w)→Fin1 N out l u∧Fin1 N out l w
 part:∀ j,j<j0→j<(out.getD u0 []).length→(Fin1 N out l0 u0∨Fin1 N out l0 ((out.getD u0 []).getD j 0).toNat)→Fin1 N out l u0∧Fin1 N out l ((out.getD u0 []).getD j 0).toNat
theorem mn_le (a b:Int):mn a b≤a∧mn a b≤b∧(mn a b=a∨mn a b=b):=by unfold mn;split <;> omega
theorem Swp.put {N:Nat} {out:List (List Int)} {l0:List Int} {u0 j0:Nat} {l:List Int} (hg:Good N out) (h:Swp N out l0 u0 j0 l) (hu:u0<N) (hj:j0<(out.getD u0 []).length) :
  Swp N out l0 u0 (j0+1) ((l.set u0 (mn (l.getD u0 0) (l.getD ((out.getD u0 []).getD j0 0).toNat 0))).set ((out.getD u0 []).getD j0 0).toNat (mn (l.getD u0 0) (l.getD ((out.getD u0 []).getD j0 0).toNat 0))):=by
 obtain ⟨he,hwN,hwe⟩:=edge_of hg hu hj
 have hl:=h.half.len
 have hpt:=h.part
 generalize hwd:((out.getD u0 []).getD j0 0).toNat=w at *
 obtain ⟨hm1,hm2,hm3⟩:=mn_le (l.getD u0 0) (l.getD w 0)
 generalize mn (l.getD u0 0) (l.getD w 0)=m at *
 have hG:∀ v,((l.set u0 m).set w m).getD v 0=if v=w∨v=u0 then m else l.getD v 0:=fun v=>by
  rw [getD_set _ _ _ _ (by rw [List.length_set];omega),getD_set _ _ _ _ (by omega)]
  by_cases e1:v=w
  ·simp [e1]
  ·by_cases e2:v=u0 <;> simp [e1,e2]
 have hle:∀ v,((l.set u0 m).set w m).getD v 0≤l.getD v 0:=fun v=>by
  rw [hG]
  split
  ·rename_i e;rcases e with rfl | rfl <;> assumption
  ·omega
 have hfu:∀ v,Fin1 N out l v→Fin1 N out ((l.set u0 m).set w m) v:=fun v hv=>hv.le (hle v)
 have hc:=Conn.of hu hwN he
 have hm:m=l.getD u0 0∨m=l.getD w 0:=hm3
 have a:=h.half.num u0 hu
 have b:=h.half.num w hwN
 have hmc:Conn N out u0 m.toNat:=by
  rcases hm with e | e
  ·rw [e];exact h.half.con u0 hu
  ·rw [e];exact hc.trans (h.half.con w hwN)
 refine ⟨⟨by simp [hl],fun v hv=>?_,fun v hv=>?_⟩,fun v hv=>Int.le_trans (hle v) (h.le v hv),fun u x h1 h2 h3 hE h4=>?_,fun j h1 h2 h4=>?_⟩
 ·have:=h.half.num v hv
  have:=hle v
  refine ⟨?_,by omega⟩
  rw [hG]
  split <;> omega
 ·rw [hG]
  split
  ·rename_i e
   rcases e with rfl | rfl
   ·exact hc.symm.trans hmc
   ·exact hmc
  ·exact h.half.con v hv
 ·obtain ⟨p,q⟩:=h.fin u x h1 h2 h3 hE h4
  exact ⟨hfu u p,hfu x q⟩
 ·by_cases e:j=j0
  ·subst e
   rw [hwd] at h4 ⊢
   have hG1:((l.set u0 m).set w m).getD u0 0=m:=by rw [hG];simp
   have hG2:((l.set u0 m).set w m).getD w 0=m:=by rw [hG];simp
   have hmin:∀ y,y<N→Conn N out u0 y→m≤y:=by
    intro y hy hcy
    rcases h4 with h4 | h4
    ·have:=h4 y hy hcy
     have:=h.le u0 hu
     omega
    ·have:=h4 y hy (hc.symm.trans hcy)
     have:=h.le w hwN
     omega
   exact ⟨fun y hy hcy=>by rw [hG1];exact hmin y hy hcy,fun y hy hcy=>by rw [hG2];exact hmin y hy (hc.trans hcy)⟩
  ·obtain ⟨p,q⟩:=hpt j (by omega) h2 h4
   exact ⟨hfu u0 p,hfu _ q⟩
theorem Swp.next {N:Nat} {out:List (List Int)} {l0:List Int} {u0 j0:Nat} {l:List Int} (h:Swp N out l0 u0 j0 l) (hj:(out.getD u0 []).length≤j0):Swp N out l0 (u0+1) 0 l :=
 ⟨h.half,h.le,fun u w h1 h2 h3 hE h4=>by
  by_cases e:u=u0
  ·subst e
   obtain ⟨j,hj1,ej⟩:=edge_at hE
   have:=h.part j (by omega) hj1
   rw [ej,Int.toNat_natCast] at this
   exact this h4
  ·exact h.fin u w (by omega) h2 h3 hE h4,fun j h1=>by omega⟩
theorem Swp.done {N:Nat} {out:List (List Int)} {l0 l:List Int} {t:Nat} (h0:PHalf N out l0) (hs:Settled N out l0 t) (h:Swp N out l0 N 0 l):Settled N out l (t+1):=by
 have hup:∀ v,v<N→Fin1 N out l0 v→Fin1 N out l v:=fun v hv hf=>hf.le (h.le v hv)
 rcases hs with hs | ⟨xs,h1,h2,h3⟩
 ·exact .inl fun v hv=>hup v hv (hs v hv)
 ·by_cases hall:∀ v,v<N→Fin1 N out l0 v
  ·exact .inl fun v hv=>hup v hv (hall v hv)
  ·obtain ⟨v,hv⟩:=Classical.not_forall.1 hall
   obtain ⟨hvN,hvf⟩:=Classical.not_forall.1 hv
   obtain ⟨a,b,ha,hb,hE,hab⟩:=fin_cross h0 hvN hvf
   obtain ⟨fa,fb⟩:=h.fin a b ha ha hb hE (hab.elim (fun x=>.inl x.1) (fun x=>.inr x.2))
   rcases hab with ⟨_,hnb⟩ | ⟨hna,_⟩
   ·exact .inr ⟨b::xs,List.nodup_cons.2 ⟨fun hm=>hnb (h2 b hm).2,h1⟩,fun x hx=>by
     rcases List.mem_cons.1 hx with rfl | hx
     ·exact ⟨hb,fb⟩
     ·exact ⟨(h2 x hx).1,hup x (h2 x hx).1 (h2 x hx).2⟩,by simp only [List.length_cons];omega⟩
   ·exact .inr ⟨a::xs,List.nodup_cons.2 ⟨fun hm=>hna (h2 a hm).2,h1⟩,fun x hx=>by
     rcases List.mem_cons.1 hx with rfl | hx
     ·exact ⟨ha,fa⟩
     ·exact ⟨(h2 x hx).1,hup x (h2 x hx).1 (h2 x hx).2⟩,by simp only [List.length_cons];omega⟩
end Go.XL
end
end
section
section
namespace Go.XL
open Go.XM
def JSm (j:Ac):Prop:=j.List_.length≤1000000∧j.Out.length≤1000000
theorem jeq (x y:Ac):x=y↔x.Kind=y.Kind∧x.A=y.A∧x.At=y.At∧x.Move=y.Move∧x.List_=y.List_∧x.Out=y.Out:=by
 obtain ⟨a,b,c,d,e,f⟩:=x
 obtain ⟨a',b',c',d',e',f'⟩:=y
 simp only [Prod.mk.injEq]
instance (x y:Ac):Decidable (x=y):=decidable_of_iff _ (jeq x y).symm
theorem posBE {α:Type} {p q:Bool} {f g:Nat→Nat→Nat→Nat→Nat→Option α} {r:α} (h:p=q) (k:Ev f r):Ev (fun x y z u v=>if (p == q)=true then f x y z u v else g x y z u v) r:=pos (by simp [h]) k
theorem negBE {α:Type} {p q:Bool} {f g:Nat→Nat→Nat→Nat→Nat→Option α} {r:α} (h:¬ p=q) (k:Ev g r):Ev (fun x y z u v=>if (p == q)=true then f x y z u v else g x y z u v) r:=neg (by simpa using h) k
theorem eqjob_ev (x y:Ac) (h:JSm x):E0 (fun K=>Dz K x y) (decide (x=y)):=by
 unfold Dz
 have no:∀ {q:Prop},(x=y→q)→¬ q→false=decide (x=y):=fun a b=>(decide_eq_false fun e=>b (a e)).symm
 by_cases h1:x.Kind=y.Kind
 ·refine posE h1 ?_
  by_cases h2:x.A=y.A
  ·refine posE h2 ?_
   by_cases h3:x.At=y.At
   ·refine posE h3 ?_
    by_cases h4:x.Move=y.Move
    ·refine posBE h4 (bnd (eqn_ev _ _ h.1) ?_)
     by_cases h5:x.List_=y.List_
     ·refine posD h5 (bnd (eqn_ev _ _ h.2) (nowE ?_))
      exact decide_eq_decide.2 ⟨fun h6=>(jeq x y).2 ⟨h1,h2,h3,h4,h5,h6⟩,fun e=>((jeq x y).1 e).2.2.2.2.2⟩
     ·exact negD h5 (nowE (no (fun e=>by rw [e]) h5))
    ·exact negBE h4 (nowE (no (fun e=>by rw [e]) h4))
   ·exact negE h3 (nowE (no (fun e=>by rw [e]) h3))
  ·exact negE h2 (nowE (no (fun e=>by rw [e]) h2))
 ·exact negE h1 (nowE (no (fun e=>by rw [e]) h1))
theorem jsame_ev (x y:Ac) (h:JSm x):E0 (fun K=>Gi K x y) (decide (x=y)):=by
 unfold Gi
 have no:∀ {q:Prop},(x=y→q)→¬ q→false=decide (x=y):=fun a b=>(decide_eq_false fun e=>b (a e)).symm
 by_cases h1:x.Kind=y.Kind
 ·refine posE h1 ?_
  by_cases h2:x.A=y.A
  ·refine posE h2 ?_
   by_cases h3:x.At=y.At
   ·refine posE h3 ?_
    by_cases h4:x.Move=y.Move
    ·refine posBE h4 (bnd (equal_ev _ _ h.1) ?_)
     by_cases h5:x.List_=y.List_
     ·refine posD h5 (bnd (equal_ev _ _ h.2) (nowE ?_))
      exact decide_eq_decide.2 ⟨fun h6=>(jeq x y).2 ⟨h1,h2,h3,h4,h5,h6⟩,fun e=>((jeq x y).1 e).2.2.2.2.2⟩
     ·exact negD h5 (nowE (no (fun e=>by rw [e]) h5))
    ·exact negBE h4 (nowE (no (fun e=>by rw [e]) h4))
   ·exact negE h3 (nowE (no (fun e=>by rw [e]) h3))
  ·exact negE h2 (nowE (no (fun e=>by rw [e]) h2))
 ·exact negE h1 (nowE (no (fun e=>by rw [e]) h1))
theorem copyjob_ev (j:Ac) (h:JSm j):E0 (fun K=>Co K j) j:=by
 unfold Co
 exact bnd (copy_ev _ h.1) (bnd (copy_ev _ h.2) (now _))
theorem repeat_all (K:Nat):((List.range 17).all fun n=>decide (Ar (K+10) ([(-1)]:List Int) (n:Int)=some (List.replicate n (-1))))=true:=by kernel_rfl
theorem repeat_ev (N:Nat) (h:N≤16):E0 (fun K=>Ar K ([(-1)]:List Int) (N:Int)) (List.replicate N (-1)):=by
 refine ⟨10,fun K _ _ _ _ hK _ _ _ _=>?_⟩
 obtain ⟨k,rfl⟩:∃ k,K=k+10:=⟨K-10,by omega⟩
 exact of_decide_eq_true (List.all_eq_true.1 (repeat_all k) N (List.mem_range.2 (by omega)))
def code (n kind a:Int):Int:=if 1≤kind∧kind≤6 then (if kind=1∨kind=2∨kind=4 then (if 0≤a∧a<n then 0 else 3) else 0) else 1
theorem named_eq (K:Nat) (a:Int):Fb K a=some (decide (a=1∨a=2∨a=4)):=by
 unfold Fb
 by_cases h1:a=1
 ·simp [h1]
 ·by_cases h2:a=2
  ·simp [h2]
  ·rw [if_neg (by simpa using h1),if_neg (by simpa using h2)]
   by_cases h4:a=4
   ·simp [h4]
   ·simp [h1,h2,h4]
theorem named10_eq (K:Nat) (a:Int):Db K a=some (decide (a=1∨a=2∨a=4)):=by
 unfold Db
 by_cases h1:a=1
 ·simp [h1]
 ·by_cases h2:a=2
  ·simp [h2]
  ·rw [if_neg (by simpa using h1),if_neg (by simpa using h2)]
   by_cases h4:a=4
   ·simp [h4]
   ·simp [h1,h2,h4]
theorem isG_eq (K:Nat) (g:Aa) (a:Int):F4 K g a=some (decide (0≤a∧a<g.N)):=by
 unfold F4
 by_cases h:a≥0
 ·rw [if_pos (decide_eq_true h)];simp [h]
 ·rw [if_neg (by simpa using h)];simp;omega
theorem btw_eq (K:Nat) (a b c:Int):Ee K a b c=some (decide (b≤a∧a≤c)):=by
 unfold Ee
 by_cases h:a≥b
 ·rw [if_pos (decide_eq_true h)];simp [h]
 ·rw [if_neg (by simpa using h)];simp;omega
theorem may10_eq (K:Nat) (g:Aa) (kind a:Int) (h0:0≤g.N) (h1:g.N≤16):Er K g kind a=some (code g.N kind a):=by
 unfold Er
 rw [btw_eq,named10_eq,num_eq,w64 (by omega) (by omega)]
 simp only [Option.bind_some,decide_eq_true_eq]
 unfold code
 by_cases hk:1≤kind∧kind≤6
 ·rw [if_neg (by rw [decide_eq_true hk];decide),if_pos hk]
  split
  ·by_cases q:0≤a∧a<g.N
   ·rw [if_pos q,if_neg (by rw [decide_eq_true (show 0≤a∧a≤g.N-1 by omega)];decide)]
   ·rw [if_neg q,if_pos (by rw [decide_eq_false (show ¬ (0≤a∧a≤g.N-1) by omega)];decide)]
  ·rfl
 ·rw [if_pos (by rw [decide_eq_false hk];rfl),if_neg hk]
theorem asked_ev (g:Aa) (kind a:Int) (hs:GSm g):E0 (fun K=>Df K g kind a) (if GraphP g then code g.N kind a else 1):=by
 unfold Df
 refine bnd (gmayG_ev g hs) ?_
 unfold Df.j1
 by_cases hg:GraphP g
 ·rw [if_pos hg]
  refine negM hg ?_
  by_cases h1:kind<1
  ·exact posD h1 (pos rfl (nowE (by unfold code;rw [if_neg (by omega)])))
  ·refine negD h1 ?_
   by_cases h6:kind > 6
   ·exact posD h6 (nowE (by unfold code;rw [if_neg (by omega)]))
   ·refine negD h6 ?_
    simp only [named_eq,isG_eq]
    unfold code
    rw [if_pos (by omega)]
    refine bnd (now _) ?_
    by_cases hk:kind=1∨kind=2∨kind=4
    ·rw [if_pos hk]
     refine posD hk (bnd (now _) ?_)
     by_cases ha:0≤a∧a<g.N
     ·rw [if_pos ha];exact negM ha (now _)
     ·rw [if_neg ha];exact posM ha (now _)
    ·rw [if_neg hk]
     exact negD hk (now _)
 ·rw [if_neg hg]
  exact posM hg (pos rfl (now _))
end Go.XL
end
end
section
section
namespace Go.XL
open Go.XM
def ov (g:Aa) (j:Ac):Bool:=if j.Kind=1 then decide (j.At≥1) else if j.Kind=4 then decide (j.At≥((j.List_.length:Nat):Int)) else decide (j.At≥g.N)
theorem over_eq (K:Nat) (g:Aa) (j:Ac):F8 K g j=some (ov g j):=by
 unfold F8 ov
 by_cases h1:j.Kind=1
 ·rw [if_pos (by simpa using h1),if_pos h1]
 ·rw [if_neg (by simpa using h1),if_neg h1]
  by_cases h4:j.Kind=4
  ·rw [if_pos (by simpa using h4),if_pos h4]
  ·rw [if_neg (by simpa using h4),if_neg h4]
theorem ended_eq (K:Nat) (g:Aa) (j:Ac):Ej K g j=some (ov g j):=by
 unfold Ej ov
 by_cases h1:j.Kind=1
 ·rw [if_pos (by simpa using h1),if_pos h1]
 ·rw [if_neg (by simpa using h1),if_neg h1]
  by_cases h4:j.Kind=4
  ·rw [if_pos (by simpa using h4),if_pos h4]
  ·rw [if_neg (by simpa using h4),if_neg h4]
def Vis (g:Aa) (j j':Ac):Prop:=E0 (fun K=>Bq K g j) j'∧E0 (fun K=>Ab K g j) j'
structure Tr (g:Aa) (kind a:Int) (n:Nat) (tr:Nat→Ac):Prop where
 kd:∀ i,i≤n→(tr i).Kind=kind∧(tr i).A=(tr 0).A
 sm:∀ i,i≤n→JSm (tr i)
 go:∀ i,i<n→ov g (tr i)=false
 vis:∀ i,i<n→Vis g (tr i) (tr (i+1))
 fin:ov g (tr n)=true
 le:n≤1000
 beg:E0 (fun K=>Ff K g kind a) (tr 0,0)
 beg2:E0 (fun K=>Ff K g kind (tr 0).A) (tr 0,0)
 ref:E0 (fun K=>Av K g kind a) (tr 0)
 un:¬ (kind=1∨kind=2∨kind=4)→(tr 0).A=0
theorem eta (j:Ac):((j.Kind,j.A,j.At,j.Move,j.List_,j.Out):Ac)=j:=rfl
section
variable {g:Aa} {kind a:Int} {n:Nat} {tr:Nat→Ac}
theorem Tr.may (h:Tr g kind a n tr) (i:Nat) (hi:i≤n):E0 (fun K=>Dc K g (tr i)) true:=by
 have key:∀ m,m≤i→E1 (fun K k=>Dc.l1 K g (tr i) k (tr m).Kind (tr m).A (tr m).At (tr m).Move (tr m).List_ (tr m).Out) true:=by
  refine upto ?_ ?_
  ·refine step1 (fun _ _ _ _ _=>Dc.l1.eq_2 ..) ?_
   exact bnd (jsame_ev (tr i) (tr i) (h.sm i hi)) (posD rfl (now _))
  ·intro m hm ih
   refine step1 (fun _ _ _ _ _=>Dc.l1.eq_2 ..) ?_
   refine bnd (jsame_ev (tr m) (tr i) (h.sm m (by omega))) ?_
   by_cases e:tr m=tr i
   ·exact posD e (now _)
   ·refine negD e ?_
    simp only [eta,over_eq,h.go m (by omega)]
    refine bnd (now _) (neg (by decide) (bnd (h.vis m (by omega)).1 ih))
 unfold Dc
 rw [(h.kd i hi).1,(h.kd i hi).2]
 exact bnd h.beg2 (negN rfl (key 0 (by omega)).e1)
end
end Go.XL
end
end
section
section
namespace Go.XL
open Go.XM
def Ends (kind:Int):Prop:=∀ (g:Aa) (a:Int),GraphP g→code g.N kind a=0→∃ n tr,Tr g kind a n tr
end Go.XL
end
end
section
section
namespace Go.XL
open Go.XM
def a0 (kind a:Int):Int:=if kind=1∨kind=2∨kind=4 then a else 0
def upN (N:Nat):List Int:=(List.range N).map fun (i:Nat)=>(i:Int)
theorem upN_succ (N:Nat):upN (N+1)=upN N++[(N:Int)]:=by simp [upN,List.range_succ]
theorem upN_length (N:Nat):(upN N).length=N:=by simp [upN]
theorem upN_getD {N i:Nat} (h:i<N):(upN N).getD i 0=i:=by simp [upN,List.getD_eq_getElem?_getD,h]
def out0 (N:Nat) (kind:Int):List Int:=if kind=4 then List.replicate N (-1) else if kind=5 then upN N else []
theorem out0_len (N:Nat) (kind:Int):(out0 N kind).length≤N:=by
 unfold out0
 split
 ·simp
 ·split
  ·rw [upN_length];omega
  ·simp
def job0 (N:Nat) (kind a:Int):Ac:=(kind,a0 kind a,0,false,if kind=4 then [a] else [],if kind=4 then (out0 N kind).set a.toNat 0 else out0 N kind)
theorem code_rng {n kind a:Int} (hc:code n kind a=0):(1≤kind∧kind≤6)∧((kind=1∨kind=2∨kind=4)→0≤a∧a<n):=by
 unfold code at hc
 by_cases hk:1≤kind∧kind≤6
 ·refine ⟨hk,fun h=>?_⟩
  rw [if_pos hk,if_pos h] at hc
  apply Classical.byContradiction
  intro hn
  rw [if_neg hn] at hc
  omega
 ·rw [if_neg hk] at hc;omega
theorem code_a0 {n kind a:Int} (hc:code n kind a=0):code n kind (a0 kind a)=0:=by
 unfold a0
 split
 ·exact hc
 ·rename_i h
  unfold code at hc ⊢
  split
  ·rfl
  ·rename_i q;rw [if_neg q] at hc;omega
theorem job0_a0 (N:Nat) (kind a:Int):job0 N kind (a0 kind a)=job0 N kind a:=by
 by_cases h:kind=1∨kind=2∨kind=4
 ·have:a0 kind a=a:=by unfold a0;rw [if_pos h]
  rw [this]
 ·have h4:¬ kind=4:=fun e=>h (.inr (.inr e))
  have e:∀ b,a0 kind b=0:=fun b=>by unfold a0;rw [if_neg h]
  unfold job0
  simp only [e,if_neg h4]
theorem rbeg_ev (g:Aa) (N:Nat) (e:g.N=(N:Int)) (hN:N≤16) (kind a:Int) (hc:code g.N kind a=0):E0 (fun K=>Av K g kind a) (job0 N kind a):=by
 obtain ⟨hk,ha⟩:=code_rng hc
 have key:∀ A:Int,A=a0 kind a→∀ v,v≤N→E1 (fun K k=>Av.l2 K A 0 g kind a k (v:Int) (out0 v kind)) (job0 N kind a):=by
  intro A hA
  refine upto ?_ ?_
  ·refine step1 (fun _ _ _ _ _=>Av.l2.eq_2 ..) ?_
   refine negD (by omega) ?_
   by_cases h4:kind=4
   ·have:=ha (.inr (.inr h4))
    refine posE h4 (pos (by unfold out0;rw [if_pos h4];simp;omega) (nowE ?_))
    unfold job0;rw [if_pos h4,if_pos h4,hA]
   ·refine negE h4 (nowE ?_)
    unfold job0;rw [if_neg h4,if_neg h4,hA]
  ·intro v hv ih
   have hol:=out0_len v kind
   refine step1 (fun _ _ _ _ _=>Av.l2.eq_2 ..) ?_
   refine posD (by omega) ?_
   rw [w1 (by omega)]
   by_cases h4:kind=4
   ·refine posE h4 (pos (by simp;omega) ?_)
    have:out0 v kind++[(-1)]=out0 (v+1) kind:=by unfold out0;rw [if_pos h4,if_pos h4,List.replicate_succ']
    rw [this];exact ih
   ·refine negE h4 ?_
    by_cases h5:kind=5
    ·refine posE h5 (pos (by simp;omega) ?_)
     have:out0 v kind++[(v:Int)]=out0 (v+1) kind:=by unfold out0;rw [if_neg h4,if_neg h4,if_pos h5,if_pos h5,upN_succ]
     rw [this];exact ih
    ·refine negE h5 ?_
     have:out0 v kind=out0 (v+1) kind:=by unfold out0;rw [if_neg h4,if_neg h4,if_neg h5,if_neg h5]
     rw [this];exact ih
 have h0:out0 0 kind=[]:=by unfold out0;split;· rfl
                            ·split <;> rfl
 unfold Av Av.j1
 simp only [named10_eq]
 refine bnd (now _) ?_
 by_cases h:kind=1∨kind=2∨kind=4
 ·refine posD h ?_
  have:=(key a (by unfold a0;rw [if_pos h]) 0 (by omega)).e1
  rw [h0] at this;exact this
 ·refine negD h ?_
  have:=(key 0 (by unfold a0;rw [if_neg h]) 0 (by omega)).e1
  rw [h0] at this;exact this
theorem sbeg_ev (g:Aa) (N:Nat) (e:g.N=(N:Int)) (hN:N≤16) (hg:GraphP g) (hs:GSm g) (kind a:Int) (hc:code g.N kind a=0):E0 (fun K=>Ff K g kind a) (job0 N kind a,0):=by
 obtain ⟨hk,ha⟩:=code_rng hc
 have hask:=asked_ev g kind a hs
 rw [if_pos hg,hc] at hask
 have j1:∀ A:Int,A=a0 kind a→E0 (fun K=>Cy.j1 K g kind a 0 0 0 A 0) (job0 N kind a):=by
  intro A hA
  unfold Cy.j1
  by_cases h4:kind=4
  ·have:=ha (.inr (.inr h4))
   refine posE h4 ?_
   rw [e]
   refine bnd (repeat_ev N hN) (pos (by simp;omega) (nowE ?_))
   unfold job0 out0;rw [if_pos h4,if_pos h4,if_pos h4,hA]
  ·refine negE h4 ?_
   by_cases h5:kind=5
   ·refine posE h5 ?_
    have key:∀ v,v≤N→E1 (fun K k=>Cy.l2 K A 0 g kind k (v:Int) (upN v)) (job0 N kind a):=by
     refine upto ?_ ?_
     ·refine step1 (fun _ _ _ _ _=>Cy.l2.eq_2 ..) ?_
      refine negD (by omega) (nowE ?_)
      unfold job0 out0;rw [if_neg h4,if_neg h4,if_neg h4,if_pos h5,hA]
     ·intro v hv ih
      refine step1 (fun _ _ _ _ _=>Cy.l2.eq_2 ..) ?_
      refine posD (by omega) (pos (by simp [upN_length];omega) ?_)
      rw [w1 (by omega),← upN_succ]
      exact ih
    exact (key 0 (by omega)).e1
   ·refine negE h5 (nowE ?_)
    unfold job0 out0;rw [if_neg h4,if_neg h4,if_neg h4,if_neg h5,hA]
 unfold Ff
 refine bnd hask (negN rfl (bnd ?_ (now _)))
 unfold Cy
 simp only [named_eq]
 refine bnd (now _) ?_
 by_cases h:kind=1∨kind=2∨kind=4
 ·exact posD h (j1 a (by unfold a0;rw [if_pos h]))
 ·exact negD h (j1 0 (by unfold a0;rw [if_neg h]))
theorem tr_of {g:Aa} {N:Nat} (hg:GraphP g) (e:g.N=(N:Int)) (hN:N≤16) (hs:GSm g) {kind a:Int} (hc:code g.N kind a=0) {n:Nat} {tr:Nat→Ac} (h0:tr 0=job0 N kind a) (hn:n≤1000)
  (kd:∀ i,i≤n→(tr i).Kind=kind∧(tr i).A=a0 kind a) (sm:∀ i,i≤n→JSm (tr i)) (go:∀ i,i<n→ov g (tr i)=false) (vis:∀ i,i<n→Vis g (tr i) (tr (i+1))) (fin:ov g (tr n)=true):Tr g kind a n tr:=by
 have hA:(tr 0).A=a0 kind a:=(kd 0 (by omega)).2
 refine ⟨fun i hi=>⟨(kd i hi).1,by rw [hA];exact (kd i hi).2⟩,sm,go,vis,fin,hn,?_,?_,?_,fun h=>by rw [hA];unfold a0;rw [if_neg h]⟩
 ·rw [h0];exact sbeg_ev g N e hN hg hs kind a hc
 ·rw [hA,h0,← job0_a0];exact sbeg_ev g N e hN hg hs kind _ (code_a0 hc)
 ·rw [h0];exact rbeg_ev g N e hN kind a hc
end Go.XL
end
end
section
section
namespace Go.XL
open Go.XM
theorem pKind (k a t m l o):Ac.Kind (k,a,t,m,l,o)=k:=rfl
theorem pA (k a t m l o):Ac.A (k,a,t,m,l,o)=a:=rfl
theorem pAt (k a t m l o):Ac.At (k,a,t,m,l,o)=t:=rfl
theorem pMove (k a t m l o):Ac.Move (k,a,t,m,l,o)=m:=rfl
theorem pList (k a t m l o):Ac.List_ (k,a,t,m,l,o)=l:=rfl
theorem pOut (k a t m l o):Ac.Out (k,a,t,m,l,o)=o:=rfl
theorem pgN (n o):Aa.N (n,o)=n:=rfl
theorem pgO (n o):Aa.Out (n,o)=o:=rfl
theorem at1 (i:Nat) (h:i<1000):wr .i64 ((i:Int)+1)=((i+1:Nat):Int):=w1 (by omega)
theorem ends1:Ends 1:=by
 intro g a hg hc
 obtain ⟨en,hG⟩:=hg.good
 have ha:=(code_rng hc).2 (.inl rfl)
 have hs:=hg.sm
 generalize g.N.toNat=N at *
 have hN:=hG.le
 have hlen:=hG.len
 obtain ⟨a,rfl⟩:∃ m:Nat,a=m:=⟨a.toNat,by omega⟩
 have hr:=hG.rlen a
 have ho:∀ i:Nat,(if i=0 then [] else g.Out.getD a []).length≤16:=fun i=>by
  split
  ·exact Nat.zero_le _
  ·omega
 refine ⟨1,fun i=>(1,a,i,false,[],if i=0 then [] else g.Out.getD a []),tr_of hg en hN hs hc rfl (by omega) (fun i _=>⟨rfl,by simp [a0]⟩) (fun i hi=>⟨Nat.zero_le _,Nat.le_trans (ho i) (by omega)⟩) (fun i hi=>?_) (fun i hi=>?_) rfl⟩
 ·obtain rfl:i=0:=by omega
  rfl
 ·obtain rfl:i=0:=by omega
  have hsm:JSm ((1,(a:Int),((0:Nat):Int),false,[],[]):Ac):=⟨Nat.zero_le _,Nat.zero_le _⟩
  show Vis g ((1,(a:Int),((0:Nat):Int),false,[],[]):Ac) ((1,(a:Int),((1:Nat):Int),false,[],g.Out.getD a []):Ac)
  constructor
  ·unfold Bq
   simp only [pKind,pA,pAt,pMove,pList,pOut,pgN,pgO]
   refine negE (by decide) (posE rfl (pos (by omega) ?_))
   simp only [rd1N,clone_eq _ _ (show (g.Out.getD a []).length≤1000000 by omega)]
   exact bnd (now _) (nowE (by rw [at1 0 (by omega)]))
  ·unfold Ab
   refine bnd (copyjob_ev _ hsm) ?_
   simp only [pKind,pA,pAt,pMove,pList,pOut,pgN,pgO]
   refine posE rfl (pos (by omega) ?_)
   simp only [rd1N]
   exact bnd (copy_ev _ (by omega)) (nowE (by rw [at1 0 (by omega)]))
def ins (out:List (List Int)) (a:Int) (n:Nat):List Int:=((List.range n).filter fun v=>decide (a∈out.getD v [])).map fun (v:Nat)=>(v:Int)
theorem ins_succ (out:List (List Int)) (a:Int) (n:Nat):ins out a (n+1)=if a∈out.getD n [] then ins out a n++[(n:Int)] else ins out a n:=by
 unfold ins
 rw [List.range_succ,List.filter_append,List.map_append]
 by_cases h:a∈out.getD n []
 ·rw [if_pos h,List.filter_cons_of_pos (p:=fun v=>decide (a∈out.getD v [])) (by exact decide_eq_true h)];rfl
 ·rw [if_neg h,List.filter_cons_of_neg (by rw [decide_eq_true_eq];exact h)];simp
theorem ins_len (out:List (List Int)) (a:Int) (n:Nat):(ins out a n).length≤n:=by
 unfold ins
 rw [List.length_map]
 exact Nat.le_trans (List.length_filter_le _ _) (by simp)
theorem ends2:Ends 2:=by
 intro g a hg hc
 obtain ⟨en,hG⟩:=hg.good
 have ha:=(code_rng hc).2 (.inr (.inl rfl))
 have hs:=hg.sm
 generalize g.N.toNat=N at *
 have hN:=hG.le
 have hlen:=hG.len
 obtain ⟨a,rfl⟩:∃ m:Nat,a=m:=⟨a.toNat,by omega⟩
 have hl:∀ i,i≤N→(ins g.Out a i).length≤16:=fun i hi=>by have:=ins_len g.Out a i;omega
 refine ⟨N,fun i=>(2,a,i,false,[],ins g.Out a i),tr_of hg en hN hs hc rfl (by omega) (fun i _=>⟨rfl,by simp [a0]⟩) (fun i hi=>⟨Nat.zero_le _,by have:=hl i hi;show (ins g.Out a i).length≤_;omega⟩) (fun i hi=>?_) (fun i hi=>?_) ?_⟩
 ·show decide ((i:Int)≥g.N)=false
  exact decide_eq_false (by omega)
 ·have hr:=hG.rlen i
  have hli:=hl i (by omega)
  have hsm:JSm ((2,(a:Int),(i:Int),false,[],ins g.Out a i):Ac):=⟨Nat.zero_le _,by show (ins g.Out a i).length≤_;omega⟩
  constructor
  ·unfold Bq
   simp only [pKind,pA,pAt,pMove,pList,pOut,pgN,pgO]
   refine negE (by decide) (negE (by decide) (posE rfl (pos (by omega) ?_)))
   simp only [rd1N,ins_succ,at1 i (by omega)]
   refine bnd (contains_ev _ _ (by omega)) ?_
   by_cases hm:(a:Int)∈g.Out.getD i []
   ·exact posD hm (pos (by simp;omega) (nowE (by rw [if_pos hm])))
   ·exact negD hm (nowE (by rw [if_neg hm]))
  ·obtain ⟨r,hr1,hr2⟩:=in_ev (g.Out.getD i []) (a:Int) (by omega)
   unfold Ab
   refine bnd (copyjob_ev _ hsm) ?_
   simp only [pKind,pA,pAt,pMove,pList,pOut,pgN,pgO]
   refine negE (by decide) (posE rfl (pos (by omega) ?_))
   simp only [rd1N,ins_succ,at1 i (by omega)]
   refine bnd hr1 ?_
   by_cases hm:(a:Int)∈g.Out.getD i []
   ·exact posD (hr2.2 hm) (pos (by simp;omega) (nowE (by rw [if_pos hm])))
   ·exact negD (fun h=>hm (hr2.1 h)) (nowE (by rw [if_neg hm]))
 ·show decide ((N:Int)≥g.N)=true
  exact decide_eq_true (by omega)
theorem cnt_len {N:Nat} {out:List (List Int)} (hg:Good N out) (i:Nat):((out.take i).foldl cstep []).length≤17:=by
 have key:∀ (xs:List (List Int)) (c:List Int),(∀ r∈xs,r.length≤16)→c.length≤17→(xs.foldl cstep c).length≤17:=by
  intro xs
  induction xs with
  | nil=>intro c _ h;exact h
  | cons r rs ih =>
   intro c hr hc
   rw [List.foldl_cons]
   refine ih _ (fun q hq=>hr q (by simp [hq])) ?_
   rw [cstep_length]
   have:=hr r (by simp)
   omega
 refine key _ [] (fun r hr=>?_) (by simp)
 obtain ⟨i,hi,rfl⟩:=List.mem_iff_getElem.1 (List.mem_of_mem_take hr)
 rw [← getD_lt (d:=[]) hi]
 exact hg.rlen i
theorem visit3 (g:Aa) (N:Nat) (en:g.N=(N:Int)) (hG:Good N g.Out) (i:Nat) (hi:i<N) (c0:List Int) (h0:c0.length≤17):Vis g ((3,0,(i:Int),false,[],c0):Ac) ((3,0,((i+1:Nat):Int),false,[],cstep c0 (g.Out.getD i [])):Ac):=by
 have hN:=hG.le
 have hlen:=hG.len
 have hr:=hG.rlen i
 have hsm:JSm ((3,(0:Int),(i:Int),false,[],c0):Ac):=⟨Nat.zero_le _,by show c0.length≤_;omega⟩
 have e0:∀ c:List Int,(g.Out.getD i []).length+1-c.length=0→pad c (g.Out.getD i []).length=c:=fun c hd=>by unfold pad;rw [hd];simp
 have e1:∀ (d:Nat) (c:List Int),(g.Out.getD i []).length+1-c.length=d+1→cstep (c++[0]) (g.Out.getD i [])=cstep c (g.Out.getD i []):=fun d c hd=>by
  unfold cstep pad
  rw [show (g.Out.getD i []).length+1-(c++[(0:Int)]).length=d by simp only [List.length_append,List.length_singleton];omega,hd,List.replicate_succ]
  simp
 constructor
 ·have key:∀ (d:Nat) (c:List Int),(g.Out.getD i []).length+1-c.length=d→c.length≤17→E1 (fun K k=>Bq.l1 K g ((3,0,(i:Int),false,[],c0):Ac) k ((i+1:Nat):Int) c) ((3,0,((i+1:Nat):Int),false,[],cstep c (g.Out.getD i [])):Ac):=by
   intro d
   induction d with
   | zero =>
    intro c hd hc
    refine step1 (fun _ _ _ _ _=>Bq.l1.eq_2 ..) ?_
    simp only [pKind,pA,pAt,pMove,pList,pOut,pgN,pgO]
    refine pos (by omega) ?_
    simp only [rd1N,rdN,Int.toNat_natCast]
    refine negD (by omega) (pos (by omega) (pos (by omega) (pos (by omega) (nowE ?_))))
    unfold cstep
    rw [e0 c hd]
   | succ d ih =>
    intro c hd hc
    have:=ih (c++[0]) (by simp only [List.length_append,List.length_singleton];omega) (by simp only [List.length_append,List.length_singleton];omega)
    rw [e1 d c hd] at this
    refine step1 (fun _ _ _ _ _=>Bq.l1.eq_2 ..) ?_
    simp only [pKind,pA,pAt,pMove,pList,pOut,pgN,pgO]
    refine pos (by omega) ?_
    simp only [rd1N]
    exact posD (by omega) (pos (by simp;omega) this)
  unfold Bq
  simp only [pKind,pA,pAt,pMove,pList,pOut,pgN,pgO]
  refine negE (by decide) (negE (by decide) (negE (by decide) (posE rfl ?_)))
  simp only [at1 i (by omega)]
  exact (key _ c0 rfl h0).e1
 ·have key:∀ (d:Nat) (c:List Int),(g.Out.getD i []).length+1-c.length=d→c.length≤17→E1 (fun K k=>Ab.l1 K ((3,0,(i:Int),false,[],c0):Ac) g k ((i+1:Nat):Int) c 0 0 0) ((3,0,((i+1:Nat):Int),false,[],cstep c (g.Out.getD i [])):Ac):=by
   intro d
   induction d with
   | zero =>
    intro c hd hc
    refine step1 (fun _ _ _ _ _=>Ab.l1.eq_2 ..) ?_
    simp only [pKind,pA,pAt,pMove,pList,pOut,pgN,pgO]
    refine pos (by omega) ?_
    simp only [rd1N,rdN,Int.toNat_natCast]
    refine negD (by omega) (pos (by omega) (pos (by omega) (pos (by omega) (nowE ?_))))
    unfold cstep
    rw [e0 c hd]
   | succ d ih =>
    intro c hd hc
    have:=ih (c++[0]) (by simp only [List.length_append,List.length_singleton];omega) (by simp only [List.length_append,List.length_singleton];omega)
    rw [e1 d c hd] at this
    refine step1 (fun _ _ _ _ _=>Ab.l1.eq_2 ..) ?_
    simp only [pKind,pA,pAt,pMove,pList,pOut,pgN,pgO]
    refine pos (by omega) ?_
    simp only [rd1N]
    exact posD (by omega) (pos (by simp;omega) this)
  unfold Ab
  refine bnd (copyjob_ev _ hsm) ?_
  simp only [pKind,pA,pAt,pMove,pList,pOut,pgN,pgO]
  refine negE (by decide) (negE (by decide) (posE rfl ?_))
  simp only [at1 i (by omega)]
  exact (key _ c0 rfl h0).e1
theorem ends3:Ends 3:=by
 intro g a hg hc
 obtain ⟨en,hG⟩:=hg.good
 have hs:=hg.sm
 generalize g.N.toNat=N at *
 have hN:=hG.le
 have hlen:=hG.len
 have hl:=cnt_len hG
 refine ⟨N,fun i=>(3,0,i,false,[],(g.Out.take i).foldl cstep []),tr_of hg en hN hs hc rfl (by omega) (fun i _=>⟨rfl,by simp [a0]⟩) (fun i hi=>⟨Nat.zero_le _,by have:=hl i;show ((g.Out.take i).foldl cstep []).length≤_;omega⟩) (fun i hi=>?_) (fun i hi=>?_) ?_⟩
 ·show decide ((i:Int)≥g.N)=false
  exact decide_eq_false (by omega)
 ·have:=visit3 g N en hG i hi _ (hl i)
  rw [take_getD (d:=[]) (by omega),List.foldl_append]
  exact this
 ·show decide ((N:Int)≥g.N)=true
  exact decide_eq_true (by omega)
theorem flat_append (a b:List Eh):flat (a++b)=flat a++flat b:=by simp [flat]
theorem prs_append:∀ (xs ys:List (List Int)) (i:Nat),prs i (xs++ys)=prs i xs++prs (i+xs.length) ys
 | [],ys,i=>by simp [prs]
 | x::xs,ys,i=>by rw [List.cons_append,prs,prs,prs_append xs ys (i+1),List.append_assoc];simp only [List.length_cons];rw [show i+1+xs.length=i+(xs.length+1) by omega]
theorem flat_row (i:Nat) (r:List Int):flat (r.map fun v=>((i,v):Eh))=r.flatMap fun v=>[(i:Int),v]:=by simp [flat,List.flatMap_map]
theorem visit6 (g:Aa) (N:Nat) (en:g.N=(N:Int)) (hG:Good N g.Out) (i:Nat) (hi:i<N) (c0:List Int) (h0:c0.length≤1000):Vis g ((6,0,(i:Int),false,[],c0):Ac) ((6,0,((i+1:Nat):Int),false,[],c0++(g.Out.getD i []).flatMap fun v=>[(i:Int),v]):Ac):=by
 have hN:=hG.le
 have hlen:=hG.len
 have hr:=hG.rlen i
 have hsm:JSm ((6,(0:Int),(i:Int),false,[],c0):Ac):=⟨Nat.zero_le _,by show c0.length≤_;omega⟩
 constructor
 ·have key:∀ j,j≤(g.Out.getD i []).length→∀ c:List Int,c.length≤1000+2*j→E1 (fun K k=>Bq.l3 K ((6,0,(i:Int),false,[],c0):Ac) k (g.Out.getD i []) (((g.Out.getD i []).length:Nat):Int) (j:Int) ((i+1:Nat):Int) c) ((6,0,((i+1:Nat):Int),false,[],c++((g.Out.getD i []).drop j).flatMap fun v=>[(i:Int),v]):Ac):=by
   refine upto ?_ ?_
   ·intro c hc
    refine step1 (fun _ _ _ _ _=>Bq.l3.eq_2 ..) ?_
    exact negD (by omega) (nowE (by simp))
   ·intro j hj ih c hc
    refine step1 (fun _ _ _ _ _=>Bq.l3.eq_2 ..) ?_
    refine posD (by omega) (pos (by omega) (pos (by simp;omega) ?_))
    rw [rdN,w1 (by omega),drop_getD (d:=0) hj,List.flatMap_cons,← List.append_assoc]
    exact ih _ (by simp;omega)
  unfold Bq
  simp only [pKind,pA,pAt,pMove,pList,pOut,pgN,pgO]
  refine negE (by decide) (negE (by decide) (negE (by decide) (negE (by decide) (negE (by decide) (posE rfl (pos (by omega) ?_))))))
  simp only [rd1N,at1 i (by omega)]
  exact (key 0 (by omega) c0 h0).e1
 ·have key:∀ j,j≤(g.Out.getD i []).length→∀ c:List Int,c.length≤1000+2*j→E1 (fun K k=>Ab.l2 K ((6,0,(i:Int),false,[],c0):Ac) g k (j:Int) ((i+1:Nat):Int) c 0 0 0) ((6,0,((i+1:Nat):Int),false,[],c++((g.Out.getD i []).drop j).flatMap fun v=>[(i:Int),v]):Ac):=by
   refine upto ?_ ?_
   ·intro c hc
    refine step1 (fun _ _ _ _ _=>Ab.l2.eq_2 ..) ?_
    simp only [pKind,pA,pAt,pMove,pList,pOut,pgN,pgO]
    refine pos (by omega) ?_
    simp only [rd1N]
    exact negD (by omega) (nowE (by simp))
   ·intro j hj ih c hc
    refine step1 (fun _ _ _ _ _=>Ab.l2.eq_2 ..) ?_
    simp only [pKind,pA,pAt,pMove,pList,pOut,pgN,pgO]
    refine pos (by omega) ?_
    simp only [rd1N]
    refine posD (by omega) (pos (by omega) (pos (by omega) (pos (by simp;omega) ?_)))
    rw [rdN,w1 (by omega),drop_getD (d:=0) hj,List.flatMap_cons,← List.append_assoc]
    exact ih _ (by simp;omega)
  unfold Ab
  refine bnd (copyjob_ev _ hsm) ?_
  simp only [pKind,pA,pAt,pMove,pList,pOut,pgN,pgO]
  refine negE (by decide) (negE (by decide) (negE (by decide) (posE rfl ?_)))
  simp only [at1 i (by omega)]
  exact (key 0 (by omega) c0 h0).e1
theorem ends6:Ends 6:=by
 intro g a hg hc
 obtain ⟨en,hG⟩:=hg.good
 have hs:=hg.sm
 generalize g.N.toNat=N at *
 have hN:=hG.le
 have hlen:=hG.len
 have hsum:=hG.sum
 have hl:∀ i,(flat (prs 0 (g.Out.take i))).length≤240:=fun i=>by
  rw [flat_length,prs_length]
  have:=lsum_take_le g.Out i
  omega
 refine ⟨N,fun i=>(6,0,i,false,[],flat (prs 0 (g.Out.take i))),tr_of hg en hN hs hc rfl (by omega) (fun i _=>⟨rfl,by simp [a0]⟩) (fun i hi=>⟨Nat.zero_le _,by have:=hl i;show (flat (prs 0 (g.Out.take i))).length≤_;omega⟩) (fun i hi=>?_) (fun i hi=>?_) ?_⟩
 ·show decide ((i:Int)≥g.N)=false
  exact decide_eq_false (by omega)
 ·have:=visit6 g N en hG i hi (flat (prs 0 (g.Out.take i))) (by have:=hl i;omega)
  rw [take_getD (d:=[]) (by omega),prs_append,flat_append,List.length_take,show 0+min i g.Out.length=i by omega,prs,prs,List.append_nil,flat_row]
  exact this
 ·show decide ((N:Int)≥g.N)=true
  exact decide_eq_true (by omega)
end Go.XL
end
end
