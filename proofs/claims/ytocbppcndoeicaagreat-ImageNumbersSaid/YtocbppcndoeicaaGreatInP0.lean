import Derived.Test.YtocbppcndoeicaaGreatInC0
import Derived.Laws.BitsLemmas
import Derived.Lib.Strings
import Derived.Lib.TrimByte
set_option linter.all false
section
section
namespace Go.XM
abbrev api_Pair:Type:=Int × Int
abbrev api_Pair.A (x:api_Pair):Int:=x.1
abbrev api_Pair.B (x:api_Pair):Int:=x.2
end Go.XM
end
end
section
section
namespace Go.XL
open Go.XM
def Ev {α:Type} (g:Nat→Nat→Nat→Nat→Nat→Option α) (r:α):Prop:=∃ m,∀ K a b c d,m≤K→m≤a→m≤b→m≤c→m≤d→g K a b c d=some r
abbrev E0 {α:Type} (g:Nat→Option α) (r:α):Prop:=Ev (fun K _ _ _ _=>g K) r
abbrev E1 {α:Type} (g:Nat→Nat→Option α) (r:α):Prop:=Ev (fun K a _ _ _=>g K a) r
abbrev E2 {α:Type} (g:Nat→Nat→Nat→Option α) (r:α):Prop:=Ev (fun K a b _ _=>g K a b) r
abbrev E3 {α:Type} (g:Nat→Nat→Nat→Nat→Option α) (r:α):Prop:=Ev (fun K a b c _=>g K a b c) r
theorem now {α:Type} (r:α):Ev (fun _ _ _ _ _=>some r) r:=⟨0,fun _ _ _ _ _ _ _ _ _ _=>rfl⟩
theorem nowE {α:Type} {r s:α} (h:s=r):Ev (fun _ _ _ _ _=>some s) r:=⟨0,fun _ _ _ _ _ _ _ _ _ _=>by rw [h]⟩
theorem pos {α:Type} {c:Prop} [Decidable c] {f g:Nat→Nat→Nat→Nat→Nat→Option α} {r:α} (h:c) (k:Ev f r):Ev (fun x y z u v=>if c then f x y z u v else g x y z u v) r:=by
 obtain ⟨m,k⟩:=k
 exact ⟨m,fun x y z u v a b c d e=>(if_pos h).trans (k x y z u v a b c d e)⟩
theorem neg {α:Type} {c:Prop} [Decidable c] {f g:Nat→Nat→Nat→Nat→Nat→Option α} {r:α} (h:¬ c) (k:Ev g r):Ev (fun x y z u v=>if c then f x y z u v else g x y z u v) r:=by
 obtain ⟨m,k⟩:=k
 exact ⟨m,fun x y z u v a b c d e=>(if_neg h).trans (k x y z u v a b c d e)⟩
theorem posD {α:Type} {c:Prop} [Decidable c] {f g:Nat→Nat→Nat→Nat→Nat→Option α} {r:α} (h:c) (k:Ev f r):Ev (fun x y z u v=>if decide c=true then f x y z u v else g x y z u v) r:=pos (decide_eq_true h) k
theorem negD {α:Type} {c:Prop} [Decidable c] {f g:Nat→Nat→Nat→Nat→Nat→Option α} {r:α} (h:¬ c) (k:Ev g r):Ev (fun x y z u v=>if decide c=true then f x y z u v else g x y z u v) r:=neg (by simpa using h) k
theorem posM {α:Type} {c:Prop} [Decidable c] {f g:Nat→Nat→Nat→Nat→Nat→Option α} {r:α} (h:¬ c) (k:Ev f r):Ev (fun x y z u v=>if (!decide c)=true then f x y z u v else g x y z u v) r:=pos (by rw [decide_eq_false h];rfl) k
theorem negM {α:Type} {c:Prop} [Decidable c] {f g:Nat→Nat→Nat→Nat→Nat→Option α} {r:α} (h:c) (k:Ev g r):Ev (fun x y z u v=>if (!decide c)=true then f x y z u v else g x y z u v) r:=neg (by rw [decide_eq_true h];decide) k
theorem posE {α:Type} {p q:Int} {f g:Nat→Nat→Nat→Nat→Nat→Option α} {r:α} (h:p=q) (k:Ev f r):Ev (fun x y z u v=>if (p == q)=true then f x y z u v else g x y z u v) r:=pos (by simp [h]) k
theorem negE {α:Type} {p q:Int} {f g:Nat→Nat→Nat→Nat→Nat→Option α} {r:α} (h:¬ p=q) (k:Ev g r):Ev (fun x y z u v=>if (p == q)=true then f x y z u v else g x y z u v) r:=neg (by simpa using h) k
theorem posN {α:Type} {p q:Int} {f g:Nat→Nat→Nat→Nat→Nat→Option α} {r:α} (h:¬ p=q) (k:Ev f r):Ev (fun x y z u v=>if (p != q)=true then f x y z u v else g x y z u v) r:=pos (by simpa using h) k
theorem negN {α:Type} {p q:Int} {f g:Nat→Nat→Nat→Nat→Nat→Option α} {r:α} (h:p=q) (k:Ev g r):Ev (fun x y z u v=>if (p != q)=true then f x y z u v else g x y z u v) r:=neg (by simp [h]) k
theorem bnd {α β:Type} {g:Nat→Nat→Nat→Nat→Nat→Option α} {f:Nat→Nat→Nat→Nat→Nat→α→Option β} {a:α} {r:β} (h:Ev g a) (k:Ev (fun x y z u v=>f x y z u v a) r):Ev (fun x y z u v=>(g x y z u v).bind (f x y z u v)) r:=by
 obtain ⟨m,h⟩:=h
 obtain ⟨m',k⟩:=k
 refine ⟨max m m',fun x y z u v a b c d e=>?_⟩
 show (g x y z u v).bind _=_
 rw [h x y z u v (by omega) (by omega) (by omega) (by omega) (by omega)]
 exact k x y z u v (by omega) (by omega) (by omega) (by omega) (by omega)
theorem tail {α:Type} {g:Nat→Nat→Nat→Nat→Nat→Option α} {r:α} (h:Ev g r):Ev (fun x y z u v=>(g x y z u v).bind fun t=>some t) r:=bnd h (now r)
theorem ofEq {α:Type} {g:Nat→Nat→Nat→Nat→Nat→Option α} {r s:α} (h:Ev g r) (e:r=s):Ev g s:=e ▸ h
theorem congr {α:Type} {f g:Nat→Nat→Nat→Nat→Nat→Option α} {r:α} (e:∀ x y z u v,g x y z u v=f x y z u v) (h:Ev f r):Ev g r:=by
 obtain ⟨m,h⟩:=h
 exact ⟨m,fun x y z u v a b c d k=>by rw [e];exact h x y z u v a b c d k⟩
theorem step1 {α:Type} {f g:Nat→Nat→Nat→Nat→Nat→Option α} {r:α} (e:∀ x y z u v,g x (y+1) z u v=f x y z u v) (h:Ev f r):Ev g r:=by
 obtain ⟨m,h⟩:=h
 refine ⟨m+1,fun x y z u v a b c d k=>?_⟩
 obtain ⟨y,rfl⟩:∃ n,y=n+1:=⟨y-1,by omega⟩
 rw [e];exact h x y z u v (by omega) (by omega) (by omega) (by omega) (by omega)
theorem step2 {α:Type} {f g:Nat→Nat→Nat→Nat→Nat→Option α} {r:α} (e:∀ x y z u v,g x y (z+1) u v=f x y z u v) (h:Ev f r):Ev g r:=by
 obtain ⟨m,h⟩:=h
 refine ⟨m+1,fun x y z u v a b c d k=>?_⟩
 obtain ⟨z,rfl⟩:∃ n,z=n+1:=⟨z-1,by omega⟩
 rw [e];exact h x y z u v (by omega) (by omega) (by omega) (by omega) (by omega)
theorem step3 {α:Type} {f g:Nat→Nat→Nat→Nat→Nat→Option α} {r:α} (e:∀ x y z u v,g x y z (u+1) v=f x y z u v) (h:Ev f r):Ev g r:=by
 obtain ⟨m,h⟩:=h
 refine ⟨m+1,fun x y z u v a b c d k=>?_⟩
 obtain ⟨u,rfl⟩:∃ n,u=n+1:=⟨u-1,by omega⟩
 rw [e];exact h x y z u v (by omega) (by omega) (by omega) (by omega) (by omega)
theorem Ev.e1 {α:Type} {g:Nat→Nat→Nat→Nat→Nat→Option α} {r:α} (h:Ev g r):Ev (fun x y z u v=>g x x z u v) r:=by
 obtain ⟨m,h⟩:=h
 exact ⟨m,fun x y z u v a b c d k=>h x x z u v a a c d k⟩
theorem Ev.e2 {α:Type} {g:Nat→Nat→Nat→Nat→Nat→Option α} {r:α} (h:Ev g r):Ev (fun x y z u v=>g x y x u v) r:=by
 obtain ⟨m,h⟩:=h
 exact ⟨m,fun x y z u v a b c d k=>h x y x u v a b a d k⟩
theorem Ev.e3 {α:Type} {g:Nat→Nat→Nat→Nat→Nat→Option α} {r:α} (h:Ev g r):Ev (fun x y z u v=>g x y z x v) r:=by
 obtain ⟨m,h⟩:=h
 exact ⟨m,fun x y z u v a b c d k=>h x y z x v a b c a k⟩
theorem Ev.e4 {α:Type} {g:Nat→Nat→Nat→Nat→Nat→Option α} {r:α} (h:Ev g r):Ev (fun x y z u v=>g x y z u x) r:=by
 obtain ⟨m,h⟩:=h
 exact ⟨m,fun x y z u v a b c d k=>h x y z u x a b c d a⟩
theorem Ev.all {α:Type} {g:Nat→Option α} {r:α} (h:E0 g r):∃ m,∀ K,m≤K→g K=some r:=by
 obtain ⟨m,h⟩:=h
 exact ⟨m,fun K hK=>h K K K K K hK hK hK hK hK⟩
theorem Ev.get {α:Type} {g:Nat→Option α} {r:α} (h:E0 g r):∃ K,g K=some r:=by
 obtain ⟨m,h⟩:=h.all
 exact ⟨m,h m (Nat.le_refl _)⟩
theorem Ev.uniq {α:Type} {g:Nat→Nat→Nat→Nat→Nat→Option α} {r s:α} (h:Ev g r) (k:Ev g s):r=s:=by
 obtain ⟨K,h⟩:=h
 obtain ⟨K',k⟩:=k
 have e:=h (max K K') (max K K') (max K K') (max K K') (max K K') (by omega) (by omega) (by omega) (by omega) (by omega)
 rw [k _ _ _ _ _ (by omega) (by omega) (by omega) (by omega) (by omega)] at e
 injection e with e
 exact e.symm
theorem w64 {i:Int} (h:-9223372036854775808≤i) (h':i≤9223372036854775807):wr .i64 i=i:=by show Go.RowKit.wrap64 i=i;unfold Go.RowKit.wrap64;omega
theorem w1 {i:Nat} (h:i<4611686018427387904):wr .i64 ((i:Int)+1)=((i+1:Nat):Int):=by rw [w64 (by omega) (by omega)];omega
theorem upto {n:Nat} {Q:Nat→Prop} (base:Q n) (step:∀ i,i<n→Q (i+1)→Q i):∀ i,i≤n→Q i:=by
 have key:∀ d i,i+d=n→Q i:=by
  intro d
  induction d with
  | zero=>intro i hi;rw [show i=n by omega];exact base
  | succ d ih=>intro i hi;exact step i (by omega) (ih (i+1) (by omega))
 intro i hi
 exact key (n-i) i (by omega)
theorem getD_lt {α:Type} {d:α} {xs:List α} {i:Nat} (h:i<xs.length):xs.getD i d=xs[i]:=by simp [List.getD_eq_getElem?_getD,List.getElem?_eq_getElem h]
theorem getD_mem {α:Type} {d:α} {xs:List α} {i:Nat} (h:i<xs.length):xs.getD i d∈xs:=by rw [getD_lt h];exact List.getElem_mem h
theorem drop_getD {α:Type} {d:α} {xs:List α} {i:Nat} (h:i<xs.length):xs.drop i=xs.getD i d::xs.drop (i+1):=by rw [getD_lt h];exact List.drop_eq_getElem_cons h
theorem take_getD {α:Type} {d:α} {xs:List α} {i:Nat} (h:i<xs.length):xs.take (i+1)=xs.take i++[xs.getD i d]:=by rw [getD_lt h,List.take_succ_eq_append_getElem h]
theorem getD_set {α:Type} {d:α} (xs:List α) (i j:Nat) (v:α) (h:i<xs.length):(xs.set i v).getD j d=if j=i then v else xs.getD j d:=by
 simp only [List.getD_eq_getElem?_getD,List.getElem?_set]
 by_cases e:i=j
 ·subst e;simp [h]
 ·simp [e,Ne.symm e]
theorem nthN {α:Type} [Inhabited α] (xs:List α) (i:Nat):nth xs (i:Int)=xs.getD i default:=by simp [nth]
theorem rdI (xs:List Int) (i:Int):nth xs i=xs.getD i.toNat 0:=rfl
theorem rdN (xs:List Int) (i:Nat):nth xs (i:Int)=xs.getD i 0:=nthN xs i
theorem rd1N (xs:List (List Int)) (i:Nat):nth xs (i:Int)=xs.getD i []:=nthN xs i
def lsum (xs:List (List Int)):Nat:=(xs.map List.length).sum
theorem lsum_cons (x:List Int) (xs:List (List Int)):lsum (x::xs)=x.length+lsum xs:=by simp [lsum]
theorem lsum_append (xs ys:List (List Int)):lsum (xs++ys)=lsum xs+lsum ys:=by simp [lsum]
theorem lsum_mem {x:List Int} {xs:List (List Int)} (h:x∈xs):x.length≤lsum xs:=by
 induction xs with
 | nil=>simp at h
 | cons y ys ih =>
  rw [lsum_cons]
  rcases List.mem_cons.1 h with rfl | h
  ·omega
  ·have:=ih h;omega
theorem lsum_drop {xs:List (List Int)} {i:Nat} (h:i<xs.length):lsum (xs.drop i)=(xs.getD i []).length+lsum (xs.drop (i+1)):=by rw [drop_getD (d:=[]) h,lsum_cons]
theorem lsum_take {xs:List (List Int)} {i:Nat} (h:i<xs.length):lsum (xs.take (i+1))=lsum (xs.take i)+(xs.getD i []).length:=by rw [take_getD (d:=[]) h,lsum_append];simp [lsum]
theorem lsum_take_le (xs:List (List Int)) (i:Nat):lsum (xs.take i)≤lsum xs:=by
 have:=lsum_append (xs.take i) (xs.drop i)
 rw [List.take_append_drop] at this
 omega
theorem negB {α:Type} {b:Bool} {f g:Nat→Nat→Nat→Nat→Nat→Option α} {r:α} (h:b=false) (k:Ev g r):Ev (fun x y z u v=>if b=true then f x y z u v else g x y z u v) r:=neg (by rw [h];decide) k
end Go.XL
end
end
section
section
namespace Go.XL
open Go.XM
theorem lists_ev (xs:List (List Int)) (hl:xs.length≤17592186044416) (hx:∀ y∈xs,y.length≤17592186044416) :
  ∃ r:Int,E0 (fun K=>Co K xs) r∧0≤r∧r≤35184372088832∧(r<1048576→r=xs.length+lsum xs):=by
 have key:∀ i,i≤xs.length→∀ s:Int,0≤s→s≤35184372088832→∃ r:Int,E1 (fun K k=>Co.l1 K xs k s (i:Int)) r∧0≤r∧r≤35184372088832∧(r<1048576→r=s+lsum (xs.drop i)):=by
  refine upto ?_ ?_
  ·intro s h0 h1
   refine ⟨s,?_,h0,h1,fun _=>by simp [lsum]⟩
   refine step1 (fun _ _ _ _ _=>Co.l1.eq_2 ..) ?_
   exact negD (by omega) (now s)
  ·intro i hi ih s h0 h1
   by_cases hs:s<1048576
   ·have hy:=hx _ (getD_mem (d:=[]) hi)
    obtain ⟨r,h,a,b,c⟩:=ih (s+((xs.getD i []).length:Int)) (by omega) (by omega)
    refine ⟨r,?_,a,b,fun hr=>by rw [c hr,lsum_drop hi];omega⟩
    refine step1 (fun _ _ _ _ _=>Co.l1.eq_2 ..) ?_
    refine posD (by omega) (posD hs (pos (by omega) ?_))
    rw [rd1N,w64 (by omega) (by omega),w1 (by omega)]
    exact h
   ·refine ⟨s,?_,h0,h1,fun h=>by omega⟩
    refine step1 (fun _ _ _ _ _=>Co.l1.eq_2 ..) ?_
    exact posD (by omega) (negD hs (now s))
 obtain ⟨r,h,a,b,c⟩:=key 0 (by omega) xs.length (by omega) (by omega)
 exact ⟨r,h.e1,a,b,fun hr=>by rw [c hr];simp⟩
def OkAt (xs:List Int) (i:Nat):Prop:=0≤xs.getD i 0∧xs.getD i 0≤15∧(0<i→xs.getD (i-1) 0<xs.getD i 0)
instance (xs:List Int) (i:Nat):Decidable (OkAt xs i):=by unfold OkAt;infer_instance
def MayP (xs:List Int):Prop:=∀ i,i<xs.length→OkAt xs i
instance (xs:List Int):Decidable (MayP xs):=by unfold MayP;infer_instance
theorem ok_ge {xs:List Int}:∀ i:Nat,(∀ j,j≤i→OkAt xs j)→(i:Int)≤xs.getD i 0:=by
 intro i
 induction i with
 | zero=>intro h;exact_mod_cast (h 0 (by omega)).1
 | succ i ih =>
  intro h
  have h1:=ih (fun j hj=>h j (by omega))
  have h2:=(h (i+1) (by omega)).2.2 (by omega)
  simp only [Nat.add_sub_cancel] at h2
  omega
theorem MayP.len {xs:List Int} (h:MayP xs):xs.length≤16:=by
 rcases Nat.eq_zero_or_pos xs.length with h0 | h0
 ·omega
 ·have h1:=ok_ge (xs:=xs) (xs.length-1) (fun j hj=>h j (by omega))
  have h2:=(h (xs.length-1) (by omega)).2.1
  omega
theorem num_eq (K:Nat) (a b:Int):Cx K a b=some (decide (0≤a∧a≤b)):=by
 unfold Cx
 by_cases h:a≥0
 ·rw [if_pos (decide_eq_true h)];simp [h]
 ·rw [if_neg (by simpa using h)];simp;omega
theorem origin_eq (K:Nat) (a:Int):Eg K a=some (decide (0≤a∧a≤15)):=by unfold Eg;rw [num_eq];rfl
theorem is_eq (K:Nat) (a:Int):Gh K a=some (decide (0≤a∧a≤15)):=by
 unfold Gh
 by_cases h:a≥0
 ·rw [if_pos (decide_eq_true h)];simp [h];omega
 ·rw [if_neg (by simpa using h)];simp;omega
theorem may3_ev (xs:List Int) (hl:xs.length≤17592186044416):E0 (fun K=>Ci K xs) (decide (MayP xs)):=by
 have key:∀ i,i≤xs.length→(∀ j,j<i→OkAt xs j)→E1 (fun K k=>Ci.l1 K xs k (i:Int)) (decide (MayP xs)):=by
  refine upto ?_ ?_
  ·intro hok
   have hm:MayP xs:=hok
   have hn:=hm.len
   refine step1 (fun _ _ _ _ _=>Ci.l1.eq_2 ..) ?_
   exact negD (by omega) (nowE (by simp [hm];omega))
  ·intro i hi ih hok
   have h16:i≤16:=by
    rcases Nat.eq_zero_or_pos i with h0 | h0
    ·omega
    ·have h1:=ok_ge (xs:=xs) (i-1) (fun j hj=>hok j (by omega))
     have h2:=(hok (i-1) (by omega)).2.1
     omega
   refine step1 (fun _ _ _ _ _=>Ci.l1.eq_2 ..) ?_
   refine posD (by omega) (posD (by omega) (pos (by omega) ?_))
   simp only [origin_eq]
   rw [rdN]
   refine bnd (now _) ?_
   by_cases ho:0≤xs.getD i 0∧xs.getD i 0≤15
   ·refine negM ho ?_
    rcases Nat.eq_zero_or_pos i with h0 | h0
    ·refine negD (by omega) ?_
     rw [w1 (by omega)]
     refine ih fun j hj=>?_
     by_cases e:j=i
     ·subst e;exact ⟨ho.1,ho.2,fun h=>by omega⟩
     ·exact hok j (by omega)
    ·refine posD (by omega) ?_
     have e1:wr .i64 ((i:Int)-1)=((i-1:Nat):Int):=by rw [w64 (by omega) (by omega)];omega
     rw [e1,rdN]
     refine pos (by omega) (pos (by omega) ?_)
     by_cases hlt:xs.getD (i-1) 0≥xs.getD i 0
     ·refine posD hlt (nowE ?_)
      have:¬ MayP xs:=fun hm=>by have:=(hm i hi).2.2 h0;omega
      simp [this]
     ·refine negD hlt ?_
      rw [w1 (by omega)]
      refine ih fun j hj=>?_
      by_cases e:j=i
      ·subst e;exact ⟨ho.1,ho.2,fun h=>by omega⟩
      ·exact hok j (by omega)
   ·refine posM ho (nowE ?_)
    have:¬ MayP xs:=fun hm=>ho ⟨(hm i hi).1,(hm i hi).2.1⟩
    simp [this]
 exact (key 0 (by omega) (fun j hj=>by omega)).e1
theorem gmay_ev (xs:List Int) (hl:xs.length≤17592186044416):E0 (fun K=>Er K xs) (decide (MayP xs)):=by
 have key:∀ i,i≤xs.length→(∀ j,j<i→OkAt xs j)→E1 (fun K k=>Er.l1 K xs k ((xs.length:Nat):Int) (i:Int)) (decide (MayP xs)):=by
  refine upto ?_ ?_
  ·intro hok
   have hm:MayP xs:=hok
   refine step1 (fun _ _ _ _ _=>Er.l1.eq_2 ..) ?_
   exact negD (by omega) (nowE (by simp [hm]))
  ·intro i hi ih hok
   refine step1 (fun _ _ _ _ _=>Er.l1.eq_2 ..) ?_
   refine posD (by omega) (pos (by omega) ?_)
   simp only [is_eq]
   rw [rdN]
   refine bnd (now _) ?_
   by_cases ho:0≤xs.getD i 0∧xs.getD i 0≤15
   ·refine negM ho ?_
    rcases Nat.eq_zero_or_pos i with h0 | h0
    ·refine negD (by omega) ?_
     rw [w1 (by omega)]
     refine ih fun j hj=>?_
     by_cases e:j=i
     ·subst e;exact ⟨ho.1,ho.2,fun h=>by omega⟩
     ·exact hok j (by omega)
    ·refine posD (by omega) ?_
     have e1:wr .i64 ((i:Int)-1)=((i-1:Nat):Int):=by rw [w64 (by omega) (by omega)];omega
     rw [e1,rdN]
     refine pos (by omega) ?_
     by_cases hlt:xs.getD i 0≤xs.getD (i-1) 0
     ·refine posD hlt (nowE ?_)
      have:¬ MayP xs:=fun hm=>by have:=(hm i hi).2.2 h0;omega
      simp [this]
     ·refine negD hlt ?_
      rw [w1 (by omega)]
      refine ih fun j hj=>?_
      by_cases e:j=i
      ·subst e;exact ⟨ho.1,ho.2,fun h=>by omega⟩
      ·exact hok j (by omega)
   ·refine posM ho (nowE ?_)
    have:¬ MayP xs:=fun hm=>ho ⟨(hm i hi).1,(hm i hi).2.1⟩
    simp [this]
 exact (key 0 (by omega) (fun j hj=>by omega)).e1
theorem ext_getD {xs ys:List Int} (hl:xs.length=ys.length) (h:∀ j,j<xs.length→xs.getD j 0=ys.getD j 0):xs=ys:=by
 refine List.ext_getElem hl fun j h1 h2=>?_
 have:=h j h1
 rwa [getD_lt h1,getD_lt h2] at this
theorem eqn_ev (xs ys:List Int) (h:xs.length≤1000000):E0 (fun K=>Bh K xs ys) (decide (xs=ys)):=by
 unfold Bh
 by_cases hl:xs.length=ys.length
 ·have key:∀ i,i≤xs.length→(∀ j,j<i→xs.getD j 0=ys.getD j 0)→E1 (fun K k=>Bh.l1 K xs ys k (i:Int)) (decide (xs=ys)):=by
   refine upto ?_ ?_
   ·intro hd
    refine step1 (fun _ _ _ _ _=>Bh.l1.eq_2 ..) ?_
    exact negD (by omega) (nowE (by rw [ext_getD hl hd];simp))
   ·intro i hi ih hd
    refine step1 (fun _ _ _ _ _=>Bh.l1.eq_2 ..) ?_
    refine posD (by omega) (pos (by omega) (pos (by omega) ?_))
    rw [rdN,rdN,w1 (by omega)]
    by_cases e:xs.getD i 0=ys.getD i 0
    ·refine negN e (ih fun j hj=>?_)
     by_cases q:j=i
     ·rw [q];exact e
     ·exact hd j (by omega)
    ·refine posN e (nowE ?_)
     have:¬ xs=ys:=fun h=>e (by rw [h])
     simp [this]
  exact negN (by omega) (key 0 (by omega) (fun j hj=>by omega)).e1
 ·refine posN (by omega) (nowE ?_)
  have:¬ xs=ys:=fun h=>hl (by rw [h])
  simp [this]
theorem clone_eq (K:Nat) (xs:List Int) (h:xs.length≤1000000):F7 K xs=some xs:=by
 unfold F7
 rw [if_pos (by simp;omega)];rfl
end Go.XL
end
end
section
section
namespace Go.XL
open Go.XM
def follow (x:Int):List Int→Nat
 | []=>0
 | y::l=>if y=x+1 then follow y l+1 else 0
theorem follow_le:∀ (x:Int) (l:List Int),follow x l≤l.length
 | _,[]=>Nat.le_refl _
 | x,y::l=>by
  simp only [follow]
  split
  ·have:=follow_le y l;simp;omega
  ·simp
theorem follow_lt:∀ {x:Int} {l:List Int} {t:Nat},t<follow x l→(x::l).getD (t+1) 0=(x::l).getD t 0+1
 | x,[],t,h=>by simp [follow] at h
 | x,y::l,t,h=>by
  simp only [follow] at h
  split at h
  ·rename_i e
   cases t with
   | zero=>simpa using e
   | succ t=>exact follow_lt (x:=y) (l:=l) (t:=t) (by omega)
  ·omega
theorem follow_end:∀ {x:Int} {l:List Int},follow x l<l.length→(x::l).getD (follow x l+1) 0≠(x::l).getD (follow x l) 0+1
 | x,[],h=>by simp [follow] at h
 | x,y::l,h=>by
  simp only [follow] at h ⊢
  split
  ·rename_i e
   rw [if_pos e] at h
   exact follow_end (x:=y) (l:=l) (by simpa using h)
  ·rename_i e;simpa using e
def parts:List Int→List Ah × List Int
 | []=>([],[])
 | x::l =>
  if 2≤follow x l then ((x,((follow x l+1:Nat):Int))::(parts (l.drop (follow x l))).1,(parts (l.drop (follow x l))).2)
  else ((parts (l.drop (follow x l))).1,x::l.take (follow x l)++(parts (l.drop (follow x l))).2)
termination_by l=>l.length
decreasing_by all_goals (simp;omega)
def Sm (l:List Int):Prop:=l.length≤1000∧∀ x∈l,-1000000≤x∧x≤1000000
theorem drop_cons {L:List Int} {i:Nat} (hi:i<L.length):L.drop i=L.getD i 0::L.drop (i+1):=drop_getD hi
theorem getD_drop (L:List Int) (i t:Nat):(L.drop i).getD t 0=L.getD (i+t) 0:=by simp [List.getD_eq_getElem?_getD]
theorem runs_Parts_l2 {L:List Int} (hL:Sm L) {go:Nat→Nat→Int→List Ah→List Int→Option (List Ah × List Int)} {i:Nat} (hi:i<L.length) {r:List Ah} {s:List Int} (hr:r.length≤i) (hs:s.length≤i) {z:List Ah × List Int}
  (hgo:let n:=follow (L.getD i 0) (L.drop (i+1));Ev (fun K k _ _ _=>go K k ((i+1+n:Nat):Int) (if 2≤n then r++[(L.getD i 0,((n+1:Nat):Int))] else r) (if 2≤n then s else s++(L.drop i).take (n+1))) z) :
  E2 (fun K k k'=>Ff.l2 K (go K k) (i:Int) L k' ((i+1:Nat):Int) r s) z:=by
 generalize hn:follow (L.getD i 0) (L.drop (i+1))=n at hgo
 simp only at hgo
 have hnle:i+1+n≤L.length:=by
  have:=follow_le (L.getD i 0) (L.drop (i+1))
  rw [hn,List.length_drop] at this;omega
 have hlen:=hL.1
 have key:∀ t,t≤n→E2 (fun K k k'=>Ff.l2 K (go K k) (i:Int) L k' ((i+1+t:Nat):Int) r s) z:=by
  refine upto ?_ ?_
  ·have fin:E2 (fun K k k'=>if decide ((wr .i64 (((i+1+n:Nat):Int)-(i:Int)))≥3) then
     if (0:Int)≤(i:Int)∧(i:Int)<((L.length:Nat):Int) then
     if (r.length+([((nth L (i:Int),wr .i64 (((i+1+n:Nat):Int)-(i:Int))):Ah)]:List Ah).length)*16≤140737488355328 then
     go K k ((i+1+n:Nat):Int) (r++([((nth L (i:Int),wr .i64 (((i+1+n:Nat):Int)-(i:Int))):Ah)]:List Ah)) s
     else none
     else none
    else
     if (0:Int)≤(i:Int)∧(i:Int)≤((i+1+n:Nat):Int)∧((i+1+n:Nat):Int)≤((L.length:Nat):Int) then
     if (s.length+(((L).drop ((i:Int)).toNat).take ((((i+1+n:Nat):Int)).toNat-((i:Int)).toNat)).length)*8≤140737488355328 then
     go K k ((i+1+n:Nat):Int) r (s++(((L).drop ((i:Int)).toNat).take ((((i+1+n:Nat):Int)).toNat-((i:Int)).toNat)))
     else none
     else none) z:=by
    have e1:wr .i64 (((i+1+n:Nat):Int)-(i:Int))=((n+1:Nat):Int):=by rw [w64 (by omega) (by omega)];omega
    rw [e1]
    by_cases h2:2≤n
    ·rw [if_pos h2,if_pos h2] at hgo
     refine posD (by omega) (pos (by omega) (pos (by simp;omega) ?_))
     rw [rdN];exact hgo
    ·rw [if_neg h2,if_neg h2] at hgo
     refine negD (by omega) (pos (by omega) ?_)
     rw [Int.toNat_natCast,Int.toNat_natCast,show i+1+n-i=n+1 by omega]
     exact pos (by simp;omega) hgo
   refine step2 (fun _ _ _ _ _=>Ff.l2.eq_2 ..) ?_
   by_cases he:i+1+n<L.length
   ·refine posD (by omega) (pos (by omega) ?_)
    have e2:wr .i64 (((i+1+n:Nat):Int)-1)=((i+n:Nat):Int):=by rw [w64 (by omega) (by omega)];omega
    rw [e2,rdN,rdN]
    have hb:=hL.2 _ (getD_mem (d:=0) (show i+n<L.length by omega))
    rw [w64 (i:=L.getD (i+n) 0+1) (by omega) (by omega)]
    refine pos (by omega) (negE ?_ fin)
    have:=follow_end (x:=L.getD i 0) (l:=L.drop (i+1)) (by rw [hn,List.length_drop];omega)
    rw [hn,← drop_cons hi,getD_drop,getD_drop] at this
    rw [show i+1+n=i+(n+1) by omega];exact this
   ·exact negD (by omega) fin
  ·intro t ht ih
   refine step2 (fun _ _ _ _ _=>Ff.l2.eq_2 ..) ?_
   refine posD (by omega) (pos (by omega) ?_)
   have e2:wr .i64 (((i+1+t:Nat):Int)-1)=((i+t:Nat):Int):=by rw [w64 (by omega) (by omega)];omega
   rw [e2,rdN,rdN]
   have hb:=hL.2 _ (getD_mem (d:=0) (show i+t<L.length by omega))
   rw [w64 (i:=L.getD (i+t) 0+1) (by omega) (by omega)]
   refine pos (by omega) (posE ?_ ?_)
   ·have:=follow_lt (x:=L.getD i 0) (l:=L.drop (i+1)) (t:=t) (by omega)
    rw [← drop_cons hi,getD_drop,getD_drop] at this
    rw [show i+1+t=i+(t+1) by omega];exact this
   ·rw [w1 (by omega)];exact ih
 exact key 0 (by omega)
theorem runs_Parts_l1 {L:List Int} (hL:Sm L):∀ (d i:Nat),i+d=L.length→∀ (r:List Ah) (s:List Int),r.length≤i→s.length≤i →
  E1 (fun K k=>Ff.l1 K L k (i:Int) r s) (r++(parts (L.drop i)).1,s++(parts (L.drop i)).2):=by
 have hlen:=hL.1
 intro d
 induction d using Nat.strongRecOn with
 | _ d ih =>
  intro i hi r s hr hs
  refine step1 (fun _ _ _ _ _=>Ff.l1.eq_2 ..) ?_
  by_cases h:i<L.length
  ·refine posD (by omega) ?_
   have hnle:=follow_le (L.getD i 0) (L.drop (i+1))
   rw [List.length_drop] at hnle
   have hz:=ih (d-(1+follow (L.getD i 0) (L.drop (i+1)))) (by omega) (i+1+follow (L.getD i 0) (L.drop (i+1))) (by omega)
   have hd:L.drop (i+1+follow (L.getD i 0) (L.drop (i+1)))=(L.drop (i+1)).drop (follow (L.getD i 0) (L.drop (i+1))):=by rw [List.drop_drop]
   rw [hd] at hz
   rw [w1 (by omega)]
   refine Ev.e2 (runs_Parts_l2 (go:=fun K k=>Ff.l1 K L k) hL h hr hs ?_)
   rw [drop_cons h,parts]
   simp only
   by_cases h2:2≤follow (L.getD i 0) (L.drop (i+1))
   ·simp only [if_pos h2]
    refine ofEq (hz _ _ (by simp;omega) (by omega)) (by simp)
   ·simp only [if_neg h2]
    refine ofEq (hz _ _ (by omega) (by simp;omega)) (by simp [List.take_succ_cons])
  ·refine negD (by omega) (nowE ?_)
   rw [List.drop_eq_nil_of_le (by omega),parts];simp
theorem Parts_ev {L:List Int} (hL:Sm L):E0 (fun K=>Ff K L) (parts L):=by
 have:=runs_Parts_l1 hL L.length 0 (by omega) [] [] (by simp) (by simp)
 refine ofEq this.e1 (by simp)
theorem herbariumref3_Split_l2 {L:List Int} (hL:Sm L) {go:Nat→Nat→Int→List Ah→List Int→Option (List Ah × List Int)} {i:Nat} (hi:i<L.length) {r:List Ah} {s:List Int} (hr:r.length≤i) (hs:s.length≤i) {z:List Ah × List Int}
  (hgo:let n:=follow (L.getD i 0) (L.drop (i+1));Ev (fun K k _ _ _=>go K k ((i+1+n:Nat):Int) (if 2≤n then r++[(L.getD i 0,((n+1:Nat):Int))] else r) (if 2≤n then s else s++(L.drop i).take (n+1))) z) :
  E2 (fun K k k'=>Ba.l2 K (go K k) (i:Int) L k' ((i+1:Nat):Int) r s) z:=by
 generalize hn:follow (L.getD i 0) (L.drop (i+1))=n at hgo
 simp only at hgo
 have hnle:i+1+n≤L.length:=by
  have:=follow_le (L.getD i 0) (L.drop (i+1))
  rw [hn,List.length_drop] at this;omega
 have hlen:=hL.1
 have key:∀ t,t≤n→E2 (fun K k k'=>Ba.l2 K (go K k) (i:Int) L k' ((i+1+t:Nat):Int) r s) z:=by
  refine upto ?_ ?_
  ·have fin:E2 (fun K k k'=>if decide ((wr .i64 (((i+1+n:Nat):Int)-(i:Int)))≥3) then
     if (0:Int)≤(i:Int)∧(i:Int)<((L.length:Nat):Int) then
     if (r.length+([((nth L (i:Int),wr .i64 (((i+1+n:Nat):Int)-(i:Int))):Ah)]:List Ah).length)*16≤140737488355328 then
     go K k ((i+1+n:Nat):Int) (r++([((nth L (i:Int),wr .i64 (((i+1+n:Nat):Int)-(i:Int))):Ah)]:List Ah)) s
     else none
     else none
    else
     if (0:Int)≤(i:Int)∧(i:Int)≤((i+1+n:Nat):Int)∧((i+1+n:Nat):Int)≤((L.length:Nat):Int) then
     if (s.length+(((L).drop ((i:Int)).toNat).take ((((i+1+n:Nat):Int)).toNat-((i:Int)).toNat)).length)*8≤140737488355328 then
     go K k ((i+1+n:Nat):Int) r (s++(((L).drop ((i:Int)).toNat).take ((((i+1+n:Nat):Int)).toNat-((i:Int)).toNat)))
     else none
     else none) z:=by
    have e1:wr .i64 (((i+1+n:Nat):Int)-(i:Int))=((n+1:Nat):Int):=by rw [w64 (by omega) (by omega)];omega
    rw [e1]
    by_cases h2:2≤n
    ·rw [if_pos h2,if_pos h2] at hgo
     refine posD (by omega) (pos (by omega) (pos (by simp;omega) ?_))
     rw [rdN];exact hgo
    ·rw [if_neg h2,if_neg h2] at hgo
     refine negD (by omega) (pos (by omega) ?_)
     rw [Int.toNat_natCast,Int.toNat_natCast,show i+1+n-i=n+1 by omega]
     exact pos (by simp;omega) hgo
   refine step2 (fun _ _ _ _ _=>Ba.l2.eq_2 ..) ?_
   by_cases he:i+1+n<L.length
   ·refine posD (by omega) (pos (by omega) ?_)
    have e2:wr .i64 (((i+1+n:Nat):Int)-1)=((i+n:Nat):Int):=by rw [w64 (by omega) (by omega)];omega
    rw [e2,rdN,rdN]
    have hb:=hL.2 _ (getD_mem (d:=0) (show i+n<L.length by omega))
    rw [w64 (i:=L.getD (i+n) 0+1) (by omega) (by omega)]
    refine pos (by omega) (negE ?_ fin)
    have:=follow_end (x:=L.getD i 0) (l:=L.drop (i+1)) (by rw [hn,List.length_drop];omega)
    rw [hn,← drop_cons hi,getD_drop,getD_drop] at this
    rw [show i+1+n=i+(n+1) by omega];exact this
   ·exact negD (by omega) fin
  ·intro t ht ih
   refine step2 (fun _ _ _ _ _=>Ba.l2.eq_2 ..) ?_
   refine posD (by omega) (pos (by omega) ?_)
   have e2:wr .i64 (((i+1+t:Nat):Int)-1)=((i+t:Nat):Int):=by rw [w64 (by omega) (by omega)];omega
   rw [e2,rdN,rdN]
   have hb:=hL.2 _ (getD_mem (d:=0) (show i+t<L.length by omega))
   rw [w64 (i:=L.getD (i+t) 0+1) (by omega) (by omega)]
   refine pos (by omega) (posE ?_ ?_)
   ·have:=follow_lt (x:=L.getD i 0) (l:=L.drop (i+1)) (t:=t) (by omega)
    rw [← drop_cons hi,getD_drop,getD_drop] at this
    rw [show i+1+t=i+(t+1) by omega];exact this
   ·rw [w1 (by omega)];exact ih
 exact key 0 (by omega)
theorem herbariumref3_Split_l1 {L:List Int} (hL:Sm L):∀ (d i:Nat),i+d=L.length→∀ (r:List Ah) (s:List Int),r.length≤i→s.length≤i →
  E1 (fun K k=>Ba.l1 K L k (i:Int) r s) (r++(parts (L.drop i)).1,s++(parts (L.drop i)).2):=by
 have hlen:=hL.1
 intro d
 induction d using Nat.strongRecOn with
 | _ d ih =>
  intro i hi r s hr hs
  refine step1 (fun _ _ _ _ _=>Ba.l1.eq_2 ..) ?_
  by_cases h:i<L.length
  ·refine posD (by omega) ?_
   have hnle:=follow_le (L.getD i 0) (L.drop (i+1))
   rw [List.length_drop] at hnle
   have hz:=ih (d-(1+follow (L.getD i 0) (L.drop (i+1)))) (by omega) (i+1+follow (L.getD i 0) (L.drop (i+1))) (by omega)
   have hd:L.drop (i+1+follow (L.getD i 0) (L.drop (i+1)))=(L.drop (i+1)).drop (follow (L.getD i 0) (L.drop (i+1))):=by rw [List.drop_drop]
   rw [hd] at hz
   rw [w1 (by omega)]
   refine Ev.e2 (herbariumref3_Split_l2 (go:=fun K k=>Ba.l1 K L k) hL h hr hs ?_)
   rw [drop_cons h,parts]
   simp only
   by_cases h2:2≤follow (L.getD i 0) (L.drop (i+1))
   ·simp only [if_pos h2]
    refine ofEq (hz _ _ (by simp;omega) (by omega)) (by simp)
   ·simp only [if_neg h2]
    refine ofEq (hz _ _ (by omega) (by simp;omega)) (by simp [List.take_succ_cons])
  ·refine negD (by omega) (nowE ?_)
   rw [List.drop_eq_nil_of_le (by omega),parts];simp
theorem Split_ev {L:List Int} (hL:Sm L):E0 (fun K=>Ba K L) (parts L):=by
 have:=herbariumref3_Split_l1 hL L.length 0 (by omega) [] [] (by simp) (by simp)
 refine ofEq this.e1 (by simp)
end Go.XL
end
end
section
section
namespace Go.XL
open Go.XM
def nums (x:Ah):List Int:=(List.range x.Len.toNat).map fun (k:Nat)=>x.At+(k:Int)
def alls (r:List Ah):List Int:=r.flatMap nums
def OkR:Int→List Ah→Prop
 | _,[]=>True
 | e,x::r=>(3≤x.Len∧e<x.At∧0≤x.At∧x.At≤15∧x.At+x.Len≤16)∧OkR (x.At+x.Len) r
instance decOkR:∀ (e:Int) (r:List Ah),Decidable (OkR e r)
 | _,[]=>.isTrue trivial
 | e,x::r=>@instDecidableAnd _ _ _ (decOkR _ r)
def join (r:List Ah) (q:List Int):Option (List Int):=if OkR (-1) r∧MayP q∧MayP (sortF (q++alls r)) then some (sortF (q++alls r)) else none
theorem sort_len (l:List Int):(sortF l).length=l.length:=List.length_mergeSort l
theorem mem_nums {x:Ah} {a:Int} (h:0≤x.Len):a∈nums x↔x.At≤a∧a<x.At+x.Len:=by
 simp only [nums,List.mem_map,List.mem_range]
 constructor
 ·rintro ⟨k,hk,rfl⟩;omega
 ·rintro ⟨h1,h2⟩;exact ⟨(a-x.At).toNat,by omega,by omega⟩
theorem OkR.mem:∀ {e:Int} {r:List Ah},OkR e r→∀ a∈alls r,0≤a∧a≤15∧(-1≤e→e<a)
 | e,[],_,a,ha=>by simp [alls] at ha
 | e,x::r,h,a,ha=>by
  obtain ⟨⟨h1,h2,h3,h4,h5⟩,hr⟩:=h
  rcases List.mem_append.1 (show a∈nums x++alls r from by simpa [alls] using ha) with ha | ha
  ·rw [mem_nums (by omega)] at ha;omega
  ·have:=OkR.mem hr a ha;omega
theorem OkR.nodup:∀ {e:Int} {r:List Ah},OkR e r→(alls r).Nodup
 | e,[],_=>by simp [alls]
 | e,x::r,h=>by
  obtain ⟨⟨h1,h2,h3,h4,h5⟩,hr⟩:=h
  rw [show alls (x::r)=nums x++alls r by simp [alls],List.nodup_append]
  refine ⟨?_,hr.nodup,fun a ha b hb=>?_⟩
  ·rw [nums,List.nodup_iff_pairwise_ne,List.pairwise_map]
   exact List.pairwise_lt_range.imp fun h=>by omega
  ·rw [mem_nums (by omega)] at ha
   have:=hr.mem b hb
   omega
theorem nums_len (x:Ah):(nums x).length=x.Len.toNat:=by simp [nums]
theorem alls_cons (x:Ah) (r:List Ah):alls (x::r)=nums x++alls r:=by simp [alls]
theorem OkR.len:∀ {e:Int} {r:List Ah},e≤16→OkR e r→e+(alls r).length≤16∧3*r.length≤(alls r).length
 | e,[],he,h=>by simp [alls];exact he
 | e,x::r,he,h=>by
  obtain ⟨⟨h1,h2,h3,h4,h5⟩,hr⟩:=h
  obtain ⟨a1,a2⟩:=OkR.len (by omega) hr
  rw [alls_cons,List.length_append,nums_len,List.length_cons]
  omega
theorem whole_l2 {go:Nat→Nat→Int→Int→Int→List Int→Option (List Int × Bool)} {t11 t12:Int} {r:List Ah} {q:List Int} {x:Ah} (h0:0≤x.Len) (h1:x.Len≤16) (h2:0≤x.At) (h3:x.At≤15) {s:List Int} (hs:s.length≤1000100) {z:List Int × Bool}
  (hgo:Ev (fun K k _ _ _=>go K k (x.At+x.Len) t11 (wr .i64 (t12+1)) (s++nums x)) z):E2 (fun K k k'=>Ez.l2 K (go K k) t11 t12 r q k' (x.At+x.Len) x.At s) z:=by
 have hl:=nums_len x
 have key:∀ t,t≤x.Len.toNat→E2 (fun K k k'=>Ez.l2 K (go K k) t11 t12 r q k' (x.At+x.Len) (x.At+(t:Int)) (s++(nums x).take t)) z:=by
  refine upto ?_ ?_
  ·refine step2 (fun _ _ _ _ _=>Ez.l2.eq_2 ..) ?_
   refine negD (by omega) ?_
   rw [List.take_of_length_le (by omega)]
   exact hgo
  ·intro t ht ih
   refine step2 (fun _ _ _ _ _=>Ez.l2.eq_2 ..) ?_
   refine posD (by omega) (pos ?_ ?_)
   ·simp only [List.length_append,List.length_take,List.length_singleton];omega
   ·rw [w64 (by omega) (by omega)]
    have e:s++(nums x).take t++[x.At+(t:Int)]=s++(nums x).take (t+1):=by
     rw [take_getD (d:=0) (by omega:t<(nums x).length),List.append_assoc]
     congr 3
     rw [getD_lt (by omega)]
     simp [nums]
    rw [e]
    refine ofEq (congr (fun _ _ _ _ _=>?_) ih) rfl
    congr 1
    omega
 have:=key 0 (by omega)
 simpa using this
theorem rdR (xs:List Ah) (i:Nat):nth xs (i:Int)=xs.getD i default:=nthN xs i
theorem whole_l1 {r:List Ah} {q:List Int} (hq:q.length≤1000000) (hr:r.length≤1000000):∀ i,i≤r.length→∀ (e:Int) (s:List Int),-1≤e→e≤16→(s.length:Int)≤1000000+e+1 →
  E1 (fun K k=>Ez.l1 K r q k e (r.length:Int) (i:Int) s) (if OkR e (r.drop i) then (sortF (s++alls (r.drop i)),if MayP q then decide (MayP (sortF (s++alls (r.drop i)))) else false) else ([],false)):=by
 refine upto ?_ ?_
 ·intro e s he he2 hs
  refine step1 (fun _ _ _ _ _=>Ez.l1.eq_2 ..) ?_
  refine negD (by omega) (pos (by omega) ?_)
  rw [List.drop_length,if_pos (show OkR e [] from trivial),show alls []=[] from rfl,List.append_nil]
  refine bnd (gmay_ev q (by omega)) ?_
  by_cases hm:MayP q
  ·rw [if_pos hm]
   refine pos (decide_eq_true hm) ?_
   exact bnd (gmay_ev _ (by rw [sort_len];omega)) (now _)
  ·rw [if_neg hm]
   exact neg (by simpa using hm) (now _)
 ·intro i hi ih e s he he2 hs
  refine step1 (fun _ _ _ _ _=>Ez.l1.eq_2 ..) ?_
  refine posD (by omega) (pos (by omega) ?_)
  rw [rdR,drop_getD (d:=default) hi]
  generalize r.getD i default=x
  by_cases c1:x.Len<3
  ·rw [if_neg (fun h=>by have:=h.1.1;omega)]
   exact posD c1 (now _)
  refine negD c1 ?_
  by_cases c2:x.Len > 16
  ·rw [if_neg (fun h=>by have:=h.1;omega)]
   exact posD c2 (now _)
  refine negD c2 ?_
  by_cases c3:x.At≤e
  ·rw [if_neg (fun h=>by have:=h.1;omega)]
   exact posD c3 (now _)
  refine negD c3 ?_
  simp only [is_eq]
  refine bnd (now _) ?_
  by_cases c4:0≤x.At∧x.At≤15
  ·refine negM c4 ?_
   rw [w64 (i:=x.At+x.Len) (by omega) (by omega),w64 (i:=x.At+x.Len-1) (by omega) (by omega)]
   refine bnd (now _) ?_
   by_cases c5:0≤x.At+x.Len-1∧x.At+x.Len-1≤15
   ·refine negM c5 ?_
    have hx:3≤x.Len∧e<x.At∧0≤x.At∧x.At≤15∧x.At+x.Len≤16:=by omega
    refine Ev.e2 (whole_l2 (go:=fun K k=>Ez.l1 K r q k) (by omega) (by omega) (by omega) (by omega) (by omega) ?_)
    rw [w1 (by omega)]
    have hi2:=ih (x.At+x.Len) (s++nums x) (by omega) (by omega) (by rw [List.length_append,nums_len];omega)
    refine ofEq hi2 ?_
    by_cases ho:OkR (x.At+x.Len) (r.drop (i+1))
    ·rw [if_pos ho,if_pos (show OkR e (x::r.drop (i+1)) from ⟨hx,ho⟩),alls_cons,List.append_assoc]
    ·rw [if_neg ho,if_neg (fun h=>ho h.2)]
   ·rw [if_neg (fun h=>c5 (by have:=h.1;omega))]
    exact posM c5 (now _)
  ·rw [if_neg (fun h=>c4 (by have:=h.1;omega))]
   exact posM c4 (now _)
theorem Whole_ev {r:List Ah} {q:List Int} (hq:q.length≤1000000) (hr:r.length≤1000000):E0 (fun K=>Ez K r q) (if OkR (-1) r then (sortF (q++alls r),if MayP q then decide (MayP (sortF (q++alls r))) else false) else ([],false)):=by
 refine bnd (congr (fun K _ _ _ _=>clone_eq K q hq) (now _)) ?_
 exact (whole_l1 hq hr 0 (by omega) (-1) q (by omega) (by omega) (by omega)).e1
end Go.XL
end
end
section
section
namespace Go.XL
open Go.XM
theorem may_lt {xs:List Int} (h:MayP xs):∀ (d i:Nat),i+d+1<xs.length→xs.getD i 0<xs.getD (i+d+1) 0
 | 0,i,hi=>by
  have:=(h (i+1) (by omega)).2.2 (by omega)
  simpa using this
 | d+1,i,hi=>by
  have h1:=may_lt h d i (by omega)
  have h2:=(h (i+(d+1)+1) (by omega)).2.2 (by omega)
  rw [show i+(d+1)+1-1=i+d+1 by omega] at h2
  omega
theorem mayP_iff (xs:List Int):MayP xs↔xs.Pairwise (·<·)∧∀ x∈xs,0≤x∧x≤15:=by
 constructor
 ·intro h
  refine ⟨List.pairwise_iff_getElem.2 fun i j hi hj hij=>?_,fun x hx=>?_⟩
  ·have:=may_lt h (j-i-1) i (by omega)
   rw [show i+(j-i-1)+1=j by omega,getD_lt hi,getD_lt hj] at this
   exact this
  ·obtain ⟨i,hi,rfl⟩:=List.mem_iff_getElem.1 hx
   have:=h i hi
   rw [← getD_lt (d:=0) hi];exact ⟨this.1,this.2.1⟩
 ·rintro ⟨h1,h2⟩ i hi
  have hm:=h2 _ (getD_mem (d:=0) hi)
  refine ⟨hm.1,hm.2,fun h0=>?_⟩
  have:=List.pairwise_iff_getElem.1 h1 (i-1) i (by omega) hi (by omega)
  rw [getD_lt (show i-1<xs.length by omega),getD_lt hi];exact this
def U16:List Int:=(List.range 16).map fun (k:Nat)=>(k:Int)
theorem U16_len:U16.length=16:=by simp [U16]
theorem U16_get {t:Nat} (h:t<16):U16.getD t 0=(t:Int):=by rw [getD_lt (by rw [U16_len];exact h)];simp [U16]
theorem U16_mem {a:Int}:a∈U16↔0≤a∧a≤15:=by
 simp only [U16,List.mem_map,List.mem_range]
 constructor
 ·rintro ⟨k,hk,rfl⟩;omega
 ·rintro ⟨h1,h2⟩;exact ⟨a.toNat,by omega,by omega⟩
theorem U16_lt:U16.Pairwise (·<·):=by
 rw [U16,List.pairwise_map]
 exact List.pairwise_lt_range.imp fun h=>by omega
def flt (S:List Int):List Int:=U16.filter fun a=>decide (a∈S)
theorem flt_may (S:List Int):MayP (flt S):=(mayP_iff _).2 ⟨U16_lt.filter _,fun x hx=>U16_mem.1 (List.mem_filter.1 hx).1⟩
theorem nodup_of_lt {xs:List Int} (h:xs.Pairwise (·<·)):xs.Nodup:=by
 rw [List.nodup_iff_pairwise_ne]
 exact h.imp fun h=>by omega
theorem sort_le (l:List Int):(sortF l).Pairwise (·≤·):=by
 have:=List.pairwise_mergeSort (le:=fun (x y:Int)=>decide (x≤y)) (fun a b c h1 h2=>by simp at *;omega) (fun a b=>by simp;omega) l
 exact this.imp fun h=>by simpa using h
theorem sort_flt {l S:List Int} (hn:l.Nodup) (hb:∀ x∈l,0≤x∧x≤15) (hS:∀ x,x∈S↔x∈l):sortF l=flt S:=by
 refine List.Perm.eq_of_pairwise (le:=(·≤·)) (fun a b _ _ h1 h2=>by omega) (sort_le l) (((mayP_iff _).1 (flt_may S)).1.imp fun h=>by omega) ?_
 refine (List.mergeSort_perm l _).trans ?_
 refine (List.perm_ext_iff_of_nodup hn (nodup_of_lt ((mayP_iff _).1 (flt_may S)).1)).2 fun a=>?_
 simp only [flt,List.mem_filter,decide_eq_true_eq]
 rw [hS,U16_mem]
 exact ⟨fun h=>⟨hb a h,h⟩,fun h=>h.2⟩
theorem sort_may {q b:List Int} (hq:MayP q) (hb:b.Nodup) (hb2:∀ x∈b,0≤x∧x≤15):MayP (sortF (q++b))↔∀ x∈q,x ∉ b:=by
 have hp:sortF (q++b) |>.Perm (q++b):=List.mergeSort_perm _ _
 obtain ⟨q1,q2⟩:=(mayP_iff _).1 hq
 constructor
 ·intro h x hx hx2
  have hn:=hp.nodup (nodup_of_lt ((mayP_iff _).1 h).1)
  rw [List.nodup_append] at hn
  exact hn.2.2 x hx x hx2 rfl
 ·intro h
  have hn:(q++b).Nodup:=List.nodup_append.2 ⟨nodup_of_lt q1,hb,fun x hx y hy e=>h x hx (e ▸ hy)⟩
  rw [sort_flt (S:=q++b) hn (fun x hx=>(List.mem_append.1 hx).elim (q2 x) (hb2 x)) (fun x=>Iff.rfl)]
  exact flt_may _
def mk (S:List Int):List Bool:=(List.range 16).map fun (k:Nat)=>decide ((k:Int)∈S)
theorem mk_len (S:List Int):(mk S).length=16:=by simp [mk]
theorem rdB (xs:List Bool) (i:Nat):nth xs (i:Int)=xs.getD i false:=nthN xs i
theorem mk_get {S:List Int} {k:Nat} (h:k<16):(mk S).getD k false=decide ((k:Int)∈S):=by rw [getD_lt (by rw [mk_len];exact h)];simp [mk]
theorem mk_set {S:List Int} {k:Nat} (h:k<16):(mk S).set k true=mk (S++[(k:Int)]):=by
 refine List.ext_getElem (by simp [mk_len]) fun i h1 h2=>?_
 rw [mk_len] at h2
 rw [List.getElem_set]
 simp only [mk,List.getElem_map,List.getElem_range,List.mem_append,List.mem_singleton]
 by_cases e:k=i
 ·subst e;simp
 ·rw [if_neg e]
  have:¬ (i:Int)=(k:Int):=by omega
  simp [this]
theorem mk_nil:List.replicate 16 false=mk []:=by decide
theorem join_l4 {S:List Int}:∀ t,t≤16→∀ acc:List Int,acc.length≤t→E1 (fun K k=>Ak.l4 K k (t:Int) (mk S) acc) (acc++(U16.drop t).filter (fun a=>decide (a∈S)),true):=by
 refine upto ?_ ?_
 ·intro acc ha
  refine step1 (fun _ _ _ _ _=>Ak.l4.eq_2 ..) ?_
  refine negD (by omega) (nowE ?_)
  rw [List.drop_eq_nil_of_le (by rw [U16_len];omega)];simp
 ·intro t ht ih acc ha
  refine step1 (fun _ _ _ _ _=>Ak.l4.eq_2 ..) ?_
  refine posD (by omega) (pos ⟨⟨by omega,by rw [mk_len];omega⟩,mk_len S⟩ ?_)
  rw [rdB,mk_get ht,drop_getD (d:=0) (by rw [U16_len];exact ht:t<U16.length),U16_get ht,w1 (by omega)]
  by_cases h:(t:Int)∈S
  ·refine pos (decide_eq_true h) (pos (by simp;omega) ?_)
   refine ofEq (ih (acc++[(t:Int)]) (by simp;omega)) ?_
   rw [List.filter_cons_of_pos (by simpa using h)];simp
  ·refine neg (by simpa using h) ?_
   refine ofEq (ih acc (by omega)) ?_
   rw [List.filter_cons_of_neg (by simpa using h)]
theorem join_l3 {q S:List Int} (hq:MayP q):∀ j,j≤q.length→E1 (fun K k=>Ak.l3 K q k (j:Int) (mk (S++q.take j))) (if ∀ x∈q.drop j,x ∉ S then (flt (S++q),true) else ([],false)):=by
 have hlen:=hq.len
 obtain ⟨q1,q2⟩:=(mayP_iff _).1 hq
 refine upto ?_ ?_
 ·refine step1 (fun _ _ _ _ _=>Ak.l3.eq_2 ..) ?_
  refine negD (by omega) ?_
  rw [List.drop_length,if_pos (by simp),List.take_length]
  refine ofEq (join_l4 0 (by omega) [] (by simp)).e1 ?_
  simp [flt]
 ·intro j hj ih
  refine step1 (fun _ _ _ _ _=>Ak.l3.eq_2 ..) ?_
  obtain ⟨x0,x1⟩:=q2 _ (getD_mem (d:=0) hj)
  have hnot:q.getD j 0 ∉ q.take j:=by
   intro hm
   obtain ⟨i,hi,e⟩:=List.mem_iff_getElem.1 hm
   have hij:i<j:=by simpa using (show i<(q.take j).length from hi) |> fun h=>by rw [List.length_take] at h;omega
   rw [List.getElem_take] at e
   have:=List.pairwise_iff_getElem.1 q1 i j (by omega) hj hij
   rw [getD_lt hj] at e
   omega
  rw [rdN]
  obtain ⟨n,hn⟩:=Int.eq_ofNat_of_zero_le x0
  have hn16:n<16:=by omega
  rw [hn] at hnot ⊢
  refine posD (by omega) (pos (by omega) (pos ⟨⟨by omega,by rw [mk_len];omega⟩,mk_len _⟩ ?_))
  rw [rdB,mk_get hn16,Int.toNat_natCast,mk_set hn16,drop_getD (d:=0) hj,hn,w1 (by omega)]
  have hmem:(n:Int)∈S++q.take j↔(n:Int)∈S:=by simp [List.mem_append,hnot]
  by_cases h:(n:Int)∈S
  ·rw [if_neg (fun k=>k (n:Int) List.mem_cons_self h)]
   exact pos (decide_eq_true (hmem.2 h)) (now _)
  ·refine neg (by simpa using fun k=>h (hmem.1 k)) (pos (by omega) (pos ⟨⟨by omega,by rw [mk_len];omega⟩,mk_len _⟩ ?_))
   have e:S++q.take j++[(n:Int)]=S++q.take (j+1):=by rw [take_getD (d:=0) hj,hn,List.append_assoc]
   rw [e]
   refine ofEq ih ?_
   have:(∀ x∈q.drop (j+1),x ∉ S)↔∀ x∈(n:Int)::q.drop (j+1),x ∉ S:=by simp [h]
   by_cases hh:∀ x∈q.drop (j+1),x ∉ S
   ·rw [if_pos hh,if_pos (this.1 hh)]
   ·rw [if_neg hh,if_neg (fun k=>hh (this.2 k))]
theorem join_l2 {go:Nat→Nat→Int→List Bool→Option (List Int × Bool)} {t11:Int} {r:List Ah} {q:List Int} {x:Ah} (h0:0≤x.Len) (h2:0≤x.At) (h3:x.At+x.Len≤16) {S:List Int} {z:List Int × Bool}
  (hgo:Ev (fun K k _ _ _=>go K k (wr .i64 (t11+1)) (mk (S++nums x))) z):E2 (fun K k k'=>Ak.l2 K (go K k) t11 r q k' 0 (mk S) x.At x.Len) z:=by
 have hl:=nums_len x
 have key:∀ t,t≤x.Len.toNat→E2 (fun K k k'=>Ak.l2 K (go K k) t11 r q k' (t:Int) (mk (S++(nums x).take t)) x.At x.Len) z:=by
  refine upto ?_ ?_
  ·refine step2 (fun _ _ _ _ _=>Ak.l2.eq_2 ..) ?_
   refine negD (by omega) ?_
   rw [List.take_of_length_le (by omega)]
   exact hgo
  ·intro t ht ih
   refine step2 (fun _ _ _ _ _=>Ak.l2.eq_2 ..) ?_
   have e1:wr .i64 (x.At+(t:Int))=((x.At.toNat+t:Nat):Int):=by rw [w64 (by omega) (by omega)];omega
   rw [e1,Int.toNat_natCast,mk_set (by omega),w1 (by omega)]
   refine posD (by omega) (pos ⟨⟨by omega,by rw [mk_len];omega⟩,mk_len _⟩ ?_)
   have e:S++(nums x).take t++[((x.At.toNat+t:Nat):Int)]=S++(nums x).take (t+1):=by
    rw [take_getD (d:=0) (by omega:t<(nums x).length),List.append_assoc]
    congr 3
    rw [getD_lt (by omega)]
    simp [nums]
    omega
   rw [e]
   exact ih
 have:=key 0 (by omega)
 simpa using this
def before (r:List Ah) (i:Nat):Int:=if i=0 then -1 else (r.getD (i-1) default).At+(r.getD (i-1) default).Len
theorem join_l1 {r:List Ah} {q:List Int} (hq:MayP q) (hr:r.length≤1000000):∀ i,i≤r.length→∀ (S:List Int),(0<i→0≤before r i∧before r i≤16) →
  E1 (fun K k=>Ak.l1 K r q k (i:Int) (mk S)) (if OkR (before r i) (r.drop i) then (if ∀ x∈q,x ∉ S++alls (r.drop i) then (flt (S++alls (r.drop i)++q),true) else ([],false)) else ([],false)):=by
 refine upto ?_ ?_
 ·intro S hb
  refine step1 (fun _ _ _ _ _=>Ak.l1.eq_2 ..) ?_
  refine negD (by omega) ?_
  rw [List.drop_length,if_pos (show OkR (before r r.length) [] from trivial),show alls []=[] from rfl,List.append_nil]
  have:=join_l3 (S:=S) hq 0 (by omega)
  simp only [List.take_zero,List.append_nil,List.drop_zero] at this
  exact this.e1
 ·intro i hi ih S hb
  refine step1 (fun _ _ _ _ _=>Ak.l1.eq_2 ..) ?_
  refine posD (by omega) (pos (by omega) ?_)
  simp only [origin_eq]
  rw [rdR,drop_getD (d:=default) hi]
  have hnext:before r (i+1)=(r.getD i default).At+(r.getD i default).Len:=by simp [before]
  generalize r.getD i default=x at *
  refine bnd (now _) ?_
  by_cases c4:¬ (0≤x.At∧x.At≤15)
  ·rw [if_neg (fun h=>c4 (by have:=h.1;omega))]
   exact posM c4 (now _)
  have c4:=Classical.not_not.1 c4
  refine negM c4 ?_
  by_cases c1:x.Len<3
  ·rw [if_neg (fun h=>by have:=h.1.1;omega)]
   exact posD c1 (now _)
  refine negD c1 ?_
  rw [w64 (i:=16-x.At) (by omega) (by omega)]
  by_cases c2:x.Len > 16-x.At
  ·rw [if_neg (fun h=>by have:=h.1;omega)]
   exact posD c2 (now _)
  refine negD c2 ?_
  have go:before r i<x.At→E1 (fun K k=>Ak.l2 K (Ak.l1 K r q k) (i:Int) r q K 0 (mk S) x.At x.Len)
    (if OkR (before r i) (x::r.drop (i+1)) then (if ∀ y∈q,y ∉ S++alls (x::r.drop (i+1)) then (flt (S++alls (x::r.drop (i+1))++q),true) else ([],false)) else ([],false)):=by
   intro hlt
   have hx:3≤x.Len∧before r i<x.At∧0≤x.At∧x.At≤15∧x.At+x.Len≤16:=by omega
   refine Ev.e2 (join_l2 (go:=fun K k=>Ak.l1 K r q k) (by omega) (by omega) (by omega) ?_)
   rw [w1 (by omega)]
   refine ofEq (ih (S++nums x) (fun _=>by rw [hnext];omega)) ?_
   rw [hnext,alls_cons]
   by_cases ho:OkR (x.At+x.Len) (r.drop (i+1))
   ·rw [if_pos ho,if_pos (show OkR (before r i) (x::r.drop (i+1)) from ⟨hx,ho⟩)]
    simp only [List.append_assoc]
   ·rw [if_neg ho,if_neg (show ¬ OkR (before r i) (x::r.drop (i+1)) from fun h=>ho h.2)]
  by_cases h0:i=0
  ·refine negD (by omega) (go ?_)
   simp [before,h0];omega
  ·have e1:wr .i64 ((i:Int)-1)=((i-1:Nat):Int):=by rw [w64 (by omega) (by omega)];omega
   rw [e1,rdR]
   have hb':=hb (by omega)
   have hbe:(r.getD (i-1) default).At+(r.getD (i-1) default).Len=before r i:=by simp [before,h0]
   rw [hbe,w64 (i:=before r i) (by omega) (by omega)]
   refine posD (by omega) (pos (by omega) (pos (by omega) ?_))
   by_cases c3:x.At≤before r i
   ·rw [if_neg (fun h=>by have:=h.1;omega)]
    exact posD c3 (now _)
   ·exact negD c3 (go (by omega))
theorem RJoin_ev {r:List Ah} {q:List Int} (hq:q.length≤1000000) (hr:r.length≤1000000):E0 (fun K=>Ak K r q) (match join r q with | some l=>(l,true) | none=>([],false)):=by
 refine bnd (may3_ev q (by omega)) ?_
 unfold join
 by_cases h2:¬ MayP q
 ·rw [if_neg (show ¬ (OkR (-1) r∧MayP q∧MayP (sortF (q++alls r))) from fun h=>h2 h.2.1)]
  exact posM h2 (now _)
 have h2:=Classical.not_not.1 h2
 refine negM h2 ?_
 rw [mk_nil]
 refine ofEq (join_l1 h2 hr 0 (by omega) [] (fun h=>by omega)).e1 ?_
 rw [show before r 0=-1 from rfl,List.drop_zero,List.nil_append]
 by_cases h1:¬ OkR (-1) r
 ·rw [if_neg h1,if_neg (show ¬ (OkR (-1) r∧MayP q∧MayP (sortF (q++alls r))) from fun h=>h1 h.1)]
 have h1:=Classical.not_not.1 h1
 rw [if_pos h1]
 have hs:=sort_may h2 h1.nodup (fun x hx=>by have:=h1.mem x hx;omega)
 by_cases h3:∀ x∈q,x ∉ alls r
 ·rw [if_pos h3,if_pos (show OkR (-1) r∧MayP q∧MayP (sortF (q++alls r)) from ⟨h1,h2,hs.2 h3⟩)]
  obtain ⟨q1,q2⟩:=(mayP_iff _).1 h2
  have hn:(q++alls r).Nodup:=List.nodup_append.2 ⟨nodup_of_lt q1,h1.nodup,fun x hx y hy e=>h3 x hx (e ▸ hy)⟩
  rw [sort_flt (S:=alls r++q) hn (fun x hx=>(List.mem_append.1 hx).elim (q2 x) (fun hx=>by have:=h1.mem x hx;omega)) (fun x=>by simp [List.mem_append,or_comm])]
 ·rw [if_neg h3,if_neg (show ¬ (OkR (-1) r∧MayP q∧MayP (sortF (q++alls r))) from fun h=>h3 (hs.1 h.2.2))]
end Go.XL
end
end
section
section
namespace Go.XL
open Go.XM
theorem le8 {n c:Nat} (h:n*c≤140737488351232) (hc:8≤c):n≤17592186044416:=by
 have:=Nat.mul_le_mul_left n hc
 omega
theorem copy_ev (xs:List Int) (h:xs.length≤1000000):E0 (fun K=>Bl K xs) xs:=by
 have key:∀ i,i≤xs.length→E1 (fun K k=>Bl.l1 K xs k (i:Int) (xs.take i)) xs:=by
  refine upto ?_ ?_
  ·refine step1 (fun _ _ _ _ _=>Bl.l1.eq_2 ..) ?_
   exact negD (by omega) (nowE (List.take_length))
  ·intro i hi ih
   refine step1 (fun _ _ _ _ _=>Bl.l1.eq_2 ..) ?_
   refine posD (by omega) (pos (by omega) (pos (by simp;omega) ?_))
   rw [rdN,w1 (by omega),← take_getD hi]
   exact ih
 exact (key 0 (by omega)).e1
theorem ext_getR {xs ys:List Ah} (hl:xs.length=ys.length) (h:∀ j,j<xs.length→xs.getD j default=ys.getD j default):xs=ys:=by
 refine List.ext_getElem hl fun j h1 h2=>?_
 have:=h j h1
 rwa [getD_lt h1,getD_lt h2] at this
theorem eqRun (a b:Ah):(!((a.At == b.At) && ((a.Len == b.Len) && true)))=!decide (a=b):=by
 obtain ⟨a1,a2⟩:=a
 obtain ⟨b1,b2⟩:=b
 show (!((a1 == b1) && ((a2 == b2) && true)))=_
 rw [Bool.eq_iff_iff];simp [Prod.ext_iff]
end Go.XL
end
end
section
section
namespace Go.XL
open Go.XM
theorem equal_ev (xs ys:List Int) (h:xs.length≤1000000):E0 (fun K=>Dq K xs ys) (decide (xs=ys)):=by
 unfold Dq
 by_cases hl:xs.length=ys.length
 ·have key:∀ i,i≤xs.length→(∀ j,j<i→xs.getD j 0=ys.getD j 0)→E1 (fun K k=>Dq.l1 K xs ys k ((xs.length:Nat):Int) (i:Int)) (decide (xs=ys)):=by
   refine upto ?_ ?_
   ·intro hd
    refine step1 (fun _ _ _ _ _=>Dq.l1.eq_2 ..) ?_
    exact negD (by omega) (nowE (by rw [ext_getD hl hd];simp))
   ·intro i hi ih hd
    refine step1 (fun _ _ _ _ _=>Dq.l1.eq_2 ..) ?_
    refine posD (by omega) (pos (by omega) (pos (by omega) ?_))
    rw [rdN,rdN,w1 (by omega)]
    by_cases e:xs.getD i 0=ys.getD i 0
    ·refine negN e (ih fun j hj=>?_)
     by_cases q:j=i
     ·rw [q];exact e
     ·exact hd j (by omega)
    ·refine posN e (nowE ?_)
     have:¬ xs=ys:=fun h=>e (by rw [h])
     simp [this]
  exact negN (by omega) (key 0 (by omega) (fun j hj=>by omega)).e1
 ·refine posN (by omega) (nowE ?_)
  have:¬ xs=ys:=fun h=>hl (by rw [h])
  simp [this]
end Go.XL
end
end
section
section
namespace Go.XL
open Go.XM
theorem in_ev (xs:List Int) (a:Int) (h:xs.length≤1000000):∃ r,E0 (fun K=>Db K xs a) r∧(0≤r↔a∈xs):=by
 have key:∀ i,i≤xs.length→∃ r,E1 (fun K k=>Db.l1 K xs a k (i:Int)) r∧(0≤r↔a∈xs.drop i):=by
  refine upto ?_ ?_
  ·refine ⟨-1,?_,by simp⟩
   refine step1 (fun _ _ _ _ _=>Db.l1.eq_2 ..) ?_
   exact negD (by omega) (now _)
  ·intro i hi ih
   obtain ⟨r,h1,h2⟩:=ih
   by_cases e:xs.getD i 0=a
   ·refine ⟨i,?_,by rw [drop_getD (d:=0) hi,e];simp⟩
    refine step1 (fun _ _ _ _ _=>Db.l1.eq_2 ..) ?_
    refine posD (by omega) (pos (by omega) ?_)
    rw [rdN]
    exact posE e (now _)
   ·refine ⟨r,?_,by rw [drop_getD (d:=0) hi,h2,List.mem_cons];exact ⟨.inr,fun q=>q.resolve_left (fun q=>e q.symm)⟩⟩
    refine step1 (fun _ _ _ _ _=>Db.l1.eq_2 ..) ?_
    refine posD (by omega) (pos (by omega) ?_)
    rw [rdN,w1 (by omega)]
    exact negE e h1
 obtain ⟨r,h1,h2⟩:=key 0 (by omega)
 exact ⟨r,h1.e1,by simpa using h2⟩
theorem contains_ev (xs:List Int) (a:Int) (h:xs.length≤1000000):E0 (fun K=>Gd K xs a) (decide (a∈xs)):=by
 have key:∀ i,i≤xs.length→∃ r,E1 (fun K k=>Eb.l1 K xs a k ((xs.length:Nat):Int) (i:Int)) r∧(0≤r↔a∈xs.drop i):=by
  refine upto ?_ ?_
  ·refine ⟨-1,?_,by simp⟩
   refine step1 (fun _ _ _ _ _=>Eb.l1.eq_2 ..) ?_
   exact negD (by omega) (now _)
  ·intro i hi ih
   obtain ⟨r,h1,h2⟩:=ih
   by_cases e:a=xs.getD i 0
   ·refine ⟨i,?_,by rw [drop_getD (d:=0) hi,← e];simp⟩
    refine step1 (fun _ _ _ _ _=>Eb.l1.eq_2 ..) ?_
    refine posD (by omega) (pos (by omega) ?_)
    rw [rdN]
    exact posE e (now _)
   ·refine ⟨r,?_,by rw [drop_getD (d:=0) hi,h2,List.mem_cons];exact ⟨.inr,fun q=>q.resolve_left e⟩⟩
    refine step1 (fun _ _ _ _ _=>Eb.l1.eq_2 ..) ?_
    refine posD (by omega) (pos (by omega) ?_)
    rw [rdN,w1 (by omega)]
    exact negE e h1
 obtain ⟨r,h1,h2⟩:=key 0 (by omega)
 unfold Gd Eb
 refine bnd h1.e1 (nowE ?_)
 exact decide_eq_decide.2 (by simpa using h2)
end Go.XL
end
end
section
section
namespace Go.XL
open Go.XM
theorem fdivN (a b:Nat):((a:Int)).fdiv (b:Int)=((a / b:Nat):Int):=(Int.ofNat_fdiv a b).symm
theorem tdivN (a b:Nat):((a:Int)).tdiv (b:Int)=((a / b:Nat):Int):=(Int.ofNat_tdiv a b).symm
theorem tmodN (a b:Nat):((a:Int)).tmod (b:Int)=((a % b:Nat):Int):=(Int.ofNat_tmod a b).symm
theorem u8N {a:Nat} (h:a<256):wr .u8 (a:Int)=(a:Int):=by
 show IntKind.wrap .u8 _=_
 unfold IntKind.wrap
 simp only [IntKind.bits,IntKind.signed]
 simp
 omega
theorem and1 {a:Nat} (h:a<9223372036854775808):ib .and .i64 (a:Int) 1=((a % 2:Nat):Int):=by
 have h2:(BitVec.ofInt 64 (a:Int) &&& BitVec.ofInt 64 1).toNat=a % 2:=by
  rw [BitVec.toNat_and]
  simp only [BitVec.ofInt_natCast,BitVec.toNat_ofNat]
  rw [show (BitVec.ofInt 64 1).toNat=1 from rfl,Nat.mod_eq_of_lt (by omega),Nat.and_one_is_mod]
 show IntKind.wrap .i64 ((BitVec.ofInt 64 (a:Int) &&& BitVec.ofInt 64 1).toNat:Int)=_
 rw [h2,wr_eq]
 exact w64 (by omega) (by omega)
def Bt (l:List Int):Prop:=∀ x∈l,x=0∨x=1
theorem Bt.nil:Bt []:=by simp [Bt]
theorem Bt.app {a b:List Int} (h:Bt a) (k:Bt b):Bt (a++b):=by
 intro x hx
 rcases List.mem_append.1 hx with hx | hx
 ·exact h x hx
 ·exact k x hx
theorem Bt.one {v:Int} (h:v=0∨v=1):Bt [v]:=by intro x hx;obtain rfl:=List.mem_singleton.1 hx;exact h
theorem Bt.get {l:List Int} (h:Bt l) (i:Nat):l.getD i 0=0∨l.getD i 0=1:=by
 by_cases hi:i<l.length
 ·exact h _ (getD_mem hi)
 ·left;simp [List.getD_eq_getElem?_getD,List.getElem?_eq_none (by omega:l.length≤i)]
def byt (l:List Int) (j:Nat):Int:=128*l.getD (8*j) 0+64*l.getD (8*j+1) 0+32*l.getD (8*j+2) 0+16*l.getD (8*j+3) 0+8*l.getD (8*j+4) 0+4*l.getD (8*j+5) 0+2*l.getD (8*j+6) 0+l.getD (8*j+7) 0
def byts (l:List Int):List Int:=(List.range ((l.length+7) / 8)).map (byt l)
theorem byts_len (l:List Int):(byts l).length=(l.length+7) / 8:=by simp [byts]
theorem byt_rng {l:List Int} (h:Bt l) (j:Nat):0≤byt l j∧byt l j≤255:=by
 unfold byt
 rcases h.get (8*j) with h0 | h0 <;> rcases h.get (8*j+1) with h1 | h1 <;> rcases h.get (8*j+2) with h2 | h2 <;> rcases h.get (8*j+3) with h3 | h3 <;>
 rw [h0,h1,h2,h3] <;>
 rcases h.get (8*j+4) with h4 | h4 <;> rcases h.get (8*j+5) with h5 | h5 <;> rcases h.get (8*j+6) with h6 | h6 <;> rcases h.get (8*j+7) with h7 | h7 <;> rw [h4,h5,h6,h7] <;> decide
end Go.XL
end
end
section
section
namespace Go.XL
open Go.XM
def nb (v:Nat):Nat→List Int
 | 0=>[]
 | w+1=>((v / 2 ^ w % 2:Nat):Int)::nb v w
theorem nb_len (v:Nat):∀ w,(nb v w).length=w
 | 0=>rfl
 | w+1=>by simp [nb,nb_len v w]
theorem mod2 (n:Nat):((n % 2:Nat):Int)=0∨((n % 2:Nat):Int)=1:=by omega
theorem nb_Bt (v:Nat):∀ w,Bt (nb v w)
 | 0=>Bt.nil
 | w+1=>by
  intro x hx
  rcases List.mem_cons.1 hx with rfl | hx
  ·exact mod2 _
  ·exact nb_Bt v w x hx
theorem nb_zero:∀ w,nb 0 w=List.replicate w 0
 | 0=>rfl
 | w+1=>by simp [nb,nb_zero w,List.replicate_succ]
def pack (l:List Int):Cu:=(bytesOf (byts l),(l.length:Int))
theorem shrN {v w:Nat} (hv:v<9223372036854775808):((v:Int)).fdiv (2 ^ min ((w:Int)).toNat 64)=((v / 2 ^ w:Nat):Int):=by
 have e:((2:Int) ^ min ((w:Int)).toNat 64)=((2 ^ min w 64:Nat):Int):=by push_cast;rfl
 rw [e,fdivN]
 by_cases h:w≤64
 ·rw [Nat.min_eq_left h]
 ·rw [Nat.min_eq_right (by omega)]
  have h1:2 ^ 64≤2 ^ w:=Nat.pow_le_pow_right (by omega) (by omega)
  rw [Nat.div_eq_of_lt (by omega),Nat.div_eq_of_lt (by omega)]
theorem bytesOf_size (ns:List Int):(bytesOf ns).size=ns.length:=by
 have key:∀ (ns:List Int) (s:ByteArray),(ns.foldl (fun s n=>s.push (UInt8.ofNat n.toNat)) s).size=s.size+ns.length:=by
  intro ns
  induction ns with
  | nil=>intro s;rfl
  | cons n ns ih=>intro s;rw [List.foldl_cons,ih];simp [ByteArray.size_push];omega
 have:=key ns .empty
 simpa [bytesOf] using this
theorem bytesOf_data (ns:List Int):(bytesOf ns).data.toList=ns.map fun n=>UInt8.ofNat n.toNat:=by
 have key:∀ (ns:List Int) (s:ByteArray),(ns.foldl (fun s n=>s.push (UInt8.ofNat n.toNat)) s).data.toList=s.data.toList++ns.map fun n=>UInt8.ofNat n.toNat:=by
  intro ns
  induction ns with
  | nil=>intro s;simp
  | cons n ns ih=>intro s;rw [List.foldl_cons,ih];simp [ByteArray.push]
 have:=key ns .empty
 simpa [bytesOf] using this
theorem bt_pack {l:List Int} (h:Bt l) {j:Nat} (hj:j<(l.length+7) / 8):bt (bytesOf (byts l)) (j:Int)=byt l j:=by
 obtain ⟨r1,r2⟩:=byt_rng h j
 unfold bt
 rw [bytesOf_data,Int.toNat_natCast,List.getD_eq_getElem?_getD,List.getElem?_map]
 have:(byts l)[j]?=some (byt l j):=by simp [byts,hj]
 rw [this]
 simp
 omega
theorem byt_bit {l:List Int} (h:Bt l) (j t:Nat) (ht:t<8):∃ a:Nat,byt l j=(a:Int)∧a<256∧((a / 2 ^ (7-t) % 2:Nat):Int)=l.getD (8*j+t) 0:=by
 obtain ⟨r1,r2⟩:=byt_rng h j
 obtain ⟨a,ha⟩:=Int.eq_ofNat_of_zero_le r1
 have b0:=h.get (8*j)
 have b1:=h.get (8*j+1)
 have b2:=h.get (8*j+2)
 have b3:=h.get (8*j+3)
 have b4:=h.get (8*j+4)
 have b5:=h.get (8*j+5)
 have b6:=h.get (8*j+6)
 have b7:=h.get (8*j+7)
 refine ⟨a,ha,by omega,?_⟩
 unfold byt at ha
 have:t=0∨t=1∨t=2∨t=3∨t=4∨t=5∨t=6∨t=7:=by omega
 rcases this with rfl | rfl | rfl | rfl | rfl | rfl | rfl | rfl
 ·show ((a / 128 % 2:Nat):Int)=l.getD (8*j) 0;omega
 ·show ((a / 64 % 2:Nat):Int)=l.getD (8*j+1) 0;omega
 ·show ((a / 32 % 2:Nat):Int)=l.getD (8*j+2) 0;omega
 ·show ((a / 16 % 2:Nat):Int)=l.getD (8*j+3) 0;omega
 ·show ((a / 8 % 2:Nat):Int)=l.getD (8*j+4) 0;omega
 ·show ((a / 4 % 2:Nat):Int)=l.getD (8*j+5) 0;omega
 ·show ((a / 2 % 2:Nat):Int)=l.getD (8*j+6) 0;omega
 ·show ((a / 1 % 2:Nat):Int)=l.getD (8*j+7) 0;omega
theorem bit_eq {l:List Int} (h:Bt l) {K i:Nat} (hi:i<l.length) (hb:l.length≤1099511627776):Hd K (pack l) (i:Int)=some (l.getD i 0):=by
 obtain ⟨a,a1,a2,a3⟩:=byt_bit h (i / 8) (i % 8) (by omega)
 have f1:wr .i64 ((i:Int).tdiv 8)=((i / 8:Nat):Int):=by rw [show (8:Int)=((8:Nat):Int) from rfl,tdivN];exact w64 (by omega) (by omega)
 have f2:wr .i64 (7-((i:Int).tmod 8))=((7-i % 8:Nat):Int):=by rw [show (8:Int)=((8:Nat):Int) from rfl,tmodN,w64 (by omega) (by omega)];omega
 have f3:(a:Int).fdiv (2 ^ min (((7-i % 8:Nat):Int)).toNat 8)=((a / 2 ^ (7-i % 8):Nat):Int):=by
  have e:((2:Int) ^ min (((7-i % 8:Nat):Int)).toNat 8)=((2 ^ (7-i % 8):Nat):Int):=by rw [Int.toNat_natCast,Nat.min_eq_left (by omega)];push_cast;rfl
  rw [e,fdivN]
 have hle:a / 2 ^ (7-i % 8)≤a:=Nat.div_le_self _ _
 obtain ⟨q,hq⟩:∃ q,q=a / 2 ^ (7-i % 8):=⟨_,rfl⟩
 rw [← hq] at f3 hle a3
 clear hq
 unfold Hd
 have hd:(pack l).Data=bytesOf (byts l):=rfl
 rw [hd,f1,f2,bt_pack h (by omega),a1,f3,w64 (i:=(q:Int)) (by omega) (by omega),and1 (by omega),a3,show 8*(i / 8)+i % 8=i by omega]
 rw [if_pos (by decide),if_pos ⟨by omega,by rw [bytesOf_size,byts_len];omega⟩,if_pos (by decide),if_pos (by omega)]
def ahead:List Int→Option Nat
 | []=>none
 | x::l=>if x=1 then some 0 else (ahead l).map (·+1)
theorem ahead_ev {l:List Int} (h:Bt l) (hb:l.length≤1099511627776) {at_:Nat}:∀ i,i≤l.length→at_≤i→E1 (fun K k=>F8.l1 K (pack l) (at_:Int) k (i:Int)) (match ahead (l.drop i) with | some n=>((i-at_+n:Nat):Int) | none=>-1):=by
 refine upto ?_ ?_
 ·intro _
  refine step1 (fun _ _ _ _ _=>F8.l1.eq_2 ..) ?_
  refine negD (show ¬ ((l.length:Int)<(l.length:Int)) by omega) (nowE ?_)
  rw [List.drop_length];rfl
 ·intro i hi ih hat
  refine step1 (fun _ _ _ _ _=>F8.l1.eq_2 ..) ?_
  refine posD (show ((i:Int)<(l.length:Int)) by omega) ?_
  rw [show (fun (K k:Nat) (_ _ _:Nat)=>(Hd K (pack l) (i:Int)).bind fun r15=>if (r15 == 1)=true then some (wr .i64 ((i:Int)-(at_:Int))) else F8.l1 K (pack l) (at_:Int) k (wr .i64 ((i:Int)+1)))=fun (K k:Nat) (_ _ _:Nat)=>if (l.getD i 0 == 1)=true then some (wr .i64 ((i:Int)-(at_:Int))) else F8.l1 K (pack l) (at_:Int) k (wr .i64 ((i:Int)+1)) from by
   funext K k _ _ _
   rw [bit_eq h hi hb];rfl]
  rw [drop_getD (d:=0) hi]
  by_cases e:l.getD i 0=1
  ·refine posE e (nowE ?_)
   rw [w64 (by omega) (by omega)]
   simp only [ahead,if_pos e]
   omega
  ·refine negE e ?_
   rw [w1 (by omega)]
   refine ofEq (ih (by omega)) ?_
   simp only [ahead,if_neg e]
   cases ahead (l.drop (i+1)) with
   | none=>rfl
   | some n=>simp only [Option.map_some];omega
theorem Ahead_ev {l:List Int} (h:Bt l) (hb:l.length≤1099511627776) {i:Nat} (hi:i≤l.length):E0 (fun K=>F8 K (pack l) (i:Int)) (match ahead (l.drop i) with | some n=>(n:Int) | none=>-1):=by
 refine ofEq (ahead_ev h hb i hi (Nat.le_refl _)).e1 ?_
 cases ahead (l.drop i) with
 | none=>rfl
 | some n=>simp only;omega
end Go.XL
end
end
section
section
namespace Go.XL
open Go.XM
def val (l:List Int):Int:=l.foldl (fun v b=>2*v+b) 0
theorem val_snoc (l:List Int) (b:Int):val (l++[b])=2*val l+b:=by simp [val]
theorem val_rng {l:List Int} (h:Bt l):0≤val l∧val l<2 ^ l.length:=by
 have key:∀ (l:List Int) (v:Int),0≤v→Bt l→0≤l.foldl (fun v b=>2*v+b) v∧l.foldl (fun v b=>2*v+b) v<(v+1)*2 ^ l.length:=by
  intro l
  induction l with
  | nil=>intro v hv _;simp;omega
  | cons x l ih =>
   intro v hv h
   have hx:=h x List.mem_cons_self
   obtain ⟨a1,a2⟩:=ih (2*v+x) (by omega) (fun y hy=>h y (List.mem_cons_of_mem _ hy))
   refine ⟨a1,Int.lt_of_lt_of_le a2 ?_⟩
   rw [List.length_cons,Int.pow_succ,← Int.mul_assoc,Int.mul_right_comm]
   exact Int.mul_le_mul_of_nonneg_right (by omega) (by have:(0:Int)<2 ^ l.length:=Int.pow_pos (by decide);omega)
 have:=key l 0 (by omega) h
 simpa [val] using this
theorem or64 {a b:Nat} (hb:b<2) (ha:a % 2=0) (h:a+b<9223372036854775808):ib .or .i64 (a:Int) (b:Int)=((a+b:Nat):Int):=by
 have h1:a ||| b=a+b:=by
  have:=Nat.two_pow_add_eq_or_of_lt (i:=1) (by simpa using hb) (a / 2)
  simp only [Nat.pow_one] at this
  rw [Nat.mul_div_cancel' (Nat.dvd_of_mod_eq_zero ha)] at this
  omega
 have h2:(BitVec.ofInt 64 (a:Int) ||| BitVec.ofInt 64 (b:Int)).toNat=a+b:=by
  rw [BitVec.toNat_or]
  simp only [BitVec.ofInt_natCast,BitVec.toNat_ofNat]
  rw [Nat.mod_eq_of_lt (by omega),Nat.mod_eq_of_lt (by omega),h1]
 show IntKind.wrap .i64 ((BitVec.ofInt 64 (a:Int) ||| BitVec.ofInt 64 (b:Int)).toNat:Int)=_
 rw [h2,wr_eq]
 exact w64 (by omega) (by omega)
theorem or1 {v b:Int} (h0:0≤v) (h1:v<4611686018427387904) (hb:b=0∨b=1):ib .or .i64 (wr .i64 (v*2 ^ min ((1:Int)).toNat 64)) b=2*v+b:=by
 have e:v*2 ^ min ((1:Int)).toNat 64=2*v:=by show v*2 ^ 1=_;omega
 rw [e,w64 (by omega) (by omega)]
 obtain ⟨n,rfl⟩:=Int.eq_ofNat_of_zero_le h0
 have:=or64 (a:=2*n) (b:=b.toNat) (by omega) (by omega) (by omega)
 rcases hb with rfl | rfl
 ·simpa using this
 ·simpa using this
theorem look_ev {l:List Int} (h:Bt l) (hb:l.length≤1099511627776) {at_ w:Nat} (hw:at_+w≤l.length) (hw2:w≤60):∀ i,i≤w→E1 (fun K k=>Gb.l1 K (pack l) (at_:Int) (w:Int) k (val ((l.drop at_).take i)) (i:Int)) (val ((l.drop at_).take w),true):=by
 refine upto ?_ ?_
 ·refine step1 (fun _ _ _ _ _=>Gb.l1.eq_2 ..) ?_
  exact negD (by omega) (now _)
 ·intro i hi ih
  have hB:Bt ((l.drop at_).take i):=fun x hx=>h x (List.mem_of_mem_drop (List.mem_of_mem_take hx))
  obtain ⟨v0,v1⟩:=val_rng hB
  have hlen:((l.drop at_).take i).length=i:=by simp;omega
  rw [hlen] at v1
  have hp:(2:Int) ^ i≤2 ^ 60:=by
   have:2 ^ i≤2 ^ 60:=Nat.pow_le_pow_right (by omega) (by omega)
   exact_mod_cast this
  have hp2:(2:Int) ^ 60=1152921504606846976:=by decide
  refine step1 (fun _ _ _ _ _=>Gb.l1.eq_2 ..) ?_
  refine posD (by omega) (pos (by decide) ?_)
  have e1:wr .i64 ((at_:Int)+(i:Int))=((at_+i:Nat):Int):=by rw [w64 (by omega) (by omega)];omega
  refine congr (fun K k _ _ _=>?_) ih
  show (Hd K (pack l) (wr .i64 ((at_:Int)+(i:Int)))).bind _=_
  rw [e1,bit_eq h (by omega) hb]
  show Gb.l1 K (pack l) (at_:Int) (w:Int) k _ _=_
  rw [or1 v0 (by omega) (h.get _),w1 (by omega)]
  have:(l.drop at_).take (i+1)=(l.drop at_).take i++[l.getD (at_+i) 0]:=by
   rw [take_getD (d:=0) (by simp;omega),show (l.drop at_).getD i 0=l.getD (at_+i) 0 by simp [List.getD_eq_getElem?_getD]]
  rw [this,val_snoc]
theorem Look_ev {l:List Int} (h:Bt l) (hb:l.length≤1099511627776) {at_ w:Nat} (hat:at_≤l.length) (hw2:w≤60):E0 (fun K=>Gb K (pack l) (at_:Int) (w:Int)) (if at_+w≤l.length then (val ((l.drop at_).take w),true) else (0,false)):=by
 have hs:wr .i64 ((pack l).N-(at_:Int))=((l.length-at_:Nat):Int):=by show wr .i64 ((l.length:Int)-(at_:Int))=_;rw [w64 (by omega) (by omega)];omega
 refine congr (f:=fun K _ _ _ _=>if decide ((at_:Int) > (l.length:Int))=true then some (0,false) else if decide ((w:Int) > ((l.length-at_:Nat):Int))=true then some (0,false) else Gb.l1 K (pack l) (at_:Int) (w:Int) K (0:Int) (0:Int)) (fun K _ _ _ _=>by unfold Gb;rw [hs];rfl) ?_
 refine negD (by omega) ?_
 by_cases e:at_+w≤l.length
 ·rw [if_pos e]
  refine negD (by omega) ?_
  exact (look_ev h hb e hw2 0 (by omega)).e1
 ·rw [if_neg e]
  exact posD (by omega) (now _)
def rg (l:List Int) (at_:Nat):Option (Int × Nat):=match ahead (l.drop at_) with
 | none=>none
 | some n=>if n≤30∧at_+n+(n+1)≤l.length∧val ((l.drop (at_+n)).take (n+1))≤1073741824 then some (val ((l.drop (at_+n)).take (n+1)),at_+n+(n+1)) else none
theorem ahead_lt:∀ {l:List Int} {n:Nat},ahead l=some n→n<l.length
 | [],n,h=>by cases h
 | x::l,n,h=>by
  simp only [ahead] at h
  split at h
  ·cases h;simp
  ·rw [Option.map_eq_some_iff] at h
   obtain ⟨m,hm,rfl⟩:=h
   have:=ahead_lt hm
   simp;omega
theorem look_r {l:List Int} (h:Bt l) (hb:l.length≤1099511627776) {at_ w:Nat} (hat:at_≤l.length) (hw2:w≤60):E0 (fun K=>Fq K ((pack l,(at_:Int),false):Cg) (w:Int))
  (if at_+w≤l.length then (val ((l.drop at_).take w),((pack l,((at_+w:Nat):Int),false):Cg)) else (0,((pack l,(at_:Int),true):Cg))):=by
 refine bnd (Look_ev h hb hat hw2) ?_
 refine negB rfl ?_
 by_cases e:at_+w≤l.length
 ·rw [if_pos e,if_pos e]
  refine negB rfl (nowE ?_)
  show (_,(pack l,wr .i64 ((at_:Int)+(w:Int)),false))=_
  rw [w64 (by omega) (by omega)]
  rfl
 ·rw [if_neg e,if_neg e]
  exact pos rfl (now _)
theorem look_bad {l:List Int} (h:Bt l) (hb:l.length≤1099511627776) {at_ w:Nat} (hat:at_≤l.length) (hw2:w≤60):E0 (fun K=>Fq K ((pack l,(at_:Int),true):Cg) (w:Int)) (0,((pack l,(at_:Int),true):Cg)) :=
 bnd (Look_ev h hb hat hw2) (pos rfl (now _))
theorem zeros_r {l:List Int} (h:Bt l) (hb:l.length≤1099511627776) {at_:Nat} (hat:at_≤l.length):E0 (fun K=>Gn K ((pack l,(at_:Int),false):Cg) 30)
  (match ahead (l.drop at_) with
  | none=>(0,((pack l,(at_:Int),true):Cg))
  | some n=>if n≤30 then ((n:Int),((pack l,((at_+n:Nat):Int),false):Cg)) else (0,((pack l,(at_:Int),true):Cg))):=by
 have hz:=Ahead_ev h hb hat
 cases hah:ahead (l.drop at_) with
 | none =>
  rw [hah] at hz
  exact bnd hz (negB rfl (posD (by decide) (now _)))
 | some n =>
  rw [hah] at hz
  have hn:=ahead_lt hah
  rw [List.length_drop] at hn
  by_cases h30:n≤30
  ·simp only [if_pos h30]
   refine bnd hz (negB rfl (negD (by simp) (negD (by simp;omega) (nowE ?_))))
   show (_,(pack l,wr .i64 ((at_:Int)+(n:Int)),false))=_
   rw [w64 (by omega) (by omega)]
   rfl
  ·simp only [if_neg h30]
   exact bnd hz (negB rfl (negD (by simp) (posD (by simp;omega) (now _))))
theorem gamma_r {l:List Int} (h:Bt l) (hb:l.length≤1099511627776) {at_:Nat} (hat:at_≤l.length):∃ a:Int,E0 (fun K=>Gg K ((pack l,(at_:Int),false):Cg))
  (match ahead (l.drop at_) with
  | none=>(0,((pack l,a,true):Cg))
  | some n=>if n≤30∧at_+n+(n+1)≤l.length then (val ((l.drop (at_+n)).take (n+1)),((pack l,((at_+n+(n+1):Nat):Int),false):Cg)) else (0,((pack l,a,true):Cg))):=by
 have hz:=zeros_r h hb hat
 have e1:wr .i64 ((0:Int)+1)=((1:Nat):Int):=w64 (by decide) (by decide)
 cases hah:ahead (l.drop at_) with
 | none =>
  rw [hah] at hz
  refine ⟨at_,bnd hz ?_⟩
  simp only [e1]
  exact bnd (look_bad h hb hat (by omega)) (now _)
 | some n =>
  rw [hah] at hz
  have hn:=ahead_lt hah
  rw [List.length_drop] at hn
  by_cases h30:n≤30
  ·simp only [if_pos h30] at hz
   refine ⟨((at_+n:Nat):Int),bnd hz ?_⟩
   simp only
   rw [w1 (by omega)]
   have hl:=look_r h hb (at_:=at_+n) (by omega) (w:=n+1) (by omega)
   by_cases e:at_+n+(n+1)≤l.length
   ·rw [if_pos e] at hl
    rw [if_pos ⟨h30,e⟩]
    exact bnd hl (now _)
   ·rw [if_neg e] at hl
    rw [if_neg (fun k=>e k.2)]
    exact bnd hl (now _)
  ·simp only [if_neg h30] at hz
   refine ⟨at_,bnd hz ?_⟩
   simp only [e1]
   rw [if_neg (fun k=>h30 k.1)]
   exact bnd (look_bad h hb hat (by omega)) (now _)
theorem Read_ev {l:List Int} (h:Bt l) (hb:l.length≤1099511627776) {at_:Nat} (hat:at_≤l.length):E0 (fun K=>Fj K (pack l) (at_:Int) 2)
  (match rg l at_ with
  | some (v,n)=>(v,(n:Int),true)
  | none=>(0,0,false)):=by
 obtain ⟨a,hg⟩:=gamma_r h hb hat
 refine congr (f:=fun K _ _ _ _=>(Gg K ((pack l,(at_:Int),false):Cg)).bind fun r27=>Fj.j1 K r27.1 r27.2.b.Data r27.2.b.N r27.2.at_ r27.2.bad) (fun K _ _ _ _=>rfl) ?_
 refine bnd hg ?_
 unfold rg
 have hj:∀ (K:Nat) (n:Int) (d:ByteArray) (m a:Int) (bad:Bool),Fj.j1 K n d m a bad=some (if bad=false∧n≤1073741824 then (n,a,true) else (0,0,false)):=by
  intro K n d m a bad
  unfold Fj.j1
  cases bad with
  | true=>rfl
  | false =>
   by_cases e:n > 1073741824
   ·rw [if_neg (by decide),if_pos (decide_eq_true e),if_neg (fun k=>by omega)]
   ·rw [if_neg (by decide),if_neg (by simpa using e),if_pos ⟨rfl,by omega⟩]
 cases hah:ahead (l.drop at_) with
 | none=>refine nowE ?_ |> congr (fun K _ _ _ _=>hj ..);rfl
 | some n =>
  simp only
  by_cases e:n≤30∧at_+n+(n+1)≤l.length
  ·rw [if_pos e]
   refine congr (fun K _ _ _ _=>hj ..) (nowE ?_)
   by_cases e2:val ((l.drop (at_+n)).take (n+1))≤1073741824
   ·rw [if_pos ⟨rfl,e2⟩,if_pos ⟨e.1,e.2,e2⟩]
   ·rw [if_neg (fun k=>e2 k.2),if_neg (fun k=>e2 k.2.2)]
  ·rw [if_neg e,if_neg (fun k=>e ⟨k.1,k.2.1⟩)]
   refine congr (fun K _ _ _ _=>hj ..) (nowE rfl)
end Go.XL
end
end
section
section
namespace Go.XL
open Go.XM
theorem step0 {α:Type} {f g:Nat→Nat→Nat→Nat→Nat→Option α} {r:α} (e:∀ x y z u v,g (x+1) y z u v=f x y z u v) (h:Ev f r):Ev g r:=by
 obtain ⟨m,h⟩:=h
 refine ⟨m+1,fun x y z u v a b c d k=>?_⟩
 obtain ⟨x,rfl⟩:∃ n,x=n+1:=⟨x-1,by omega⟩
 rw [e];exact h x y z u v (by omega) (by omega) (by omega) (by omega) (by omega)
def gam (n:Nat):List Int:=nb 0 (Nat.log2 n)++nb n (Nat.log2 n+1)
theorem gam_Bt (n:Nat):Bt (gam n):=(nb_Bt _ _).app (nb_Bt _ _)
theorem gam_len (n:Nat):(gam n).length=2*Nat.log2 n+1:=by simp [gam,nb_len];omega
theorem lg8 {n:Nat} (h:n<256):Nat.log2 n≤7:=by
 by_cases h0:n=0
 ·subst h0;decide
 ·have:=(Nat.log2_lt h0 (k:=8)).2 (by simpa using h);omega
end Go.XL
end
end
section
section
namespace Go.XL
open Go.XM
theorem rlog_ev:∀ (n:Nat) (k:Nat),n<9223372036854775808→k+Nat.log2 n≤1000→E1 (fun K j=>Cf.l1 K j (n:Int) (k:Int)) (((k+Nat.log2 n:Nat):Int)):=by
 intro n
 induction n using Nat.strongRecOn with
 | _ n ih =>
  intro k hn hk
  by_cases h1:1<n
  ·have hlt:n / 2<n:=Nat.div_lt_self (by omega) (by omega)
   have hlog:Nat.log2 n=Nat.log2 (n / 2)+1:=by rw [Nat.log2_def,if_pos (by omega)]
   refine step1 (fun _ _ _ _ _=>Cf.l1.eq_2 ..) ?_
   refine posD (by omega) (pos (by decide) ?_)
   have e:(n:Int).fdiv (2 ^ min ((1:Int)).toNat 64)=((n / 2:Nat):Int):=by
    show (n:Int).fdiv ((2:Nat):Int)=_
    exact fdivN n 2
   rw [e,w1 (by omega)]
   refine ofEq (ih (n / 2) hlt (k+1) (by omega) (by omega)) ?_
   rw [hlog];congr 1;omega
  ·refine step1 (fun _ _ _ _ _=>Cf.l1.eq_2 ..) ?_
   refine negD (by omega) (nowE ?_)
   have:Nat.log2 n=0:=by
    have:n=0∨n=1:=by omega
    rcases this with rfl | rfl <;> decide
   rw [this];rfl
theorem lg62 {n:Nat} (h:n<4611686018427387904):Nat.log2 n≤61:=by
 by_cases h0:n=0
 ·subst h0;decide
 ·have:=(Nat.log2_lt h0 (k:=62)).2 (by simpa using h);omega
theorem Rlog_ev {n:Nat} (h:n<4611686018427387904):E0 (fun K=>Cf K (n:Int)) ((Nat.log2 n:Nat):Int):=by
 have:=lg62 h
 have e:=rlog_ev n 0 (by omega) (by omega)
 rw [Nat.zero_add] at e
 exact e.e1
theorem rput_ev {v:Nat} (hv:v<9223372036854775808):∀ (w:Nat) (l:List Int),l.length+w≤1099511627776→E1 (fun K k=>Bc.l1 K (v:Int) k ((w:Int)-1) l) (l++nb v w):=by
 intro w
 induction w with
 | zero =>
  intro l hb
  refine step1 (fun _ _ _ _ _=>Bc.l1.eq_2 ..) ?_
  exact negD (by omega) (nowE (by simp [nb]))
 | succ w ih =>
  intro l hb
  have hle:v / 2 ^ w≤v:=Nat.div_le_self _ _
  have f3:=shrN (v:=v) (w:=w) hv
  have f4:ib .and .i64 ((v / 2 ^ w:Nat):Int) 1=((v / 2 ^ w % 2:Nat):Int):=and1 (by omega)
  have f5:wr .u8 ((v / 2 ^ w % 2:Nat):Int)=((v / 2 ^ w % 2:Nat):Int):=u8N (by omega)
  have hi:=ih (l++[((v / 2 ^ w % 2:Nat):Int)]) (by simp;omega)
  rw [show ((w+1:Nat):Int)-1=(w:Int) by omega]
  refine step1 (fun _ _ _ _ _=>Bc.l1.eq_2 ..) ?_
  rw [f3,f4,f5]
  refine posD (by omega) (pos (by omega) (pos ?_ ?_))
  ·clear f3 f4 f5 hi hle;simp;omega
  ·rw [w64 (i:=(w:Int)-1) (by omega) (by omega)]
   refine ofEq hi ?_
   simp [nb]
theorem RPut_ev {v w:Nat} {l:List Int} (hv:v<9223372036854775808) (hb:l.length+w≤1099511627776):E0 (fun K=>Bc K l (v:Int) (w:Int)) (l++nb v w):=by
 refine congr (fun K _ _ _ _=>?_) (rput_ev hv w l hb).e1
 show Bc.l1 K _ K (wr .i64 ((w:Int)-1)) _=_
 rw [w64 (by omega) (by omega)]
theorem RWrite_ev {n:Nat} {l:List Int} (hn:n<4611686018427387904) (hb:l.length≤1099511000000):E0 (fun K=>Ae K l 2 (n:Int)) (l++gam n):=by
 have hl:=lg62 hn
 refine step0 (f:=fun K _ _ _ _=>(Cf K (n:Int)).bind fun r31=>(Bc K l 0 r31).bind fun r32=>(Cf K (n:Int)).bind fun r35=>(Bc K r32 (n:Int) (wr .i64 (r35+1))).bind fun r37=>some r37) (fun _ _ _ _ _=>rfl) ?_
 refine bnd (Rlog_ev hn) ?_
 refine bnd (a:=l++nb 0 (Nat.log2 n)) (RPut_ev (v:=0) (by omega) (by omega)) ?_
 refine bnd (Rlog_ev hn) ?_
 rw [w1 (by omega)]
 refine bnd (a:=l++gam n) ?_ (now _)
 refine ofEq (RPut_ev (v:=n) (w:=Nat.log2 n+1) (by omega) (by simp [nb_len];omega)) ?_
 simp [gam]
theorem rzeros_ev {l:List Int} (hb:l.length≤1099511627776) {at_:Nat}:∀ i,i≤l.length→at_≤i→E1 (fun K k=>Bi.l1 K l (at_:Int) k (i:Int)) (match ahead (l.drop i) with | some n=>((i-at_+n:Nat):Int) | none=>-1):=by
 refine upto ?_ ?_
 ·intro _
  refine step1 (fun _ _ _ _ _=>Bi.l1.eq_2 ..) ?_
  refine negD (by omega) (nowE ?_)
  rw [List.drop_length];rfl
 ·intro i hi ih hat
  refine step1 (fun _ _ _ _ _=>Bi.l1.eq_2 ..) ?_
  refine posD (by omega) (pos (by omega) ?_)
  rw [rdN,drop_getD (d:=0) hi]
  by_cases e:l.getD i 0=1
  ·refine posE e (nowE ?_)
   rw [w64 (by omega) (by omega)]
   simp only [ahead,if_pos e]
   omega
  ·refine negE e ?_
   rw [w1 (by omega)]
   refine ofEq (ih (by omega)) ?_
   simp only [ahead,if_neg e]
   cases ahead (l.drop (i+1)) with
   | none=>rfl
   | some n=>simp only [Option.map_some];omega
theorem rget_ev {l:List Int} (h:Bt l) (hb:l.length≤1099511627776) {at_ w:Nat} (hw:at_+w≤l.length) (hw2:w≤60):∀ i,i≤w→E1 (fun K k=>Bp.l1 K l (at_:Int) (w:Int) k (val ((l.drop at_).take i)) ((at_+i:Nat):Int)) (val ((l.drop at_).take w)):=by
 refine upto ?_ ?_
 ·refine step1 (fun _ _ _ _ _=>Bp.l1.eq_2 ..) ?_
  exact negD (by rw [w64 (by omega) (by omega)];omega) (now _)
 ·intro i hi ih
  have hB:Bt ((l.drop at_).take i):=fun x hx=>h x (List.mem_of_mem_drop (List.mem_of_mem_take hx))
  obtain ⟨v0,v1⟩:=val_rng hB
  have hlen:((l.drop at_).take i).length=i:=by simp;omega
  rw [hlen] at v1
  have hp:(2:Int) ^ i≤2 ^ 60:=by
   have:2 ^ i≤2 ^ 60:=Nat.pow_le_pow_right (by omega) (by omega)
   exact_mod_cast this
  have hp2:(2:Int) ^ 60=1152921504606846976:=by decide
  have hg:=h.get (at_+i)
  refine step1 (fun _ _ _ _ _=>Bp.l1.eq_2 ..) ?_
  refine posD (by rw [w64 (by omega) (by omega)];omega) (pos (by omega) ?_)
  rw [rdN,w64 (i:=l.getD (at_+i) 0) (by omega) (by omega),w64 (i:=2*val ((l.drop at_).take i)) (by omega) (by omega),w64 (i:=2*val ((l.drop at_).take i)+l.getD (at_+i) 0) (by omega) (by omega),w1 (by omega)]
  have:(l.drop at_).take (i+1)=(l.drop at_).take i++[l.getD (at_+i) 0]:=by
   rw [take_getD (d:=0) (by simp;omega)]
   congr 2
   simp [List.getD_eq_getElem?_getD]
  rw [← val_snoc,← this]
  exact ih
theorem RGet_ev {l:List Int} (h:Bt l) (hb:l.length≤1099511627776) {at_ w:Nat} (hw:at_+w≤l.length) (hw2:w≤60):E0 (fun K=>Bp K l (at_:Int) (w:Int)) (val ((l.drop at_).take w)):=(rget_ev h hb hw hw2 0 (by omega)).e1
theorem val_pos {l:List Int} (h:Bt l) {b:Int}:0≤b→b≤l.foldl (fun v b=>2*v+b) b:=by
 induction l generalizing b with
 | nil=>intro _;exact Int.le_refl _
 | cons x l ih =>
  intro hb
  have hx:=h x List.mem_cons_self
  have:=ih (fun y hy=>h y (List.mem_cons_of_mem _ hy)) (b:=2*b+x) (by omega)
  rw [List.foldl_cons]
  omega
theorem ahead_one:∀ {l:List Int} {n:Nat},ahead l=some n→l.getD n 0=1
 | [],n,h=>by cases h
 | x::l,n,h=>by
  simp only [ahead] at h
  split at h
  ·cases h;simpa
  ·rw [Option.map_eq_some_iff] at h
   obtain ⟨m,hm,rfl⟩:=h
   simpa using ahead_one hm
theorem val_ge {l:List Int} (h:Bt l) {at_ n w:Nat} (hah:ahead (l.drop at_)=some n) (hw:0<w):1≤val ((l.drop (at_+n)).take w):=by
 have hn:=ahead_lt hah
 have h1:=ahead_one hah
 rw [List.length_drop] at hn
 have e:(l.drop at_).getD n 0=l.getD (at_+n) 0:=by simp [List.getD_eq_getElem?_getD]
 rw [e] at h1
 rw [drop_getD (d:=0) (by omega:at_+n<l.length),h1]
 obtain ⟨w,rfl⟩:∃ k,w=k+1:=⟨w-1,by omega⟩
 rw [List.take_succ_cons]
 show 1≤(List.take w (l.drop (at_+n+1))).foldl (fun v b=>2*v+b) (2*0+1)
 exact val_pos (fun x hx=>h x (List.mem_of_mem_drop (List.mem_of_mem_take hx))) (by omega)
theorem RRead_ev {l:List Int} (h:Bt l) (hb:l.length≤1099511627776) {at_:Nat} (hat:at_≤l.length):E0 (fun K=>Aa K l (at_:Int) 2)
  (match rg l at_ with
  | some (v,n)=>(v,(n:Int))
  | none=>(-1,0)):=by
 have hz:=(rzeros_ev hb at_ hat (Nat.le_refl _)).e1
 refine step0 (f:=fun K _ _ _ _=>(Bi K l (at_:Int)).bind fun r19=>if decide (r19<0)=true then some ((-1),0) else if decide (r19 > 30)=true then some ((-1),0) else if decide ((wr .i64 ((wr .i64 ((at_:Int)+(wr .i64 (2*r19))))+1)) > ((l.length:Nat):Int))=true then some ((-1),0) else (Bp K l (wr .i64 ((at_:Int)+r19)) (wr .i64 (r19+1))).bind fun r117=>Aa.j1 K (Aa K) 2 r117 (wr .i64 ((wr .i64 ((at_:Int)+(wr .i64 (2*r19))))+1))) (fun _ _ _ _ _=>rfl) ?_
 unfold rg
 cases hah:ahead (l.drop at_) with
 | none =>
  rw [hah] at hz
  exact bnd hz (posD (show (-1:Int)<0 by decide) (now _))
 | some n =>
  rw [hah] at hz
  have hn:=ahead_lt hah
  rw [List.length_drop] at hn
  have hz:E0 (fun K=>Bi K l (at_:Int)) (n:Int):=ofEq hz (by simp only;omega)
  refine bnd hz (negD (by omega) ?_)
  by_cases h30:n≤30
  ·refine negD (by omega) ?_
   have e1:wr .i64 ((wr .i64 ((at_:Int)+(wr .i64 (2*(n:Int)))))+1)=((at_+n+(n+1):Nat):Int):=by
    rw [w64 (i:=2*(n:Int)) (by omega) (by omega),w64 (i:=(at_:Int)+2*(n:Int)) (by omega) (by omega),w64 (by omega) (by omega)];omega
   rw [e1]
   by_cases e:at_+n+(n+1)≤l.length
   ·refine negD (by omega) ?_
    have e2:wr .i64 ((at_:Int)+(n:Int))=((at_+n:Nat):Int):=by rw [w64 (by omega) (by omega)];omega
    rw [e2,w1 (by omega)]
    refine bnd (RGet_ev h hb e (by omega)) ?_
    have hv:=val_ge h hah (w:=n+1) (by omega)
    have hc:∀ (K:Nat) (v:Int),E8 K 2 v=some (decide (1≤v∧v≤1073741824)):=by
     intro K v
     unfold E8 Bo
     by_cases h1:1≤v
     ·simp [h1]
     ·simp [h1]
    simp only
    by_cases e3:val ((l.drop (at_+n)).take (n+1))≤1073741824
    ·rw [if_pos ⟨h30,e,e3⟩]
     refine congr (fun K _ _ _ _=>?_) (now _)
     unfold Aa.j1
     rw [hc,decide_eq_true ⟨hv,e3⟩];rfl
    ·rw [if_neg (fun k=>e3 k.2.2)]
     refine congr (fun K _ _ _ _=>?_) (now _)
     unfold Aa.j1
     rw [hc,decide_eq_false (fun k=>e3 k.2)];rfl
   ·simp only
    rw [if_neg (fun k=>e k.2.1)]
    exact posD (by omega) (now _)
  ·simp only
   rw [if_neg (fun k=>h30 k.1)]
   exact posD (by omega) (now _)
end Go.XL
end
end
section
section
namespace Go.XL
open Go.XM
theorem val_cons (x:Int) (l:List Int):val (x::l)=x*2 ^ l.length+val l:=by
 have key:∀ (l:List Int) (v:Int),l.foldl (fun v b=>2*v+b) v=v*2 ^ l.length+l.foldl (fun v b=>2*v+b) 0:=by
  intro l
  induction l with
  | nil=>intro v;simp
  | cons y l ih =>
   intro v
   rw [List.foldl_cons,List.foldl_cons,ih (2*v+y),ih (2*0+y),List.length_cons,Int.pow_succ]
   have:(2*v+y)*2 ^ l.length=v*(2 ^ l.length*2)+(2*0+y)*2 ^ l.length:=by
    rw [Int.add_mul,Int.mul_comm 2 v,Int.mul_assoc,Int.mul_comm 2 (2 ^ l.length)];simp
   rw [this,Int.add_assoc]
 show (x::l).foldl _ 0=_
 rw [List.foldl_cons,key]
 simp [val]
theorem val_nb (n:Nat):∀ w,val (nb n w)=((n % 2 ^ w:Nat):Int)
 | 0=>by simp [nb,val,Nat.mod_one]
 | w+1=>by
  rw [nb,val_cons,nb_len,val_nb n w,Nat.mod_pow_succ]
  push_cast
  rw [Int.mul_comm,Int.add_comm]
theorem gam_eq {n:Nat} (h:0<n):gam n=List.replicate (Nat.log2 n) 0++1::nb n (Nat.log2 n):=by
 have h1:2 ^ Nat.log2 n≤n:=Nat.log2_self_le (by omega)
 have h2:n<2 ^ (Nat.log2 n+1):=Nat.lt_log2_self
 have h3:n / 2 ^ Nat.log2 n=1:=by
  rw [Nat.pow_succ] at h2
  exact Nat.div_eq_of_lt_le (by omega) (by omega)
 rw [gam,nb_zero]
 simp only [nb,h3]
 rfl
theorem ahead_rep (r:List Int):∀ k,ahead (List.replicate k 0++1::r)=some k
 | 0=>rfl
 | k+1=>by
  rw [List.replicate_succ,List.cons_append,ahead,if_neg (by decide),ahead_rep r k];rfl
theorem rg_gam {n:Nat} (h:0<n) (hn:n≤1073741824) (a b:List Int):rg (a++gam n++b) a.length=some ((n:Int),(a++gam n).length):=by
 have hl:Nat.log2 n≤30:=by
  have:=(Nat.log2_lt (by omega:n≠0) (k:=31)).2 (by omega);omega
 have h2:n<2 ^ (Nat.log2 n+1):=Nat.lt_log2_self
 have hlen:=gam_len n
 unfold rg
 rw [List.append_assoc,List.drop_left,gam_eq h,List.append_assoc,List.cons_append,ahead_rep]
 have e:(a++(List.replicate (Nat.log2 n) 0++1::(nb n (Nat.log2 n)++b))).drop (a.length+Nat.log2 n)=1::(nb n (Nat.log2 n)++b):=by
  have h1:(a++List.replicate (Nat.log2 n) (0:Int)).length=a.length+Nat.log2 n:=by simp
  rw [← List.append_assoc,← h1,List.drop_left]
 have et:(1::(nb n (Nat.log2 n)++b)).take (Nat.log2 n+1)=1::nb n (Nat.log2 n):=by
  rw [List.take_succ_cons]
  have:(nb n (Nat.log2 n)).length=Nat.log2 n:=nb_len _ _
  rw [List.take_append_of_le_length (by omega),List.take_of_length_le (by omega)]
 have ev:val (1::nb n (Nat.log2 n))=(n:Int):=by
  have h1:2 ^ Nat.log2 n≤n:=Nat.log2_self_le (by omega)
  rw [val_cons,nb_len,val_nb,Nat.mod_eq_sub_mod h1,Nat.mod_eq_of_lt (by rw [Nat.pow_succ] at h2;omega)]
  have:(1:Int)*2 ^ Nat.log2 n=((2 ^ Nat.log2 n:Nat):Int):=by simp
  rw [this];omega
 simp only
 rw [e,et,ev,if_pos ⟨hl,by simp [nb_len];omega,by omega⟩]
 congr 2
 simp [nb_len];omega
theorem reads {n:Nat} (h:0<n) (hn:n≤1073741824) {a b:List Int} (ha:Bt a) (hb:Bt b) (hl:(a++gam n++b).length≤1099511627776):E0 (fun K=>Fj K (pack (a++gam n++b)) (a.length:Int) 2) ((n:Int),((a++gam n).length:Int),true):=by
 have:=Read_ev (l:=a++gam n++b) ((ha.app (gam_Bt n)).app hb) hl (at_:=a.length) (by simp)
 rw [rg_gam h hn a b] at this
 exact this
def gams (l:List Nat):List Int:=l.flatMap gam
theorem gams_cons (n:Nat) (l:List Nat):gams (n::l)=gam n++gams l:=by simp [gams]
theorem gams_app (l m:List Nat):gams (l++m)=gams l++gams m:=by simp [gams]
theorem gams_Bt (l:List Nat):Bt (gams l):=by
 intro x hx
 simp only [gams,List.mem_flatMap] at hx
 obtain ⟨n,_,hx⟩:=hx
 exact gam_Bt n x hx
theorem gams_len:∀ (l:List Nat),(∀ n∈l,n<256)→(gams l).length≤15*l.length
 | [],_=>by simp [gams]
 | n::l,h=>by
  have h1:=gams_len l (fun m hm=>h m (List.mem_cons_of_mem _ hm))
  have h2:=lg8 (h n List.mem_cons_self)
  rw [gams_cons,List.length_append,gam_len,List.length_cons]
  omega
def fold (z:Int):Nat:=if z<0 then (-2*z-1).toNat else (2*z).toNat
def unf (n:Int):Int:=if n % 2=1 then -((n+1) / 2) else n / 2
theorem unf_fold (z:Int):unf (fold z:Int)=z:=by unfold unf fold;split <;> split <;> omega
theorem unfold_eq {K:Nat} {n:Nat} (h:n≤1073741824):Gt K (n:Int)=some (unf n):=by
 unfold Gt unf
 have em:((n:Int).tmod 2)=((n % 2:Nat):Int):=(Int.ofNat_tmod n 2).symm
 have ed:((n:Int).tdiv 2)=((n / 2:Nat):Int):=(Int.ofNat_tdiv n 2).symm
 rw [em,ed,if_pos (by decide)]
 by_cases c:n % 2=1
 ·rw [if_pos (by simp [c]),if_pos (by decide),if_pos (by omega),w64 (i:=(n:Int)+1) (by omega) (by omega),w64 (i:=0-((n:Int)+1)) (by omega) (by omega)]
  have:(0-((n:Int)+1)).tdiv 2=-(((n:Int)+1) / 2):=by
   rw [Int.zero_sub,Int.neg_tdiv]
   congr 1
  rw [this,w64 (by omega) (by omega)]
 ·rw [if_neg (by simp;omega),if_pos (by decide),if_neg (by omega),w64 (by omega) (by omega)]
  congr 1
def dif:Int→List Int→List Nat
 | _,[]=>[]
 | p,x::l=>(x-p).toNat::dif x l
def stp (v:Int):List Int→List Nat
 | []=>[]
 | x::l=>(fold (x-v)+1)::dif x l
theorem dif_len:∀ (p:Int) (l:List Int),(dif p l).length=l.length
 | _,[]=>rfl
 | p,x::l=>by simp [dif,dif_len x l]
theorem stp_len (v:Int) (l:List Int):(stp v l).length=l.length:=by cases l <;> simp [stp,dif_len]
theorem dif_get:∀ (p:Int) (l:List Int) (i:Nat),i<l.length→(dif p l).getD i 0=(l.getD i 0-(if i=0 then p else l.getD (i-1) 0)).toNat
 | _,[],i,h=>by simp at h
 | p,x::l,0,h=>by simp [dif]
 | p,x::l,i+1,h=>by
  have:=dif_get x l i (by simpa using h)
  simp only [dif,List.getD_cons_succ,this]
  cases i with
  | zero=>simp
  | succ i=>simp
theorem stp_get (v:Int) {l:List Int} {i:Nat} (h:i<l.length):(stp v l).getD i 0=if i=0 then fold (l.getD 0 0-v)+1 else (l.getD i 0-l.getD (i-1) 0).toNat:=by
 cases l with
 | nil=>simp at h
 | cons x l =>
  cases i with
  | zero=>simp [stp]
  | succ i =>
   have:=dif_get x l i (by simpa using h)
   simp only [stp,List.getD_cons_succ,this]
   rw [if_neg (show ¬ i+1=0 by omega)]
   cases i with
   | zero=>simp
   | succ i=>simp
def gap (v:Int) (l:List Int):List Int:=gams ((l.length+1)::stp v l)
theorem stp_rng {v:Int} {l:List Int} (h:MayP l) (hv:0≤v) (hv2:v≤15) {i:Nat} (hi:i<l.length):0<(stp v l).getD i 0∧(stp v l).getD i 0<256:=by
 rw [stp_get v hi]
 obtain ⟨_,h2⟩:=(mayP_iff _).1 h
 have a:=h2 _ (getD_mem (d:=0) hi)
 split
 ·rename_i e;subst e
  unfold fold;split <;> omega
 ·have b:=(h i hi).2.2 (by omega)
  have c:=h2 _ (getD_mem (d:=0) (show i-1<l.length by omega))
  omega
theorem stp_small {v:Int} {l:List Int} (h:MayP l) (hv:0≤v) (hv2:v≤15):∀ n∈stp v l,0<n∧n<256:=by
 intro n hn
 obtain ⟨i,hi,rfl⟩:=List.mem_iff_getElem.1 hn
 rw [stp_len] at hi
 have:=stp_rng h hv hv2 hi
 rwa [getD_lt (by rw [stp_len];exact hi)] at this
theorem gap_len {v:Int} {l:List Int} (h:MayP l) (hv:0≤v) (hv2:v≤15):(gap v l).length≤255:=by
 have hl:=h.len
 have:=gams_len ((l.length+1)::stp v l) (fun n hn=>by
  rcases List.mem_cons.1 hn with rfl | hn
  ·omega
  ·exact (stp_small h hv hv2 n hn).2)
 rw [List.length_cons,stp_len] at this
 unfold gap;omega
theorem gap_Bt (v:Int) (l:List Int):Bt (gap v l):=gams_Bt _
end Go.XL
end
end
section
section
namespace Go.XL
open Go.XM
theorem unf1 {z:Int} (h:-1000≤z) (h2:z≤1000) {K:Nat}:Gt K (wr .i64 (((fold z+1:Nat):Int)-1))=some z:=by
 have e:wr .i64 (((fold z+1:Nat):Int)-1)=((fold z:Nat):Int):=by
  rw [w64 (by omega) (by unfold fold;split <;> omega)];omega
 rw [e,unfold_eq (by unfold fold;split <;> omega),unf_fold]
theorem gams_split {ns:List Nat} {i:Nat} (hi:i<ns.length):gams ns=gams (ns.take i)++gam (ns.getD i 0)++gams (ns.drop (i+1)):=by
 have:ns=ns.take i++(ns.getD i 0::ns.drop (i+1)):=by rw [← drop_getD (d:=0) hi,List.take_append_drop]
 conv=>lhs;rw [this]
 rw [gams_app,gams_cons,List.append_assoc]
theorem gams_take {ns:List Nat} {i:Nat} (hi:i<ns.length):gams (ns.take (i+1))=gams (ns.take i)++gam (ns.getD i 0):=by
 rw [take_getD (d:=0) hi,gams_app];simp [gams]
theorem reads_at {ns:List Nat} (hns:∀ n∈ns,0<n∧n<256) {i:Nat} (hi:i<ns.length) {a b:List Int} (ha:Bt a) (hb:Bt b) (hl:(a++gams ns++b).length≤1099511627776) :
  E0 (fun K=>Fj K (pack (a++gams ns++b)) ((a++gams (ns.take i)).length:Int) 2) (((ns.getD i 0:Nat):Int),((a++gams (ns.take (i+1))).length:Int),true):=by
 have hn:=hns _ (getD_mem (d:=0) hi)
 have e:a++gams ns++b=(a++gams (ns.take i))++gam (ns.getD i 0)++(gams (ns.drop (i+1))++b):=by
  rw [gams_split hi];simp only [List.append_assoc]
 have hl2:=hl
 rw [e] at hl2 ⊢
 have:=reads hn.1 (by omega) (ha.app (gams_Bt (ns.take i))) ((gams_Bt (ns.drop (i+1))).app hb) hl2
 rw [gams_take hi]
 rw [List.append_assoc a] at this
 simp only [List.append_assoc] at this ⊢
 exact this
theorem gapsRead_ev {v:Int} {l a b:List Int} (h:MayP l) (hv:0≤v) (hv2:v≤15) (ha:Bt a) (hb:Bt b) (hlen:(a++gap v l++b).length≤1099511627776) :
  E0 (fun K=>Fp K (pack (a++gap v l++b)) (a.length:Int) v) (l,((a++gap v l).length:Int),true):=by
 have hl:=h.len
 obtain ⟨_,h2⟩:=(mayP_iff _).1 h
 have hsm:=stp_small h hv hv2
 have hns:∀ n∈(l.length+1)::stp v l,0<n∧n<256:=by
  intro n hn
  rcases List.mem_cons.1 hn with rfl | hn
  ·omega
  ·exact hsm n hn
 have rd:=fun i (hi:i<((l.length+1)::stp v l).length)=>reads_at hns hi ha hb hlen
 have key:∀ i,i≤l.length→E1 (fun K k=>Fp.l1 K (pack (a++gap v l++b)) k ((a++gams (((l.length+1)::stp v l).take (i+1))).length:Int) (if i=0 then v else l.getD (i-1) 0) (l.length:Int) (i:Int) (l.take i)) (l,((a++gap v l).length:Int),true):=by
  refine upto ?_ ?_
  ·refine step1 (fun _ _ _ _ _=>Fp.l1.eq_2 ..) ?_
   refine negD (by omega) (nowE ?_)
   rw [List.take_length,List.take_of_length_le (by simp [stp_len])];rfl
  ·intro i hi ih
   refine step1 (fun _ _ _ _ _=>Fp.l1.eq_2 ..) ?_
   refine posD (by omega) (bnd (rd (i+1) (by simp [stp_len];omega)) (negB rfl ?_))
   have x:=h2 _ (getD_mem (d:=0) hi)
   have hj:∀ {n last:Int},last+n=l.getD i 0→E1 (fun K k=>Fp.j2 K (Fp.l1 K (pack (a++gap v l++b)) k) (l.take i) last (((((l.length+1)::stp v l).getD (i+1) 0:Nat):Int),((a++gams (((l.length+1)::stp v l).take (i+1+1))).length:Int),true) (l.length:Int) (i:Int) (pack (a++gap v l++b)) n) (l,((a++gap v l).length:Int),true):=by
    intro n last e
    refine congr (f:=fun K k _ _ _=>(Gh K (l.getD i 0)).bind fun r50=>if (!r50) then some (([]:List Int),0,false) else if ((l.take i).length+([l.getD i 0]:List Int).length)*8≤140737488355328 then Fp.l1 K (pack (a++gap v l++b)) k ((a++gams (((l.length+1)::stp v l).take (i+1+1))).length:Int) (l.getD i 0) (l.length:Int) (wr .i64 ((i:Int)+1)) (l.take i++[l.getD i 0]) else none) (fun K k _ _ _=>by unfold Fp.j2;rw [e,w64 (i:=l.getD i 0) (by omega) (by omega)]) ?_
    simp only [is_eq]
    refine bnd (now _) (negM x (pos (by simp;omega) ?_))
    rw [w1 (by omega),← take_getD (d:=0) hi]
    simpa using ih
   have hget:((l.length+1)::stp v l).getD (i+1) 0=(stp v l).getD i 0:=by simp
   by_cases h0:i=0
   ·refine posE (by omega) ?_
    have hu:∀ K,Gt K (wr .i64 (((((l.length+1)::stp v l).getD (i+1) 0:Nat):Int)-1))=some (l.getD i 0-v):=by
     intro K
     rw [hget,stp_get v hi,if_pos h0]
     subst h0
     exact unf1 (by omega) (by omega)
    refine bnd (congr (fun K _ _ _ _=>hu K) (now _)) ?_
    refine hj ?_
    rw [if_pos h0];omega
   ·refine negE (by omega) (hj ?_)
    have b1:=(h i hi).2.2 (by omega)
    rw [if_neg h0]
    show l.getD (i-1) 0+((((l.length+1)::stp v l).getD (i+1) 0:Nat):Int)=_
    rw [hget,stp_get v hi,if_neg h0];omega
 have r0:=rd 0 (by simp)
 rw [List.take_zero,show gams []=[] from rfl,List.append_nil] at r0
 refine bnd r0 (negB rfl (negD ?_ ?_))
 ·show ¬ (((l.length+1:Nat):Int) > 17);omega
 ·have e:wr .i64 (((((l.length+1)::stp v l).getD 0 0:Nat):Int)-1)=(l.length:Int):=by
   show wr .i64 (((l.length+1:Nat):Int)-1)=_
   rw [w64 (by omega) (by omega)];omega
  rw [e]
  exact (key 0 (by omega)).e1
end Go.XL
end
end
section
section
namespace Go.XL
open Go.XM
theorem nums_mk (x:Int) (n:Nat):nums (x,(n:Int))=(List.range n).map fun (k:Nat)=>x+(k:Int):=by
 show (List.range ((n:Int)).toNat).map (fun (k:Nat)=>x+(k:Int))=_
 rw [Int.toNat_natCast]
theorem mem_nums_mk {x a:Int} {n:Nat}:a∈nums (x,(n:Int))↔x≤a∧a<x+(n:Int):=mem_nums (x:=(x,(n:Int))) (by show (0:Int)≤(n:Int);omega)
theorem nums_mk_len (x:Int) (n:Nat):(nums (x,(n:Int))).length=n:=by rw [nums_mk];simp
theorem follow_take:∀ (x:Int) (l:List Int),(x::l).take (follow x l+1)=nums (x,((follow x l+1:Nat):Int))
 | x,[]=>by rw [nums_mk];simp [follow]
 | x,y::l=>by
  simp only [follow]
  split
  ·rename_i e
   have ih:=follow_take y l
   rw [List.take_succ_cons,ih]
   rw [nums_mk,nums_mk]
   rw [List.range_succ_eq_map (n:=follow y l+1),List.map_cons,List.map_map]
   subst e
   congr 1
   ·simp
   ·refine List.map_congr_left fun k _=>?_
    simp only [Function.comp];push_cast;omega
  ·rw [nums_mk];simp
theorem parts_ok:∀ (n:Nat) (l:List Int),l.length≤n→l.Pairwise (·<·)→(∀ y∈l,0≤y∧y≤15)→∀ e:Int,(∀ y∈l,e<y) →
  OkR e (parts l).1∧(parts l).2.Sublist l∧((parts l).2++alls (parts l).1).Perm l:=by
 intro n
 induction n with
 | zero =>
  intro l h _ _ e _
  obtain rfl:=List.eq_nil_of_length_eq_zero (by omega:l.length=0)
  simp [parts,OkR,alls]
 | succ n ih =>
  intro l h hp hb e he
  cases l with
  | nil=>simp [parts,OkR,alls]
  | cons x l =>
   have hf:=follow_le x l
   have htk:=follow_take x l
   generalize hn:follow x l=m at *
   have hsplit:x::l=nums (x,((m+1:Nat):Int))++l.drop m:=by
    rw [← htk];exact (List.take_append_drop (m+1) (x::l)).symm
   have hsub:(l.drop m).Sublist (x::l):=(List.drop_sublist m l).trans (List.sublist_cons_self x l)
   have hlast:x+m∈x::l:=by rw [hsplit];exact List.mem_append_left _ (mem_nums_mk.2 (by omega))
   have hx:=hb x List.mem_cons_self
   have hgt:∀ y∈l.drop m,x+(m:Int)+1<y:=by
    intro y hy
    rw [hsplit,List.pairwise_append] at hp
    have h1:=hp.2.2 (x+(m:Int)) (mem_nums_mk.2 (by omega)) y hy
    have h2:y≠x+(m:Int)+1:=by
     intro e2
     obtain ⟨i,hi,hi2⟩:=List.mem_iff_getElem.1 hy
     have hlt:m<l.length:=by simp at hi;omega
     have hend:=follow_end (x:=x) (l:=l) (by rw [hn];exact hlt)
     rw [hn] at hend
     have g1:(x::l).getD m 0=x+(m:Int):=by
      rw [hsplit,List.getD_eq_getElem?_getD,List.getElem?_append_left (by rw [nums_mk_len];omega),nums_mk]
      simp
     have g2:(x::l).getD (m+1) 0=(l.drop m).getD 0 0:=by
      rw [hsplit,List.getD_eq_getElem?_getD,List.getElem?_append_right (by rw [nums_mk_len];omega),nums_mk_len]
      simp [List.getD_eq_getElem?_getD]
     rw [g1,g2] at hend
     have h0:(l.drop m).getD 0 0≤y:=by
      rw [getD_lt (by omega:0<(l.drop m).length),← hi2]
      by_cases c:i=0
      ·subst c;exact Int.le_refl _
      ·exact Int.le_of_lt (List.pairwise_iff_getElem.1 hp.2.1 0 i (by omega) hi (by omega))
     have h3:=hp.2.2 (x+(m:Int)) (mem_nums_mk.2 (by omega)) ((l.drop m).getD 0 0) (getD_mem (by omega))
     omega
    omega
   have hp2:=hp.sublist hsub
   have hb2:∀ y∈l.drop m,0≤y∧y≤15:=fun y hy=>hb y (hsub.subset hy)
   have hlen:(l.drop m).length≤n:=by simp at h ⊢;omega
   have hl15:=hb _ hlast
   rw [parts,hn]
   have hnum:x::l.take m=nums (x,((m+1:Nat):Int)):=by rw [← htk];rfl
   split
   ·rename_i h2
    obtain ⟨a1,a2,a3⟩:=ih (l.drop m) hlen hp2 hb2 (x+((m+1:Nat):Int)) (fun y hy=>by have:=hgt y hy;push_cast;omega)
    refine ⟨⟨show 3≤((m+1:Nat):Int)∧e<x∧0≤x∧x≤15∧x+((m+1:Nat):Int)≤16 from ⟨by omega,he x List.mem_cons_self,hx.1,hx.2,by omega⟩,a1⟩,a2.trans hsub,?_⟩
    rw [alls_cons]
    conv=>rhs;rw [hsplit]
    exact (List.perm_append_comm_assoc _ _ _).trans (List.Perm.append_left _ a3)
   ·obtain ⟨a1,a2,a3⟩:=ih (l.drop m) hlen hp2 hb2 e (fun y hy=>he y (hsub.subset hy))
    refine ⟨a1,?_,?_⟩
    ·show (x::l.take m++_).Sublist _
     rw [hnum]
     conv=>rhs;rw [hsplit]
     exact List.Sublist.append (List.Sublist.refl _) a2
    ·show ((x::l.take m++_)++_).Perm _
     rw [hnum,List.append_assoc]
     conv=>rhs;rw [hsplit]
     exact List.Perm.append_left _ a3
theorem parts_may {l:List Int} (h:MayP l):OkR (-1) (parts l).1∧MayP (parts l).2∧((parts l).2++alls (parts l).1).Perm l:=by
 obtain ⟨h1,h2⟩:=(mayP_iff _).1 h
 obtain ⟨a1,a2,a3⟩:=parts_ok l.length l (Nat.le_refl _) h1 h2 (-1) (fun y hy=>by have:=h2 y hy;omega)
 exact ⟨a1,(mayP_iff _).2 ⟨h1.sublist a2,fun x hx=>h2 x (a2.subset hx)⟩,a3⟩
theorem sort_perm {l m:List Int} (hm:MayP m) (hp:l.Perm m):sortF l=m:=by
 obtain ⟨h1,h2⟩:=(mayP_iff _).1 hm
 exact List.Perm.eq_of_pairwise (le:=(·≤·)) (fun a b _ _ h1 h2=>by omega) (sort_le l) (h1.imp fun h=>by omega) ((List.mergeSort_perm l _).trans hp)
theorem join_parts {l:List Int} (h:MayP l):join (parts l).1 (parts l).2=some l:=by
 obtain ⟨a1,a2,a3⟩:=parts_may h
 have e:=sort_perm h a3
 unfold join
 rw [e,if_pos ⟨a1,a2,h⟩]
end Go.XL
end
end
section
section
namespace Go.XL
open Go.XM
theorem may_Sm {l:List Int} (h:MayP l):Sm l:=by
 have:=h.len
 obtain ⟨_,h2⟩:=(mayP_iff _).1 h
 exact ⟨by omega,fun x hx=>by have:=h2 x hx;omega⟩
end Go.XL
end
end
section
section
namespace Go.XL
open Go.XM
theorem and8 {a t:Nat} (ha:a<256) (ht:t≤8):ib .and .u8 (a:Int) ((2 ^ t-1:Nat):Int)=((a % 2 ^ t:Nat):Int):=by
 have hp:2 ^ t≤2 ^ 8:=Nat.pow_le_pow_right (by omega) ht
 have hm:a % 2 ^ t≤a:=Nat.mod_le _ _
 have h2:(BitVec.ofInt 8 (a:Int) &&& BitVec.ofInt 8 ((2 ^ t-1:Nat):Int)).toNat=a % 2 ^ t:=by
  rw [BitVec.toNat_and]
  simp only [BitVec.ofInt_natCast,BitVec.toNat_ofNat]
  rw [Nat.mod_eq_of_lt (show a<2 ^ 8 by omega),Nat.mod_eq_of_lt (show 2 ^ t-1<2 ^ 8 by omega),Nat.and_two_pow_sub_one_eq_mod]
 show IntKind.wrap .u8 ((BitVec.ofInt 8 (a:Int) &&& BitVec.ofInt 8 ((2 ^ t-1:Nat):Int)).toNat:Int)=_
 rw [h2]
 exact u8N (by omega)
def rtl:Int→List Ah→List Nat
 | _,[]=>[]
 | e,x::r=>(x.At-e).toNat::(x.Len-2).toNat::rtl (x.At+x.Len) r
def rnum (v:Int):List Ah→List Nat
 | []=>[]
 | x::r=>(fold (x.At-v)+1)::(x.Len-2).toNat::rtl (x.At+x.Len) r
def rcod (v:Int) (i:Nat) (e:Int) (r:List Ah):List Nat:=if i=0 then rnum v r else rtl e r
def runb (v:Int) (l:List Int):List Int:=gams (((parts l).1.length+1)::rnum v (parts l).1)++gap v (parts l).2
theorem rcod_cons (v:Int) (i:Nat) (e:Int) (x:Ah) (r:List Ah):rcod v i e (x::r)=(if i=0 then fold (x.At-v)+1 else (x.At-e).toNat)::(x.Len-2).toNat::rcod v (i+1) (x.At+x.Len) r:=by
 unfold rcod
 rw [if_neg (show ¬ i+1=0 by omega)]
 by_cases h:i=0
 ·rw [if_pos h,if_pos h];rfl
 ·rw [if_neg h,if_neg h];rfl
theorem gam_len8 {n:Nat} (h:n<256):(gam n).length≤15:=by rw [gam_len];have:=lg8 h;omega
end Go.XL
end
end
section
section
namespace Go.XL
open Go.XM
theorem equalR_ev (xs ys:List Ah) (h:xs.length≤1000000):E0 (fun K=>Dm K xs ys) (decide (xs=ys)):=by
 unfold Dm
 by_cases hl:xs.length=ys.length
 ·have key:∀ i,i≤xs.length→(∀ j,j<i→xs.getD j default=ys.getD j default)→E1 (fun K k=>Dm.l1 K xs ys k (xs.length:Int) (i:Int)) (decide (xs=ys)):=by
   refine upto ?_ ?_
   ·intro hd
    refine step1 (fun _ _ _ _ _=>Dm.l1.eq_2 ..) ?_
    exact negD (by omega) (nowE (by rw [ext_getR hl hd];simp))
   ·intro i hi ih hd
    refine step1 (fun _ _ _ _ _=>Dm.l1.eq_2 ..) ?_
    refine posD (by omega) (pos (by omega) (pos (by omega) ?_))
    rw [rdR,rdR,w1 (by omega),eqRun]
    by_cases e:xs.getD i default=ys.getD i default
    ·refine negM e (ih fun j hj=>?_)
     by_cases q:j=i
     ·rw [q];exact e
     ·exact hd j (by omega)
    ·refine posM e (nowE ?_)
     have:¬ xs=ys:=fun h=>e (by rw [h])
     simp [this]
  exact negN (by omega) (key 0 (by omega) (fun j hj=>by omega)).e1
 ·refine posN (by omega) (nowE ?_)
  have:¬ xs=ys:=fun h=>hl (by rw [h])
  simp [this]
theorem read_l1 {v:Int} (hv:0≤v) (hv2:v≤15) {r:List Ah} (hr:r.length≤100) {b:List Int} (hb:Bt b):∀ i,i≤r.length→∀ (e:Int) (a:List Int),(0<i→0≤e∧e≤16)→OkR (if i=0 then -1 else e) (r.drop i)→Bt a→(a++gams (rcod v i e (r.drop i))++b).length≤1099511627776 →
  E1 (fun K k=>Fs.l1 K (pack (a++gams (rcod v i e (r.drop i))++b)) k (a.length:Int) (if i=0 then v else e) (r.length:Int) (i:Int) (r.take i)) (r,((a++gams (rcod v i e (r.drop i))).length:Int),true):=by
 refine upto ?_ ?_
 ·intro e a h1 ho ha hl
  refine step1 (fun _ _ _ _ _=>Fs.l1.eq_2 ..) ?_
  refine negD (by omega) (nowE ?_)
  rw [List.drop_length]
  have:rcod v r.length e []=[]:=by unfold rcod;split <;> rfl
  rw [this,List.take_length];simp [gams]
 ·intro i hi ih e a h1 ho ha hl
  have htk:=take_getD (d:=default) hi
  rw [drop_getD (d:=default) hi] at ho hl ⊢
  rw [rcod_cons] at hl ⊢
  generalize r.getD i default=x at *
  obtain ⟨⟨x1,x2,x3,x4,x5⟩,ho2⟩:=ho
  have hn:0<(if i=0 then fold (x.At-v)+1 else (x.At-e).toNat)∧(if i=0 then fold (x.At-v)+1 else (x.At-e).toNat)<256:=by
   by_cases hz:i=0
   ·rw [if_pos hz];unfold fold;split <;> omega
   ·have:=h1 (by omega);rw [if_neg hz];rw [if_neg hz] at x2;omega
  generalize hnn:(if i=0 then fold (x.At-v)+1 else (x.At-e).toNat)=n at *
  have hL:a++gams (n::(x.Len-2).toNat::rcod v (i+1) (x.At+x.Len) (r.drop (i+1)))++b=a++gam n++gam (x.Len-2).toNat++gams (rcod v (i+1) (x.At+x.Len) (r.drop (i+1)))++b:=by
   simp only [gams_cons,List.append_assoc]
  rw [hL] at hl ⊢
  have r1:=reads (n:=n) (a:=a) (b:=gam (x.Len-2).toNat++(gams (rcod v (i+1) (x.At+x.Len) (r.drop (i+1)))++b)) hn.1 (by omega) ha ((gam_Bt _).app ((gams_Bt _).app hb)) (by simp only [List.append_assoc] at hl ⊢;exact hl)
  have r2:=reads (n:=(x.Len-2).toNat) (a:=a++gam n) (b:=gams (rcod v (i+1) (x.At+x.Len) (r.drop (i+1)))++b) (by omega) (by omega) (ha.app (gam_Bt _)) ((gams_Bt _).app hb) (by simp only [List.append_assoc] at hl ⊢;exact hl)
  have ih2:=ih (x.At+x.Len) (a++gam n++gam (x.Len-2).toNat) (fun _=>by omega) (by rw [if_neg (by omega)];exact ho2) ((ha.app (gam_Bt _)).app (gam_Bt _)) hl
  simp only [← List.append_assoc] at r1 r2
  refine step1 (fun _ _ _ _ _=>Fs.l1.eq_2 ..) ?_
  refine posD (by omega) (bnd r1 (negB rfl (bnd r2 (negB rfl ?_))))
  have hj:∀ {m last:Int},last+m=x.At→E1 (fun K k=>Fs.j2 K (Fs.l1 K (pack (a++gam n++gam (x.Len-2).toNat++gams (rcod v (i+1) (x.At+x.Len) (r.drop (i+1)))++b)) k) ((((x.Len-2).toNat:Nat):Int),((a++gam n++gam (x.Len-2).toNat).length:Int),true) (r.length:Int) (i:Int) (r.take i) last (pack (a++gam n++gam (x.Len-2).toNat++gams (rcod v (i+1) (x.At+x.Len) (r.drop (i+1)))++b)) m) (r,((a++gams (n::(x.Len-2).toNat::rcod v (i+1) (x.At+x.Len) (r.drop (i+1)))).length:Int),true):=by
   intro m last hm
   have e1:wr .i64 ((wr .i64 ((((x.Len-2).toNat:Nat):Int)-1))+3)=x.Len:=by rw [w64 (i:=(((x.Len-2).toNat:Nat):Int)-1) (by omega) (by omega),w64 (by omega) (by omega)];omega
   have e2:wr .i64 (x.At+x.Len)=x.At+x.Len:=w64 (by omega) (by omega)
   unfold Fs.j2
   rw [hm,w64 (i:=x.At) (by omega) (by omega),e1,e2,w1 (by omega)]
   refine pos (by simp;omega) ?_
   have ex:((x.At,x.Len):Ah)=x:=rfl
   rw [ex,← htk]
   have ih3:=ih2
   rw [if_neg (by omega)] at ih3
   refine ofEq ih3 ?_
   simp only [gams_cons,List.append_assoc]
  by_cases hz:i=0
  ·refine posE (by omega) ?_
   rw [if_pos hz] at hnn ⊢
   subst hnn
   refine bnd (congr (fun K _ _ _ _=>unf1 (by omega) (by omega)) (now _)) (hj (by omega))
  ·refine negE (by omega) ?_
   have he:=h1 (by omega)
   rw [if_neg hz] at hnn x2 ⊢
   exact hj (by omega)
theorem RRd_ev {v:Int} {l a b:List Int} (h:MayP l) (hv:0≤v) (hv2:v≤15) (ha:Bt a) (hb:Bt b) (hlen:(a++runb v l++b).length≤1099511627776) :
  E0 (fun K=>Ht K (pack (a++runb v l++b)) (a.length:Int) v) (l,((a++runb v l).length:Int),true):=by
 obtain ⟨a1,a2,a3⟩:=parts_may h
 have hr:=(a1.len (by omega)).1
 have hr2:=(a1.len (by omega)).2
 have hlm:=h.len
 have hml:=a2.len
 have hL:a++runb v l++b=a++gam ((parts l).1.length+1)++gams (rcod v 0 0 ((parts l).1.drop 0))++(gap v (parts l).2++b):=by
  rw [runb,gams_cons,show rcod v 0 0 ((parts l).1.drop 0)=rnum v (parts l).1 from rfl]
  simp only [List.append_assoc]
 have hL2:a++runb v l++b=(a++gam ((parts l).1.length+1)++gams (rcod v 0 0 ((parts l).1.drop 0)))++gap v (parts l).2++b:=by
  rw [hL];simp only [List.append_assoc]
 have rd:E0 (fun K=>Fs K (pack (a++runb v l++b)) (a.length:Int) v) ((parts l).1,((a++gam ((parts l).1.length+1)++gams (rcod v 0 0 ((parts l).1.drop 0))).length:Int),true):=by
  have r0:=reads (n:=(parts l).1.length+1) (a:=a) (b:=gams (rcod v 0 0 ((parts l).1.drop 0))++(gap v (parts l).2++b)) (by omega) (by omega) ha ((gams_Bt _).app ((gap_Bt _ _).app hb)) (by
   have:=hlen;rw [hL] at this;simp only [List.append_assoc] at this ⊢;exact this)
  rw [← List.append_assoc,← hL] at r0
  refine bnd r0 (negB rfl (negD ?_ ?_))
  ·show ¬ (((((parts l).1.length+1:Nat):Int)) > 16);omega
  ·have e:wr .i64 ((((parts l).1.length+1:Nat):Int)-1)=((parts l).1.length:Int):=by rw [w64 (by omega) (by omega)];omega
   simp only
   rw [e]
   have:=read_l1 hv hv2 (r:=(parts l).1) (by omega) (b:=gap v (parts l).2++b) ((gap_Bt _ _).app hb) 0 (by omega) 0 (a++gam ((parts l).1.length+1)) (fun h=>by omega) a1 (ha.app (gam_Bt _)) (by rw [← hL];exact hlen)
   rw [← hL] at this
   exact this.e1
 refine bnd rd (negB rfl ?_)
 have hg:=gapsRead_ev (l:=(parts l).2) (a:=a++gam ((parts l).1.length+1)++gams (rcod v 0 0 ((parts l).1.drop 0))) (b:=b) a2 hv hv2 ((ha.app (gam_Bt _)).app (gams_Bt _)) hb (by rw [← hL2];exact hlen)
 rw [← hL2] at hg
 refine bnd hg (negB rfl ?_)
 have hw:=Whole_ev (r:=(parts l).1) (q:=(parts l).2) (by omega) (by omega)
 rw [if_pos a1,if_pos a2,sort_perm h a3,decide_eq_true h] at hw
 refine bnd hw (negB rfl (bnd (Parts_ev (may_Sm h)) (bnd (equalR_ev _ _ (show (parts l).1.length≤1000000 by omega)) (pos (decide_eq_true rfl) (bnd (equal_ev _ _ (show (parts l).2.length≤1000000 by omega)) (nowE ?_))))))
 simp only [decide_true]
 congr 2
 rw [runb,gams_cons,show rcod v 0 0 ((parts l).1.drop 0)=rnum v (parts l).1 from rfl]
 simp only [List.append_assoc]
theorem rtl_small:∀ {e:Int} {r:List Ah},-1≤e→OkR e r→(∀ n∈rtl e r,n<256)∧(rtl e r).length=2*r.length
 | e,[],_,_=>by simp [rtl]
 | e,x::r,he,h=>by
  obtain ⟨⟨h1,h2,h3,h4,h5⟩,hr⟩:=h
  obtain ⟨a1,a2⟩:=rtl_small (by omega) hr
  constructor
  ·intro n hn
   simp only [rtl,List.mem_cons] at hn
   rcases hn with rfl | rfl | hn
   ·omega
   ·omega
   ·exact a1 n hn
  ·simp only [rtl,List.length_cons,a2];omega
theorem rnum_small {v:Int} (hv:0≤v) (hv2:v≤15) {r:List Ah} (h:OkR (-1) r):(∀ n∈rnum v r,n<256)∧(rnum v r).length=2*r.length:=by
 cases r with
 | nil=>simp [rnum]
 | cons x r =>
  obtain ⟨⟨h1,h2,h3,h4,h5⟩,hr⟩:=h
  obtain ⟨a1,a2⟩:=rtl_small (by omega) hr
  constructor
  ·intro n hn
   simp only [rnum,List.mem_cons] at hn
   rcases hn with rfl | rfl | hn
   ·unfold fold;split <;> omega
   ·omega
   ·exact a1 n hn
  ·simp only [rnum,List.length_cons,a2];omega
theorem runb_len {v:Int} {l:List Int} (h:MayP l) (hv:0≤v) (hv2:v≤15):(runb v l).length≤500:=by
 obtain ⟨a1,a2,a3⟩:=parts_may h
 have hr:=(a1.len (by omega)).1
 have hr2:=(a1.len (by omega)).2
 obtain ⟨n1,n2⟩:=rnum_small hv hv2 a1
 have hg:=gap_len a2 hv hv2
 have:=gams_len (((parts l).1.length+1)::rnum v (parts l).1) (fun n hn=>by
  rcases List.mem_cons.1 hn with rfl | hn
  ·omega
  ·exact n1 n hn)
 rw [List.length_cons,n2] at this
 rw [runb,List.length_append]
 omega
end Go.XL
end
end
section
section
namespace Go.XL
open Go.XM
theorem okR_get:∀ {e:Int} {r:List Ah},OkR e r→∀ i,i<r.length→3≤(r.getD i default).Len∧0≤(r.getD i default).At∧(r.getD i default).At+(r.getD i default).Len≤16∧(0<i→(r.getD (i-1) default).At+(r.getD (i-1) default).Len<(r.getD i default).At)
 | e,[],_,i,h=>by simp at h
 | e,x::r,⟨⟨h1,h2,h3,h4,h5⟩,hr⟩,0,h=>⟨h1,h3,h5,fun h=>by omega⟩
 | e,x::r,⟨⟨h1,h2,h3,h4,h5⟩,hr⟩,i+1,h=>by
  have ih:=okR_get hr i (by simpa using h)
  refine ⟨ih.1,ih.2.1,ih.2.2.1,fun _=>?_⟩
  cases i with
  | zero =>
   cases r with
   | nil=>simp at h
   | cons y r=>exact hr.1.2.1
  | succ i=>exact ih.2.2.2 (by omega)
abbrev q4:List Int:=[0,1,2,3]
variable {r25:List (List Int)}
end Go.XL
end
end
section
section
namespace Go.XL
open Go.XM
theorem tmodN' (a:Nat):((a:Int)).tmod 2=((a % 2:Nat):Int):=(Int.ofNat_tmod a 2).symm
theorem eqB {a b:Bool} (h:a=b):¬ (!(a == b))=true:=by simp [h]
theorem neB {a b:Bool} (h:¬ a=b):(!(a == b))=true:=by simpa using h
def blk (l:List Int):Bool→Int→List Int→List Int
 | _,_,[]=>[]
 | inn,m,x::r=>if decide (x∈l)=inn then blk l inn (m+1) r else m::blk l (!inn) 1 r
def cparts (ref l:List Int):List Int × List Int:=(blk l true 0 ref,l.filter fun a=>!decide (a∈ref))
theorem blk_len (l:List Int):∀ (inn:Bool) (m:Int) (r:List Int),(blk l inn m r).length≤r.length
 | _,_,[]=>Nat.le_refl _
 | inn,m,x::r=>by
  simp only [blk]
  split
  ·have:=blk_len l inn (m+1) r;simp;omega
  ·have:=blk_len l (!inn) 1 r;simp;omega
theorem rc_l2 {ref l bl:List Int} (h1:ref.length≤1000000) (h2:l.length≤1000000):∀ j,j≤l.length→∀ s:List Int,s.length≤j→E1 (fun K k=>Bg.l2 K ref l k (j:Int) bl s) (bl,s++(l.drop j).filter fun a=>!decide (a∈ref)):=by
 refine upto ?_ ?_
 ·intro s hs
  refine step1 (fun _ _ _ _ _=>Bg.l2.eq_2 ..) ?_
  exact negD (by omega) (nowE (by simp))
 ·intro j hj ih s hs
  refine step1 (fun _ _ _ _ _=>Bg.l2.eq_2 ..) ?_
  refine posD (by omega) (pos (by omega) ?_)
  rw [rdN,drop_getD (d:=0) hj,w1 (by omega)]
  obtain ⟨v,e,hv⟩:=in_ev ref (l.getD j 0) h1
  refine bnd e ?_
  by_cases h:l.getD j 0∈ref
  ·have:=hv.2 h
   refine negD (by omega) ?_
   refine ofEq (ih s (by omega)) ?_
   rw [List.filter_cons_of_neg (by simpa using h)]
  ·have:¬ 0≤v:=fun k=>h (hv.1 k)
   refine posD (by omega) (pos (by omega) (pos (by simp;omega) ?_))
   refine ofEq (ih (s++[l.getD j 0]) (by simp;omega)) ?_
   rw [List.filter_cons_of_pos (by simpa using h)];simp
theorem rc_l1 {ref l:List Int} (h1:ref.length≤1000000) (h2:l.length≤1000000):∀ i,i≤ref.length→∀ (inn:Bool) (m:Int) (b:List Int),0≤m→m≤i→b.length≤i →
  E1 (fun K k=>Bg.l1 K ref l k inn m (i:Int) b) (b++blk l inn m (ref.drop i),l.filter fun a=>!decide (a∈ref)):=by
 refine upto ?_ ?_
 ·intro inn m b hm hm2 hb
  refine step1 (fun _ _ _ _ _=>Bg.l1.eq_2 ..) ?_
  refine negD (by omega) ?_
  refine ofEq (rc_l2 h1 h2 0 (by omega) [] (by simp)).e1 ?_
  rw [List.drop_length];simp [blk]
 ·intro i hi ih inn m b hm hm2 hb
  refine step1 (fun _ _ _ _ _=>Bg.l1.eq_2 ..) ?_
  refine posD (by omega) (pos (by omega) ?_)
  rw [rdN,drop_getD (d:=0) hi,w1 (by omega)]
  obtain ⟨v,e,hv⟩:=in_ev l (ref.getD i 0) h2
  refine bnd e ?_
  have hd:decide (v≥0)=decide (ref.getD i 0∈l):=by rw [Bool.eq_iff_iff];simpa using hv
  simp only [hd]
  by_cases h:decide (ref.getD i 0∈l)=inn
  ·refine neg (eqB h) ?_
   rw [w64 (i:=m+1) (by omega) (by omega)]
   refine ofEq (ih inn (m+1) b (by omega) (by omega) (by omega)) ?_
   simp only [blk,if_pos h]
  ·have h':decide (ref.getD i 0∈l)=!inn:=by cases inn <;> cases hq:decide (ref.getD i 0∈l) <;> simp_all
   refine pos (neB h) (pos (by simp;omega) ?_)
   rw [w64 (i:=0+1) (by omega) (by omega),h']
   refine ofEq (ih (!inn) (0+1) (b++[m]) (by omega) (by omega) (by simp;omega)) ?_
   simp only [blk,if_neg h];simp
theorem RCopies_ev {ref l:List Int} (h1:ref.length≤1000000) (h2:l.length≤1000000):E0 (fun K=>Bg K ref l) (cparts ref l) :=
 ofEq (rc_l1 h1 h2 0 (by omega) true 0 [] (by omega) (by omega) (by simp)).e1 (by simp [cparts])
def pk:Bool→List Int→List Int→Option (List Int)
 | inn,left,[]=>some (if inn then left else [])
 | inn,left,n::bs=>if n<0∨n > left.length then none else (pk (!inn) (left.drop n.toNat) bs).map fun r=>(if inn then left.take n.toNat else [])++r
def cjoin (ref bl q:List Int):Option (List Int):=match pk true ref bl with
 | none=>none
 | some P=>if MayP ref∧MayP q∧MayP (sortF (q++P))∧cparts ref (sortF (q++P))=(bl,q) then some (sortF (q++P)) else none
end Go.XL
end
end
section
section
namespace Go.XL
open Go.XM
def fin (ref bl q S:List Int):List Int × Bool:=(flt (S++q),decide (cparts ref (flt (S++q))=(bl,q)))
theorem jc_l5 {ref bl q:List Int} (h1:ref.length≤1000) (h2:bl.length≤1000) (h3:q.length≤1000) {S:List Int}:∀ t,t≤16→∀ acc:List Int,acc.length≤t →
  E1 (fun K k=>Ab.l5 K ref bl q k (t:Int) (mk S) acc) (acc++(U16.drop t).filter (fun a=>decide (a∈S)),decide (cparts ref (acc++(U16.drop t).filter (fun a=>decide (a∈S)))=(bl,q))):=by
 refine upto ?_ ?_
 ·intro acc ha
  refine step1 (fun _ _ _ _ _=>Ab.l5.eq_2 ..) ?_
  refine negD (by omega) ?_
  rw [List.drop_eq_nil_of_le (by rw [U16_len];omega),List.filter_nil,List.append_nil]
  have hb:(cparts ref acc).1.length≤1000000:=Nat.le_trans (blk_len _ _ _ _) (by omega)
  have hq:(cparts ref acc).2.length≤1000000:=Nat.le_trans (List.length_filter_le _ _) (by omega)
  refine bnd (RCopies_ev (by omega) (by omega)) (bnd (eqn_ev _ _ hb) ?_)
  by_cases e1:(cparts ref acc).1=bl
  ·refine pos (decide_eq_true e1) (bnd (eqn_ev _ _ hq) (nowE ?_))
   congr 1
   rw [Bool.eq_iff_iff];simp [Prod.ext_iff,e1]
  ·refine neg (by simpa using e1) (nowE ?_)
   congr 1
   rw [Bool.eq_iff_iff];simp [Prod.ext_iff,e1]
 ·intro t ht ih acc ha
  refine step1 (fun _ _ _ _ _=>Ab.l5.eq_2 ..) ?_
  refine posD (by omega) (pos ⟨⟨by omega,by rw [mk_len];omega⟩,mk_len S⟩ ?_)
  rw [rdB,mk_get ht,drop_getD (d:=0) (by rw [U16_len];exact ht:t<U16.length),U16_get ht,w1 (by omega)]
  by_cases h:(t:Int)∈S
  ·refine pos (decide_eq_true h) (pos (by simp;omega) ?_)
   refine ofEq (ih (acc++[(t:Int)]) (by simp;omega)) ?_
   rw [List.filter_cons_of_pos (by simpa using h),List.append_assoc];rfl
  ·refine neg (by simpa using h) ?_
   refine ofEq (ih acc (by omega)) ?_
   rw [List.filter_cons_of_neg (by simpa using h)]
theorem jc_l4 {ref bl q:List Int} (h1:ref.length≤1000) (h2:bl.length≤1000) (hq:MayP q) {S:List Int}:∀ j,j≤q.length→E1 (fun K k=>Ab.l4 K ref bl q k (j:Int) (mk (S++q.take j))) (fin ref bl q S):=by
 have hlen:=hq.len
 obtain ⟨q1,q2⟩:=(mayP_iff _).1 hq
 refine upto ?_ ?_
 ·refine step1 (fun _ _ _ _ _=>Ab.l4.eq_2 ..) ?_
  refine negD (by omega) ?_
  rw [List.take_length]
  refine ofEq (jc_l5 h1 h2 (by omega) 0 (by omega) [] (by simp)).e1 ?_
  simp [fin,flt]
 ·intro j hj ih
  refine step1 (fun _ _ _ _ _=>Ab.l4.eq_2 ..) ?_
  obtain ⟨x0,x1⟩:=q2 _ (getD_mem (d:=0) hj)
  rw [rdN]
  obtain ⟨n,hn⟩:=Int.eq_ofNat_of_zero_le x0
  have hn16:n<16:=by omega
  rw [hn]
  refine posD (by omega) (pos (by omega) (pos ⟨⟨by omega,by rw [mk_len];omega⟩,mk_len _⟩ ?_))
  rw [Int.toNat_natCast,mk_set hn16,w1 (by omega)]
  have e:S++q.take j++[(n:Int)]=S++q.take (j+1):=by rw [take_getD (d:=0) hj,hn,List.append_assoc]
  rw [e]
  exact ih
theorem jc_l3 {go:Nat→Nat→Int→Int→List Bool→Option (List Int × Bool)} {ref bl q:List Int} (hr:MayP ref) {at_ n i:Nat} (hn:at_+n≤ref.length) {S:List Int} {z:List Int × Bool}
  (hgo:Ev (fun K k _ _ _=>go K k ((at_+n:Nat):Int) (wr .i64 ((i:Int)+1)) (mk (S++if i % 2=0 then (ref.drop at_).take n else []))) z) :
  E2 (fun K k k'=>Ab.l3 K (go K k) (at_:Int) (i:Int) (n:Int) ref bl q k' 0 (mk S)) z:=by
 have hlen:=hr.len
 obtain ⟨q1,q2⟩:=(mayP_iff _).1 hr
 have e0:wr .i64 ((at_:Int)+(n:Int))=((at_+n:Nat):Int):=by rw [w64 (by omega) (by omega)];omega
 have em:((i:Int).tmod 2)=((i % 2:Nat):Int):=tmodN' i
 by_cases hp:i % 2=0
 ·rw [if_pos hp] at hgo
  have key:∀ t,t≤n→E2 (fun K k k'=>Ab.l3 K (go K k) (at_:Int) (i:Int) (n:Int) ref bl q k' (t:Int) (mk (S++(ref.drop at_).take t))) z:=by
   refine upto ?_ ?_
   ·refine step2 (fun _ _ _ _ _=>Ab.l3.eq_2 ..) ?_
    refine negD (by omega) ?_
    rw [e0];exact hgo
   ·intro t ht ih
    refine step2 (fun _ _ _ _ _=>Ab.l3.eq_2 ..) ?_
    have e1:wr .i64 ((at_:Int)+(t:Int))=((at_+t:Nat):Int):=by rw [w64 (by omega) (by omega)];omega
    obtain ⟨x0,x1⟩:=q2 _ (getD_mem (d:=0) (show at_+t<ref.length by omega))
    obtain ⟨m,hm⟩:=Int.eq_ofNat_of_zero_le x0
    rw [em,e1,rdN,hm]
    refine posD (by omega) (pos (by decide) (posE (by omega) (pos (by omega) (pos ⟨⟨by omega,by rw [mk_len];omega⟩,mk_len _⟩ ?_))))
    rw [Int.toNat_natCast,mk_set (by omega),w1 (by omega)]
    have e:S++(ref.drop at_).take t++[(m:Int)]=S++(ref.drop at_).take (t+1):=by
     rw [take_getD (d:=0) (by simp;omega:t<(ref.drop at_).length),List.append_assoc,← hm]
     congr 3
     simp [List.getD_eq_getElem?_getD]
    rw [e]
    exact ih
  have:=key 0 (by omega)
  simpa using this
 ·rw [if_neg hp,List.append_nil] at hgo
  refine step2 (fun _ _ _ _ _=>Ab.l3.eq_2 ..) ?_
  rw [em,e0]
  by_cases h0:0<n
  ·exact posD (by omega) (pos (by decide) (negE (by omega) hgo))
  ·exact negD (by omega) hgo
theorem jc_j2 {go:Nat→Nat→Int→Int→List Bool→Option (List Int × Bool)} {ref bl q:List Int} (hr:MayP ref) {at_ i:Nat} {n:Int} (hat:at_≤ref.length) {S:List Int} {z:List Int × Bool} (hbad:n<0∨n > ((ref.drop at_).length:Int)→z=([],false))
  (hgo:¬ (n<0∨n > ((ref.drop at_).length:Int))→Ev (fun K k _ _ _=>go K k ((at_+n.toNat:Nat):Int) (wr .i64 ((i:Int)+1)) (mk (S++if i % 2=0 then (ref.drop at_).take n.toNat else []))) z) :
  E1 (fun K k=>Ab.j2 K (go K k) (mk S) (at_:Int) (i:Int) ref bl q n) z:=by
 have hlen:=hr.len
 rw [List.length_drop] at hbad hgo
 by_cases c1:n<0
 ·rw [hbad (.inl c1)]
  exact posD c1 (now _)
 ·refine negD c1 ?_
  rw [w64 (i:=(ref.length:Int)-(at_:Int)) (by omega) (by omega)]
  by_cases c2:n > (ref.length:Int)-(at_:Int)
  ·rw [hbad (.inr (by omega))]
   exact posD c2 (now _)
  ·refine negD c2 ?_
   obtain ⟨m,rfl⟩:=Int.eq_ofNat_of_zero_le (show 0≤n by omega)
   exact (jc_l3 (go:=go) hr (by omega) (hgo (by omega))).e2
theorem jc_l1 {ref bl q:List Int} (hr:MayP ref) (hq:MayP q) (hb:bl.length≤16):∀ i,i≤bl.length→∀ (at_:Nat) (S:List Int),at_≤ref.length →
  E1 (fun K k=>Ab.l1 K ref bl q k (at_:Int) (i:Int) (mk S)) (match pk (decide (i % 2=0)) (ref.drop at_) (bl.drop i) with | none=>([],false) | some P=>fin ref bl q (S++P)):=by
 have hlen:=hr.len
 refine upto ?_ ?_
 ·intro at_ S hat
  refine step1 (fun _ _ _ _ _=>Ab.l1.eq_2 ..) ?_
  refine posD (by omega) (negD (by omega) ?_)
  have e1:wr .i64 ((ref.length:Int)-(at_:Int))=((ref.length-at_:Nat):Int):=by rw [w64 (by omega) (by omega)];omega
  rw [e1,List.drop_length]
  simp only [pk]
  refine jc_j2 (go:=fun K k=>Ab.l1 K ref bl q k) hr hat (fun h=>absurd h (by rw [List.length_drop];omega)) fun _=>?_
  refine step1 (fun _ _ _ _ _=>Ab.l1.eq_2 ..) ?_
  rw [w1 (by omega)]
  refine negD (by omega) ?_
  rw [Int.toNat_natCast,show (ref.drop at_).take (ref.length-at_)=ref.drop at_ from List.take_of_length_le (by simp)]
  have:=jc_l4 (S:=S++if bl.length % 2=0 then ref.drop at_ else []) (ref:=ref) (bl:=bl) (by omega) (by omega) hq 0 (by omega)
  rw [List.take_zero,List.append_nil] at this
  simpa using this.e1
 ·intro i hi ih at_ S hat
  refine step1 (fun _ _ _ _ _=>Ab.l1.eq_2 ..) ?_
  refine posD (by omega) (posD (by omega) (pos (by omega) ?_))
  rw [rdN,drop_getD (d:=0) hi]
  generalize bl.getD i 0=n
  simp only [pk]
  refine jc_j2 (go:=fun K k=>Ab.l1 K ref bl q k) hr hat (fun h=>by rw [if_pos h]) fun h=>?_
  rw [if_neg h,w1 (by omega)]
  rw [List.length_drop] at h
  refine ofEq (ih (at_+n.toNat) (S++if i % 2=0 then (ref.drop at_).take n.toNat else []) (by omega)) ?_
  have ep:decide ((i+1) % 2=0)=!decide (i % 2=0):=by
   rw [Bool.eq_iff_iff];simp;omega
  rw [ep,← List.drop_drop]
  cases pk (!decide (i % 2=0)) ((ref.drop at_).drop n.toNat) (bl.drop (i+1)) with
  | none=>rfl
  | some P=>simp [List.append_assoc]
theorem pk_sub:∀ {bl:List Int} {inn:Bool} {left P:List Int},pk inn left bl=some P→P.Sublist left
 | [],inn,left,P,h=>by
  simp only [pk,Option.some.injEq] at h
  subst h
  cases inn <;> simp
 | n::bl,inn,left,P,h=>by
  simp only [pk] at h
  split at h
  ·cases h
  ·rw [Option.map_eq_some_iff] at h
   obtain ⟨P',h1,rfl⟩:=h
   have h2:=pk_sub h1
   have e:left.Sublist (left.take n.toNat++left.drop n.toNat):=by rw [List.take_append_drop];exact List.Sublist.refl _
   rw [← List.take_append_drop n.toNat left]
   cases inn with
   | true=>exact List.Sublist.append (by simp) (by simpa using h2)
   | false=>exact List.Sublist.append (by simp) (by simpa using h2)
theorem RJoinC_ev {ref bl q:List Int} (h1:ref.length≤1000) (h2:bl.length≤1000) (h3:q.length≤1000):∃ l:List Int,E0 (fun K=>Ab K ref bl q) (match (if MayP ref∧MayP q then cjoin ref bl q else none) with | some l=>(l,true) | none=>(l,false)):=by
 by_cases a:¬ MayP ref
 ·refine ⟨[],bnd (may3_ev ref (by omega)) ?_⟩
  rw [if_neg (fun h=>a h.1)]
  exact posM a (now _)
 have a:=Classical.not_not.1 a
 by_cases b:¬ MayP q
 ·refine ⟨[],bnd (may3_ev ref (by omega)) (negM a (bnd (may3_ev q (by omega)) ?_))⟩
  rw [if_neg (fun h=>b h.2)]
  exact posM b (now _)
 have b:=Classical.not_not.1 b
 have hra:=a.len
 rw [if_pos ⟨a,b⟩]
 unfold cjoin
 by_cases c:bl.length > 16
 ·refine ⟨[],bnd (may3_ev ref (by omega)) (negM a (bnd (may3_ev q (by omega)) (negM b (posD (by omega) (nowE ?_)))))⟩
  cases hp:pk true ref bl with
  | none=>rfl
  | some P =>
   have:¬ (MayP ref∧MayP q∧MayP (sortF (q++P))∧cparts ref (sortF (q++P))=(bl,q)):=by
    rintro ⟨_,_,_,h⟩
    have h1:=congrArg Prod.fst h
    have h2:=blk_len (sortF (q++P)) true 0 ref
    have h3:(cparts ref (sortF (q++P))).1.length≤ref.length:=h2
    rw [h1] at h3
    simp only at h3
    omega
   simp only [if_neg this]
 ·have hm:=jc_l1 (q:=q) a b (show bl.length≤16 by omega) 0 (by omega) 0 [] (by omega)
  rw [List.drop_zero,List.drop_zero] at hm
  have run:∀ z,(match pk (decide (0 % 2=0)) ref bl with | none=>([],false) | some P=>fin ref bl q ([]++P))=z→E0 (fun K=>Ab K ref bl q) z:=by
   rintro z rfl
   refine bnd (may3_ev ref (by omega)) (negM a (bnd (may3_ev q (by omega)) (negM b (negD (by omega) ?_))))
   rw [mk_nil]
   exact hm.e1
  cases hp:pk true ref bl with
  | none=>exact ⟨[],run _ (by rw [show decide (0 % 2=0)=true from rfl,hp])⟩
  | some P =>
   obtain ⟨q1,q2⟩:=(mayP_iff _).1 b
   obtain ⟨r1,r2⟩:=(mayP_iff _).1 a
   have hsub:=pk_sub hp
   have hPn:P.Nodup:=(nodup_of_lt r1).sublist hsub
   have hPb:∀ x∈P,0≤x∧x≤15:=fun x hx=>r2 x (hsub.subset hx)
   have hs:=sort_may b hPn hPb
   have heq:(∀ x∈q,x ∉ P)→sortF (q++P)=flt (P++q):=fun hd=>sort_flt (List.nodup_append.2 ⟨nodup_of_lt q1,hPn,fun x hx y hy e=>hd x hx (e ▸ hy)⟩) (fun x hx=>(List.mem_append.1 hx).elim (q2 x) (hPb x)) (fun x=>by simp [List.mem_append,or_comm])
   refine ⟨flt (P++q),run _ ?_⟩
   rw [show decide (0 % 2=0)=true from rfl,hp]
   simp only [List.nil_append,fin]
   by_cases hc:cparts ref (flt (P++q))=(bl,q)
   ·have hd:∀ x∈q,x ∉ P:=by
     intro x hx hx2
     have h2:(cparts ref (flt (P++q))).2=q:=by rw [hc]
     rw [← h2] at hx
     have:=(List.mem_filter.1 hx).2
     simp only [Bool.not_eq_true',decide_eq_false_iff_not] at this
     exact this (hsub.subset hx2)
    have hmay:=hs.2 hd
    rw [heq hd] at hmay
    simp only [heq hd]
    rw [if_pos ⟨a,b,hmay,hc⟩]
    simp [hc]
   ·have:¬ (MayP ref∧MayP q∧MayP (sortF (q++P))∧cparts ref (sortF (q++P))=(bl,q)):=by
     rintro ⟨_,_,h3,h4⟩
     rw [heq (hs.1 h3)] at h4
     exact hc h4
    simp only [if_neg this]
    simp [hc]
end Go.XL
end
end
section
section
namespace Go.XL
open Go.XM
def cj (ref bl q:List Int):Option (List Int):=if MayP ref∧MayP q then cjoin ref bl q else none
end Go.XL
end
end
section
section
namespace Go.XL
open Go.XM
theorem blk_ge {l:List Int}:∀ {inn:Bool} {m:Int} {r:List Int},0≤m→(∀ n∈blk l inn m r,0≤n)∧(∀ i,0<i→i<(blk l inn m r).length→1≤(blk l inn m r).getD i 0)∧(1≤m→∀ n∈blk l inn m r,1≤n)
 | inn,m,[],h=>by simp [blk]
 | inn,m,x::r,h=>by
  simp only [blk]
  split
  ·obtain ⟨a1,a2,a3⟩:=blk_ge (l:=l) (inn:=inn) (m:=m+1) (r:=r) (by omega)
   exact ⟨a1,a2,fun _=>a3 (by omega)⟩
  ·obtain ⟨a1,a2,a3⟩:=blk_ge (l:=l) (inn:=!inn) (m:=1) (r:=r) (by omega)
   have a3:=a3 (by omega)
   refine ⟨fun n hn=>?_,fun i hi hl=>?_,fun hm n hn=>?_⟩
   ·rcases List.mem_cons.1 hn with rfl | hn
    ·exact h
    ·exact a1 n hn
   ·obtain ⟨i,rfl⟩:∃ k,i=k+1:=⟨i-1,by omega⟩
    rw [List.getD_cons_succ]
    exact a3 _ (getD_mem (by simpa using hl))
   ·rcases List.mem_cons.1 hn with rfl | hn
    ·exact hm
    ·exact a3 n hn
theorem blk_sum {l:List Int}:∀ {inn:Bool} {m:Int} {r:List Int},(blk l inn m r).sum≤m+r.length∨blk l inn m r=[]
 | inn,m,[]=>.inr rfl
 | inn,m,x::r=>by
  simp only [blk]
  split
  ·rcases blk_sum (l:=l) (inn:=inn) (m:=m+1) (r:=r) with h | h
   ·left;simp only [List.length_cons];push_cast;omega
   ·exact .inr h
  ·left
   rcases blk_sum (l:=l) (inn:=!inn) (m:=1) (r:=r) with h | h
   ·simp only [List.sum_cons,List.length_cons];push_cast;omega
   ·simp only [h,List.sum_cons,List.sum_nil,List.length_cons];push_cast;omega
theorem pk_blk {l:List Int}:∀ (r:List Int) (inn:Bool) (pre:List Int),pk inn (pre++r) (blk l inn (pre.length:Int) r)=some ((if inn then pre else [])++r.filter fun a=>decide (a∈l))
 | [],inn,pre=>by simp [blk,pk]
 | x::r,inn,pre=>by
  simp only [blk]
  by_cases h:decide (x∈l)=inn
  ·rw [if_pos h]
   have ih:=pk_blk (l:=l) r inn (pre++[x])
   rw [show ((pre++[x]).length:Int)=(pre.length:Int)+1 by simp] at ih
   rw [show pre++x::r=pre++[x]++r by simp,ih]
   cases inn with
   | true =>
    have hm:x∈l:=by simpa using h
    simp [hm]
   | false =>
    have hm:x ∉ l:=by simpa using h
    simp [hm]
  ·rw [if_neg h]
   have ih:=pk_blk (l:=l) r (!inn) [x]
   simp only [pk]
   rw [if_neg (by simp;omega),Int.toNat_natCast,List.drop_left,List.take_left]
   rw [show (x::r)=[x]++r from rfl,show ((1:Int))=(([x]:List Int).length:Int) from rfl,ih]
   cases inn with
   | true =>
    have:decide (x∈l)=false:=by cases hd:decide (x∈l) <;> simp_all
    have hm:x ∉ l:=by simpa using this
    simp [hm]
   | false =>
    have:decide (x∈l)=true:=by cases hd:decide (x∈l) <;> simp_all
    have hm:x∈l:=by simpa using this
    simp [hm]
theorem cjoin_parts {ref l:List Int} (h1:MayP ref) (h2:MayP l):cjoin ref (cparts ref l).1 (cparts ref l).2=some l:=by
 obtain ⟨r1,r2⟩:=(mayP_iff _).1 h1
 obtain ⟨l1,l2⟩:=(mayP_iff _).1 h2
 have hp:=pk_blk (l:=l) ref true []
 simp only [List.nil_append,List.length_nil,if_true] at hp
 have hp:pk true ref (cparts ref l).1=some (ref.filter fun a=>decide (a∈l)):=hp
 have hperm:((cparts ref l).2++ref.filter fun a=>decide (a∈l)).Perm l:=by
  have e1:(ref.filter fun a=>decide (a∈l)).Perm (l.filter fun a=>decide (a∈ref)):=by
   refine (List.perm_ext_iff_of_nodup ((nodup_of_lt r1).sublist List.filter_sublist) ((nodup_of_lt l1).sublist List.filter_sublist)).2 fun a=>?_
   simp [List.mem_filter,and_comm]
  refine (List.Perm.append_left _ e1).trans (List.perm_append_comm.trans ?_)
  exact List.filter_append_perm (fun a=>decide (a∈ref)) l
 have e:=sort_perm h2 hperm
 have hm:MayP (cparts ref l).2:=(mayP_iff _).2 ⟨l1.sublist List.filter_sublist,fun x hx=>l2 x (List.mem_filter.1 hx).1⟩
 unfold cjoin
 rw [hp]
 simp only [e]
 rw [if_pos ⟨h1,hm,h2,trivial⟩]
theorem cparts_may {ref l:List Int} (h2:MayP l):MayP (cparts ref l).2:=by
 obtain ⟨l1,l2⟩:=(mayP_iff _).1 h2
 exact (mayP_iff _).2 ⟨l1.sublist List.filter_sublist,fun x hx=>l2 x (List.mem_filter.1 hx).1⟩
def cnum:List Int→List Nat
 | []=>[]
 | n::t=>(n+1).toNat::t.map Int.toNat
structure Blks (b:List Int):Prop where
 len:b.length≤16
 ge:∀ n∈b,0≤n∧n≤17
 one:∀ i,0<i→i<b.length→1≤b.getD i 0
theorem blk_le {l:List Int}:∀ {inn:Bool} {m:Int} {r:List Int},∀ n∈blk l inn m r,n≤(if 1≤m then m else 1)+r.length
 | inn,m,[],n,h=>by simp [blk] at h
 | inn,m,x::r,n,h=>by
  simp only [blk] at h
  split at h
  ·have:=blk_le n h
   simp only [List.length_cons]
   push_cast
   split at this <;> split <;> omega
  ·rcases List.mem_cons.1 h with rfl | h
   ·simp only [List.length_cons];push_cast;split <;> omega
   ·have:=blk_le n h
    simp only [List.length_cons]
    push_cast
    split at this <;> split <;> omega
theorem cparts_blks {ref l:List Int} (h:MayP ref):Blks (cparts ref l).1:=by
 have hl:=h.len
 obtain ⟨a1,a2,a3⟩:=blk_ge (l:=l) (inn:=true) (m:=0) (r:=ref) (by omega)
 refine ⟨Nat.le_trans (blk_len _ _ _ _) hl,fun n hn=>⟨a1 n hn,?_⟩,a2⟩
 have:=blk_le n hn
 rw [if_neg (by omega)] at this
 omega
def copb (v:Int) (ref l:List Int):List Int:=gams (((cparts ref l).1.length+1)::cnum (cparts ref l).1)++runb v (cparts ref l).2
end Go.XL
end
end
section
section
namespace Go.XL
open Go.XM
theorem z3:(wr .i64 ((wr .i64 ((0:Int)+0))+0))=0:=by
 rw [w64 (i:=0+0) (by omega) (by omega),w64 (by omega) (by omega)];rfl
end Go.XL
end
end
section
section
namespace Go.XL
open Go.XM
def wt (g:Ac):Nat:=g.Out.length+lsum g.Out
abbrev zG:Ac:=default
theorem rdG (xs:List Ac) (i:Nat):nth xs (i:Int)=xs.getD i zG:=nthN xs i
def Gfit (g:Ac):Prop:=g.Out.length≤17592186044416∧∀ y∈g.Out,y.length≤17592186044416
theorem weight_ev (gs:List Ac) (hl:gs.length≤17592186044416) (hx:∀ g∈gs,Gfit g) :
  ∃ r:Int,E0 (fun K=>Bq K gs) r∧0≤r∧r≤52776558133248∧(r<1048576→(gs.length:Int)≤r∧∀ g∈gs,(wt g:Int)≤r):=by
 have key:∀ i,i≤gs.length→∀ s:Int,0≤s→s≤52776558133248→∃ r:Int,E1 (fun K k=>Bq.l1 K gs k s (i:Int)) r∧0≤r∧r≤52776558133248∧s≤r∧(r<1048576→∀ g∈gs.drop i,(wt g:Int)≤r):=by
  refine upto ?_ ?_
  ·intro s h0 h1
   refine ⟨s,?_,h0,h1,by omega,fun _=>by simp⟩
   refine step1 (fun _ _ _ _ _=>Bq.l1.eq_2 ..) ?_
   exact negD (by omega) (now s)
  ·intro i hi ih s h0 h1
   by_cases hs:s<1048576
   ·have hg:=hx _ (getD_mem (d:=zG) hi)
    obtain ⟨q,e,q0,q1,q2⟩:=lists_ev (gs.getD i zG).Out hg.1 hg.2
    obtain ⟨r,h,a,b,l,c⟩:=ih (s+q) (by omega) (by omega)
    refine ⟨r,?_,a,b,by omega,fun hr=>?_⟩
    ·refine step1 (fun _ _ _ _ _=>Bq.l1.eq_2 ..) ?_
     refine posD (by omega) (posD hs (pos (by omega) ?_))
     rw [rdG,w1 (by omega)]
     refine bnd e ?_
     rw [w64 (by omega) (by omega)]
     exact h
    ·rw [drop_getD (d:=zG) hi]
     intro g hg'
     rcases List.mem_cons.1 hg' with rfl | hg'
     ·have:=q2 (by omega)
      simp only [wt];omega
     ·exact c hr g hg'
   ·refine ⟨s,?_,h0,h1,by omega,fun h=>by omega⟩
    refine step1 (fun _ _ _ _ _=>Bq.l1.eq_2 ..) ?_
    exact posD (by omega) (negD hs (now s))
 obtain ⟨r,h,a,b,l,c⟩:=key 0 (by omega) gs.length (by omega) (by omega)
 exact ⟨r,h.e1,a,b,fun hr=>⟨l,by simpa using c hr⟩⟩
theorem heavy6_ev (x:Ef) (hl:x.G.length≤17592186044416) (hx:∀ g∈x.G,Gfit g) (ha:x.A.length≤17592186044416):∃ b:Bool,E0 (fun K=>Es K x) b∧(b=false→x.G.length≤1200∧x.A.length≤1200∧∀ g∈x.G,wt g≤1200):=by
 obtain ⟨r,e,r0,r1,r2⟩:=weight_ev x.G hl hx
 refine ⟨_,bnd e (now _),fun hb=>?_⟩
 rw [w64 (by omega) (by omega)] at hb
 have hb:r+(x.A.length:Int)≤1200:=by simpa using hb
 obtain ⟨ha,hw⟩:=r2 (by omega)
 exact ⟨by omega,by omega,fun g hg=>by have:=hw g hg;omega⟩
def GSm (g:Ac):Prop:=g.Out.length+lsum g.Out≤1000000
instance (g:Ac):Decidable (GSm g):=by unfold GSm;infer_instance
theorem GSm.row {g:Ac} (h:GSm g) {i:Nat} (hi:i<g.Out.length):(g.Out.getD i []).length≤1000000:=by
 have:=lsum_mem (getD_mem (d:=[]) hi)
 unfold GSm at h
 omega
theorem many_ev (g:Ac) (hl:GSm g):E0 (fun K=>Ej K g) (lsum g.Out:Int):=by
 unfold GSm at hl
 have key:∀ i,i≤g.Out.length→E1 (fun K k=>Ej.l1 K g k (lsum (g.Out.take i):Int) ((g.Out.length:Nat):Int) (i:Int)) (lsum g.Out:Int):=by
  refine upto ?_ ?_
  ·refine step1 (fun _ _ _ _ _=>Ej.l1.eq_2 ..) ?_
   exact negD (by omega) (nowE (by rw [List.take_length]))
  ·intro i hi ih
   have h1:=lsum_take hi
   have h2:=lsum_take_le g.Out (i+1)
   refine step1 (fun _ _ _ _ _=>Ej.l1.eq_2 ..) ?_
   refine posD (by omega) (pos (by omega) ?_)
   rw [rd1N,w64 (by omega) (by omega),w1 (by omega),show ((lsum (g.Out.take i):Int)+((g.Out.getD i []).length:Int))=(lsum (g.Out.take (i+1)):Int) by omega]
   exact ih
 exact (key 0 (by omega)).e1
def RowP (n:Int) (xs:List Int):Prop:=MayP xs∧(0<xs.length→xs.getD (xs.length-1) 0<n)
instance (n:Int) (xs:List Int):Decidable (RowP n xs):=by unfold RowP;infer_instance
def GraphP (g:Ac):Prop:=0≤g.N∧g.N≤16∧(g.Out.length:Int)=g.N∧(∀ i,i<g.Out.length→RowP g.N (g.Out.getD i []))∧lsum g.Out≤120
instance (g:Ac):Decidable (GraphP g):=by unfold GraphP;infer_instance
theorem gmayG_ev (g:Ac) (hs:GSm g):E0 (fun K=>Ei K g) (decide (GraphP g)):=by
 have key:(g.Out.length:Int)=g.N→0≤g.N→g.N≤16→∀ i,i≤g.Out.length→(∀ j,j<i→RowP g.N (g.Out.getD j []))→E1 (fun K k=>Ei.l1 K g k ((g.Out.length:Nat):Int) (i:Int)) (decide (GraphP g)):=by
  intro hn n0 n16
  refine upto ?_ ?_
  ·intro hok
   refine step1 (fun _ _ _ _ _=>Ei.l1.eq_2 ..) ?_
   refine negD (by omega) (bnd (many_ev g hs) (nowE ?_))
   have:GraphP g↔lsum g.Out≤120:=⟨fun h=>h.2.2.2.2,fun h=>⟨n0,n16,hn,hok,h⟩⟩
   simp [this];omega
  ·intro i hi ih hok
   have hr:=hs.row hi
   refine step1 (fun _ _ _ _ _=>Ei.l1.eq_2 ..) ?_
   refine posD (by omega) (pos (by omega) ?_)
   rw [rd1N]
   refine bnd (gmay_ev _ (by omega)) ?_
   have hno:¬ RowP g.N (g.Out.getD i [])→decide (GraphP g)=false:=fun h=>by
    have:¬ GraphP g:=fun hg=>h (hg.2.2.2.1 i hi)
    simp [this]
   have hgo:RowP g.N (g.Out.getD i [])→∀ j,j<i+1→RowP g.N (g.Out.getD j []):=fun h j hj=>by
    by_cases e:j=i
    ·subst e;exact h
    ·exact hok j (by omega)
   by_cases hm:MayP (g.Out.getD i [])
   ·refine neg (by simpa using hm) ?_
    rw [w1 (by omega)]
    by_cases h0:0<(g.Out.getD i []).length
    ·refine posD (by omega) ?_
     have e1:wr .i64 (((g.Out.getD i []).length:Int)-1)=(((g.Out.getD i []).length-1:Nat):Int):=by rw [w64 (by omega) (by omega)];omega
     rw [e1,rdN]
     refine pos (by omega) ?_
     by_cases hlt:(g.Out.getD i []).getD ((g.Out.getD i []).length-1) 0≥g.N
     ·exact posD hlt (nowE (hno fun h=>by have:=h.2 h0;omega).symm)
     ·exact negD hlt (ih (hgo ⟨hm,fun _=>by omega⟩))
    ·exact negD (by omega) (ih (hgo ⟨hm,fun h=>absurd h h0⟩))
   ·exact pos (by simpa using hm) (nowE (hno fun h=>hm h.1).symm)
 unfold Ei
 by_cases h0:g.N<0
 ·exact posD h0 (nowE (by have:¬ GraphP g:=fun hg=>by have:=hg.1;omega
                          simp [this]))
 ·refine negD h0 ?_
  by_cases h1:g.N > 16
  ·exact posD h1 (nowE (by have:¬ GraphP g:=fun hg=>by have:=hg.2.1;omega
                           simp [this]))
  ·refine negD h1 ?_
   by_cases hn:(g.Out.length:Int)=g.N
   ·exact negN hn (key hn (by omega) (by omega) 0 (by omega) (fun j hj=>by omega)).e1
   ·exact posN hn (nowE (by have:¬ GraphP g:=fun hg=>hn hg.2.2.1
                            simp [this]))
theorem eqG_ev (g:Ac) (hs:GSm g):E0 (fun K=>Dl K g g) true:=by
 have key:∀ i,i≤g.Out.length→E1 (fun K k=>Bj.l1 K g.Out g.Out k (i:Int)) true:=by
  have hl:g.Out.length≤1000000:=by unfold GSm at hs;omega
  refine upto ?_ ?_
  ·refine step1 (fun _ _ _ _ _=>Bj.l1.eq_2 ..) ?_
   exact negD (by omega) (now _)
  ·intro i hi ih
   refine step1 (fun _ _ _ _ _=>Bj.l1.eq_2 ..) ?_
   refine posD (by omega) (pos (by omega) (pos (by omega) ?_))
   rw [rd1N]
   refine bnd (eqn_ev _ _ (hs.row hi)) (negM rfl ?_)
   rw [w1 (by omega)]
   exact ih
 unfold Dl Bj
 exact posE rfl (tail (negN rfl (key 0 (by omega)).e1))
end Go.XL
end
end
section
section
namespace Go.XL
open Go.XM
structure GP (g:Ac):Prop where
 n:g.N=(g.Out.length:Int)
 le:g.Out.length≤16
 may:∀ l∈g.Out,MayP l
 sum:lsum g.Out≤120
theorem GraphP.gp {g:Ac} (h:GraphP g):GP g:=by
 obtain ⟨h1,h2,h3,h4,h5⟩:=h
 refine ⟨h3.symm,by omega,fun l hl=>?_,h5⟩
 obtain ⟨i,hi,rfl⟩:=List.mem_iff_getElem.1 hl
 have:=(h4 i hi).1
 rwa [getD_lt hi] at this
theorem GraphP.sm {g:Ac} (h:GraphP g):GSm g:=by
 have:=h.gp
 have a:=this.le
 have b:=this.sum
 unfold GSm;omega
end Go.XL
end
end
section
section
namespace Go.XL
open Go.XM
def part (g:Ac) (m:Nat):Ac:=(g.N,g.Out.take m++List.replicate (g.Out.length-m) [])
end Go.XL
end
end
section
section
namespace Go.XL
open Go.XM
def dl (g:Ac) (v:Nat):List Int:=g.Out.getD v []
theorem dl_may {g:Ac} (h:GP g) (v:Nat):MayP (dl g v):=by
 unfold dl
 by_cases hv:v<g.Out.length
 ·exact h.may _ (getD_mem hv)
 ·rw [List.getD_eq_getElem?_getD,List.getElem?_eq_none (by omega)];decide
end Go.XL
end
end
section
section
namespace Go.XL
open Go.XM
theorem bt_nat (s:ByteArray) (j:Int):∃ a:Nat,bt s j=(a:Int)∧a<256:=by
 unfold bt
 generalize s.data.toList.getD j.toNat 0=u
 exact ⟨u.toNat,rfl,u.toNat_lt⟩
def bof (s:ByteArray) (i:Nat):Int:=(((bt s ((i / 8:Nat):Int)).toNat / 2 ^ (7-i % 8) % 2:Nat):Int)
theorem bof_01 (s:ByteArray) (i:Nat):bof s i=0∨bof s i=1:=mod2 _
def Zs (s:ByteArray) (n:Nat):Prop:=∀ i,i<8*s.size→n≤i→bof s i=0
instance (s:ByteArray) (n:Nat):Decidable (Zs s n):=by unfold Zs;infer_instance
def MayB (b:Cu):Prop:=0≤b.N∧b.N≤6000∧b.Data.size=(b.N.toNat+7) / 8∧Zs b.Data b.N.toNat
instance (b:Cu):Decidable (MayB b):=by unfold MayB;infer_instance
def ofb (b:Cu):List Int:=(List.range b.N.toNat).map (bof b.Data)
theorem ofb_len (b:Cu):(ofb b).length=b.N.toNat:=by simp [ofb]
theorem ofb_Bt (b:Cu):Bt (ofb b):=by
 intro x hx
 simp only [ofb,List.mem_map] at hx
 obtain ⟨i,_,rfl⟩:=hx
 exact bof_01 _ _
theorem rbit_eq {b:Cu} {K i:Nat} (hi:i<8*b.Data.size) (hs:b.Data.size≤1000000):Et K b (i:Int)=some (bof b.Data i):=by
 obtain ⟨a,a1,a2⟩:=bt_nat b.Data ((i / 8:Nat):Int)
 have f1:wr .i64 ((i:Int).tdiv 8)=((i / 8:Nat):Int):=by rw [show (8:Int)=((8:Nat):Int) from rfl,tdivN];exact w64 (by omega) (by omega)
 have f2:wr .i64 (7-((i:Int).tmod 8))=((7-i % 8:Nat):Int):=by rw [show (8:Int)=((8:Nat):Int) from rfl,tmodN,w64 (by omega) (by omega)];omega
 have f3:=shrN (v:=a) (w:=7-i % 8) (by omega)
 have hle:a / 2 ^ (7-i % 8)≤a:=Nat.div_le_self _ _
 have f4:bof b.Data i=((a / 2 ^ (7-i % 8) % 2:Nat):Int):=by unfold bof;rw [a1,Int.toNat_natCast]
 unfold Et
 rw [f1,f2,a1,w64 (i:=(a:Int)) (by omega) (by omega),f3,and1 (by omega),f4]
 rw [if_pos (by decide),if_pos ⟨by omega,by omega⟩,if_pos (by decide),if_pos (by omega)]
theorem rBits_ev {b:Cu} (hs:b.Data.size≤1000000):E0 (fun K=>Cj K b) (decide (MayB b)):=by
 refine bnd (congr (fun K _ _ _ _=>num_eq K b.N 6000) (now _)) ?_
 by_cases h:0≤b.N∧b.N≤6000
 ·refine negM h (pos (by decide) ?_)
  have e1:wr .i64 ((wr .i64 (b.N+7)).tdiv 8)=(((b.N.toNat+7) / 8:Nat):Int):=by
   rw [w64 (i:=b.N+7) (by omega) (by omega),show b.N+7=((b.N.toNat+7:Nat):Int) by omega]
   rw [show (8:Int)=((8:Nat):Int) from rfl,tdivN,w64 (by omega) (by omega)]
  rw [e1]
  by_cases h2:b.Data.size=(b.N.toNat+7) / 8
  ·refine negN (by omega) ?_
   have key:∀ i,i≤8*b.Data.size→E1 (fun K k=>Cj.l1 K b k (i:Int)) (decide (Zs b.Data i)):=by
    have e2:wr .i64 (8*((b.Data.size:Nat):Int))=((8*b.Data.size:Nat):Int):=by rw [w64 (by omega) (by omega)];omega
    refine upto ?_ ?_
    ·refine step1 (fun _ _ _ _ _=>Cj.l1.eq_2 ..) ?_
     rw [e2]
     exact negD (by omega) (nowE (by rw [decide_eq_true];intro i h1 h2;omega))
    ·intro i hi ih
     refine step1 (fun _ _ _ _ _=>Cj.l1.eq_2 ..) ?_
     rw [e2]
     refine posD (by omega) (bnd (congr (fun K _ _ _ _=>rbit_eq hi hs) (now _)) ?_)
     by_cases e:bof b.Data i=0
     ·refine negN e ?_
      rw [w1 (by omega)]
      refine ofEq ih ?_
      rw [Bool.eq_iff_iff,decide_eq_true_iff,decide_eq_true_iff]
      constructor
      ·intro z j h1 h2
       by_cases q:j=i
       ·rw [q];exact e
       ·exact z j h1 (by omega)
      ·intro z j h1 h2;exact z j h1 (by omega)
     ·refine posN e (nowE ?_)
      exact (decide_eq_false (fun z=>e (z i hi (Nat.le_refl _)))).symm
   have hk:=key b.N.toNat (by omega)
   rw [show ((b.N.toNat:Nat):Int)=b.N by omega] at hk
   refine ofEq hk.e1 ?_
   rw [Bool.eq_iff_iff,decide_eq_true_iff,decide_eq_true_iff]
   exact ⟨fun z=>⟨h.1,h.2,h2,z⟩,fun z=>z.2.2.2⟩
  ·refine posN (by omega) (nowE ?_)
   exact (decide_eq_false (fun z=>h2 z.2.2.1)).symm
 ·refine posM h (nowE ?_)
  exact (decide_eq_false (fun z=>h ⟨z.1,z.2.1⟩)).symm
theorem Zs_last {s:ByteArray} {q t:Nat} (hs:s.size=q+1) (ht:t<8) (h0:0<t) {a:Nat} (ha:bt s (q:Int)=(a:Int)) (ha2:a<256):Zs s (8*q+t)↔a % 2 ^ (8-t)=0:=by
 have hb:∀ r,r<8→bof s (8*q+r)=((a / 2 ^ (7-r) % 2:Nat):Int):=by
  intro r hr
  unfold bof
  rw [show (8*q+r) / 8=q by omega,show (8*q+r) % 8=r by omega,ha,Int.toNat_natCast]
 have:t=1∨t=2∨t=3∨t=4∨t=5∨t=6∨t=7:=by omega
 constructor
 ·intro z
  have hz:∀ r,t≤r→r<8→a / 2 ^ (7-r) % 2=0:=by
   intro r h1 h2
   have:=z (8*q+r) (by omega) (by omega)
   rw [hb r h2] at this;omega
  have z1:=hz 1;have z2:=hz 2;have z3:=hz 3;have z4:=hz 4;have z5:=hz 5;have z6:=hz 6;have z7:=hz 7
  simp only [Nat.reduceSub,Nat.reducePow,Nat.reduceLT,forall_const] at z1 z2 z3 z4 z5 z6 z7
  rcases this with rfl | rfl | rfl | rfl | rfl | rfl | rfl <;> simp only [Nat.reduceSub,Nat.reducePow] <;> omega
 ·intro hm i h1 h2
  obtain ⟨r,rfl⟩:∃ r,i=8*q+r:=⟨i-8*q,by omega⟩
  rw [hb r (by omega)]
  have hr:r=1∨r=2∨r=3∨r=4∨r=5∨r=6∨r=7:=by omega
  rcases this with rfl | rfl | rfl | rfl | rfl | rfl | rfl <;> simp only [Nat.reduceSub,Nat.reducePow] at hm <;> rcases hr with rfl | rfl | rfl | rfl | rfl | rfl | rfl <;> simp only [Nat.reduceSub,Nat.reducePow] <;> omega
theorem bMay_eq {b:Cu} (hs:b.Data.size≤1000000) (K:Nat):Gl K b=some (decide (MayB b)):=by
 unfold Gl
 by_cases h1:b.N<0
 ·rw [if_pos (decide_eq_true h1),decide_eq_false (fun z=>by have:=z.1;omega)]
 rw [if_neg (by simpa using h1)]
 by_cases h2:b.N > 6000
 ·rw [if_pos (decide_eq_true h2),decide_eq_false (fun z=>by have:=z.2.1;omega)]
 rw [if_neg (by simpa using h2),if_pos (by decide)]
 obtain ⟨n,hn⟩:=Int.eq_ofNat_of_zero_le (show 0≤b.N by omega)
 have e1:wr .i64 ((wr .i64 ((wr .i64 (b.N+8))-1)).tdiv 8)=(((n+7) / 8:Nat):Int):=by
  rw [w64 (i:=b.N+8) (by omega) (by omega),w64 (i:=b.N+8-1) (by omega) (by omega),show b.N+8-1=((n+7:Nat):Int) by omega]
  rw [show (8:Int)=((8:Nat):Int) from rfl,tdivN,w64 (by omega) (by omega)]
 have e2:(b.N.tmod 8)=((n % 8:Nat):Int):=by rw [hn];exact tmodN _ 8
 have e0:b.N.toNat=n:=by omega
 rw [e1,e2]
 by_cases h3:b.Data.size=(n+7) / 8
 ·rw [if_neg (by simp [h3]),if_pos (by decide)]
  by_cases h4:n % 8=0
  ·rw [if_pos (by simp [h4]),decide_eq_true]
   exact ⟨by omega,by omega,by rw [e0];exact h3,fun i a1 a2=>by omega⟩
  ·obtain ⟨a,a1,a2⟩:=bt_nat b.Data ((n / 8:Nat):Int)
   have e3:wr .i64 (((b.Data.size:Nat):Int)-1)=((n / 8:Nat):Int):=by rw [w64 (by omega) (by omega)];omega
   have e4:(255:Int).fdiv (2 ^ min (((n % 8:Nat):Int)).toNat 8)=((2 ^ (8-n % 8)-1:Nat):Int):=by
    rw [Int.toNat_natCast]
    have:n % 8=1∨n % 8=2∨n % 8=3∨n % 8=4∨n % 8=5∨n % 8=6∨n % 8=7:=by omega
    rcases this with e | e | e | e | e | e | e <;> rw [e] <;> decide
   rw [if_neg (by simp;omega),e3,if_pos ⟨by omega,by omega⟩,if_pos (by omega),a1,e4,and8 a2 (by omega)]
   have hz:=Zs_last (s:=b.Data) (q:=n / 8) (t:=n % 8) (by omega) (by omega) (by omega) a1 a2
   rw [show 8*(n / 8)+n % 8=n by omega] at hz
   congr 1
   rw [Bool.eq_iff_iff,decide_eq_true_iff]
   constructor
   ·intro q
    have:a % 2 ^ (8-n % 8)=0:=by have:=of_decide_eq_true q;omega
    exact ⟨by omega,by omega,by rw [e0];exact h3,by rw [e0];exact hz.2 this⟩
   ·intro q
    have:=hz.1 (by have:=q.2.2.2;rwa [e0] at this)
    rw [this];rfl
 ·rw [if_pos (by simp;omega),decide_eq_false (fun z=>h3 (by have:=z.2.2.1;rwa [e0] at this))]
theorem rOf_ev {b:Cu} (h:MayB b):E0 (fun K=>Dk K b) (ofb b):=by
 obtain ⟨h1,h2,h3,h4⟩:=h
 have key:∀ i,i≤b.N.toNat→E1 (fun K k=>Dk.l1 K b k (i:Int) ((List.range i).map (bof b.Data))) (ofb b):=by
  refine upto ?_ ?_
  ·refine step1 (fun _ _ _ _ _=>Dk.l1.eq_2 ..) ?_
   exact negD (by omega) (now _)
  ·intro i hi ih
   refine step1 (fun _ _ _ _ _=>Dk.l1.eq_2 ..) ?_
   refine posD (by omega) (bnd (congr (fun K _ _ _ _=>rbit_eq (by omega) (by omega)) (now _)) ?_)
   have e:wr .u8 (bof b.Data i)=bof b.Data i:=by unfold bof;exact u8N (by omega)
   rw [e,w1 (by omega)]
   refine pos (by simp;omega) (ofEq (congr (fun K k _ _ _=>?_) ih) rfl)
   rw [List.range_succ,List.map_append];rfl
 exact (key 0 (by omega)).e1
end Go.XL
end
end
section
section
namespace Go.XL
open Go.XM
theorem ahead_split:∀ {m:List Int} {z:Nat},Bt m→ahead m=some z→m=List.replicate z 0++1::m.drop (z+1)
 | [],z,_,h=>by cases h
 | x::m,z,hB,h=>by
  simp only [ahead] at h
  split at h
  ·rename_i e;cases h;subst e;simp
  ·rename_i e
   rw [Option.map_eq_some_iff] at h
   obtain ⟨z',h,rfl⟩:=h
   have hx:=(hB x List.mem_cons_self).resolve_right e
   have ih:=ahead_split (fun y hy=>hB y (List.mem_cons_of_mem _ hy)) h
   subst hx
   rw [List.replicate_succ,List.cons_append,List.drop_succ_cons]
   congr 1
theorem nb_val:∀ {t:List Int},Bt t→∀ m:Nat,nb (m*2 ^ t.length+(val t).toNat) t.length=t
 | [],_,m=>rfl
 | x::t,h,m=>by
  have ht:Bt t:=fun y hy=>h y (List.mem_cons_of_mem _ hy)
  obtain ⟨v0,v1⟩:=val_rng ht
  obtain ⟨b,hb⟩:=Int.eq_ofNat_of_zero_le v0
  have hb2:b<2 ^ t.length:=by
   rw [hb] at v1
   have:((b:Nat):Int)<((2 ^ t.length:Nat):Int):=by push_cast;exact v1
   omega
  obtain ⟨a,ha,ha2⟩:∃ a:Nat,x=(a:Int)∧a<2:=by
   rcases h x List.mem_cons_self with e | e
   ·exact ⟨0,e,by omega⟩
   ·exact ⟨1,e,by omega⟩
  have hv:(val (x::t)).toNat=a*2 ^ t.length+b:=by
   rw [val_cons,ha,hb]
   have:((a:Int)*2 ^ t.length+(b:Int))=((a*2 ^ t.length+b:Nat):Int):=by push_cast;rfl
   rw [this,Int.toNat_natCast]
  have ih:=nb_val ht (2*m+a)
  rw [hb,Int.toNat_natCast] at ih
  have e:m*2 ^ (x::t).length+(val (x::t)).toNat=(2*m+a)*2 ^ t.length+b:=by
   rw [hv,List.length_cons,Nat.pow_succ,Nat.add_mul,← Nat.mul_assoc,Nat.mul_comm (m*2 ^ t.length) 2,← Nat.mul_assoc,Nat.add_assoc]
  rw [e,List.length_cons]
  simp only [nb]
  rw [ih]
  have hp:0<2 ^ t.length:=Nat.two_pow_pos _
  have e2:((2*m+a)*2 ^ t.length+b) / 2 ^ t.length=2*m+a:=by
   rw [Nat.mul_comm,Nat.mul_add_div hp,Nat.div_eq_of_lt hb2,Nat.add_zero]
  rw [e2,ha,show (2*m+a) % 2=a by omega]
theorem rg_can {l:List Int} (h:Bt l) {at_:Nat} {v:Int} {n:Nat} (hr:rg l at_=some (v,n)):∃ k:Nat,v=(k:Int)∧0<k∧k≤1073741824∧gam k <+: l.drop at_∧n=at_+(gam k).length:=by
 unfold rg at hr
 cases hah:ahead (l.drop at_) with
 | none=>rw [hah] at hr;cases hr
 | some z =>
  rw [hah] at hr
  simp only at hr
  split at hr
  ·rename_i c
   obtain ⟨c1,c2,c3⟩:=c
   have hB:Bt (l.drop at_):=fun x hx=>h x (List.mem_of_mem_drop hx)
   have hs:=ahead_split hB hah
   generalize hm:(l.drop at_).drop (z+1)=m at hs
   have hlen:z≤m.length:=by rw [← hm];simp;omega
   have hd:l.drop (at_+z)=1::m:=by
    rw [← List.drop_drop,hs]
    rw [List.drop_append_of_le_length (by simp)]
    simp
   have ht:(l.drop (at_+z)).take (z+1)=1::m.take z:=by rw [hd,List.take_succ_cons]
   rw [ht] at hr c3
   have hBt:Bt (m.take z):=fun x hx=>by
    refine hB x ?_
    rw [hs];exact List.mem_append_right _ (List.mem_cons_of_mem _ (List.mem_of_mem_take hx))
   have htl:(m.take z).length=z:=by simp;omega
   obtain ⟨w0,w1⟩:=val_rng hBt
   obtain ⟨b,hb⟩:=Int.eq_ofNat_of_zero_le w0
   have hb2:b<2 ^ z:=by
    rw [hb,htl] at w1
    have:((b:Nat):Int)<((2 ^ z:Nat):Int):=by push_cast;exact w1
    omega
   have hv:val (1::m.take z)=((2 ^ z+b:Nat):Int):=by rw [val_cons,htl,hb];push_cast;omega
   rw [hv] at hr c3
   cases hr
   have hp:0<2 ^ z:=Nat.two_pow_pos _
   have hlog:Nat.log2 (2 ^ z+b)=z:=by
    have h1:z≤Nat.log2 (2 ^ z+b):=(Nat.le_log2 (by omega)).2 (by omega)
    have h2:Nat.log2 (2 ^ z+b)<z+1:=(Nat.log2_lt (by omega)).2 (by rw [Nat.pow_succ];omega)
    omega
   have hnb:=nb_val hBt 1
   rw [htl,hb,Int.toNat_natCast,Nat.one_mul] at hnb
   have hg:gam (2 ^ z+b)=List.replicate z 0++1::m.take z:=by rw [gam_eq (by omega),hlog,hnb]
   refine ⟨2 ^ z+b,rfl,by omega,by omega,?_,?_⟩
   ·rw [hg,hs]
    refine (List.prefix_append_right_inj _).2 ?_
    rw [List.cons_prefix_cons]
    exact ⟨rfl,List.take_prefix _ _⟩
   ·rw [gam_len,hlog];omega
  ·cases hr
theorem pre_split {l x:List Int} {at_:Nat} (hat:at_≤l.length) (h:x <+: l.drop at_):∃ b,l=l.take at_++x++b∧(l.take at_).length=at_:=by
 obtain ⟨b,hb⟩:=h
 exact ⟨b,by rw [List.append_assoc,hb,List.take_append_drop],by simp;omega⟩
theorem pre_len {l x:List Int} {at_:Nat} (h:x <+: l.drop at_):x.length≤l.length-at_:=by
 have:=h.length_le;rwa [List.length_drop] at this
theorem pre_app {l x y:List Int} {at_:Nat} (h1:x <+: l.drop at_) (h2:y <+: l.drop (at_+x.length)):x++y <+: l.drop at_:=by
 obtain ⟨b,hb⟩:=h1
 rw [← List.drop_drop,← hb,List.drop_left] at h2
 rw [← hb]
 exact (List.prefix_append_right_inj _).2 h2
theorem pre_inv {l x y:List Int} {at_:Nat} (h:x++y <+: l.drop at_):x <+: l.drop at_∧y <+: l.drop (at_+x.length):=by
 obtain ⟨b,hb⟩:=h
 refine ⟨⟨y++b,by rw [← hb,List.append_assoc]⟩,?_⟩
 rw [← List.drop_drop,← hb,List.append_assoc,List.drop_left]
 exact ⟨b,rfl⟩
theorem rg_pre {l:List Int} {at_ n:Nat} (hat:at_≤l.length) (h0:0<n) (hn:n≤1073741824) (h:gam n <+: l.drop at_):rg l at_=some ((n:Int),at_+(gam n).length):=by
 obtain ⟨b,hb,hl⟩:=pre_split hat h
 have:=rg_gam h0 hn (l.take at_) b
 rw [← hb,List.length_append,hl] at this
 exact this
theorem unf_rng {n:Nat} (h:n≤1073741824):-1073741824≤unf (n:Int)∧unf (n:Int)≤1073741824:=by unfold unf;split <;> omega
def cod (v:Int) (i:Nat) (last:Int) (q:List Int):List Nat:=if i=0 then stp v q else dif last q
theorem cod_nil (v:Int) (i:Nat) (last:Int):cod v i last []=[]:=by unfold cod;split <;> rfl
theorem cod_cons (v:Int) (i:Nat) (last x:Int) (q:List Int):cod v i last (x::q)=(if i=0 then fold (x-v)+1 else (x-last).toNat)::cod v (i+1) x q:=by
 unfold cod
 rw [if_neg (show ¬ i+1=0 by omega)]
 by_cases h:i=0
 ·rw [if_pos h,if_pos h];rfl
 ·rw [if_neg h,if_neg h];rfl
end Go.XL
end
end
section
section
namespace Go.XL
open Go.XM
def IsR (l:List Int) (at_:Nat) (v:Int) (q:List Int):Prop:=MayP q∧runb v q <+: l.drop at_
open Classical in
noncomputable def tkR (l:List Int) (at_:Nat) (v:Int):Option (List Int × Nat):=if h:∃ q,IsR l at_ v q then some (h.choose,at_+(runb v h.choose).length) else none
theorem tkR_some {l:List Int} {at_:Nat} {v:Int} {q:List Int} {n:Nat} (h:tkR l at_ v=some (q,n)):IsR l at_ v q∧n=at_+(runb v q).length:=by
 unfold tkR at h
 split at h
 ·rename_i hq;cases h;exact ⟨hq.choose_spec,rfl⟩
 ·cases h
theorem tkR_none {l:List Int} {at_:Nat} {v:Int} (h:tkR l at_ v=none) (q:List Int):¬ IsR l at_ v q:=by
 unfold tkR at h
 split at h
 ·cases h
 ·rename_i hq;exact fun z=>hq ⟨q,z⟩
end Go.XL
end
end
section
section
namespace Go.XL
open Go.XM
theorem rzig_eq {K:Nat} {z:Int} (h:-1000≤z) (h2:z≤1000):Ee K z=some (fold z:Int):=by
 unfold Ee fold
 by_cases c:z<0
 ·rw [if_neg (by simp;omega),if_pos c,w64 (i:=-2*z) (by omega) (by omega),w64 (by omega) (by omega)]
  congr 1;omega
 ·rw [if_pos (by simp;omega),if_neg c,w64 (by omega) (by omega)]
  congr 1;omega
theorem RGaps_ev {v:Int} {l b:List Int} (h:MayP l) (hv:0≤v) (hv2:v≤15) (hlen:b.length≤1099500000000):E0 (fun K=>Cn K b v l) (b++gap v l):=by
 have hl:=h.len
 obtain ⟨_,h2⟩:=(mayP_iff _).1 h
 have hsm:=stp_small h hv hv2
 have key:∀ i,i≤l.length→E1 (fun K k=>Cn.l1 K v l k (i:Int) (b++gams ((l.length+1)::(stp v l).take i))) (b++gap v l):=by
  refine upto ?_ ?_
  ·refine step1 (fun _ _ _ _ _=>Cn.l1.eq_2 ..) ?_
   refine negD (by omega) (nowE ?_)
   rw [List.take_of_length_le (by rw [stp_len];omega)];rfl
  ·intro i hi ih
   refine step1 (fun _ _ _ _ _=>Cn.l1.eq_2 ..) ?_
   obtain ⟨s1,s2⟩:=stp_rng h hv hv2 hi
   have hB2:(b++gams ((l.length+1)::(stp v l).take i)).length≤1099511000000:=by
    have:=gams_len ((l.length+1)::(stp v l).take i) (fun n hn=>by
     rcases List.mem_cons.1 hn with rfl | hn
     ·omega
     ·exact (hsm n (List.mem_of_mem_take hn)).2)
    rw [List.length_cons,List.length_take,stp_len] at this
    rw [List.length_append];omega
   have hnext:b++gams ((l.length+1)::(stp v l).take i)++gam ((stp v l).getD i 0)=b++gams ((l.length+1)::(stp v l).take (i+1)):=by
    rw [take_getD (d:=0) (by rw [stp_len];exact hi:i<(stp v l).length),← List.cons_append,gams_app,List.append_assoc]
    simp [gams]
   have hlay:=RWrite_ev (n:=(stp v l).getD i 0) (l:=b++gams ((l.length+1)::(stp v l).take i)) (by omega) hB2
   rw [hnext] at hlay
   have a:=h2 _ (getD_mem (d:=0) hi)
   rw [w1 (by omega)]
   refine posD (by omega) ?_
   by_cases h0:i=0
   ·subst h0
    refine posE (by omega) (pos (by omega) ?_)
    rw [show (nth l 0:Int)=l.getD 0 0 from rdN l 0,w64 (i:=l.getD 0 0-v) (by omega) (by omega)]
    refine bnd (congr (fun K _ _ _ _=>rzig_eq (by omega) (by omega)) (now _)) ?_
    have e1:wr .i64 ((fold (l.getD 0 0-v):Int)+1)=(((stp v l).getD 0 0:Nat):Int):=by
     rw [stp_get v hi,if_pos rfl,w1 (by unfold fold;split <;> omega)]
    rw [e1]
    exact bnd hlay ih
   ·refine negE (by omega) ?_
    have e2:wr .i64 ((i:Int)-1)=((i-1:Nat):Int):=by rw [w64 (by omega) (by omega)];omega
    have b1:=(h i hi).2.2 (by omega)
    have c:=h2 _ (getD_mem (d:=0) (show i-1<l.length by omega))
    rw [e2,rdN,rdN]
    refine pos (by omega) (pos (by omega) ?_)
    have e1:wr .i64 (l.getD i 0-l.getD (i-1) 0)=(((stp v l).getD i 0:Nat):Int):=by
     rw [stp_get v hi,if_neg h0,w64 (by omega) (by omega)];omega
    rw [e1]
    exact bnd hlay ih
 have hlay:=RWrite_ev (n:=l.length+1) (l:=b) (by omega) (by omega)
 have hk:=(key 0 (by omega)).e1
 rw [List.take_zero] at hk
 have e:gams [l.length+1]=gam (l.length+1):=by simp [gams]
 rw [e] at hk
 refine congr (f:=fun K _ _ _ _=>(Ae K b 2 ((l.length+1:Nat):Int)).bind fun r12=>Cn.l1 K v l K (0:Int) r12) (fun K _ _ _ _=>by unfold Cn;rw [w1 (by omega)]) ?_
 exact bnd hlay hk
def endR (r:List Ah) (i:Nat):Int:=if i=0 then 0 else (r.getD (i-1) default).At+(r.getD (i-1) default).Len
theorem endR_succ (r:List Ah) (i:Nat):endR r (i+1)=(r.getD i default).At+(r.getD i default).Len:=by simp [endR]
theorem rruns_l1 {v:Int} (hv:0≤v) (hv2:v≤15) {r:List Ah} {s:List Int} (hs:MayP s) (hr:r.length≤100) (ho:OkR (-1) r):∀ i,i≤r.length→∀ c:List Int,c.length+30*(r.length-i)≤1099400000000 →
  E1 (fun K k=>Bf.l1 K (r,s) v k (i:Int) c) (c++gams (rcod v i (endR r i) (r.drop i))++gap v s):=by
 refine upto ?_ ?_
 ·intro c hl
  refine step1 (fun _ _ _ _ _=>Bf.l1.eq_2 ..) ?_
  refine negD (by show ¬ ((r.length:Int)<(r.length:Int));omega) ?_
  refine bnd (RGaps_ev hs hv hv2 (by omega)) (nowE ?_)
  rw [List.drop_length]
  have:rcod v r.length (endR r r.length) []=[]:=by unfold rcod;split <;> rfl
  rw [this];simp [gams]
 ·intro i hi ih c hl
  obtain ⟨x1,x3,x4,x5⟩:=okR_get ho i hi
  refine step1 (fun _ _ _ _ _=>Bf.l1.eq_2 ..) ?_
  refine posD (by show (i:Int)<(r.length:Int);omega) ?_
  have hrc:rcod v i (endR r i) (r.drop i)=(if i=0 then fold ((r.getD i default).At-v)+1 else ((r.getD i default).At-endR r i).toNat)::((r.getD i default).Len-2).toNat::rcod v (i+1) (endR r (i+1)) (r.drop (i+1)):=by
   rw [drop_getD (d:=default) hi,rcod_cons,endR_succ]
  rw [hrc]
  have hj:∀ (n:Nat),0<n→n<256→Ev (fun K k _ _ _=>Bf.j2 K (Bf.l1 K (r,s) v k) (r,s) (i:Int) v (c++gam n)) (c++gams (n::((r.getD i default).Len-2).toNat::rcod v (i+1) (endR r (i+1)) (r.drop (i+1)))++gap v s):=by
   intro n n0 n1
   have hg:=gam_len8 n1
   have e1:wr .i64 ((wr .i64 ((r.getD i default).Len-3))+1)=((((r.getD i default).Len-2).toNat:Nat):Int):=by rw [w64 (i:=(r.getD i default).Len-3) (by omega) (by omega),w64 (by omega) (by omega)];omega
   have hg2:=gam_len8 (show ((r.getD i default).Len-2).toNat<256 by omega)
   refine pos ⟨by omega,by show (i:Int)<(r.length:Int);omega⟩ ?_
   show Ev (fun K k _ _ _=>(Ae K (c++gam n) 2 (wr .i64 ((wr .i64 (((nth r (i:Int)).Len)-3))+1))).bind fun r67=>Bf.l1 K (r,s) v k (wr .i64 ((i:Int)+1)) r67) _
   rw [rdR,e1,w1 (by omega)]
   refine bnd (RWrite_ev (by omega) (by rw [List.length_append];omega)) ?_
   have:=ih (c++gam n++gam ((r.getD i default).Len-2).toNat) (by simp only [List.length_append];omega)
   refine ofEq this ?_
   simp only [gams_cons,List.append_assoc]
  by_cases hz:i=0
  ·subst hz
   refine posE rfl (pos ⟨by omega,by show (0:Int)<(r.length:Int);omega⟩ ?_)
   simp only [if_pos rfl]
   rw [show (nth r 0)=r.getD 0 default from rdR r 0,w64 (i:=(r.getD 0 default).At-v) (by omega) (by omega)]
   refine bnd (congr (fun K _ _ _ _=>rzig_eq (by omega) (by omega)) (now _)) ?_
   have hf:fold ((r.getD 0 default).At-v)+1<256:=by unfold fold;split <;> omega
   rw [w1 (by omega)]
   exact bnd (RWrite_ev (by omega) (by omega)) (hj _ (by omega) hf)
  ·simp only [if_neg hz]
   have e0:wr .i64 ((i:Int)-1)=((i-1:Nat):Int):=by rw [w64 (by omega) (by omega)];omega
   obtain ⟨y1,y3,y4,y5⟩:=okR_get ho (i-1) (by omega)
   have x5:=x5 (by omega)
   have he:endR r i=(r.getD (i-1) default).At+(r.getD (i-1) default).Len:=by simp [endR,hz]
   refine negE (by omega) (pos ⟨by omega,by show (i:Int)<(r.length:Int);omega⟩ ?_)
   rw [e0,rdR,rdR]
   refine pos ⟨by omega,by show ((i-1:Nat):Int)<(r.length:Int);omega⟩ (pos ⟨by omega,by show ((i-1:Nat):Int)<(r.length:Int);omega⟩ ?_)
   have e1:wr .i64 ((wr .i64 ((r.getD i default).At-(r.getD (i-1) default).At))-(r.getD (i-1) default).Len)=((((r.getD i default).At-endR r i).toNat:Nat):Int):=by
    rw [he,w64 (i:=(r.getD i default).At-(r.getD (i-1) default).At) (by omega) (by omega),w64 (by omega) (by omega)];omega
   rw [e1]
   exact bnd (RWrite_ev (by omega) (by omega)) (hj _ (by omega) (by omega))
theorem RRuns_ev {v:Int} {l b:List Int} (h:MayP l) (hv:0≤v) (hv2:v≤15) (hlen:b.length≤1099300000000):E0 (fun K=>Bf K b v l) (b++runb v l):=by
 obtain ⟨a1,a2,a3⟩:=parts_may h
 have hr:=(a1.len (by omega)).1
 have hr2:=(a1.len (by omega)).2
 have hg:=gam_len8 (show (parts l).1.length+1<256 by omega)
 refine bnd (Split_ev (may_Sm h)) ?_
 show Ev (fun K _ _ _ _=>(Ae K b 2 (wr .i64 ((((parts l).1.length:Nat):Int)+1))).bind fun r19=>Bf.l1 K (parts l) v K (0:Int) r19) _
 rw [w1 (by omega)]
 refine bnd (RWrite_ev (by omega) (by omega)) ?_
 have:=rruns_l1 hv hv2 (r:=(parts l).1) a2 (by omega) a1 0 (by omega) (b++gam ((parts l).1.length+1)) (by rw [List.length_append];omega)
 refine ofEq this.e1 ?_
 rw [runb,gams_cons,show rcod v 0 (endR (parts l).1 0) ((parts l).1.drop 0)=rnum v (parts l).1 from rfl]
 simp only [List.append_assoc]
theorem nil0_l1 (K:Nat) (r:List Ah × List Int) (v:Int):∀ (k:Nat) (i:Int) (b:List Int),A7.l1 K r v k i b=Bf.l1 K r v k i b
 | 0,_,_=>rfl
 | k+1,i,b=>by
  have ih:A7.l1 K r v k=Bf.l1 K r v k:=by funext i b;exact nil0_l1 K r v k i b
  rw [A7.l1.eq_2,Bf.l1.eq_2,ih];rfl
theorem nil0_eq (K:Nat) (x l:List Int) (v:Int):A7 K x v l=Bf K [] v l:=by
 unfold A7 Bf
 simp only [nil0_l1]
theorem RRuns0_ev {v:Int} {l x:List Int} (h:MayP l) (hv:0≤v) (hv2:v≤15):E0 (fun K=>A7 K x v l) (runb v l):=by
 refine congr (fun K _ _ _ _=>nil0_eq K x l v) ?_
 have:=RRuns_ev (b:=[]) h hv hv2 (by simp)
 rwa [List.nil_append] at this
end Go.XL
end
end
section
section
namespace Go.XL
open Go.XM
theorem rzag_eq {K:Nat} {n:Nat} (h:n≤1073741824):Ed K (n:Int)=some (unf n):=by
 unfold Ed unf
 have em:((n:Int).tmod 2)=((n % 2:Nat):Int):=(Int.ofNat_tmod n 2).symm
 have ed:((n:Int).tdiv 2)=((n / 2:Nat):Int):=(Int.ofNat_tdiv n 2).symm
 rw [em,ed,if_pos (by decide)]
 by_cases c:n % 2=1
 ·rw [if_neg (by simp [c]),if_pos (by decide),if_pos (by omega),w64 (i:=(n:Int)+1) (by omega) (by omega),w64 (i:=0-((n:Int)+1)) (by omega) (by omega)]
  have:(0-((n:Int)+1)).tdiv 2=-(((n:Int)+1) / 2):=by
   rw [Int.zero_sub,Int.neg_tdiv]
   congr 1
  rw [this,w64 (by omega) (by omega)]
 ·rw [if_pos (by simp;omega),if_pos (by decide),if_neg (by omega),w64 (by omega) (by omega)]
  congr 1
theorem same_ev {l x:List Int} (hl:l.length≤1000000) (hx:x.length≤1000000) {at_:Nat} (hat:at_≤l.length):E0 (fun K=>Df K l (at_:Int) x) (decide (x <+: l.drop at_)):=by
 have key:∀ i,i≤x.length→E1 (fun K k=>Df.l1 K l (at_:Int) x k (i:Int)) (decide (x.drop i <+: l.drop (at_+i))):=by
  refine upto ?_ ?_
  ·refine step1 (fun _ _ _ _ _=>Df.l1.eq_2 ..) ?_
   refine negD (by omega) (nowE ?_)
   rw [List.drop_length];simp
  ·intro i hi ih
   have e1:wr .i64 ((at_:Int)+(i:Int))=((at_+i:Nat):Int):=by rw [w64 (by omega) (by omega)];omega
   refine step1 (fun _ _ _ _ _=>Df.l1.eq_2 ..) ?_
   rw [e1]
   refine posD (by omega) ?_
   by_cases c:at_+i<l.length
   ·refine negD (by omega) (pos (by omega) (pos (by omega) ?_))
    rw [rdN,rdN,w1 (by omega)]
    have hd:(x.drop i <+: l.drop (at_+i))↔(l.getD (at_+i) 0=x.getD i 0∧x.drop (i+1) <+: l.drop (at_+(i+1))):=by
     rw [drop_getD (d:=0) hi,drop_getD (d:=0) c,List.cons_prefix_cons,show at_+i+1=at_+(i+1) by omega,eq_comm]
    by_cases e:l.getD (at_+i) 0=x.getD i 0
    ·refine negN e (ofEq ih ?_)
     rw [Bool.eq_iff_iff,decide_eq_true_iff,decide_eq_true_iff,hd]
     exact ⟨fun z=>⟨e,z⟩,fun z=>z.2⟩
    ·refine posN e (nowE ?_)
     exact (decide_eq_false (fun z=>e (hd.1 z).1)).symm
   ·refine posD (by omega) (nowE ?_)
    refine (decide_eq_false (fun z=>?_)).symm
    have:=z.length_le
    rw [List.length_drop,List.length_drop] at this;omega
 exact (key 0 (by omega)).e1
theorem rtg_l1 {l:List Int} (h:Bt l) (hb:l.length≤1000000) {v:Int} (hv:0≤v) (hv2:v≤15) {r18:Int × Int} {m:Nat} (hm:wr .i64 (r18.1-1)=(m:Int)) (hm2:m≤17):∀ (d i at_:Nat) (last:Int) (acc:List Int),i+d=m→at_≤l.length→acc.length≤i→-8589934592*((i:Int)+1)≤last→last≤8589934592*((i:Int)+1) →
  ∃ res:List Int × Int × Bool,E1 (fun K k=>Ca.l1 K r18 l v k (at_:Int) last (i:Int) acc) res∧(res=([],0,false)∨∃ (s:List Int) (n:Nat),res=(s,(n:Int),true)∧MayP s∧n≤l.length) ∧
   ∀ q:List Int,q.length=d→MayP (acc++q)→q.Pairwise (·<·)→(∀ x∈q,0≤x∧x≤15)→(0<i→0≤last∧∀ x∈q,last<x)→gams (cod v i last q) <+: l.drop at_→res=(acc++q,((at_+(gams (cod v i last q)).length:Nat):Int),true):=by
 intro d
 induction d with
 | zero =>
  intro i at_ last acc hi hat ha h1 h2
  by_cases c:MayP acc
  ·refine ⟨(acc,(at_:Int),true),?_,.inr ⟨acc,at_,rfl,c,hat⟩,fun q hq _ _ _ _ _=>?_⟩
   ·refine step1 (fun _ _ _ _ _=>Ca.l1.eq_2 ..) ?_
    rw [hm]
    exact negD (by omega) (bnd (may3_ev acc (by omega)) (negM c (now _)))
   ·obtain rfl:=List.eq_nil_of_length_eq_zero hq
    simp [cod_nil,gams]
  ·refine ⟨([],0,false),?_,.inl rfl,fun q hq hq2 _ _ _ _=>?_⟩
   ·refine step1 (fun _ _ _ _ _=>Ca.l1.eq_2 ..) ?_
    rw [hm]
    exact negD (by omega) (bnd (may3_ev acc (by omega)) (posM c (now _)))
   ·obtain rfl:=List.eq_nil_of_length_eq_zero hq
    rw [List.append_nil] at hq2
    exact absurd hq2 c
 | succ d ih =>
  intro i at_ last acc hi hat ha h1 h2
  have hrd:=RRead_ev h (by omega) hat
  have first:∀ q:List Int,q.length=d+1→(∀ x∈q,0≤x∧x≤15)→(0<i→0≤last∧∀ x∈q,last<x)→gams (cod v i last q) <+: l.drop at_→∃ (x:Int) (q':List Int) (k:Nat),q=x::q'∧rg l at_=some ((k:Int),at_+(gam k).length)∧cod v i last q=k::cod v (i+1) x q'∧(if i=0 then v+unf ((k-1:Nat):Int) else last+(k:Int))=x∧gams (cod v (i+1) x q') <+: l.drop (at_+(gam k).length):=by
   intro q hq hr hlast hp
   match q,hq with
   | x::q',hq =>
    have hx:=hr x List.mem_cons_self
    have hc:=cod_cons v i last x q'
    generalize hk:(if i=0 then fold (x-v)+1 else (x-last).toNat)=k at hc
    have hk2:0<k∧k≤1073741824:=by
     rw [← hk]
     by_cases h0:i=0
     ·rw [if_pos h0];unfold fold;split <;> omega
     ·rw [if_neg h0]
      have:=hlast (by omega)
      have:=this.2 x List.mem_cons_self
      omega
    rw [hc,gams_cons] at hp
    obtain ⟨p1,p2⟩:=pre_inv hp
    refine ⟨x,q',k,rfl,rg_pre hat hk2.1 hk2.2 p1,hc,?_,p2⟩
    by_cases h0:i=0
    ·rw [if_pos h0] at hk ⊢
     rw [← hk,show fold (x-v)+1-1=fold (x-v) by omega,unf_fold];omega
    ·rw [if_neg h0] at hk ⊢
     have:=hlast (by omega)
     have:=this.2 x List.mem_cons_self
     omega
  cases hrg:rg l at_ with
  | none =>
   rw [hrg] at hrd
   refine ⟨([],0,false),?_,.inl rfl,fun q hq hmay hpw hr hlast hp=>?_⟩
   ·refine step1 (fun _ _ _ _ _=>Ca.l1.eq_2 ..) ?_
    rw [hm]
    exact posD (by omega) (bnd hrd (posD (show (-1:Int)<1 by decide) (now _)))
   ·obtain ⟨x,q',k,_,hh,_⟩:=first q hq hr hlast hp
    rw [hrg] at hh;cases hh
  | some p =>
   obtain ⟨x0,n⟩:=p
   rw [hrg] at hrd
   obtain ⟨k,rfl,k0,k1,hp,rfl⟩:=rg_can h hrg
   have hpl:=pre_len hp
   have hu:=unf_rng (n:=k-1) (by omega)
   generalize hyy:(if i=0 then v+unf ((k-1:Nat):Int) else last+(k:Int))=y
   have y0:-8589934592*((i:Int)+1)-1073741900≤y∧y≤8589934592*((i:Int)+1)+1073741900:=by
    rw [← hyy];split <;> omega
   obtain ⟨res,e1,e2,e3⟩:=ih (i+1) (at_+(gam k).length) y (acc++[y]) (by omega) (by omega) (by simp;omega) (by push_cast;omega) (by push_cast;omega)
   refine ⟨res,?_,e2,fun q hq hmay hpw hr hlast hpre=>?_⟩
   ·refine step1 (fun _ _ _ _ _=>Ca.l1.eq_2 ..) ?_
    rw [hm]
    refine posD (by omega) (bnd hrd (negD (show ¬ ((k:Int)<1) by omega) ?_))
    by_cases h0:i=0
    ·refine posE (by omega) ?_
     rw [if_pos h0] at hyy
     have hu2:∀ K,Ed K (wr .i64 ((k:Int)-1))=some (unf ((k-1:Nat):Int)):=by
      intro K
      rw [w64 (by omega) (by omega),show (k:Int)-1=((k-1:Nat):Int) by omega]
      exact rzag_eq (by omega)
     refine bnd (congr (fun K _ _ _ _=>hu2 K) (now _)) ?_
     rw [hyy,w64 (i:=y) (by omega) (by omega),w1 (by omega)]
     exact pos (by simp;omega) e1
    ·refine negE (by omega) ?_
     rw [if_neg h0] at hyy
     simp only
     rw [hyy,w64 (i:=y) (by omega) (by omega),w1 (by omega)]
     exact pos (by simp;omega) e1
   ·obtain ⟨x,q',k',rfl,hh,hc,hy2,hp2⟩:=first q hq hr hlast hpre
    rw [hrg] at hh
    have hkk:k=k':=by
     have:=Option.some.inj hh
     have:=(Prod.ext_iff.1 this).1
     simp only at this;omega
    subst hkk
    rw [hyy] at hy2
    subst hy2
    rw [List.pairwise_cons] at hpw
    have:=e3 q' (by simpa using hq) (by rw [List.append_assoc];exact hmay) hpw.2 (fun z hz=>hr z (List.mem_cons_of_mem _ hz)) (fun _=>⟨(hr y List.mem_cons_self).1,hpw.1⟩) hp2
    rw [this,hc,gams_cons,List.length_append,List.append_assoc,Nat.add_assoc];rfl
theorem rtg_any {l:List Int} (h:Bt l) (hb:l.length≤1000000) {v:Int} (hv:0≤v) (hv2:v≤15) {at_:Nat} (hat:at_≤l.length) :
  ∃ res:List Int × Int × Bool,E0 (fun K=>Ca K l (at_:Int) v) res∧(res=([],0,false)∨∃ (s:List Int) (n:Nat),res=(s,(n:Int),true)∧MayP s∧n≤l.length) ∧
   ∀ q:List Int,MayP q→gap v q <+: l.drop at_→res=(q,((at_+(gap v q).length:Nat):Int),true):=by
 have hrd:=RRead_ev h (by omega) hat
 have first:∀ q:List Int,MayP q→gap v q <+: l.drop at_→rg l at_=some (((q.length+1:Nat):Int),at_+(gam (q.length+1)).length):=by
  intro q hq hp
  have:=hq.len
  rw [gap,gams_cons] at hp
  exact rg_pre hat (by omega) (by omega) (pre_inv hp).1
 cases hrg:rg l at_ with
 | none =>
  rw [hrg] at hrd
  refine ⟨([],0,false),bnd hrd (posD (show (-1:Int)<1 by decide) (now _)),.inl rfl,fun q hq hp=>?_⟩
  rw [first q hq hp] at hrg;cases hrg
 | some p =>
  obtain ⟨x0,n⟩:=p
  rw [hrg] at hrd
  obtain ⟨k,rfl,k0,k1,hp,rfl⟩:=rg_can h hrg
  have hpl:=pre_len hp
  have e0:wr .i64 ((k:Int)-1)=((k-1:Nat):Int):=by rw [w64 (by omega) (by omega)];omega
  have hkq:∀ q:List Int,MayP q→gap v q <+: l.drop at_→q.length+1=k:=by
   intro q hq hp
   have:=first q hq hp
   rw [hrg] at this
   have:=Option.some.inj this
   have:=(Prod.ext_iff.1 this).1
   simp only at this;omega
  by_cases c:((k-1:Nat):Int) > 16
  ·refine ⟨([],0,false),bnd hrd (negD (show ¬ ((k:Int)<1) by omega) ?_),.inl rfl,fun q hq hp=>?_⟩
   ·simp only
    rw [e0];exact posD c (now _)
   ·have h1:=hkq q hq hp
    have h2:=hq.len
    omega
  ·obtain ⟨res,e1,e2,e3⟩:=rtg_l1 h hb hv hv2 (r18:=((k:Int),((at_+(gam k).length:Nat):Int))) (m:=k-1) e0 (by omega) (k-1) 0 (at_+(gam k).length) 0 [] (by omega) (by omega) (by simp) (by omega) (by omega)
   refine ⟨res,bnd hrd (negD (show ¬ ((k:Int)<1) by omega) ?_),e2,fun q hq hp=>?_⟩
   ·simp only
    rw [e0];exact negD c e1.e1
   ·have h1:=hkq q hq hp
    obtain ⟨q1,q2⟩:=(mayP_iff _).1 hq
    have hg:gap v q=gam k++gams (cod v 0 0 q):=by rw [gap,gams_cons,h1];rfl
    rw [hg] at hp ⊢
    have:=e3 q (by omega) (by simpa using hq) q1 q2 (fun h=>by omega) (pre_inv hp).2
    rw [this,List.length_append,List.nil_append,Nat.add_assoc]
theorem rtr_l1 {l:List Int} (h:Bt l) (hb:l.length≤1000000) {v:Int} (hv:0≤v) (hv2:v≤15) {r28:Int × Int} {m from_:Nat} (hm:wr .i64 (r28.1-1)=(m:Int)) (hm2:m≤17) (hfr:from_≤l.length):∀ (d i at_:Nat) (e:Int) (acc:List Ah),i+d=m→at_≤l.length→acc.length≤i→-8589934592*((i:Int)+1)≤e→e≤8589934592*((i:Int)+1) →
  ∃ res:List Int × Int × Bool,E1 (fun K k=>Au.l1 K r28 l (from_:Int) v k (at_:Int) e (i:Int) acc) res∧(res=([],0,false)∨∃ q,IsR l from_ v q∧res=(q,((from_+(runb v q).length:Nat):Int),true)) ∧
   ∀ (L s:List Int) (q:List Ah),MayP L→parts L=(acc++q,s)→q.length=d→OkR (if i=0 then -1 else e) q→(0<i→0≤e)→gams (rcod v i e q)++gap v s <+: l.drop at_→runb v L <+: l.drop from_→at_+((gams (rcod v i e q)).length+(gap v s).length)=from_+(runb v L).length→res=(L,((from_+(runb v L).length:Nat):Int),true):=by
 intro d
 have rnil:∀ (i:Nat) (e:Int),rcod v i e []=[]:=fun i e=>by unfold rcod;split <;> rfl
 induction d with
 | zero =>
  intro i at_ e acc hi hat ha h1 h2
  obtain ⟨rs,g1,g2,g3⟩:=rtg_any h hb hv hv2 hat
  have start:∀ {res:List Int × Int × Bool},Ev (fun K _ _ _ _=>if (!rs.2.2) then some (([]:List Int),0,false) else
    (Ak K acc rs.1).bind fun r102=>if (!r102.2) then some (([]:List Int),0,false) else if decide (((r102.1.length:Nat):Int) > 16) then some (([]:List Int),0,false) else
      (A7 K ([]:List Int) v r102.1).bind fun r114=>if (((r114.length:Nat):Int) != (wr .i64 (rs.2.1-(from_:Int)))) then some (([]:List Int),0,false) else
       (Df K l (from_:Int) r114).bind fun r125=>if (!r125) then some (([]:List Int),0,false) else some (r102.1,rs.2.1,true)) res →
    E1 (fun K k=>Au.l1 K r28 l (from_:Int) v k (at_:Int) e (i:Int) acc) res:=by
   intro res hh
   refine step1 (fun _ _ _ _ _=>Au.l1.eq_2 ..) ?_
   rw [hm]
   exact negD (by omega) (bnd g1 hh)
  have first:∀ (L s:List Int) (q:List Ah),MayP L→parts L=(acc++q,s)→q.length=0→gams (rcod v i e q)++gap v s <+: l.drop at_→at_+((gams (rcod v i e q)).length+(gap v s).length)=from_+(runb v L).length→rs=(s,((from_+(runb v L).length:Nat):Int),true)∧parts L=(acc,s)∧join acc s=some L:=by
   intro L s q hL hpt hq hp hl
   obtain rfl:=List.eq_nil_of_length_eq_zero hq
   rw [List.append_nil] at hpt
   rw [rnil] at hp hl
   have hp:gap v s <+: l.drop at_:=hp
   have hl:at_+(0+(gap v s).length)=from_+(runb v L).length:=hl
   have h2:=parts_may hL
   have h3:=join_parts hL
   rw [hpt] at h2 h3
   refine ⟨?_,hpt,h3⟩
   rw [g3 s h2.2.1 hp]
   congr 3;omega
  rcases g2 with rfl | ⟨s,n,rfl,hs,hn⟩
  ·refine ⟨([],0,false),start (pos rfl (now _)),.inl rfl,fun L s q hL hpt hq ho he hp _ hl=>?_⟩
   have:=(Prod.ext_iff.1 (Prod.ext_iff.1 (first L s q hL hpt hq hp hl).1).2).2
   cases this
  ·have hsl:=hs.len
   have hj:=RJoin_ev (r:=acc) (q:=s) (by omega) (by omega)
   cases hjn:join acc s with
   | none =>
    rw [hjn] at hj
    refine ⟨([],0,false),start (negB rfl (bnd hj (pos rfl (now _)))),.inl rfl,fun L s' q hL hpt hq ho he hp _ hl=>?_⟩
    obtain ⟨f1,f2,f3⟩:=first L s' q hL hpt hq hp hl
    cases f1
    rw [hjn] at f3;cases f3
   | some L =>
    rw [hjn] at hj
    have hL:MayP L:=by
     unfold join at hjn
     split at hjn
     ·rename_i hh;cases hjn;exact hh.2.2
     ·cases hjn
    have hLl:=hL.len
    have hrl:=runb_len hL hv hv2
    have e0:wr .i64 ((n:Int)-(from_:Int))=(n:Int)-(from_:Int):=w64 (by omega) (by omega)
    by_cases c:((runb v L).length:Int)=(n:Int)-(from_:Int)
    ·have hse:=same_ev (x:=runb v L) hb (by omega) hfr
     by_cases c2:runb v L <+: l.drop from_
     ·rw [decide_eq_true c2] at hse
      refine ⟨(L,(n:Int),true),start (negB rfl (bnd hj (negB rfl (negD (show ¬ ((L.length:Int) > 16) by omega) (bnd (RRuns0_ev hL hv hv2) ?_))))),.inr ⟨L,⟨hL,c2⟩,?_⟩,fun L' s' q hL' hpt hq ho he hp hp2 hl=>?_⟩
      ·simp only
       rw [e0]
       exact negN c (bnd hse (negB rfl (now _)))
      ·congr 2;omega
      ·obtain ⟨f1,f2,f3⟩:=first L' s' q hL' hpt hq hp hl
       cases f1
       rw [hjn] at f3;cases f3
       rfl
     ·rw [decide_eq_false c2] at hse
      refine ⟨([],0,false),start (negB rfl (bnd hj (negB rfl (negD (show ¬ ((L.length:Int) > 16) by omega) (bnd (RRuns0_ev hL hv hv2) ?_))))),.inl rfl,fun L' s' q hL' hpt hq ho he hp hp2 hl=>?_⟩
      ·simp only
       rw [e0]
       exact negN c (bnd hse (pos rfl (now _)))
      ·obtain ⟨f1,f2,f3⟩:=first L' s' q hL' hpt hq hp hl
       cases f1
       rw [hjn] at f3;cases f3
       exact absurd hp2 c2
    ·refine ⟨([],0,false),start (negB rfl (bnd hj (negB rfl (negD (show ¬ ((L.length:Int) > 16) by omega) (bnd (RRuns0_ev hL hv hv2) ?_))))),.inl rfl,fun L' s' q hL' hpt hq ho he hp hp2 hl=>?_⟩
     ·simp only
      rw [e0]
      exact posN c (now _)
     ·obtain ⟨f1,f2,f3⟩:=first L' s' q hL' hpt hq hp hl
      have f1:=(Prod.ext_iff.1 (Prod.ext_iff.1 f1).2).1
      simp only at f1
      cases (Prod.ext_iff.1 (first L' s' q hL' hpt hq hp hl).1).1
      rw [hjn] at f3;cases f3
      omega
 | succ d ih =>
  intro i at_ e acc hi hat ha he1 he2
  have hrd:=RRead_ev h (by omega) hat
  have first:∀ (s:List Int) (q:List Ah),q.length=d+1→OkR (if i=0 then -1 else e) q→(0<i→0≤e)→gams (rcod v i e q)++gap v s <+: l.drop at_→∃ (x:Ah) (q':List Ah) (k j:Nat),q=x::q'∧rg l at_=some ((k:Int),at_+(gam k).length)∧rg l (at_+(gam k).length)=some ((j:Int),at_+(gam k).length+(gam j).length)∧j≤16 ∧
    rcod v i e q=k::j::rcod v (i+1) (x.At+x.Len) q'∧x=((if i=0 then v+unf ((k-1:Nat):Int) else e+(k:Int)),(j:Int)+2)∧OkR (x.At+x.Len) q'∧0≤x.At+x.Len∧gams (rcod v (i+1) (x.At+x.Len) q')++gap v s <+: l.drop (at_+(gam k).length+(gam j).length):=by
   intro s q hq ho he hp
   match q,hq with
   | x::q',hq =>
    obtain ⟨⟨x1,x2,x3,x4,x5⟩,ho2⟩:=ho
    have hc:=rcod_cons v i e x q'
    generalize hk:(if i=0 then fold (x.At-v)+1 else (x.At-e).toNat)=k at hc
    generalize hjj:(x.Len-2).toNat=j at hc
    have hk2:0<k∧k≤1073741824:=by
     rw [← hk]
     by_cases h0:i=0
     ·rw [if_pos h0];unfold fold;split <;> omega
     ·rw [if_neg h0] at x2 ⊢
      have:=he (by omega)
      omega
    rw [hc,gams_cons,gams_cons,List.append_assoc,List.append_assoc] at hp
    obtain ⟨p1,p2⟩:=pre_inv hp
    obtain ⟨p3,p4⟩:=pre_inv p2
    have hpl:=pre_len p1
    have hlen1:0<(gam k).length:=by rw [gam_len];omega
    refine ⟨x,q',k,j,rfl,rg_pre hat hk2.1 hk2.2 p1,rg_pre (by omega) (by omega) (by omega) p3,by omega,hc,?_,ho2,by omega,p4⟩
    refine Prod.ext ?_ ?_
    ·show x.At=_
     by_cases h0:i=0
     ·rw [if_pos h0] at hk ⊢
      rw [← hk,show fold (x.At-v)+1-1=fold (x.At-v) by omega,unf_fold];omega
     ·rw [if_neg h0] at hk x2 ⊢
      have:=he (by omega)
      omega
    ·show x.Len=_
     omega
  cases hrg:rg l at_ with
  | none =>
   rw [hrg] at hrd
   refine ⟨([],0,false),?_,.inl rfl,fun L s q hL hpt hq ho he hp _ hl=>?_⟩
   ·refine step1 (fun _ _ _ _ _=>Au.l1.eq_2 ..) ?_
    rw [hm]
    exact posD (by omega) (bnd hrd (posD (show (-1:Int)<1 by decide) (now _)))
   ·obtain ⟨x,q',k,j,_,hh,_⟩:=first s q hq ho he hp
    rw [hrg] at hh;cases hh
  | some p =>
   obtain ⟨x0,n⟩:=p
   rw [hrg] at hrd
   obtain ⟨k,rfl,k0,k1,hp,rfl⟩:=rg_can h hrg
   have hpl:=pre_len hp
   have hkk:∀ {k':Nat} {z:Nat},rg l at_=some ((k':Int),z)→k'=k:=by
    intro k' z hh
    rw [hrg] at hh
    have:=(Prod.ext_iff.1 (Option.some.inj hh)).1
    simp only at this;omega
   have hrd2:=RRead_ev h (by omega) (show at_+(gam k).length≤l.length by omega)
   cases hrg2:rg l (at_+(gam k).length) with
   | none =>
    rw [hrg2] at hrd2
    refine ⟨([],0,false),?_,.inl rfl,fun L s q hL hpt hq ho he hp _ hl=>?_⟩
    ·refine step1 (fun _ _ _ _ _=>Au.l1.eq_2 ..) ?_
     rw [hm]
     exact posD (by omega) (bnd hrd (negD (show ¬ ((k:Int)<1) by omega) (bnd hrd2 (posD (show (-1:Int)<1 by decide) (now _)))))
    ·obtain ⟨x,q',k',j,_,hh,hh2,_⟩:=first s q hq ho he hp
     cases hkk hh
     rw [hrg2] at hh2;cases hh2
   | some p2 =>
    obtain ⟨x2,n2⟩:=p2
    rw [hrg2] at hrd2
    obtain ⟨j,rfl,j0,j1,hp2,rfl⟩:=rg_can h hrg2
    have hpl2:=pre_len hp2
    have hjj:∀ {j':Nat} {z:Nat},rg l (at_+(gam k).length)=some ((j':Int),z)→j'=j:=by
     intro j' z hh
     rw [hrg2] at hh
     have:=(Prod.ext_iff.1 (Option.some.inj hh)).1
     simp only at this;omega
    by_cases cj:(j:Int) > 16
    ·refine ⟨([],0,false),?_,.inl rfl,fun L s q hL hpt hq ho he hp _ hl=>?_⟩
     ·refine step1 (fun _ _ _ _ _=>Au.l1.eq_2 ..) ?_
      rw [hm]
      exact posD (by omega) (bnd hrd (negD (show ¬ ((k:Int)<1) by omega) (bnd hrd2 (negD (show ¬ ((j:Int)<1) by omega) (posD cj (now _))))))
     ·obtain ⟨x,q',k',j',_,hh,hh2,hj16,_⟩:=first s q hq ho he hp
      cases hkk hh
      cases hjj hh2
      omega
    ·have hu:=unf_rng (n:=k-1) (by omega)
     generalize hyy:(if i=0 then v+unf ((k-1:Nat):Int) else e+(k:Int))=y
     have y0:-8589934592*((i:Int)+1)-1073741900≤y∧y≤8589934592*((i:Int)+1)+1073741900:=by
      rw [← hyy];split <;> omega
     obtain ⟨res,e1,e2,e3⟩:=ih (i+1) (at_+(gam k).length+(gam j).length) (y+((j:Int)+2)) (acc++[(y,(j:Int)+2)]) (by omega) (by omega) (by simp;omega) (by push_cast;omega) (by push_cast;omega)
     refine ⟨res,?_,e2,fun L s q hL hpt hq ho he hpre hpL hl=>?_⟩
     ·refine step1 (fun _ _ _ _ _=>Au.l1.eq_2 ..) ?_
      rw [hm]
      refine posD (by omega) (bnd hrd (negD (show ¬ ((k:Int)<1) by omega) (bnd hrd2 (negD (show ¬ ((j:Int)<1) by omega) (negD cj ?_)))))
      have f1:wr .i64 (wr .i64 ((j:Int)-1)+3)=(j:Int)+2:=by rw [w64 (i:=(j:Int)-1) (by omega) (by omega),w64 (by omega) (by omega)];omega
      have hj2:E1 (fun K k'=>Au.j2 K (Au.l1 K r28 l (from_:Int) v k') r28 ((j:Int),((at_+(gam k).length+(gam j).length:Nat):Int)) (i:Int) acc l (from_:Int) v y ((j:Int)+2)) res:=by
       unfold Au.j2
       rw [w64 (i:=y+((j:Int)+2)) (by omega) (by omega),w1 (by omega)]
       exact pos (by simp;omega) e1
      simp only
      rw [f1]
      by_cases h0:i=0
      ·refine posE (by omega) ?_
       rw [if_pos h0] at hyy
       have hu2:∀ K,Ed K (wr .i64 ((k:Int)-1))=some (unf ((k-1:Nat):Int)):=by
        intro K
        rw [w64 (by omega) (by omega),show (k:Int)-1=((k-1:Nat):Int) by omega]
        exact rzag_eq (by omega)
       refine bnd (congr (fun K _ _ _ _=>hu2 K) (now _)) ?_
       rw [hyy,w64 (i:=y) (by omega) (by omega)]
       exact hj2
      ·refine negE (by omega) ?_
       rw [if_neg h0] at hyy
       rw [hyy,w64 (i:=y) (by omega) (by omega)]
       exact hj2
     ·obtain ⟨x,q',k',j',rfl,hh,hh2,hj16,hc,hx,ho2,hx0,hp4⟩:=first s q hq ho he hpre
      cases hkk hh
      cases hjj hh2
      rw [hyy] at hx
      subst hx
      refine e3 L s q' hL (by rw [hpt,List.append_assoc];rfl) (by simpa using hq) (by rw [if_neg (by omega)];exact ho2) (fun _=>hx0) hp4 hpL ?_
      rw [hc,gams_cons,gams_cons,List.length_append,List.length_append] at hl
      show at_+(gam k).length+(gam j).length+((gams (rcod v (i+1) (y+((j:Int)+2)) q')).length+(gap v s).length)=_
      have hl2:at_+((gam k).length+((gam j).length+(gams (rcod v (i+1) (y+((j:Int)+2)) q')).length)+(gap v s).length)=from_+(runb v L).length:=hl
      omega
theorem rtr_tk {l:List Int} (h:Bt l) (hb:l.length≤1000000) {v:Int} (hv:0≤v) (hv2:v≤15) {at_:Nat} (hat:at_≤l.length) :
  E0 (fun K=>Au K l (at_:Int) v) (match tkR l at_ v with | some (q,n)=>(q,(n:Int),true) | none=>([],0,false)):=by
 have key:∃ res:List Int × Int × Bool,E0 (fun K=>Au K l (at_:Int) v) res∧(res=([],0,false)∨∃ q,IsR l at_ v q∧res=(q,((at_+(runb v q).length:Nat):Int),true))∧∀ q,IsR l at_ v q→res=(q,((at_+(runb v q).length:Nat):Int),true):=by
  have hrd:=RRead_ev h (by omega) hat
  have first:∀ q:List Int,IsR l at_ v q→rg l at_=some ((((parts q).1.length+1:Nat):Int),at_+(gam ((parts q).1.length+1)).length)∧(parts q).1.length≤16:=by
   intro q hq
   have h1:=parts_may hq.1
   have hr:=(h1.1.len (by omega)).1
   have hr2:=(h1.1.len (by omega)).2
   have hp:=hq.2
   rw [runb,gams_cons,List.append_assoc] at hp
   exact ⟨rg_pre hat (by omega) (by omega) (pre_inv hp).1,by omega⟩
  cases hrg:rg l at_ with
  | none =>
   rw [hrg] at hrd
   refine ⟨([],0,false),bnd hrd (posD (show (-1:Int)<1 by decide) (now _)),.inl rfl,fun q hq=>?_⟩
   rw [(first q hq).1] at hrg;cases hrg
  | some p =>
   obtain ⟨x0,n⟩:=p
   rw [hrg] at hrd
   obtain ⟨k,rfl,k0,k1,hp,rfl⟩:=rg_can h hrg
   have hpl:=pre_len hp
   have e0:wr .i64 ((k:Int)-1)=((k-1:Nat):Int):=by rw [w64 (by omega) (by omega)];omega
   have hkq:∀ q:List Int,IsR l at_ v q→(parts q).1.length+1=k:=by
    intro q hq
    have:=(first q hq).1
    rw [hrg] at this
    have:=(Prod.ext_iff.1 (Option.some.inj this)).1
    simp only at this;omega
   by_cases c:((k-1:Nat):Int) > 16
   ·refine ⟨([],0,false),bnd hrd (negD (show ¬ ((k:Int)<1) by omega) ?_),.inl rfl,fun q hq=>?_⟩
    ·simp only
     rw [e0];exact posD c (now _)
    ·have h1:=hkq q hq
     have h2:=(first q hq).2
     omega
   ·obtain ⟨res,e1,e2,e3⟩:=rtr_l1 h hb hv hv2 (r28:=((k:Int),((at_+(gam k).length:Nat):Int))) (m:=k-1) (from_:=at_) e0 (by omega) hat (k-1) 0 (at_+(gam k).length) 0 [] (by omega) (by omega) (by simp) (by omega) (by omega)
    refine ⟨res,bnd hrd (negD (show ¬ ((k:Int)<1) by omega) ?_),e2,fun q hq=>?_⟩
    ·simp only
     rw [e0];exact negD c e1.e1
    ·have h1:=hkq q hq
     have h2:=parts_may hq.1
     have hp:=hq.2
     have hrb:runb v q=gam k++(gams (rcod v 0 0 (parts q).1)++gap v (parts q).2):=by rw [runb,gams_cons,h1,List.append_assoc];rfl
     refine e3 q (parts q).2 (parts q).1 hq.1 rfl (by omega) h2.1 (fun h=>by omega) ?_ hp ?_
     ·rw [hrb] at hp;exact (pre_inv hp).2
     ·rw [hrb,List.length_append,List.length_append];omega
 obtain ⟨res,e1,e2,e3⟩:=key
 refine ofEq e1 ?_
 cases ht:tkR l at_ v with
 | none =>
  rcases e2 with e2 | ⟨q,hq,_⟩
  ·exact e2
  ·exact absurd hq (tkR_none ht q)
 | some p =>
  obtain ⟨q,n⟩:=p
  obtain ⟨hq,rfl⟩:=tkR_some ht
  exact e3 q hq
end Go.XL
end
end
section
section
namespace Go.XL
open Go.XM
theorem isR_uniq {l:List Int} (h:Bt l) (hb:l.length≤1000000) {v:Int} (hv:0≤v) (hv2:v≤15) {at_:Nat} (hat:at_≤l.length) {q q':List Int} (h1:IsR l at_ v q) (h2:IsR l at_ v q'):q=q':=by
 have key:∀ {q},IsR l at_ v q→E0 (fun K=>Ht K (pack l) (at_:Int) v) (q,((at_+(runb v q).length:Nat):Int),true):=by
  rintro q ⟨m,hp⟩
  obtain ⟨b,hb1,hb2⟩:=pre_split hat hp
  have hB:Bt (l.take at_):=fun x hx=>h x (List.mem_of_mem_take hx)
  have hBb:Bt b:=fun x hx=>h x (by rw [hb1];exact List.mem_append_right _ hx)
  have:=RRd_ev (a:=l.take at_) (b:=b) m hv hv2 hB hBb (by rw [← hb1];omega)
  rw [← hb1,List.length_append,hb2] at this
  exact this
 exact (Prod.ext_iff.1 ((key h1).uniq (key h2))).1
theorem tkR_of {l:List Int} (h:Bt l) (hb:l.length≤1000000) {v:Int} (hv:0≤v) (hv2:v≤15) {at_:Nat} (hat:at_≤l.length) {q:List Int} (h1:IsR l at_ v q):tkR l at_ v=some (q,at_+(runb v q).length):=by
 cases ht:tkR l at_ v with
 | none=>exact absurd h1 (tkR_none ht q)
 | some p =>
  obtain ⟨q',n⟩:=p
  obtain ⟨k1,rfl⟩:=tkR_some ht
  rw [isR_uniq h hb hv hv2 hat h1 k1]
theorem cjoin_some {ref bl q l:List Int} (h:cjoin ref bl q=some l):MayP l∧cparts ref l=(bl,q):=by
 unfold cjoin at h
 split at h
 ·cases h
 ·split at h
  ·rename_i hc;cases h;exact hc.2.2
  ·cases h
theorem rjoinC {ref bl q:List Int} (a:MayP ref) (b:MayP q) (hb:bl.length≤1000):∃ l:List Int,E0 (fun K=>Ab K ref bl q) (match cjoin ref bl q with | some l=>(l,true) | none=>(l,false)):=by
 have ha:=a.len
 have hbl:=b.len
 obtain ⟨l,e⟩:=RJoinC_ev (ref:=ref) (bl:=bl) (q:=q) (by omega) hb (by omega)
 rw [if_pos ⟨a,b⟩] at e
 exact ⟨l,e⟩
def ccod (i:Nat) (q:List Int):List Nat:=if i=0 then cnum q else q.map Int.toNat
theorem ccod_nil (i:Nat):ccod i []=[]:=by unfold ccod;split <;> rfl
theorem ccod_cons (i:Nat) (n:Int) (q:List Int):ccod i (n::q)=(if i=0 then (n+1).toNat else n.toNat)::ccod (i+1) q:=by
 unfold ccod
 rw [if_neg (show ¬ i+1=0 by omega)]
 by_cases h:i=0
 ·rw [if_pos h,if_pos h];rfl
 ·rw [if_neg h,if_neg h];rfl
structure AtC (l:List Int) (v:Int) (ref:List Int) (i at_ d:Nat) (acc L q s:List Int):Prop where
 may:MayP L
 parts:cparts ref L=(acc++q,s)
 len:q.length=d
 nums:gams (ccod i q) <+: l.drop at_
 rest:runb v s <+: l.drop (at_+(gams (ccod i q)).length)
abbrev endC (v:Int) (i at_:Nat) (q s:List Int):Nat:=at_+(gams (ccod i q)).length+(runb v s).length
theorem AtC.cons {l:List Int} {v:Int} {ref:List Int} {i at_ d k:Nat} {acc L q s:List Int} (hp:gam k <+: l.drop at_) (h:AtC l v ref (i+1) (at_+(gam k).length) d (acc++[if i=0 then (k:Int)-1 else (k:Int)]) L q s) :
  AtC l v ref i at_ (d+1) acc L ((if i=0 then (k:Int)-1 else (k:Int))::q) s∧endC v i at_ ((if i=0 then (k:Int)-1 else (k:Int))::q) s=endC v (i+1) (at_+(gam k).length) q s:=by
 have hk:(if i=0 then ((if i=0 then (k:Int)-1 else (k:Int))+1).toNat else (if i=0 then (k:Int)-1 else (k:Int)).toNat)=k:=by
  by_cases h0:i=0
  ·simp only [if_pos h0];omega
  ·simp only [if_neg h0];omega
 have hc:ccod i ((if i=0 then (k:Int)-1 else (k:Int))::q)=k::ccod (i+1) q:=by rw [ccod_cons,hk]
 have h5:=h.rest
 refine ⟨⟨h.may,by rw [h.parts,List.append_assoc];rfl,by simp [h.len],?_,?_⟩,?_⟩
 ·rw [hc,gams_cons];exact pre_app hp h.nums
 ·rw [hc,gams_cons,List.length_append,← Nat.add_assoc];exact h5
 ·unfold endC;rw [hc,gams_cons,List.length_append];omega
theorem AtC.head {l:List Int} {v:Int} {ref:List Int} (hr:MayP ref) {i at_ d:Nat} {acc L q s:List Int} (hat:at_≤l.length) (ha:acc.length=i) (h:AtC l v ref i at_ (d+1) acc L q s) :
  ∃ (q':List Int) (k:Nat),k≤17∧rg l at_=some ((k:Int),at_+(gam k).length)∧AtC l v ref (i+1) (at_+(gam k).length) d (acc++[if i=0 then (k:Int)-1 else (k:Int)]) L q' s∧endC v i at_ q s=endC v (i+1) (at_+(gam k).length) q' s:=by
 obtain ⟨h1,h2,h3,h4,h5⟩:=h
 have hrl:=hr.len
 match q,h3 with
 | n::q',h3 =>
  have hbk:=cparts_blks (l:=L) hr
  rw [h2] at hbk
  have hmem:n∈acc++n::q':=by simp
  have hge:=hbk.ge n hmem
  have hsum:n≤16:=by
   have hs:=blk_sum (l:=L) (inn:=true) (m:=0) (r:=ref)
   have hcp:blk L true 0 ref=acc++n::q':=by have:=congrArg Prod.fst h2;exact this
   rw [hcp] at hs
   rcases hs with hs | hs
   ·have hall:∀ x∈acc++n::q',0≤x:=fun x hx=>(hbk.ge x hx).1
    have:∀ (L:List Int),(∀ x∈L,0≤x)→∀ y∈L,y≤L.sum:=by
     intro L
     induction L with
     | nil=>intro _ y hy;cases hy
     | cons z L ih =>
      intro hz y hy
      have hs0:0≤L.sum:=by
       clear ih hy
       induction L with
       | nil=>simp
       | cons w L ih2 =>
        have:=hz w (by simp)
        have:=ih2 (fun x hx=>hz x (by rcases List.mem_cons.1 hx with rfl | hx <;> simp [*]))
        simp only [List.sum_cons];omega
      have h0:=hz z List.mem_cons_self
      rw [List.sum_cons]
      rcases List.mem_cons.1 hy with rfl | hy
      ·omega
      ·have:=ih (fun x hx=>hz x (List.mem_cons_of_mem _ hx)) y hy;omega
    have:=this _ hall n hmem
    omega
   ·simp at hs
  have hc:=ccod_cons i n q'
  generalize hk:(if i=0 then (n+1).toNat else n.toNat)=k at hc
  have hn:n=if i=0 then (k:Int)-1 else (k:Int):=by
   rw [← hk]
   by_cases h0:i=0
   ·simp only [if_pos h0];omega
   ·simp only [if_neg h0];omega
  have hk1:0<k∧k≤17:=by
   rw [← hk]
   by_cases h0:i=0
   ·rw [if_pos h0];omega
   ·rw [if_neg h0]
    have:=hbk.one i (by omega) (by simp;omega)
    rw [List.getD_eq_getElem?_getD,List.getElem?_append_right (by omega),ha] at this
    simp at this;omega
  rw [hc,gams_cons] at h4 h5
  obtain ⟨p1,p2⟩:=pre_inv h4
  refine ⟨q',k,hk1.2,rg_pre hat hk1.1 (by omega) p1,⟨h1,by rw [h2,← hn,List.append_assoc];rfl,by simpa using h3,p2,?_⟩,?_⟩
  ·rw [List.length_append,← Nat.add_assoc] at h5;exact h5
  ·unfold endC;rw [hc,gams_cons,List.length_append];omega
theorem rtb_l1 {l:List Int} (h:Bt l) (hb:l.length≤1000000) {v:Int} (hv:0≤v) (hv2:v≤15) {ref:List Int} (hr:MayP ref) {r23:Int × Int} {m:Nat} (hm:wr .i64 (r23.1-1)=(m:Int)) (hm2:m≤17):∀ (d i at_:Nat) (acc:List Int),i+d=m→at_≤l.length→acc.length=i →
  ∃ res:List Int × Int × Bool,E1 (fun K k=>Cc.l1 K r23 l v ref k (at_:Int) (i:Int) acc) res∧(res=([],0,false)∨∃ L q s,AtC l v ref i at_ d acc L q s∧res=(L,((endC v i at_ q s:Nat):Int),true)) ∧
   ∀ L q s,AtC l v ref i at_ d acc L q s→res=(L,((endC v i at_ q s:Nat):Int),true):=by
 intro d
 have hrl:=hr.len
 induction d with
 | zero =>
  intro i at_ acc hi hat ha
  have g1:=rtr_tk h hb hv hv2 hat
  have start:∀ {rs res:List Int × Int × Bool},E0 (fun K=>Au K l (at_:Int) v) rs→Ev (fun K _ _ _ _=>if (!rs.2.2) then some (([]:List Int),0,false) else (Ab K ref acc rs.1).bind fun r74=>if (!r74.2) then some (([]:List Int),0,false) else some (r74.1,rs.2.1,true)) res→E1 (fun K k=>Cc.l1 K r23 l v ref k (at_:Int) (i:Int) acc) res:=by
   intro rs res hrs hh
   refine step1 (fun _ _ _ _ _=>Cc.l1.eq_2 ..) ?_
   rw [hm]
   exact negD (by omega) (bnd hrs hh)
  have first:∀ L q s,AtC l v ref i at_ 0 acc L q s→tkR l at_ v=some (s,at_+(runb v s).length)∧cjoin ref acc s=some L∧endC v i at_ q s=at_+(runb v s).length:=by
   rintro L q s ⟨h1,h2,h3,h4,h5⟩
   obtain rfl:=List.eq_nil_of_length_eq_zero h3
   rw [ccod_nil] at h5
   have hcj:=cjoin_parts hr h1
   have hcm:=cparts_may (ref:=ref) h1
   rw [h2,List.append_nil] at hcj
   rw [h2] at hcm
   refine ⟨tkR_of h hb hv hv2 hat ⟨hcm,h5⟩,hcj,?_⟩
   unfold endC;rw [ccod_nil];rfl
  cases ht:tkR l at_ v with
  | none =>
   rw [ht] at g1
   refine ⟨([],0,false),start g1 (pos rfl (now _)),.inl rfl,fun L q s hA=>?_⟩
   have:=(first L q s hA).1
   rw [ht] at this;cases this
  | some p =>
   obtain ⟨s,n⟩:=p
   rw [ht] at g1
   obtain ⟨⟨s1,s2⟩,rfl⟩:=tkR_some ht
   obtain ⟨l',w1_⟩:=rjoinC (bl:=acc) hr s1 (by omega)
   cases hj:cjoin ref acc s with
   | none =>
    rw [hj] at w1_
    refine ⟨([],0,false),start g1 (negB rfl (bnd w1_ (pos rfl (now _)))),.inl rfl,fun L q s' hA=>?_⟩
    obtain ⟨f1,f2,f3⟩:=first L q s' hA
    rw [ht] at f1
    cases (Prod.ext_iff.1 (Option.some.inj f1)).1
    rw [hj] at f2;cases f2
   | some L =>
    rw [hj] at w1_
    obtain ⟨k1,k2⟩:=cjoin_some hj
    refine ⟨(L,((at_+(runb v s).length:Nat):Int),true),start g1 (negB rfl (bnd w1_ (negB rfl (now _)))),.inr ⟨L,[],s,⟨k1,by rw [k2,List.append_nil],rfl,by rw [ccod_nil];exact List.nil_prefix,by rw [ccod_nil];exact s2⟩,?_⟩,fun L' q s' hA=>?_⟩
    ·unfold endC;rw [ccod_nil];rfl
    ·obtain ⟨f1,f2,f3⟩:=first L' q s' hA
     rw [ht] at f1
     cases (Prod.ext_iff.1 (Option.some.inj f1)).1
     rw [hj] at f2;cases f2
     rw [f3]
 | succ d ih =>
  intro i at_ acc hi hat ha
  have hrd:=RRead_ev h (by omega) hat
  cases hrg:rg l at_ with
  | none =>
   rw [hrg] at hrd
   refine ⟨([],0,false),?_,.inl rfl,fun L q s hA=>?_⟩
   ·refine step1 (fun _ _ _ _ _=>Cc.l1.eq_2 ..) ?_
    rw [hm]
    exact posD (by omega) (bnd hrd (posD (show (-1:Int)<1 by decide) (now _)))
   ·obtain ⟨q',k,_,hh,_⟩:=hA.head hr hat ha
    rw [hrg] at hh;cases hh
  | some p =>
   obtain ⟨x,n⟩:=p
   rw [hrg] at hrd
   obtain ⟨k,rfl,k0,k1,hp,rfl⟩:=rg_can h hrg
   have hpl:=pre_len hp
   have hkk:∀ {k':Nat} {z:Nat},rg l at_=some ((k':Int),z)→k'=k:=by
    intro k' z hh
    rw [hrg] at hh
    have:=(Prod.ext_iff.1 (Option.some.inj hh)).1
    simp only at this;omega
   by_cases c:(k:Int) > 17
   ·refine ⟨([],0,false),?_,.inl rfl,fun L q s hA=>?_⟩
    ·refine step1 (fun _ _ _ _ _=>Cc.l1.eq_2 ..) ?_
     rw [hm]
     exact posD (by omega) (bnd hrd (negD (show ¬ ((k:Int)<1) by omega) (posD c (now _))))
    ·obtain ⟨q',k',h17,hh,_⟩:=hA.head hr hat ha
     cases hkk hh
     omega
   ·obtain ⟨res,e1,e2,e3⟩:=ih (i+1) (at_+(gam k).length) (acc++[if i=0 then (k:Int)-1 else (k:Int)]) (by omega) (by omega) (by simp [ha])
    refine ⟨res,?_,?_,fun L q s hA=>?_⟩
    ·refine step1 (fun _ _ _ _ _=>Cc.l1.eq_2 ..) ?_
     rw [hm]
     refine posD (by omega) (bnd hrd (negD (show ¬ ((k:Int)<1) by omega) (negD c ?_)))
     simp only
     rw [w64 (i:=(k:Int)-1) (by omega) (by omega),w1 (by omega)]
     by_cases h0:i=0
     ·rw [if_pos h0] at e1
      exact posE (by omega) (pos (by simp;omega) e1)
     ·rw [if_neg h0] at e1
      exact negE (by omega) (pos (by simp;omega) e1)
    ·rcases e2 with e2 | ⟨L,q,s,hA,hres⟩
     ·exact .inl e2
     ·obtain ⟨c1,c2⟩:=hA.cons hp
      exact .inr ⟨L,_,s,c1,by rw [hres,c2]⟩
    ·obtain ⟨q',k',h17,hh,hA2,he⟩:=hA.head hr hat ha
     cases hkk hh
     rw [e3 L q' s hA2,he]
def IsC (l:List Int) (at_:Nat) (v:Int) (ref q:List Int):Prop:=MayP q∧copb v ref q <+: l.drop at_
open Classical in
noncomputable def tkC (l:List Int) (at_:Nat) (v:Int) (ref:List Int):Option (List Int × Nat):=if h:∃ q,IsC l at_ v ref q then some (h.choose,at_+(copb v ref h.choose).length) else none
theorem tkC_some {l:List Int} {at_:Nat} {v:Int} {ref q:List Int} {n:Nat} (h:tkC l at_ v ref=some (q,n)):IsC l at_ v ref q∧n=at_+(copb v ref q).length:=by
 unfold tkC at h
 split at h
 ·rename_i hq;cases h;exact ⟨hq.choose_spec,rfl⟩
 ·cases h
theorem tkC_none {l:List Int} {at_:Nat} {v:Int} {ref:List Int} (h:tkC l at_ v ref=none) (q:List Int):¬ IsC l at_ v ref q:=by
 unfold tkC at h
 split at h
 ·cases h
 ·rename_i hq;exact fun z=>hq ⟨q,z⟩
theorem copb_eq {v:Int} {ref L:List Int}:copb v ref L=gam ((cparts ref L).1.length+1)++(gams (ccod 0 (cparts ref L).1)++runb v (cparts ref L).2):=by
 rw [copb,gams_cons,List.append_assoc];rfl
theorem isC_at {l:List Int} {at_:Nat} {v:Int} {ref L:List Int} (h:IsC l at_ v ref L):gam ((cparts ref L).1.length+1) <+: l.drop at_∧AtC l v ref 0 (at_+(gam ((cparts ref L).1.length+1)).length) (cparts ref L).1.length [] L (cparts ref L).1 (cparts ref L).2∧endC v 0 (at_+(gam ((cparts ref L).1.length+1)).length) (cparts ref L).1 (cparts ref L).2=at_+(copb v ref L).length:=by
 obtain ⟨h1,h2⟩:=h
 rw [copb_eq] at h2
 obtain ⟨p1,p2⟩:=pre_inv h2
 obtain ⟨p3,p4⟩:=pre_inv p2
 refine ⟨p1,⟨h1,rfl,rfl,p3,p4⟩,?_⟩
 unfold endC;rw [copb_eq,List.length_append,List.length_append];omega
theorem at_isC {l:List Int} {at_ k:Nat} {v:Int} {ref L q s:List Int} (hp:gam k <+: l.drop at_) (hk:0<k) (h:AtC l v ref 0 (at_+(gam k).length) (k-1) [] L q s):IsC l at_ v ref L∧endC v 0 (at_+(gam k).length) q s=at_+(copb v ref L).length:=by
 obtain ⟨h1,h2,h3,h4,h5⟩:=h
 rw [List.nil_append] at h2
 have hc:copb v ref L=gam k++(gams (ccod 0 q)++runb v s):=by rw [copb_eq,h2];simp only;rw [h3,show k-1+1=k by omega]
 refine ⟨⟨h1,?_⟩,?_⟩
 ·rw [hc];exact pre_app hp (pre_app h4 h5)
 ·unfold endC;rw [hc,List.length_append,List.length_append];omega
theorem rtb_tk {l:List Int} (h:Bt l) (hb:l.length≤1000000) {v:Int} (hv:0≤v) (hv2:v≤15) {ref:List Int} (hr:MayP ref) {at_:Nat} (hat:at_≤l.length) :
  E0 (fun K=>Cc K l (at_:Int) v ref) (match tkC l at_ v ref with | some (q,n)=>(q,(n:Int),true) | none=>([],0,false)):=by
 have hrl:=hr.len
 have key:∃ res:List Int × Int × Bool,E0 (fun K=>Cc K l (at_:Int) v ref) res∧(res=([],0,false)∨∃ q,IsC l at_ v ref q∧res=(q,((at_+(copb v ref q).length:Nat):Int),true))∧∀ q,IsC l at_ v ref q→res=(q,((at_+(copb v ref q).length:Nat):Int),true):=by
  have hrd:=RRead_ev h (by omega) hat
  have first:∀ q:List Int,IsC l at_ v ref q→rg l at_=some ((((cparts ref q).1.length+1:Nat):Int),at_+(gam ((cparts ref q).1.length+1)).length)∧(cparts ref q).1.length≤16:=by
   intro q hq
   have hbl:=(cparts_blks (l:=q) hr).len
   exact ⟨rg_pre hat (by omega) (by omega) (isC_at hq).1,hbl⟩
  cases hrg:rg l at_ with
  | none =>
   rw [hrg] at hrd
   refine ⟨([],0,false),bnd hrd (posD (show (-1:Int)<1 by decide) (now _)),.inl rfl,fun q hq=>?_⟩
   rw [(first q hq).1] at hrg;cases hrg
  | some p =>
   obtain ⟨x0,n⟩:=p
   rw [hrg] at hrd
   obtain ⟨k,rfl,k0,k1,hp,rfl⟩:=rg_can h hrg
   have hpl:=pre_len hp
   have e0:wr .i64 ((k:Int)-1)=((k-1:Nat):Int):=by rw [w64 (by omega) (by omega)];omega
   have hkq:∀ q:List Int,IsC l at_ v ref q→(cparts ref q).1.length+1=k:=by
    intro q hq
    have:=(first q hq).1
    rw [hrg] at this
    have:=(Prod.ext_iff.1 (Option.some.inj this)).1
    simp only at this;omega
   by_cases c:((k-1:Nat):Int) > 16
   ·refine ⟨([],0,false),bnd hrd (negD (show ¬ ((k:Int)<1) by omega) ?_),.inl rfl,fun q hq=>?_⟩
    ·simp only
     rw [e0];exact posD c (now _)
    ·have h1:=hkq q hq
     have h2:=(first q hq).2
     omega
   ·obtain ⟨res,e1,e2,e3⟩:=rtb_l1 h hb hv hv2 hr (r23:=((k:Int),((at_+(gam k).length:Nat):Int))) (m:=k-1) e0 (by omega) (k-1) 0 (at_+(gam k).length) [] (by omega) (by omega) rfl
    refine ⟨res,bnd hrd (negD (show ¬ ((k:Int)<1) by omega) ?_),?_,fun q hq=>?_⟩
    ·simp only
     rw [e0];exact negD c e1.e1
    ·rcases e2 with e2 | ⟨L,q,s,hA,hres⟩
     ·exact .inl e2
     ·obtain ⟨a1,a2⟩:=at_isC hp k0 hA
      exact .inr ⟨L,a1,by rw [hres,a2]⟩
    ·have h1:=hkq q hq
     obtain ⟨b1,b2,b3⟩:=isC_at hq
     rw [h1] at b2 b3
     rw [show (cparts ref q).1.length=k-1 by omega] at b2
     rw [e3 q _ _ b2,b3]
 obtain ⟨res,e1,e2,e3⟩:=key
 refine ofEq e1 ?_
 cases ht:tkC l at_ v ref with
 | none =>
  rcases e2 with e2 | ⟨q,hq,_⟩
  ·exact e2
  ·exact absurd hq (tkC_none ht q)
 | some p =>
  obtain ⟨q,n⟩:=p
  obtain ⟨hq,rfl⟩:=tkC_some ht
  exact e3 q hq
end Go.XL
end
end
section
section
namespace Go.XL
open Go.XM
noncomputable def tkL (l:List Int):Nat→Nat→Nat→Option (List (List Int) × Nat)
 | 0,_,at_=>some ([],at_)
 | d+1,v,at_=>match tkR l at_ (v:Int) with
  | none=>none
  | some (q,n)=>match tkL l d (v+1) n with
   | none=>none
   | some (qs,m)=>some (q::qs,m)
theorem tkR_le {l:List Int} {at_:Nat} {v:Int} {q:List Int} {n:Nat} (hat:at_≤l.length) (h:tkR l at_ v=some (q,n)):MayP q∧n≤l.length:=by
 obtain ⟨⟨h1,h2⟩,rfl⟩:=tkR_some h
 have:=pre_len h2
 exact ⟨h1,by omega⟩
theorem tkL_none {l:List Int} {d v at_:Nat} (h:tkR l at_ (v:Int)=none):tkL l (d+1) v at_=none:=by rw [tkL,h]
theorem tkL_bad {l:List Int} {d v at_ n:Nat} {q:List Int} (h:tkR l at_ (v:Int)=some (q,n)) (h2:tkL l d (v+1) n=none):tkL l (d+1) v at_=none:=by rw [tkL,h];simp only [h2]
theorem tkL_ok {l:List Int} {d v at_ n m:Nat} {q:List Int} {qs:List (List Int)} (h:tkR l at_ (v:Int)=some (q,n)) (h2:tkL l d (v+1) n=some (qs,m)):tkL l (d+1) v at_=some (q::qs,m):=by rw [tkL,h];simp only [h2]
theorem lsum_le {c:Nat}:∀ {ls:List (List Int)},(∀ y∈ls,y.length≤c)→lsum ls≤c*ls.length
 | [],_=>by simp [lsum]
 | y::ls,h=>by
  have h1:=h y List.mem_cons_self
  have h2:=lsum_le (c:=c) (ls:=ls) (fun z hz=>h z (List.mem_cons_of_mem _ hz))
  rw [lsum_cons,List.length_cons,Nat.mul_succ];omega
theorem gsm16 {n:Int} {ls:List (List Int)} (h:ls.length≤16) (h2:∀ y∈ls,y.length≤16):GSm (n,ls):=by
 have:=lsum_le h2
 show ls.length+lsum ls≤1000000
 omega
abbrev G0:Ac:=(0,[])
theorem splice_set {acc:List (List Int)} {q:List Int} {qs:List (List Int)} {v d:Nat} (hv:v<acc.length):(acc.set v q).take (v+1)++qs++(acc.set v q).drop (v+1+d)=acc.take v++(q::qs)++acc.drop (v+(d+1)):=by
 have h1:(acc.set v q).take (v+1)=acc.take v++[q]:=by
  rw [take_getD (d:=[]) (by simpa using hv),getD_set _ _ _ _ hv,if_pos rfl,List.take_set_of_le (Nat.le_refl _)]
 have h2:(acc.set v q).drop (v+1+d)=acc.drop (v+(d+1)):=by
  rw [List.drop_set_of_lt (by omega),show v+1+d=v+(d+1) by omega]
 rw [h1,h2,List.append_assoc,List.append_assoc,List.append_assoc];rfl
noncomputable def hdF (l:List Int):Option (Nat × Nat):=match rg l 0 with
 | none=>none
 | some (k,m)=>if k > 17 then none else some (k.toNat-1,m)
theorem hdF_le {l:List Int} (h:Bt l) {n m:Nat} (hh:hdF l=some (n,m)):n≤16∧m≤l.length:=by
 unfold hdF at hh
 split at hh
 ·cases hh
 ·rename_i k m' hr
  split at hh
  ·cases hh
  ·cases hh
   obtain ⟨j,rfl,j0,j1,hp,rfl⟩:=rg_can h hr
   have:=pre_len hp
   exact ⟨by omega,by omega⟩
noncomputable def tkF (l:List Int):Option Ac:=match hdF l with
 | none=>none
 | some (n,at_)=>match tkL l n 0 at_ with
  | none=>none
  | some (qs,m)=>if m=l.length∧GraphP ((n:Int),qs) then some ((n:Int),qs) else none
theorem tkF_G {l:List Int} {g:Ac} (h:tkF l=some g):GraphP g:=by
 unfold tkF at h
 split at h
 ·cases h
 ·split at h
  ·cases h
  ·split at h
   ·rename_i hc;cases h;exact hc.2
   ·cases h
theorem rep_len {n:Nat}:∀ y∈List.replicate n ([]:List Int),y.length≤16:=by
 intro y hy
 obtain ⟨_,rfl⟩:=List.mem_replicate.1 hy
 simp
theorem redges_ev {g:Ac} (hs:GSm g):E0 (fun K=>Dc K g) (lsum g.Out:Int):=by
 unfold GSm at hs
 have key:∀ i,i≤g.Out.length→E1 (fun K k=>Dc.l1 K g k (lsum (g.Out.take i):Int) (i:Int)) (lsum g.Out:Int):=by
  refine upto ?_ ?_
  ·refine step1 (fun _ _ _ _ _=>Dc.l1.eq_2 ..) ?_
   exact negD (by omega) (nowE (by rw [List.take_length]))
  ·intro i hi ih
   have h1:=lsum_take hi
   have h2:=lsum_take_le g.Out (i+1)
   refine step1 (fun _ _ _ _ _=>Dc.l1.eq_2 ..) ?_
   refine posD (by omega) (pos (by omega) ?_)
   rw [rd1N,w64 (by omega) (by omega),w1 (by omega),show ((lsum (g.Out.take i):Int)+((g.Out.getD i []).length:Int))=(lsum (g.Out.take (i+1)):Int) by omega]
   exact ih
 exact (key 0 (by omega)).e1
theorem rgraph_ev (g:Ac) (hs:GSm g):E0 (fun K=>Bu K g) (decide (GraphP g)):=by
 have key:(g.Out.length:Int)=g.N→0≤g.N→g.N≤16→∀ i,i≤g.Out.length→(∀ j,j<i→RowP g.N (g.Out.getD j []))→E1 (fun K k=>Bu.l1 K g k (i:Int)) (decide (GraphP g)):=by
  intro hn n0 n16
  refine upto ?_ ?_
  ·intro hok
   refine step1 (fun _ _ _ _ _=>Bu.l1.eq_2 ..) ?_
   refine negD (by omega) (bnd (redges_ev hs) (nowE ?_))
   have:GraphP g↔lsum g.Out≤120:=⟨fun h=>h.2.2.2.2,fun h=>⟨n0,n16,hn,hok,h⟩⟩
   rw [Bool.eq_iff_iff,decide_eq_true_iff,decide_eq_true_iff,this];omega
  ·intro i hi ih hok
   have hr:=hs.row hi
   refine step1 (fun _ _ _ _ _=>Bu.l1.eq_2 ..) ?_
   refine posD (by omega) (pos (by omega) ?_)
   rw [rd1N]
   refine bnd (may3_ev _ (by omega)) ?_
   have hno:¬ RowP g.N (g.Out.getD i [])→decide (GraphP g)=false:=fun h=>decide_eq_false fun hg=>h (hg.2.2.2.1 i hi)
   have hgo:RowP g.N (g.Out.getD i [])→∀ j,j<i+1→RowP g.N (g.Out.getD j []):=fun h j hj=>by
    by_cases e:j=i
    ·subst e;exact h
    ·exact hok j (by omega)
   by_cases hm:MayP (g.Out.getD i [])
   ·refine negM hm (pos (by omega) ?_)
    rw [w1 (by omega)]
    by_cases h0:0<(g.Out.getD i []).length
    ·have e1:wr .i64 (((g.Out.getD i []).length:Int)-1)=(((g.Out.getD i []).length-1:Nat):Int):=by rw [w64 (by omega) (by omega)];omega
     refine posD (by omega) (pos (by omega) (pos (by omega) ?_))
     rw [e1,rdN]
     refine pos (by omega) ?_
     by_cases hlt:(g.Out.getD i []).getD ((g.Out.getD i []).length-1) 0≥g.N
     ·exact posD hlt (nowE (hno fun h=>by have:=h.2 h0;omega).symm)
     ·exact negD hlt (ih (hgo ⟨hm,fun _=>by omega⟩))
    ·exact negD (by omega) (ih (hgo ⟨hm,fun h=>absurd h h0⟩))
   ·exact posM hm (nowE (hno fun h=>hm h.1).symm)
 refine bnd (congr (fun K _ _ _ _=>num_eq K g.N 16) (now _)) ?_
 by_cases h0:0≤g.N∧g.N≤16
 ·refine negM h0 ?_
  by_cases hn:(g.Out.length:Int)=g.N
  ·exact negN hn (key hn h0.1 h0.2 0 (by omega) (fun j hj=>by omega)).e1
  ·exact posN hn (nowE (decide_eq_false fun hg=>hn hg.2.2.1).symm)
 ·exact posM h0 (nowE (decide_eq_false fun hg=>h0 ⟨hg.1,hg.2.1⟩).symm)
theorem rtf_l1 {l:List Int} (h:Bt l) (hb:l.length≤1000000) {n:Nat} (hn:n≤16) {r:List (List Int)}:∀ (d v at_:Nat) (acc:List (List Int)),v+d=n→at_≤l.length→acc.length=n→(∀ y∈acc,y.length≤16) →
  E1 (fun K k=>Ck.l1 K ((n:Int),r) l k (at_:Int) (v:Int) 0 acc) (match tkL l d v at_ with | none=>(G0,false) | some (qs,m)=>if m=l.length∧GraphP ((n:Int),acc.take v++qs) then (((n:Int),acc.take v++qs),true) else (G0,false)):=by
 intro d
 induction d with
 | zero =>
  intro v at_ acc hv hat hl ha
  refine step1 (fun _ _ _ _ _=>Ck.l1.eq_2 ..) ?_
  refine negD (show ¬ ((v:Int)<(n:Int)) by omega) ?_
  simp only [tkL,List.append_nil]
  rw [List.take_of_length_le (by omega)]
  by_cases c:at_=l.length
  ·refine negN (by omega) (bnd (rgraph_ev ((n:Int),acc) (gsm16 (by omega) ha)) ?_)
   by_cases g:GraphP ((n:Int),acc)
   ·rw [if_pos (show at_=l.length∧GraphP ((n:Int),acc) from ⟨c,g⟩)]
    exact negM g (now _)
   ·rw [if_neg (show ¬ (at_=l.length∧GraphP ((n:Int),acc)) from fun z=>g z.2)]
    exact posM g (now _)
  ·rw [if_neg (show ¬ (at_=l.length∧GraphP ((n:Int),acc)) from fun z=>c z.1)]
   exact posN (by omega) (now _)
 | succ d ih =>
  intro v at_ acc hv hat hl ha
  have r1:=rtr_tk h hb (v:=(v:Int)) (by omega) (by omega) hat
  refine step1 (fun _ _ _ _ _=>Ck.l1.eq_2 ..) ?_
  refine posD (show ((v:Int)<(n:Int)) by omega) (bnd r1 ?_)
  cases ht:tkR l at_ (v:Int) with
  | none=>rw [tkL_none ht];exact pos rfl (now _)
  | some p =>
   obtain ⟨q,m⟩:=p
   obtain ⟨h1,h2⟩:=tkR_le hat ht
   have hql:=h1.len
   have hi:=ih (v+1) m (acc.set v q) (by omega) h2 (by simp [hl]) (fun y hy=>by
    rcases List.mem_or_eq_of_mem_set hy with hy | rfl
    ·exact ha y hy
    ·exact hql)
   refine negB rfl (pos (by omega) ?_)
   rw [w1 (by omega),Int.toNat_natCast]
   refine ofEq hi ?_
   cases hT:tkL l d (v+1) m with
   | none=>rw [tkL_bad ht hT]
   | some p =>
    obtain ⟨qs,m'⟩:=p
    rw [tkL_ok ht hT]
    have h1:(acc.set v q).take (v+1)++qs=acc.take v++(q::qs):=by
     have:=splice_set (acc:=acc) (q:=q) (qs:=qs) (v:=v) (d:=d) (by omega)
     rw [List.drop_of_length_le (by simp;omega),List.drop_of_length_le (by omega),List.append_nil,List.append_nil] at this
     exact this
    simp only [h1]
theorem rnew_eq {K n:Nat} (h:n≤16):Ec K (n:Int)=some ((n:Int),List.replicate n []):=by
 unfold Ec
 rw [if_pos ⟨rfl,by omega,by omega,by omega⟩]
 rfl
theorem rhead {l:List Int} (h:Bt l) (hb:l.length≤1000000) {α:Type} {f:Nat→Nat→Nat→Nat→Nat→Int × Int→Option α} {bad res:α} (h1:hdF l=none→res=bad) (h2:∀ n at_,hdF l=some (n,at_)→Ev (fun x y z u v=>f x y z u v (((n+1:Nat):Int),(at_:Int))) res) :
  Ev (fun x y z u v=>(Aa x l 0 2).bind fun r=>if decide (r.1<1) then some bad else if decide ((wr .i64 (r.1-1)) > 16) then some bad else f x y z u v r) res:=by
 have hrd:=RRead_ev h (by omega) (at_:=0) (by omega)
 unfold hdF at h1 h2
 cases hr:rg l 0 with
 | none =>
  rw [hr] at hrd h1
  rw [h1 rfl]
  exact bnd hrd (posD (show (-1:Int)<1 by decide) (now _))
 | some p =>
  obtain ⟨k,m⟩:=p
  rw [hr] at hrd h1 h2
  obtain ⟨j,rfl,j0,j1,hp,rfl⟩:=rg_can h hr
  have e0:wr .i64 ((j:Int)-1)=((j-1:Nat):Int):=by rw [w64 (by omega) (by omega)];omega
  refine bnd hrd (negD (show ¬ ((j:Int)<1) by omega) ?_)
  simp only
  rw [e0]
  by_cases c:(j:Int) > 17
  ·simp only [if_pos c] at h1
   rw [h1 trivial]
   exact posD (by omega) (now _)
  ·simp only [if_neg c] at h2
   have:=h2 (j-1) _ (by rw [show ((j:Int)).toNat=j by omega])
   rw [show j-1+1=j by omega] at this
   exact negD (by omega) this
theorem rtakeF {l:List Int} (h:Bt l) (hb:l.length≤1000000):E0 (fun K=>Ck K l) (match tkF l with | some g=>(g,true) | none=>(G0,false)):=by
 refine rhead h hb (fun e=>by unfold tkF;rw [e]) (fun n at_ e=>?_)
 obtain ⟨hn,hat⟩:=hdF_le h e
 simp only
 rw [show wr .i64 (((n+1:Nat):Int)-1)=(n:Int) by rw [w64 (by omega) (by omega)];omega]
 refine bnd (congr (fun K _ _ _ _=>rnew_eq hn) (now _)) ?_
 have:=(rtf_l1 h hb hn (r:=List.replicate n []) n 0 at_ (List.replicate n []) (by omega) hat (by simp) rep_len).e1
 refine ofEq this ?_
 unfold tkF
 rw [e]
 simp only
 cases tkL l n 0 at_ with
 | none=>rfl
 | some p =>
  obtain ⟨qs,m⟩:=p
  show (if m=l.length∧GraphP ((n:Int),qs) then (((n:Int),qs),true) else (G0,false))=match (if m=l.length∧GraphP ((n:Int),qs) then some (((n:Int),qs):Ac) else none) with | some g=>(g,true) | none=>(G0,false)
  by_cases c:m=l.length∧GraphP ((n:Int),qs)
  ·rw [if_pos c,if_pos c]
  ·rw [if_neg c,if_neg c]
end Go.XL
end
end
section
section
namespace Go.XL
open Go.XM
theorem rbase_eq {g:Ac} (h:GP g) (K v:Nat):E9 K g (v:Int)=some (dl g v):=by
 unfold E9 dl
 by_cases hv:v<g.Out.length
 ·rw [if_pos (by rw [h.n];simp;omega),if_pos (by omega),rd1N]
 ·rw [if_neg (by rw [h.n];simp;omega),List.getD_eq_getElem?_getD,List.getElem?_eq_none (by omega)];rfl
noncomputable def tkM (l:List Int) (b:Ac):Nat→Nat→Nat→Option (List (List Int) × Nat)
 | 0,_,at_=>some ([],at_)
 | d+1,v,at_=>match tkC l at_ (v:Int) (dl b v) with
  | none=>none
  | some (q,n)=>match tkM l b d (v+1) n with
   | none=>none
   | some (qs,m)=>some (q::qs,m)
theorem tkC_le {l:List Int} {at_:Nat} {v:Int} {ref q:List Int} {n:Nat} (hat:at_≤l.length) (h:tkC l at_ v ref=some (q,n)):MayP q∧n≤l.length:=by
 obtain ⟨⟨h1,h2⟩,rfl⟩:=tkC_some h
 have:=pre_len h2
 exact ⟨h1,by omega⟩
variable {b:Ac}
theorem tkM_none {l:List Int} {d v at_:Nat} (h:tkC l at_ (v:Int) (dl b v)=none):tkM l b (d+1) v at_=none:=by rw [tkM,h]
theorem tkM_bad {l:List Int} {d v at_ n:Nat} {q:List Int} (h:tkC l at_ (v:Int) (dl b v)=some (q,n)) (h2:tkM l b d (v+1) n=none):tkM l b (d+1) v at_=none:=by rw [tkM,h];simp only [h2]
theorem tkM_ok {l:List Int} {d v at_ n m:Nat} {q:List Int} {qs:List (List Int)} (h:tkC l at_ (v:Int) (dl b v)=some (q,n)) (h2:tkM l b d (v+1) n=some (qs,m)):tkM l b (d+1) v at_=some (q::qs,m):=by rw [tkM,h];simp only [h2]
noncomputable def tkD (l:List Int) (b:Ac):Option Ac:=match hdF l with
 | none=>none
 | some (n,at_)=>match tkM l b n 0 at_ with
  | none=>none
  | some (qs,m)=>if m=l.length∧GraphP ((n:Int),qs) then some ((n:Int),qs) else none
theorem tkD_G {l:List Int} {g:Ac} (h:tkD l b=some g):GraphP g:=by
 unfold tkD at h
 split at h
 ·cases h
 ·split at h
  ·cases h
  ·split at h
   ·rename_i hc;cases h;exact hc.2
   ·cases h
theorem rtd_l1 {l:List Int} (h:Bt l) (hb:l.length≤1000000) (hG:GP b) {n:Nat} (hn:n≤16) {r:List (List Int)}:∀ (d v at_:Nat) (acc:List (List Int)),v+d=n→at_≤l.length→acc.length=n→(∀ y∈acc,y.length≤16) →
  E1 (fun K k=>Cm.l1 K ((n:Int),r) b l k (at_:Int) (v:Int) 0 acc) (match tkM l b d v at_ with | none=>(G0,false) | some (qs,m)=>if m=l.length∧GraphP ((n:Int),acc.take v++qs) then (((n:Int),acc.take v++qs),true) else (G0,false)):=by
 intro d
 induction d with
 | zero =>
  intro v at_ acc hv hat hl ha
  refine step1 (fun _ _ _ _ _=>Cm.l1.eq_2 ..) ?_
  refine negD (show ¬ ((v:Int)<(n:Int)) by omega) ?_
  simp only [tkM,List.append_nil]
  rw [List.take_of_length_le (by omega)]
  by_cases c:at_=l.length
  ·refine negN (by omega) (bnd (rgraph_ev ((n:Int),acc) (gsm16 (by omega) ha)) ?_)
   by_cases g:GraphP ((n:Int),acc)
   ·rw [if_pos (show at_=l.length∧GraphP ((n:Int),acc) from ⟨c,g⟩)]
    exact negM g (now _)
   ·rw [if_neg (show ¬ (at_=l.length∧GraphP ((n:Int),acc)) from fun z=>g z.2)]
    exact posM g (now _)
  ·rw [if_neg (show ¬ (at_=l.length∧GraphP ((n:Int),acc)) from fun z=>c z.1)]
   exact posN (by omega) (now _)
 | succ d ih =>
  intro v at_ acc hv hat hl ha
  have r1:=rtb_tk h hb (v:=(v:Int)) (by omega) (by omega) (dl_may hG v) hat
  refine step1 (fun _ _ _ _ _=>Cm.l1.eq_2 ..) ?_
  refine posD (show ((v:Int)<(n:Int)) by omega) (bnd (congr (fun K _ _ _ _=>rbase_eq hG K v) (now _)) (bnd r1 ?_))
  cases ht:tkC l at_ (v:Int) (dl b v) with
  | none=>rw [tkM_none ht];exact pos rfl (now _)
  | some p =>
   obtain ⟨q,m⟩:=p
   obtain ⟨h1,h2⟩:=tkC_le hat ht
   have hql:=h1.len
   have hi:=ih (v+1) m (acc.set v q) (by omega) h2 (by simp [hl]) (fun y hy=>by
    rcases List.mem_or_eq_of_mem_set hy with hy | rfl
    ·exact ha y hy
    ·exact hql)
   refine negB rfl (pos (by omega) ?_)
   rw [w1 (by omega),Int.toNat_natCast]
   refine ofEq hi ?_
   cases hT:tkM l b d (v+1) m with
   | none=>rw [tkM_bad ht hT]
   | some p =>
    obtain ⟨qs,m'⟩:=p
    rw [tkM_ok ht hT]
    have h1:(acc.set v q).take (v+1)++qs=acc.take v++(q::qs):=by
     have:=splice_set (acc:=acc) (q:=q) (qs:=qs) (v:=v) (d:=d) (by omega)
     rw [List.drop_of_length_le (by simp;omega),List.drop_of_length_le (by omega),List.append_nil,List.append_nil] at this
     exact this
    simp only [h1]
theorem rtakeD {l:List Int} (h:Bt l) (hb:l.length≤1000000) (hG:GP b):E0 (fun K=>Cm K b l) (match tkD l b with | some g=>(g,true) | none=>(G0,false)):=by
 refine rhead h hb (fun e=>by unfold tkD;rw [e]) (fun n at_ e=>?_)
 obtain ⟨hn,hat⟩:=hdF_le h e
 simp only
 rw [show wr .i64 (((n+1:Nat):Int)-1)=(n:Int) by rw [w64 (by omega) (by omega)];omega]
 refine bnd (congr (fun K _ _ _ _=>rnew_eq hn) (now _)) ?_
 have:=(rtd_l1 h hb hG hn (r:=List.replicate n []) n 0 at_ (List.replicate n []) (by omega) hat (by simp) rep_len).e1
 refine ofEq this ?_
 unfold tkD
 rw [e]
 simp only
 cases tkM l b n 0 at_ with
 | none=>rfl
 | some p =>
  obtain ⟨qs,m⟩:=p
  show (if m=l.length∧GraphP ((n:Int),qs) then (((n:Int),qs),true) else (G0,false))=match (if m=l.length∧GraphP ((n:Int),qs) then some (((n:Int),qs):Ac) else none) with | some g=>(g,true) | none=>(G0,false)
  by_cases c:m=l.length∧GraphP ((n:Int),qs)
  ·rw [if_pos c,if_pos c]
  ·rw [if_neg c,if_neg c]
section
variable {ts:List Cu} {x:Ef}
end
variable {x:Ef}
end Go.XL
end
end
section
section
namespace Go.XL
open Go.XM
def ixo (id:Int):List Am→Nat→Int
 | [],_=>-1
 | o::l,i=>if o.ID=id then (i:Int) else ixo id l (i+1)
abbrev ix (l:List Am) (id:Int):Int:=ixo id l 0
theorem ixo_spec {id:Int}:∀ (l:List Am) (i:Nat),(ixo id l i=-1∧∀ o∈l,o.ID≠id)∨∃ j,ixo id l i=((i+j:Nat):Int)∧j<l.length∧(l.getD j default).ID=id
 | [],i=>.inl ⟨rfl,by simp⟩
 | o::l,i=>by
  unfold ixo
  by_cases e:o.ID=id
  ·rw [if_pos e]
   exact .inr ⟨0,by simp,by simp,by simpa using e⟩
  ·rw [if_neg e]
   rcases ixo_spec l (i+1) with ⟨h1,h2⟩ | ⟨j,h1,h2,h3⟩
   ·exact .inl ⟨h1,fun x hx=>(List.mem_cons.1 hx).elim (fun q=>q ▸ e) (h2 x)⟩
   ·exact .inr ⟨j+1,by rw [h1];congr 1;omega,by simpa using h2,by simpa using h3⟩
theorem ix_spec (l:List Am) (id:Int):(ix l id=-1∧∀ o∈l,o.ID≠id)∨∃ j:Nat,ix l id=(j:Int)∧j<l.length∧(l.getD j default).ID=id:=by
 rcases ixo_spec (id:=id) l 0 with h | ⟨j,h⟩
 ·exact .inl h
 ·exact .inr ⟨j,by simpa using h⟩
theorem find_ev (l:List Am) (id:Int) (hl:l.length≤1000000):E0 (fun K=>Gf K l id) (ix l id):=by
 have key:∀ i,i≤l.length→E1 (fun K k=>Aj.l1 K l k ((l.length:Nat):Int) (i:Int) id) (ixo id (l.drop i) i,id):=by
  refine upto ?_ ?_
  ·refine step1 (fun _ _ _ _ _=>Aj.l1.eq_2 ..) ?_
   rw [List.drop_length]
   exact negD (by omega) (now _)
  ·intro i hi ih
   refine step1 (fun _ _ _ _ _=>Aj.l1.eq_2 ..) ?_
   refine posD (by omega) (pos (by omega) (bnd (now _) ?_))
   rw [drop_getD (d:=default) hi,ixo]
   by_cases e:(l.getD i default).ID=id
   ·rw [if_pos e]
    refine pos ?_ (now _)
    rw [nthN];simp only [e,beq_self_eq_true]
   ·rw [if_neg e]
    refine neg ?_ ?_
    ·rw [nthN];simpa using e
    ·rw [w1 (by omega)];exact ih
 exact bnd (key 0 (by omega)).e1 (now _)
theorem At_ev (l:List Am) (id:Int) (hl:l.length≤1000000):E0 (fun K=>Cs K l id) (ix l id):=by
 have key:∀ i,i≤l.length→E1 (fun K k=>Cs.l1 K l id k (i:Int)) (ixo id (l.drop i) i):=by
  refine upto ?_ ?_
  ·refine step1 (fun _ _ _ _ _=>Cs.l1.eq_2 ..) ?_
   rw [List.drop_length]
   exact negD (by omega) (now _)
  ·intro i hi ih
   refine step1 (fun _ _ _ _ _=>Cs.l1.eq_2 ..) ?_
   refine posD (by omega) (pos (by omega) ?_)
   rw [drop_getD (d:=default) hi,ixo]
   by_cases e:(l.getD i default).ID=id
   ·rw [if_pos e]
    refine posE (by rw [nthN];exact e) (now _)
   ·rw [if_neg e]
    refine negE (by rw [nthN];exact e) ?_
    rw [w1 (by omega)];exact ih
 exact (key 0 (by omega)).e1
def ObjP (l:List Am) (i:Nat):Prop :=
 let o:=l.getD i default
 1≤o.ID∧o.ID≤1048576∧(0<i→(l.getD (i-1) default).ID<o.ID)∧o.Base≠o.ID∧(o.Base≠0→0≤ix l o.Base)∧MayB o.Data
def ObjsP (l:List Am):Prop:=l.length≤12∧∀ i,i<l.length→ObjP l i
instance (l:List Am) (i:Nat):Decidable (ObjP l i):=by unfold ObjP;infer_instance
instance (l:List Am):Decidable (ObjsP l):=by unfold ObjsP;infer_instance
end Go.XL
end
end
section
section
namespace Go.XL
open Go.XM
abbrev AllP (l:List Am) (i:Nat):Prop:=∀ j,j<l.length→i≤j→ObjP l j
theorem allP_no {l:List Am} {i:Nat} (hi:i<l.length) (h:¬ ObjP l i):false=decide (AllP l i):=(decide_eq_false fun k=>h (k i hi (Nat.le_refl _))).symm
theorem allP_go {l:List Am} {i:Nat} (h:ObjP l i):decide (AllP l (i+1))=decide (AllP l i) :=
 decide_eq_decide.2 ⟨fun k j hj hi=>by
  by_cases e:j=i
  ·subst e;exact h
  ·exact k j hj (by omega),fun k j hj hi=>k j hj (by omega)⟩
theorem cmay_l1 {l:List Am} (hl:l.length≤1000000) (hs:∀ o∈l,o.Data.Data.size≤1000000):∀ i,i≤l.length→E1 (fun K k=>Eh.l1 K l k ((l.length:Nat):Int) (i:Int)) (decide (AllP l i)):=by
 refine upto ?_ ?_
 ·refine step1 (fun _ _ _ _ _=>Eh.l1.eq_2 ..) ?_
  refine negD (by omega) (nowE (decide_eq_true fun j hj hi=>by omega).symm)
 ·intro i hi ih
  refine step1 (fun _ _ _ _ _=>Eh.l1.eq_2 ..) ?_
  rw [w1 (by omega),nthN]
  generalize ho:l.getD i default=o
  have hP:ObjP l i↔1≤o.ID∧o.ID≤1048576∧(0<i→(l.getD (i-1) default).ID<o.ID)∧o.Base≠o.ID∧(o.Base≠0→0≤ix l o.Base)∧MayB o.Data:=by unfold ObjP;rw [ho]
  have hso:o.Data.Data.size≤1000000:=by rw [← ho];exact hs _ (getD_mem hi)
  refine posD (by omega) (pos (by omega) ?_)
  by_cases c1:o.ID<1
  ·exact posD c1 (nowE (allP_no hi fun h=>by have:=(hP.1 h).1;omega))
  refine negD c1 ?_
  by_cases c2:o.ID > 1048576
  ·exact posD c2 (nowE (allP_no hi fun h=>by have:=(hP.1 h).2.1;omega))
  refine negD c2 ?_
  have tail:(0<i→(l.getD (i-1) default).ID<o.ID)→∀ {go:Nat→Nat→Option Bool},E1 (fun K k=>go K k) (decide (AllP l (i+1))) →
    Ev (fun K k _ _ _=>(Gl K o.Data).bind fun r41=>if (!r41) then some false else if (o.Base == o.ID) then some false else if (o.Base != 0) then (Gf K l o.Base).bind fun r57=>if decide (r57<0) then some false else go K k else go K k) (decide (AllP l i)):=by
   intro c3 go hgo
   refine bnd (congr (fun K _ _ _ _=>bMay_eq hso K) (now _)) ?_
   by_cases c4:MayB o.Data
   ·refine negM c4 ?_
    by_cases c5:o.Base=o.ID
    ·exact posE c5 (nowE (allP_no hi fun h=>(hP.1 h).2.2.2.1 c5))
    refine negE c5 ?_
    by_cases c6:o.Base=0
    ·exact negN c6 (ofEq hgo (allP_go (hP.2 ⟨by omega,by omega,c3,c5,fun h=>absurd c6 h,c4⟩)))
    refine posN c6 (bnd (find_ev l _ hl) ?_)
    by_cases c7:ix l o.Base<0
    ·exact posD c7 (nowE (allP_no hi fun h=>by have:=(hP.1 h).2.2.2.2.1 c6;omega))
    ·exact negD c7 (ofEq hgo (allP_go (hP.2 ⟨by omega,by omega,c3,c5,fun _=>by omega,c4⟩)))
   ·exact posM c4 (nowE (allP_no hi fun h=>c4 (hP.1 h).2.2.2.2.2))
  by_cases c0:0<i
  ·have e1:wr .i64 ((i:Int)-1)=((i-1:Nat):Int):=by rw [w64 (by omega) (by omega)];omega
   rw [e1,nthN]
   refine posD (by omega) (pos (by omega) ?_)
   by_cases c3:o.ID≤(l.getD (i-1) default).ID
   ·exact posD c3 (nowE (allP_no hi fun h=>by have:=(hP.1 h).2.2.1 c0;omega))
   ·exact negD c3 (tail (fun _=>by omega) ih)
  ·exact negD (by omega) (tail (fun h=>absurd h c0) ih)
theorem cmay_ev {l:List Am} (hl:l.length≤1000000) (hs:∀ o∈l,o.Data.Data.size≤1000000):E0 (fun K=>Eh K l) (decide (ObjsP l)):=by
 by_cases c:l.length≤12
 ·refine negD (by omega) (ofEq (cmay_l1 hl hs 0 (by omega)).e1 (decide_eq_decide.2 ⟨fun k=>⟨c,fun i hi=>k i hi (by omega)⟩,fun k j hj _=>k.2 j hj⟩))
 ·exact posD (by omega) (nowE (decide_eq_false fun h=>c h.1).symm)
theorem robj_l1 {l:List Am} (hl:l.length≤1000000) (hs:∀ o∈l,o.Data.Data.size≤1000000):∀ i,i≤l.length→E1 (fun K k=>Bv.l1 K l k (i:Int)) (decide (AllP l i)):=by
 refine upto ?_ ?_
 ·refine step1 (fun _ _ _ _ _=>Bv.l1.eq_2 ..) ?_
  refine negD (by omega) (nowE (decide_eq_true fun j hj hi=>by omega).symm)
 ·intro i hi ih
  refine step1 (fun _ _ _ _ _=>Bv.l1.eq_2 ..) ?_
  rw [w1 (by omega),nthN]
  generalize ho:l.getD i default=o
  have hP:ObjP l i↔1≤o.ID∧o.ID≤1048576∧(0<i→(l.getD (i-1) default).ID<o.ID)∧o.Base≠o.ID∧(o.Base≠0→0≤ix l o.Base)∧MayB o.Data:=by unfold ObjP;rw [ho]
  have hso:o.Data.Data.size≤1000000:=by rw [← ho];exact hs _ (getD_mem hi)
  have btw:E0 (fun K=>Bo K o.ID 1 1048576) (decide (1≤o.ID∧o.ID≤1048576)):=by
   unfold Bo
   by_cases c:o.ID≥1
   ·exact posD c (nowE (decide_eq_decide.2 ⟨fun h=>⟨c,h⟩,fun h=>h.2⟩))
   ·exact negD c (nowE (decide_eq_false fun h=>c h.1).symm)
  refine posD (by omega) (pos (by omega) (bnd btw ?_))
  by_cases c1:1≤o.ID∧o.ID≤1048576
  ·refine negM c1 ?_
   have tail:(0<i→(l.getD (i-1) default).ID<o.ID)→∀ {go:Nat→Nat→Option Bool},E1 (fun K k=>go K k) (decide (AllP l (i+1))) →
     Ev (fun K k _ _ _=>if (o.Base == o.ID) then some false else if (o.Base != 0) then (Cs K l o.Base).bind fun r52=>if decide (r52<0) then some false else (Cj K o.Data).bind fun r59=>if (!r59) then some false else go K k else (Cj K o.Data).bind fun r59=>if (!r59) then some false else go K k) (decide (AllP l i)):=by
    intro c3 go hgo
    by_cases c5:o.Base=o.ID
    ·exact posE c5 (nowE (allP_no hi fun h=>(hP.1 h).2.2.2.1 c5))
    refine negE c5 ?_
    have last:(o.Base≠0→0≤ix l o.Base)→Ev (fun K k _ _ _=>(Cj K o.Data).bind fun r59=>if (!r59) then some false else go K k) (decide (AllP l i)):=by
     intro c6
     refine bnd (rBits_ev hso) ?_
     by_cases c4:MayB o.Data
     ·exact negM c4 (ofEq hgo (allP_go (hP.2 ⟨c1.1,c1.2,c3,c5,c6,c4⟩)))
     ·exact posM c4 (nowE (allP_no hi fun h=>c4 (hP.1 h).2.2.2.2.2))
    by_cases c6:o.Base=0
    ·exact negN c6 (last fun h=>absurd c6 h)
    refine posN c6 (bnd (At_ev l _ hl) ?_)
    by_cases c7:ix l o.Base<0
    ·exact posD c7 (nowE (allP_no hi fun h=>by have:=(hP.1 h).2.2.2.2.1 c6;omega))
    ·exact negD c7 (last fun _=>by omega)
   by_cases c0:0<i
   ·have e1:wr .i64 ((i:Int)-1)=((i-1:Nat):Int):=by rw [w64 (by omega) (by omega)];omega
    rw [e1,nthN]
    refine posD (by omega) (pos (by omega) ?_)
    by_cases c3:(l.getD (i-1) default).ID≥o.ID
    ·exact posD c3 (nowE (allP_no hi fun h=>by have:=(hP.1 h).2.2.1 c0;omega))
    ·exact negD c3 (tail (fun _=>by omega) ih)
   ·exact negD (by omega) (tail (fun h=>absurd h c0) ih)
  ·exact posM c1 (nowE (allP_no hi fun h=>c1 ⟨(hP.1 h).1,(hP.1 h).2.1⟩))
theorem robj_ev {l:List Am} (hl:l.length≤1000000) (hs:∀ o∈l,o.Data.Data.size≤1000000):E0 (fun K=>Bv K l) (decide (ObjsP l)):=by
 by_cases c:l.length≤12
 ·refine negD (by omega) (ofEq (robj_l1 hl hs 0 (by omega)).e1 (decide_eq_decide.2 ⟨fun k=>⟨c,fun i hi=>k i hi (by omega)⟩,fun k j hj _=>k.2 j hj⟩))
 ·exact posD (by omega) (nowE (decide_eq_false fun h=>c h.1).symm)
end Go.XL
end
end
section
section
namespace Go.XL
open Go.XM
abbrev ob (l:List Am) (id:Int):Am:=l.getD (ix l id).toNat default
def wayP (l:List Am):Nat→Int→List Am
 | 0,_=>[]
 | m+1,id=>if id=0 then [] else ob l id::wayP l m (ob l id).Base
def There (l:List Am) (id:Int):Prop:=id=0∨0≤ix l id
theorem ix_lt {l:List Am} {id:Int} (h:0≤ix l id):ix l id<(l.length:Int)∧(ix l id).toNat<l.length∧(ob l id).ID=id:=by
 rcases ix_spec l id with ⟨e,_⟩ | ⟨j,e,h1,h2⟩
 ·omega
 ·refine ⟨by omega,by omega,?_⟩
  show (l.getD (ix l id).toNat default).ID=id
  rw [e];exact h2
theorem there_base {l:List Am} (h:ObjsP l) {id:Int} (hi:0≤ix l id):There l (ob l id).Base:=by
 by_cases c:(ob l id).Base=0
 ·exact .inl c
 ·exact .inr ((h.2 _ (ix_lt hi).2.1).2.2.2.2.1 c)
theorem ob_mayB {l:List Am} (h:ObjsP l) {id:Int} (hi:0≤ix l id):MayB (ob l id).Data:=(h.2 _ (ix_lt hi).2.1).2.2.2.2.2
theorem ix0 {l:List Am} (h:ObjsP l):ix l 0<0:=by
 rcases ix_spec l 0 with ⟨e,_⟩ | ⟨j,e,h1,h2⟩
 ·omega
 ·have:=(h.2 j h1).1;omega
def Cl (l:List Am):Prop:=l.length≤12∧∀ id,0≤ix l id→There l (ob l id).Base
theorem ObjsP.cl {l:List Am} (h:ObjsP l):Cl l:=⟨h.1,fun _ hi=>there_base h hi⟩
def deepP (l:List Am) (id:Int):Int × Int:=if ix l id<0 then (0,3) else if 3<(wayP l 4 id).length then (0,2) else (((wayP l 4 id).length:Int),0)
theorem nth_ob {l:List Am} {id:Int}:nth l (ix l id)=ob l id:=rfl
theorem rdep_l1 {l:List Am} (h:Cl l):∀ (d n:Nat) (id:Int),n+d=3→There l id →
  E1 (fun K k=>C8.l1 K l k id (n:Int)) (if 3<n+(wayP l (d+1) id).length then (0,2) else (((n+(wayP l (d+1) id).length:Nat):Int),0)):=by
 intro d
 induction d with
 | zero =>
  intro n id hd hi
  refine step1 (fun _ _ _ _ _=>C8.l1.eq_2 ..) ?_
  rw [wayP]
  by_cases c:id=0
  ·rw [if_pos c]
   refine negN c ?_
   rw [if_neg (by simp;omega)]
   exact nowE (by simp)
  ·rw [if_neg c]
   refine posN c ?_
   rw [w1 (by omega),if_pos (by simp [wayP];omega)]
   exact posD (by omega) (now _)
 | succ d ih =>
  intro n id hd hi
  refine step1 (fun _ _ _ _ _=>C8.l1.eq_2 ..) ?_
  rw [wayP]
  by_cases c:id=0
  ·rw [if_pos c]
   refine negN c ?_
   rw [if_neg (by simp;omega)]
   exact nowE (by simp)
  ·rw [if_neg c]
   have hx:0≤ix l id:=hi.resolve_left c
   obtain ⟨x1,x2,x3⟩:=ix_lt hx
   refine posN c ?_
   rw [w1 (by omega)]
   refine negD (by omega) (bnd (At_ev l id (by have:=h.1;omega)) (pos ⟨hx,x1⟩ ?_))
   rw [nth_ob]
   have:=ih (n+1) (ob l id).Base (by omega) (h.2 _ hx)
   rw [List.length_cons,show n+((wayP l (d+1) (ob l id).Base).length+1)=n+1+(wayP l (d+1) (ob l id).Base).length by omega]
   exact this
theorem rdepth_c {l:List Am} (h:Cl l) (id:Int):E0 (fun K=>C8 K l id) (deepP l id):=by
 unfold deepP
 refine bnd (At_ev l id (by have:=h.1;omega)) ?_
 by_cases c:ix l id<0
 ·rw [if_pos c];exact posD c (now _)
 ·rw [if_neg c]
  refine negD c ?_
  have:=(rdep_l1 h 3 0 id (by omega) (.inr (by omega))).e1
  simp only [Nat.zero_add] at this
  exact this
theorem rdepth_ev {l:List Am} (h:ObjsP l) (id:Int):E0 (fun K=>C8 K l id) (deepP l id):=rdepth_c h.cl id
end Go.XL
end
end
section
section
namespace Go.XL
open Go.XM
theorem stepK {α:Type} {f g:Nat→Option α} {r:α} (e:∀ K,g (K+1)=f K) (h:E0 f r):E0 g r:=by
 obtain ⟨m,hm⟩:=h
 refine ⟨m+1,fun K a b c d h1 _ _ _ _=>?_⟩
 obtain ⟨K',rfl⟩:∃ K',K=K'+1:=⟨K-1,by omega⟩
 show g (K'+1)=some r
 rw [e]
 exact hm K' K' K' K' K' (by omega) (by omega) (by omega) (by omega) (by omega)
noncomputable def stepG (g:Ac) (o:Am):Option Ac:=if o.Base=0 then tkF (ofb o.Data) else tkD (ofb o.Data) g
noncomputable def foldG:Ac→List Am→Option Ac
 | g,[]=>some g
 | g,o::r=>match stepG g o with
  | some g'=>foldG g' r
  | none=>none
noncomputable def tell (x:Option Ac):Ac × Int:=match x with
 | some g=>(g,0)
 | none=>(G0,9)
theorem foldG_snoc (o:Am):∀ (w:List Am) (g:Ac),foldG g (w++[o])=match foldG g w with | some g'=>stepG g' o | none=>none
 | [],g=>by
  simp only [List.nil_append,foldG]
  cases stepG g o <;> rfl
 | x::w,g=>by
  simp only [List.cons_append,foldG]
  cases stepG g x with
  | none=>rfl
  | some g'=>exact foldG_snoc o w g'
theorem stepG_G {g g':Ac} {o:Am} (h:stepG g o=some g'):GraphP g':=by
 unfold stepG at h
 split at h
 ·exact tkF_G h
 ·exact tkD_G h
theorem foldG_G:∀ {w:List Am} {g g':Ac},foldG g w=some g'→w≠[]→GraphP g'
 | [],g,g',h,hn=>absurd rfl hn
 | o::w,g,g',h,_=>by
  simp only [foldG] at h
  cases hs:stepG g o with
  | none=>rw [hs] at h;cases h
  | some g1 =>
   rw [hs] at h
   cases w with
   | nil=>simp only [foldG,Option.some.injEq] at h;subst h;exact stepG_G hs
   | cons x w=>exact foldG_G h (by simp)
theorem way_end {l:List Am}:∀ (m:Nat) (id:Int),id≠0→(wayP l (m+1) id).length≤m→(∀ k,wayP l (m+k) id=wayP l m id)∧∃ o r,(wayP l m id).reverse=o::r∧o.Base=0
 | 0,id,h0,h=>by
  rw [wayP,if_neg h0] at h
  simp at h
 | m+1,id,h0,h=>by
  rw [wayP,if_neg h0,List.length_cons] at h
  have e:∀ k,wayP l (k+1) id=ob l id::wayP l k (ob l id).Base:=fun k=>by rw [wayP,if_neg h0]
  by_cases c:(ob l id).Base=0
  ·have z:∀ k,wayP l k 0=[]:=fun k=>by cases k <;> simp [wayP]
   refine ⟨fun k=>?_,ob l id,[],?_,c⟩
   ·rw [show m+1+k=m+k+1 by omega,e,e,c,z,z]
   ·rw [e,c,z];rfl
  ·obtain ⟨h1,o,r,h2,h3⟩:=way_end (l:=l) m (ob l id).Base c (by omega)
   refine ⟨fun k=>?_,o,r++[ob l id],?_,h3⟩
   ·rw [show m+1+k=m+k+1 by omega,e,e,h1]
   ·rw [e,List.reverse_cons,h2];rfl
noncomputable def resP (l:List Am) (id:Int):Ac × Int:=if (deepP l id).2≠0 then (G0,(deepP l id).2) else tell (foldG G0 (wayP l 3 id).reverse)
theorem deep_ok {l:List Am} {id:Int} (h:(deepP l id).2=0):0≤ix l id∧(wayP l 4 id).length≤3∧(deepP l id).1=((wayP l 4 id).length:Int):=by
 unfold deepP at h ⊢
 split at h
 ·cases h
 ·split at h
  ·cases h
  ·rename_i c1 c2
   exact ⟨by omega,by omega,by rw [if_neg c1,if_neg c2]⟩
theorem way_len {l:List Am}:∀ (m:Nat) (id:Int),(wayP l m id).length≤m
 | 0,id=>by simp [wayP]
 | m+1,id=>by
  rw [wayP]
  split
  ·simp
  ·have:=way_len (l:=l) m (ob l id).Base
   simp only [List.length_cons];omega
theorem rres_j1 {K:Nat} {rec_:List Am→Int→Option (Ac × Int)} {t:Int} (x:Option Ac):Ar.j1 K rec_ (match x with | some g=>(g,true) | none=>(G0,false)).2 t (match x with | some g=>(g,true) | none=>(G0,false)).1.N (match x with | some g=>(g,true) | none=>(G0,false)).1.Out=some (tell x):=by
 cases x <;> rfl
theorem deep_of {l:List Am} {id:Int} {m:Nat} (hm:m≤3) (hx:0≤ix l id) (h0:id≠0) (hw:(wayP l (m+1) id).length≤m):(deepP l id).2=0:=by
 obtain ⟨h1,_⟩:=way_end m id h0 hw
 have h4:wayP l 4 id=wayP l m id:=by have:=h1 (4-m);rwa [show m+(4-m)=4 by omega] at this
 have:=way_len (l:=l) m id
 unfold deepP
 rw [if_neg (by omega),if_neg (by rw [h4];omega)]
theorem rres_w {l:List Am} (h:ObjsP l):∀ (m:Nat) (id:Int),m≤3→0≤ix l id→(wayP l (m+1) id).length≤m→E0 (fun K=>Ar K l id) (tell (foldG G0 (wayP l m id).reverse))
 | 0,id,_,hx,hw=>by
  have h0:id≠0:=fun e=>by subst e;have:=ix0 h;omega
  rw [wayP,if_neg h0] at hw
  simp at hw
 | m+1,id,hm,hx,hw=>by
  have h0:id≠0:=fun e=>by subst e;have:=ix0 h;omega
  have hd:=deep_of hm hx h0 hw
  obtain ⟨x1,x2,x3⟩:=ix_lt hx
  have hb:=ob_mayB h hx
  have hB:Bt (ofb (ob l id).Data):=ofb_Bt _
  have hl:(ofb (ob l id).Data).length≤1000000:=by rw [ofb_len];have:=hb.2.1;omega
  refine stepK (fun K=>Ar.eq_2 ..) ?_
  refine bnd (rdepth_ev h id) (negN hd (bnd (At_ev l id (by have:=h.1;omega)) (pos ⟨hx,x1⟩ ?_)))
  rw [nth_ob]
  refine bnd (rOf_ev hb) ?_
  have e:wayP l (m+1) id=ob l id::wayP l m (ob l id).Base:=by rw [wayP,if_neg h0]
  rw [wayP,if_neg h0,List.length_cons] at hw
  rw [e,List.reverse_cons,foldG_snoc]
  by_cases c:(ob l id).Base=0
  ·have z:wayP l m (ob l id).Base=[]:=by rw [c];cases m <;> simp [wayP]
   rw [z]
   refine posE c (bnd (rtakeF hB hl) ?_)
   simp only [List.reverse_nil,foldG,stepG,if_pos c]
   exact congr (fun K _ _ _ _=>rres_j1 _) (now _)
  ·have hx2:=(there_base h hx).resolve_left c
   have ih:=rres_w h m (ob l id).Base (by omega) hx2 (by omega)
   refine negE c (bnd ih ?_)
   cases hf:foldG G0 (wayP l m (ob l id).Base).reverse with
   | none=>exact posN (by decide) (now _)
   | some g =>
    have hg:GP g:=by
     refine (foldG_G hf fun e=>?_).gp
     obtain ⟨_,o,r,h4,_⟩:=way_end (l:=l) m (ob l id).Base c (by omega)
     rw [h4] at e;cases e
    refine negN rfl (bnd (rtakeD hB hl hg) ?_)
    simp only [stepG,if_neg c]
    exact congr (fun K _ _ _ _=>rres_j1 _) (now _)
theorem rres_ev {l:List Am} (h:ObjsP l) (id:Int):E0 (fun K=>Ar K l id) (resP l id):=by
 unfold resP
 by_cases c:(deepP l id).2=0
 ·rw [if_neg (by simpa using c)]
  obtain ⟨h1,h2,h3⟩:=deep_ok c
  exact rres_w h 3 id (by omega) h1 h2
 ·rw [if_pos (by simpa using c)]
  refine stepK (fun K=>Ar.eq_2 ..) ?_
  exact bnd (rdepth_ev h id) (posN c (now _))
theorem resP_G {l:List Am} {id:Int} (ho:ObjsP l) (h:(resP l id).2=0):GraphP (resP l id).1:=by
 unfold resP at h ⊢
 split at h
 ·rename_i c;exact absurd h c
 ·rename_i c
  have c:(deepP l id).2=0:=by simpa using c
  rw [if_neg (by simpa using c)]
  obtain ⟨h1,h2,h3⟩:=deep_ok c
  cases hf:foldG G0 (wayP l 3 id).reverse with
  | none=>rw [hf] at h;cases h
  | some g =>
   refine foldG_G hf fun e=>?_
   have h0:id≠0:=fun e=>by subst e;have:=ix0 ho;omega
   obtain ⟨_,o,r,h4,_⟩:=way_end (l:=l) 3 id h0 h2
   rw [h4] at e;cases e
end Go.XL
end
end
