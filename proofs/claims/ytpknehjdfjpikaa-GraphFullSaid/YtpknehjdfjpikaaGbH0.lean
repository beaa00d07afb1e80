import Derived.Test.YtpknehjdfjpikaaMtT1
import Derived.Laws.IdiomCopy
import Derived.Shelf.Slices.Delete
import Derived.Shelf.Spec.SlicesInsertGrow
import Derived.Sort.Grow
set_option linter.all false
section
namespace Go.XM
open Go.RowKit
abbrev i64 : Ty := .int .i64
theorem rowArg {w : World} {g : G} {O : Nat → RS} {r : Nat} {xs : List Int} {u : Value} (hO : O r = .row 1 (rowR false i64 xs)) (hrs : rsR w g O r (O r)) (hu : cvR w g O (.vw r 0 xs.length) u) :
    (xs = [] ∧ ∃ a, u = .slice a 0 0) ∨ ∃ b c, u = .slice (some ⟨b, 0, none⟩) xs.length c.size ∧ g.own b = some (.root r) ∧ Blk w b c ∧ xs.length ≤ c.size ∧ ∀ (i : Nat) (x : Int), xs[i]? = some x → c[i]? = some (.int .i64 x) := by
  rw [hO] at hrs
  simp only [cvR, hO] at hu
  simp only [rsR] at hrs
  cases hβ : g.β r with
  | none =>
    simp only [hβ] at hu hrs
    obtain ⟨_, h2, a, h3⟩ := hu
    have : xs = [] := List.eq_nil_of_length_eq_zero h2
    subst this
    exact .inl ⟨rfl, a, h3⟩
  | some b =>
    simp only [hβ] at hu hrs
    obtain ⟨cap, c, off, h1, h0, h2, h3, h4, h5⟩ := hu
    obtain ⟨c', q2, q3, q4, q6, q5⟩ := hrs
    obtain rfl := h4.uniq q3
    have hs : c.size = cap := by simpa using h5
    by_cases hc : cap = 0
    · subst hc
      have : xs = [] := List.eq_nil_of_length_eq_zero (by omega)
      subst this
      exact .inl ⟨rfl, _, h1⟩
    · have hoff : off = 0 := by rcases h0 with h | h <;> omega
      subst hoff
      refine .inr ⟨b, c, by rw [hs]; exact h1, q2, q3, by omega, fun i x hi => ?_⟩
      obtain ⟨v, a1, a2, a3⟩ := q5 i [.s (.v (.int .i64 x))] 0 (.s (.v (.int .i64 x))) (by simp [rowR, hi, elR, Ty.enc]) rfl
      have a3 : spR w g.Im (.v (.int .i64 x)) v := a3
      cases a3
      simpa using a1
def oneO (r : List Int) : Nat → RS := ofL [(2000000, .row 1 (rowR false i64 r))]
theorem oneO_at (r : List Int) : oneO r 2000000 = .row 1 (rowR false i64 r) := rfl
theorem oneO_ne (r : List Int) {k : Nat} (h : k ≠ 2000000) : oneO r k = .fresh := by simp [oneO, ofL, upd, h]
theorem rowPost {w w' : World} {g : G} {r : List Int} {b : Nat} {c : Array Value} (hos : w'.os = w.os) (ht : w'.tape = w.tape) (hout : w'.output = w.output) (hs : w.heap.size ≤ w'.heap.size)
    (hk : ∀ k, k < w.heap.size → g.own k = none → w'.heap[k]? = w.heap[k]?) (hb : w.heap.size ≤ b ∨ ∃ o, g.own b = some o) (hB : Blk w' b c) (hl : r.length ≤ c.size)
    (hc : ∀ (i : Nat) (x : Int), r[i]? = some x → c[i]? = some (.int .i64 x)) (him : ∀ b, g.Im b → b < w.heap.size ∧ g.own b = none) :
    ∃ g', svR w' g' (oneO r) (cv (.vw 2000000 0 r.length)) (.slice (some ⟨b, 0, none⟩) r.length c.size) ∧ Heap w' g' (oneO r) ∧ Fr w g w' g' := by
  let g' : G := { β := fun k => if k = 2000000 then some b else none, own := fun k => if k = b then some (.root 2000000) else none, Im := g.Im }
  have hne : ∀ k, g.Im k → k ≠ b := by
    rintro k hi rfl
    rcases hb with h | ⟨o, h⟩
    · have := (him k hi).1; omega
    · rw [(him k hi).2] at h; cases h
  refine ⟨g', ?_, ⟨fun k => ?_, fun k hi => ⟨?_, ?_⟩, fun k o ho => ?_⟩, ⟨hos, ht, hout, hs, hk, fun k o ho => ?_, fun k hi => .inl hi⟩⟩
  · show cvR w' g' (oneO r) (.vw 2000000 0 r.length) _
    simp only [cvR, oneO_at]
    show ∃ cap cc off, _
    exact ⟨c.size, c, 0, rfl, .inr (by simp), hl, by simp, hB, by simp⟩
  · by_cases e : k = 2000000
    · subst e
      rw [oneO_at]
      show ∃ cc, _
      refine ⟨c, by show (if b = b then _ else _) = _; rw [if_pos rfl], hB, ?_, by simpa using hl, fun i e j rc hi hj => ?_⟩
      · intro e he
        obtain ⟨y, _, rfl⟩ := List.mem_map.1 he
        rfl
      · rw [rowR, List.getElem?_map, Option.map_eq_some_iff] at hi
        obtain ⟨x, hx, rfl⟩ := hi
        have hj0 : j = 0 := by
          have := idx_lt hj
          simp only [elR, Ty.enc, List.map_cons, List.map_nil, List.length_singleton] at this
          omega
        subst hj0
        have hrc : rc = .s (.v (.int .i64 x)) := by
          have : some (RC.s (.v (.int .i64 x))) = some rc := hj
          exact (Option.some.inj this).symm
        subst hrc
        exact ⟨.int .i64 x, by simpa using hc i x hx, rfl, spR.v _ rfl⟩
    · rw [oneO_ne r e]; trivial
  · have := (him k hi).1; omega
  · show (if k = b then _ else _) = _
    rw [if_neg (hne k hi)]
  · have ho : (if k = b then some (Owner.root 2000000) else none) = some o := ho
    split at ho
    · rename_i e; subst e; exact hB.lt
    · cases ho
  · have ho : (if k = b then some (Owner.root 2000000) else none) = some o := ho
    split at ho
    · rename_i e; subst e; exact hb
    · cases ho
theorem Blk.sets {b : Nat} : ∀ (vs : List Value) (o : Nat) (w : World) {c : Array Value}, Blk w b c → Blk (w.setCells b o vs) b (setsA c o vs)
  | [], o, w, c, h => h
  | v :: vs, o, w, c, h => Blk.sets vs (o + 1) _ (h.set o v)
theorem sets_other {b : Nat} : ∀ (vs : List Value) (o : Nat) (w : World) (k : Nat), k ≠ b → (w.setCells b o vs).heap[k]? = w.heap[k]?
  | [], o, w, k, _ => rfl
  | v :: vs, o, w, k, h => (sets_other vs (o + 1) _ k h).trans (Below.heap_setCell w ⟨b, o, none⟩ v k h)
theorem sets_same {b : Nat} : ∀ (vs : List Value) (o : Nat) (w : World), (w.setCells b o vs).os = w.os ∧ (w.setCells b o vs).tape = w.tape ∧ (w.setCells b o vs).output = w.output ∧ (w.setCells b o vs).heap.size = w.heap.size
  | [], o, w => ⟨rfl, rfl, rfl, rfl⟩
  | v :: vs, o, w => by
    obtain ⟨h1, h2, h3, h4⟩ := sets_same vs (o + 1) (w.setCell ⟨b, o, none⟩ v)
    exact ⟨h1, h2, h3, h4.trans (by simp)⟩
end Go.XM
end
section
namespace Go.Proofs
open Go.Shelf Go.RowKit Go.Lib Go.Sort
variable {P : Program} {ρ : Ren}
set_option maxHeartbeats 4000000 in
set_option maxRecDepth 1000000 in
theorem Any.del_int_arr (L : Lays2.n23 P ρ) (blk off cap i j : Nat) (d : Array Int) (w : World) (hH : Holds encI w blk off d) (hcap : d.size ≤ cap) (hm : d.size ≤ 9223372036854775807) (hij : i ≤ j) (hj : j ≤ d.size) :
    Calls P (ρ.f 23) #[.slice (some ⟨blk, off, none⟩) d.size cap, .int .i64 i, .int .i64 j] w fun e w' => e = .returned (.slice (some ⟨blk, off, none⟩) (d.size - (j - i)) cap) ∧ ∃ q, w' = putRow encI (Sort.ahead w q) blk off (d.toList.take i ++ d.toList.drop j ++ List.replicate (j - i) 0).toArray := by
  have mixed := L.mixed; have t0 := L.t0; have a0 := L.a0; have z0 := L.z0; have v0 := L.v0; have t3 := L.t3; have a3 := L.a3; have z3 := L.z3; have v3 := L.v3; have t4 := L.t4; have a4 := L.a4; have z4 := L.z4; have v4 := L.v4; have t22 := L.t22; have a22 := L.a22; have z22 := L.z22; have v22 := L.v22
  obtain ⟨i0, hi0, hz0, hz1, hz2⟩ := info_parts L.i3
  by_cases heq : i = j
  · subst heq
    have h0 : Calls P (ρ.f 23) #[.slice (some ⟨blk, off, none⟩) d.size cap, .int .i64 i, .int .i64 i] w fun e w' => e = .returned (.slice (some ⟨blk, off, none⟩) d.size cap) ∧ w' = w := by
      clear hH
      go_enter L.f23, Body2.n23_ntmps ρ
      go_wp2
      all_goals (go_ret; exact ⟨rfl, rfl⟩)
    refine h0.mono ?_
    rintro e w' ⟨rfl, rfl⟩
    have e : (d.toList.take i ++ d.toList.drop i ++ List.replicate (i - i) 0).toArray = d := by simp
    refine ⟨by rw [Nat.sub_self, Nat.sub_zero], 0, ?_⟩
    rw [e]
    exact (putRow_self encI (Sort.ahead w' 0) blk off d hH).symm
  · have hlt : i < j := by omega
    obtain ⟨news, hnews⟩ : ∃ news, news = (d.toList.drop j).map encI := ⟨_, rfl⟩
    have hlen : news.length = d.size - j := by rw [hnews]; simp
    have hget : ∀ t, t < d.size - j → news[t]? = some (encI d[j + t]!) := by
      intro t ht
      rw [hnews, List.getElem?_map, List.getElem?_drop, Array.getElem?_toList, getElem!_pos d (j + t) (by omega), Array.getElem?_eq_getElem (by omega)]
      rfl
    obtain ⟨A, hA, hsrc⟩ : ∃ A : Addr, (if cap = j then some (⟨blk, off, none⟩ : Addr) else some ⟨blk, off + j, none⟩) = some A ∧ Hid (∀ t u, news[t]? = some u → w.drew.cell? (A.add t) = some u) := by
      by_cases h : cap = j
      · refine ⟨⟨blk, off, none⟩, by simp [h], fun t u hu => ?_⟩
        have h0 : news.length = 0 := by rw [hlen]; omega
        rw [List.length_eq_zero_iff.1 h0] at hu
        simp at hu
      · refine ⟨⟨blk, off + j, none⟩, by simp [h], fun t u hu => ?_⟩
        have ht : t < d.size - j := by
          have := (List.getElem?_eq_some_iff.1 hu).1
          rwa [hlen] at this
        rw [hget t ht] at hu
        rw [Addr.add_lit, show off + j + t = off + (j + t) by omega]
        exact (hH (j + t) (by omega)).1.trans hu
    have s1 : Hid (news.length = (d.size - j) * 1) := by rw [Nat.mul_one]; exact hlen
    have s2 : Hid (∀ u ∈ news, u.oneCell' = true) := by
      intro u hu
      rw [hnews] at hu
      obtain ⟨x, _, rfl⟩ := List.mem_map.1 hu
      rfl
    have s3 : Hid (∀ t, t < news.length → (w.drew.cell? ⟨blk, off + i * 1 + t, none⟩).isSome = true ∧ w.drew.frozen? ⟨blk, off + i * 1 + t, none⟩ = false) := by
      intro t ht
      rw [hlen] at ht
      rw [Nat.mul_one, Nat.add_assoc]
      exact ⟨by show (w.cell? _).isSome = true; rw [(hH (i + t) (by omega)).1]; rfl, (hH (i + t) (by omega)).2⟩
    obtain ⟨W1, hW1⟩ : ∃ W1, W1 = w.drew.setCells blk (off + i * 1) news := ⟨_, rfl⟩
    have hW1' : W1 = putRow encI (Sort.ahead w 1) blk off (lay d i (d.toList.drop j)) := by
      rw [hW1, hnews, Nat.mul_one, ← putRow_setCells encI (Sort.ahead w 1) blk off _ d i (by simp; omega), putRow_self encI (Sort.ahead w 1) blk off d (holds_ahead encI w 1 blk off d hH)]
      rfl
    have hH1 : Holds encI W1 blk off (lay d i (d.toList.drop j)) := by rw [hW1']; exact holds_putRow encI _ blk off d _ (holds_ahead encI w 1 blk off d hH) (lay_size _ _ _)
    have hcl : ∀ ty, (Builtin.clear_ #[ρ.t 22] ty #[.slice (some ⟨blk, off + (i + (d.size - j)), none⟩) (d.size - (i + (d.size - j))) (cap - (i + (d.size - j)))]).run P W1 = .ok (.tuple #[]) (W1.setCells blk (off + (i + (d.size - j))) (List.replicate (d.size - (i + (d.size - j))) (encI 0))) :=
      fun ty => Lib.run_clear_slice W1 _ _ ty _ t22 v3 rfl rfl blk (off + (i + (d.size - j))) _ _ (by omega) (fun t ht => by rw [show off + (i + (d.size - j)) + t = off + (i + (d.size - j) + t) by omega, (hH1 _ (by rw [lay_size]; omega)).1]; rfl) (fun t ht => by rw [show off + (i + (d.size - j)) + t = off + (i + (d.size - j) + t) by omega]; exact (hH1 _ (by rw [lay_size]; omega)).2)
    have X : Aside (W1 = putRow encI (Sort.ahead w 1) blk off (lay d i (d.toList.drop j))) := hW1'
    have hW : Hid (W1 = w.drew.setCells blk (off + i * 1) news) := hW1
    have hic : i ≤ cap := by omega
    have hjc : j ≤ cap := by omega
    clear hW1 hW1' hH1 hH hget hnews hlen
    go_enter L.f23, Body2.n23_ntmps ρ
    go_wp2_with fail
    go_region_law_o (refine step_append_room rfl (.tmp 22) (.tmp 25) (ρ.t 22) rfl (ρ.t 3) i0 1 t22 hi0 hz1 blk off i cap (by simp [Act.eval, Act.put]) A (d.size - j) (cap - j) news (by simp [Act.eval, Act.put]) s1.out hsrc.out s2.out (by omega) s3.out ?_; rw [← hW.out])
    go_wp2
    go_ret
    refine ⟨by rw [show d.size - (j - i) = i + (d.size - j) by omega]; rfl, 1, ?_⟩
    rw [← delete_arr d i j 0 hij hj, ← putRow_setCells encI _ blk off _ _ (i + (d.size - j)) (by rw [lay_size]; simp; omega), ← X.out, List.map_replicate, show d.size - (i + (d.size - j)) = j - i by omega]
theorem Any.del_int (L : Lays2.n23 P ρ) (blk off cap i j : Nat) (zs : List Int) (w : World) (hH : Holds (Value.int .i64) w blk off zs.toArray) (hcap : zs.length ≤ cap) (hm : zs.length ≤ 9223372036854775807) (hij : i ≤ j) (hj : j ≤ zs.length) :
    Calls P (ρ.f 23) #[.slice (some ⟨blk, off, none⟩) zs.length cap, .int .i64 i, .int .i64 j] w fun e w' => e = .returned (.slice (some ⟨blk, off, none⟩) (zs.length - (j - i)) cap) ∧ ∃ q, w' = putRow (Value.int .i64) (Sort.ahead w q) blk off (zs.take i ++ zs.drop j ++ List.replicate (j - i) 0).toArray := by
  have h := Any.del_int_arr L blk off cap i j zs.toArray w hH (by simpa using hcap) (by simpa using hm) hij (by simpa using hj)
  simpa using h
end Go.Proofs
end
section
namespace Go.XM
open Go.RowKit Go.Proofs Go.Shelf Go.Sort
theorem holds_of {w : World} {b : Nat} {c : Array Value} {xs : List Int} (hB : Blk w b c) (hle : xs.length ≤ c.size) (hcs : ∀ (i : Nat) (x : Int), xs[i]? = some x → c[i]? = some (.int .i64 x)) : Holds (Value.int .i64) w b 0 xs.toArray := by
  intro j hj
  have hj' : j < xs.length := by simpa using hj
  have h1 : xs[j]? = some (xs.toArray[j]!) := by
    rw [getElem!_pos xs.toArray j hj]; simp [hj']
  refine ⟨?_, ?_⟩
  · rw [Nat.zero_add, hB.cell]; exact hcs j _ h1
  · rw [Nat.zero_add]; exact hB.unf j (by omega)
theorem put_blk {w : World} {b q : Nat} {c : Array Value} {d : List Int} (os : Array Obj) (hB : Blk w b c) : ∃ c', Blk (grow (putRow (Value.int .i64) (Sort.ahead w q) b 0 d.toArray) os) b c' ∧ c'.size = c.size ∧ ∀ (i : Nat) (x : Int), i < c.size → d[i]? = some x → c'[i]? = some (.int .i64 x) := by
  obtain ⟨el, fr, h, hf⟩ := hB
  have hlt : b < w.heap.size := (Array.getElem?_eq_some_iff.1 h).1
  have hs : (putCells (Value.int .i64) 0 d.toArray c).size = c.size := by simp [putCells]
  refine ⟨putCells (Value.int .i64) 0 d.toArray c, ⟨el, fr, ?_, fun k hk => hf k (by rw [← hs]; exact hk)⟩, hs, fun i x hi hx => ?_⟩
  · have h2 : (putRow (Value.int .i64) (Sort.ahead w q) b 0 d.toArray).heap[b]? = some (.cells (putCells (Value.int .i64) 0 d.toArray c) el fr) := by
      simp [putRow, mapBlock, Sort.ahead, Array.getElem?_modify, h, onCells]
    show ((putRow (Value.int .i64) (Sort.ahead w q) b 0 d.toArray).heap ++ os)[b]? = _
    rw [Array.getElem?_append_left (by simpa [putRow, mapBlock, Sort.ahead] using hlt)]
    exact h2
  · have hlt2 := idx_lt hx
    have hd : d.toArray[i]! = x := by
      rw [getElem!_pos d.toArray i (by simpa using hlt2)]
      have := List.getElem?_eq_getElem hlt2
      rw [hx] at this
      simpa using (Option.some.inj this).symm
    simp [putCells, hi, hlt2]
    rw [List.getElem?_eq_getElem hlt2] at hx
    simpa using hx
theorem put_other {w : World} {b q : Nat} {d : Array Int} {os : Array Obj} {k : Nat} (hk : k < w.heap.size) (hn : k ≠ b) : (grow (putRow (Value.int .i64) (Sort.ahead w q) b 0 d) os).heap[k]? = w.heap[k]? := by
  show ((putRow (Value.int .i64) (Sort.ahead w q) b 0 d).heap ++ os)[k]? = _
  rw [Array.getElem?_append_left (by simpa [putRow, mapBlock, Sort.ahead] using hk)]
  simp [putRow, mapBlock, Sort.ahead, Array.getElem?_modify, Ne.symm hn]
abbrev sgDel : Sig := ⟨[(.one, .sl i64), (.one, i64), (.one, i64)], [.o], [(.one, .sl i64)], [.o]⟩
def delF (xs : List Int) (i j : Int) : Option (List Int) :=
  if ((0 : Int) ≤ i ∧ i ≤ j ∧ j ≤ ((xs.length : Nat) : Int)) ∧ 0 < xs.length ∧ xs.length * 8 ≤ 140737488355328 then some (xs.take i.toNat ++ xs.drop j.toNat) else none
set_option maxHeartbeats 1000000 in
theorem ct_delete {P : Program} {ρ : Ren} (L : Lays2.n23 P ρ) : CtX P (ρ.f 23) sgDel (fun x => delF x.1 x.2.1 x.2.2) := by
  intro v ⟨xs, i, j⟩ r hr
  simp only [delF] at hr
  split at hr
  · rename_i hg0
    obtain ⟨⟨hi0, hij, hj1⟩, hne, hbig⟩ := hg0
    cases hr
    intro w g vals hH hsz hv
    obtain ⟨n, rfl⟩ := Int.eq_ofNat_of_zero_le hi0
    obtain ⟨m, rfl⟩ := Int.eq_ofNat_of_zero_le (show (0 : Int) ≤ j by omega)
    have hij : n ≤ m := by omega
    have hj1 : m ≤ xs.length := by omega
    have hargs : sgDel.svs (xs, (n : Int), (m : Int)) = [cv (.vw 1000000 0 xs.length), cv (.p (.v (.int .i64 n))), cv (.p (.v (.int .i64 m)))] := rfl
    have hO : ofL (sgDel.o0 (xs, (n : Int), (m : Int))) 1000000 = .row 1 (rowR false i64 xs) := rfl
    have hres : ∀ r : List Int, sgDel.res v r = cv (.vw 2000000 0 r.length) := fun r => rfl
    have hO1 : ∀ r : List Int, ofL (sgDel.o1 v r) = oneO r := fun r => rfl
    rw [hargs] at hsz hv
    have h0 := hv 0 _ rfl
    have h1 := hv 1 _ rfl
    have h2 := hv 2 _ rfl
    obtain ⟨v0, v1, v2, rfl⟩ : ∃ v0 v1 v2, vals = #[v0, v1, v2] := by
      cases vals with
      | mk l => match l, hsz with
        | [a, b, c], _ => exact ⟨a, b, c, rfl⟩
    have z0 : cvR w g (ofL (sgDel.o0 (xs, (n : Int), (m : Int)))) (.vw 1000000 0 xs.length) v0 := h0
    have z1 : spR w g.Im (.v (.int .i64 n)) v1 := h1
    have z2 : spR w g.Im (.v (.int .i64 m)) v2 := h2
    clear h0 h1 h2 hv hsz
    cases z1
    cases z2
    rw [hres, hO1]
    simp only [Int.toNat_natCast]
    have him := hH.im
    rcases rowArg hO (hH.O 1000000) z0 with ⟨hx0, _⟩ | ⟨b, c, rfl, hown, hB, hle, hcs⟩
    · rw [hx0] at hne; cases hne
    · have hlen0 : (xs : List Int).length = xs.length := rfl
      have main : ∀ (ys : List Int), ys = xs → ∀ (D : List Int), D = ys.take n ++ ys.drop m ++ List.replicate (m - n) 0 → ∀ q, ∃ g', svR (putRow (Value.int .i64) (Sort.ahead w q) b 0 D.toArray) g' (oneO (ys.take n ++ ys.drop m)) (cv (.vw 2000000 0 (ys.take n ++ ys.drop m).length)) (.slice (some ⟨b, 0, none⟩) (ys.length - (m - n)) c.size) ∧ Heap (putRow (Value.int .i64) (Sort.ahead w q) b 0 D.toArray) g' (oneO (ys.take n ++ ys.drop m)) ∧ Fr w g (putRow (Value.int .i64) (Sort.ahead w q) b 0 D.toArray) g' := by
        intro ys hys D hD q
        have hl : ys.length = xs.length := by rw [hys]
        have hj1 : m ≤ ys.length := by rw [hl]; exact hj1
        have hle : ys.length ≤ c.size := by rw [hl]; exact hle
        clear hys hcs z0 hargs hO hH
        have hg : ∀ w : World, grow w #[] = w := fun w => by simp [grow]
        obtain ⟨c', k1, k2, k3⟩ := put_blk (q := q) (d := D) #[] hB
        rw [hg] at k1
        have hlen : (ys.take n ++ ys.drop m).length = ys.length - (m - n) := by simp; omega
        have hsz2 : (putRow (Value.int .i64) (Sort.ahead w q) b 0 D.toArray).heap.size = w.heap.size := by simp [putRow, mapBlock, Sort.ahead]
        obtain ⟨g', q1, q2, q3⟩ := rowPost (w := w) (w' := putRow (Value.int .i64) (Sort.ahead w q) b 0 D.toArray) (g := g) (r := ys.take n ++ ys.drop m) (b := b) (c := c') rfl rfl rfl (by rw [hsz2]; exact Nat.le_refl _)
          (fun k hk hn => by
            have := put_other (q := q) (d := D.toArray) (os := #[]) hk (show k ≠ b by rintro rfl; rw [hown] at hn; cases hn)
            rwa [hg] at this) (.inr ⟨_, hown⟩) k1 (by rw [hlen, k2]; omega) (fun t x ht => k3 t x (by have := idx_lt ht; rw [hlen] at this; omega) (by rw [hD, List.getElem?_append_left (idx_lt ht)]; exact ht)) him
        exact ⟨g', by rw [hlen, k2] at q1; rw [hlen]; exact q1, q2, q3⟩
      refine (Any.del_int L b 0 c.size n m xs w (holds_of hB hle hcs) hle (by omega) hij hj1).mono ?_
      rintro e w' ⟨rfl, q, rfl⟩
      obtain ⟨g', q1, q2, q3⟩ := main xs rfl _ rfl q
      refine ⟨_, g', rfl, q1, q2, q3, ?_⟩
      intro k l l' _ h
      by_cases e : k = 2000000
      · subst e; rw [oneO_at] at h; cases h
      · rw [oneO_ne _ e] at h; cases h
  · cases hr
end Go.XM
end
section
namespace Go.Proofs
open Go.Shelf Go.RowKit Go.Lib
variable {P : Program} {ρ : Ren}
set_option maxHeartbeats 4000000 in
set_option maxRecDepth 100000 in
theorem Any2.ins_int_shift (L : Lays2.n21 P ρ) (b off n c i vb voff m vc : Nat) (cs vs : List Value) (w : World) (hi : i < n) (hm : 0 < m) (hroom : n + m ≤ c) (hc63 : n + m ≤ 9223372036854775807) (hvb : vb ≠ b)
    (hcl : cs.length = n) (hvl : vs.length = m)
    (hcs : ∀ j v, cs[j]? = some v → w.cell? ⟨b, off + j, none⟩ = some v) (hsp : ∀ j, j < n + m → (w.cell? ⟨b, off + j, none⟩).isSome = true) (hfz : ∀ j, j < n + m → w.frozen? ⟨b, off + j, none⟩ = false)
    (hvs : ∀ j v, vs[j]? = some v → w.cell? ⟨vb, voff + j, none⟩ = some v) (h1c : ∀ v ∈ cs, v.oneCell' = true) (h1v : ∀ v ∈ vs, v.oneCell' = true)
    (tA tB : TypeId) (kA kB : Nat) (hsa : w.shape? vb = some (tA, kA)) (hsb : w.shape? b = some (tB, kB)) (hkB : kB ≠ 0) (hfa : w.frozen? ⟨vb, voff, none⟩ = false) (hfe : w.frozen? ⟨vb, kA, none⟩ = false) :
    Calls P (ρ.f 21) #[.slice (some ⟨b, off, none⟩) n c, .int .i64 i, .slice (some ⟨vb, voff, none⟩) m vc] w fun e w' =>
      e = .returned (.slice (some ⟨b, off, none⟩) (n + m) c) ∧ w' = (w.drew.setCells b (off + (i + m)) (cs.drop i)).setCells b (off + i) vs := by
  have t0 := L.t0; have a0 := L.a0; have z0 := L.z0; have v0 := L.v0; have t3 := L.t3; have a3 := L.a3; have z3 := L.z3; have v3 := L.v3; have t4 := L.t4; have a4 := L.a4; have z4 := L.z4; have v4 := L.v4; have t22 := L.t22; have a22 := L.a22; have z22 := L.z22; have v22 := L.v22
  have u0 := run_underlying L.t0; have u3 := run_underlying L.t3; have u4 := run_underlying L.t4; have u22 := run_underlying L.t22
  have hz1 : ¬ ((m : Int) = 0) := by omega
  have hz2 : ¬ ((i : Int) = (n : Int)) := by omega
  have hsz : (P.info? (ρ.t 3)).map (·.size) = some 1 := by
    obtain ⟨i0, hi0, h0, h1, h2⟩ := info_parts L.i3
    rw [hi0]; simp [h1]
  have hov : ∀ lb cb, (callFunc (ρ.f 27) #[.slice (some ⟨vb, voff, none⟩) m vc, .slice (some ⟨b, off + (i + m), none⟩) lb cb]).run P w = .ok (.value (.bool false)) w := fun lb cb => by
    rw [run_callFunc_extern L.f27 (by kernel_rfl) (by kernel_rfl) (by kernel_rfl) (e := Extern.SlicesOverlaps.overlaps #[(ρ.t 22), (ρ.t 22)] #[(ρ.t 4)]) (by kernel_rfl),
      Lib.run_overlaps_apart w (ρ.t 22) (ρ.t 4) (ρ.t 3) L.t22 1 L.z3 ⟨vb, voff, none⟩ ⟨b, off + (i + m), none⟩ m vc lb cb hvb tA tB kA kB hsa hsb hkB hfa hfe]
    rfl
  have hdl : (cs.drop i).length = n - i := by rw [List.length_drop, hcl]
  have mixed := L.mixed
  have hw1 : IntKind.i64.wrap ((i : Int) + (m : Int)) = (i : Int) + (m : Int) := by rw [IntKind.wrap_i64]; omega
  have hb1 : (0 : Int) ≤ (i : Int) + (m : Int) := by omega
  have hin : i ≤ n := by omega
  have htn : ((i : Int) + (m : Int)).toNat = i + m := by omega
  have hb2 : ¬ (c = i + m) := by omega
  have hb3 : (i : Int) ≤ (n : Int) + (m : Int) := by omega
  have hb4 : ¬ (c = i) := by omega
  have hcp1 : ∀ ty dc sc, (Builtin.copy_ #[(ρ.t 22), (ρ.t 22)] ty #[.slice (some ⟨b, off + (i + m), none⟩) (n + m - (i + m)) dc, .slice (some ⟨b, off + i, none⟩) (n + m - i) sc]).run P w.drew = .ok (goInt (cs.drop i).length) (w.drew.setCells b (off + (i + m)) (cs.drop i)) := fun ty dc sc =>
    run_copy_cells w.drew _ _ ty (ρ.t 3) b (off + (i + m)) (n + m - (i + m)) dc ⟨b, off + i, none⟩ (n + m - i) sc (cs.drop i) L.t22 hsz (by rw [hdl]; simp only [Nat.min_def]; split <;> omega)
      (fun j v hj => by rw [Addr.add_lit, Nat.add_assoc]; exact hcs (i + j) v (by rwa [List.getElem?_drop] at hj))
      (fun j hj => by rw [Nat.add_assoc]; exact hsp _ (by omega)) (fun j hj => by rw [Nat.add_assoc]; exact hfz _ (by omega)) (fun v hv => h1c v (List.mem_of_mem_drop hv))
  obtain ⟨W1, hW1⟩ : ∃ W1, W1 = w.drew.setCells b (off + (i + m)) (cs.drop i) := ⟨_, rfl⟩
  have hsp1 : ∀ k, k < n + m → (W1.cell? ⟨b, off + k, none⟩).isSome = true := fun k hk => by
    rw [hW1]
    exact isSome_setCells b _ _ _ (fun j hj => by rw [Nat.add_assoc]; exact hsp _ (by omega)) _ (hsp k hk)
  have hcp2 : ∀ (W : World), (∀ x, W.cell? x = W1.cell? x) → (∀ x, W.frozen? x = W1.frozen? x) → ∀ ty dc, (Builtin.copy_ #[(ρ.t 22), (ρ.t 22)] ty #[.slice (some ⟨b, off + i, none⟩) (n + m - i) dc, .slice (some ⟨vb, voff, none⟩) m vc]).run P W = .ok (goInt vs.length) (W.setCells b (off + i) vs) := fun W hWc hWf ty dc =>
    run_copy_cells W _ _ ty (ρ.t 3) b (off + i) (n + m - i) dc ⟨vb, voff, none⟩ m vc vs L.t22 hsz (by rw [hvl]; simp only [Nat.min_def]; split <;> omega)
      (fun j v hj => by
        rw [Addr.add_lit, hWc, hW1, World.cell?_setCells_out b _ _ _ _ (fun h _ => absurd h hvb)]
        exact hvs j v hj)
      (fun j hj => by rw [hWc, Nat.add_assoc]; exact hsp1 _ (by omega)) (fun j hj => by rw [hWf, hW1, World.frozen?_setCells, Nat.add_assoc]; exact hfz _ (by omega)) h1v
  rw [← hW1] at hcp1
  go_enter L.f21, Body2.n21_ntmps ρ
  go_wp2_with (simp only [hov])
  go_region_law_o (refine step_copy_runI rfl _ _ (ρ.t 22) (ρ.t 22) rfl _ _ (by simp [Act.eval, Act.put]) (by simp [Act.eval, Act.put]) (hcp1 _ _ _) ?_)
  go_wp2_with (at_builtin; refine wpList_copy_runI _ rfl _ _ (ρ.t 22) (ρ.t 22) rfl _ _ rfl rfl (hcp2 _ (fun _ => rfl) (fun _ => rfl) _ _) ?_)
  go_ret
  first | exact ⟨rfl, rfl⟩ | exact ⟨rfl, by rw [hW1]⟩
set_option maxHeartbeats 4000000 in
set_option maxRecDepth 100000 in
theorem Any2.ins_int_end_room (L : Lays2.n21 P ρ) (b off n c vb voff m vc : Nat) (vs : List Value) (w : World) (hm : 0 < m) (hroom : n + m ≤ c) (hc63 : n + m ≤ 9223372036854775807)
    (hvl : vs.length = m) (hsp : ∀ j, j < m → (w.cell? ⟨b, off + n + j, none⟩).isSome = true) (hfz : ∀ j, j < m → w.frozen? ⟨b, off + n + j, none⟩ = false)
    (hvs : ∀ j v, vs[j]? = some v → w.cell? ⟨vb, voff + j, none⟩ = some v) (h1v : ∀ v ∈ vs, v.oneCell' = true) :
    Calls P (ρ.f 21) #[.slice (some ⟨b, off, none⟩) n c, .int .i64 n, .slice (some ⟨vb, voff, none⟩) m vc] w fun e w' =>
      e = .returned (.slice (some ⟨b, off, none⟩) (n + m) c) ∧ w' = w.setCells b (off + n) vs := by
  have t0 := L.t0; have a0 := L.a0; have z0 := L.z0; have v0 := L.v0; have t3 := L.t3; have a3 := L.a3; have z3 := L.z3; have v3 := L.v3; have t4 := L.t4; have a4 := L.a4; have z4 := L.z4; have v4 := L.v4; have t22 := L.t22; have a22 := L.a22; have z22 := L.z22; have v22 := L.v22
  have u0 := run_underlying L.t0; have u3 := run_underlying L.t3; have u4 := run_underlying L.t4; have u22 := run_underlying L.t22
  have mixed := L.mixed
  have hz1 : ¬ ((m : Int) = 0) := by omega
  have hsrc : Src P 1 (ρ.t 22) (.slice (some ⟨vb, voff, none⟩) m vc) m vs w := Src.ofSlice w L.t22 ⟨vb, voff, none⟩ m vc vs (by omega) (fun j u hj => by rw [Addr.add_lit]; exact hvs j u hj) h1v
  go_enter L.f21, Body2.n21_ntmps ρ
  go_wp2_with (at_builtin; refine wpList_append_room1 _ rfl _ _ (ρ.t 22) (ρ.t 22) rfl (ρ.t 3) _ _ L.t22 L.i3 b off n c rfl _ rfl m vs hsrc hroom (by rw [hvl]; exact hsp) (by rw [hvl]; exact hfz) ?_)
  go_ret
  exact ⟨rfl, rfl⟩
end Go.Proofs
end
section
namespace Go.XM
open Go.RowKit Go.Proofs Go.Shelf
abbrev sgIns : Sig := ⟨[(.one, .sl i64), (.one, i64), (.one, .sl i64)], [.o, .s, .l], [(.one, .sl i64)], [.o]⟩
def insF (xs : List Int) (i : Int) (ys : List Int) : Option (List Int) :=
  if ((0 : Int) ≤ i ∧ i ≤ ((xs.length : Nat) : Int)) ∧ (xs.length + 1) * 8 ≤ 140737488355328 then
    match ys with
    | [v] => some (xs.take i.toNat ++ v :: xs.drop i.toNat)
    | _ => none
  else none
theorem cut_le (w : World) (need old : Nat) (e : TypeId) : need ≤ grownCap w need old e := by simp [grownCap, Question.cut]
theorem li_arg {w : World} {g : G} {O : Nat → RS} {v : Int} {u : Value} (h : cvR w g O (.li (.int .i64 v)) u) : ∃ vb el, u = .slice (some ⟨vb, 0, none⟩) 1 1 ∧ g.Im vb ∧ w.heap[vb]? = some (.cells #[.int .i64 v] el (0, 0)) := by
  obtain ⟨b, el, h1, h2, _, h3⟩ := h
  exact ⟨b, el, h1, h2, h3⟩
set_option maxHeartbeats 1000000 in
theorem ct_insert {P : Program} {ρ : Ren} (L : Lays2.n21 P ρ) : CtX P (ρ.f 21) sgIns (fun x => insF x.1 x.2.1 x.2.2) := by
  intro v ⟨xs, i, ys⟩ r hr
  simp only [insF] at hr
  split at hr
  · rename_i hg0
    obtain ⟨⟨hi0, hi1⟩, hbig⟩ := hg0
    have hys : ∃ x, ys = [x] ∧ r = xs.take i.toNat ++ x :: xs.drop i.toNat := by
      match ys, hr with
      | [x], hr => exact ⟨x, rfl, (Option.some.inj hr).symm⟩
    obtain ⟨x, rfl, rfl⟩ := hys
    clear hr
    focus
      skip
      intro w g vals hH hsz hv
      obtain ⟨n, rfl⟩ := Int.eq_ofNat_of_zero_le hi0
      have hi1 : n ≤ xs.length := by omega
      have hargs : sgIns.svs (xs, (n : Int), [x]) = [cv (.vw 1000000 0 xs.length), cv (.p (.v (.int .i64 n))), cv (.li (.int .i64 x))] := rfl
      have hO : ofL (sgIns.o0 (xs, (n : Int), [x])) 1000000 = .row 1 (rowR false i64 xs) := rfl
      have hres : ∀ r : List Int, sgIns.res v r = cv (.vw 2000000 0 r.length) := fun r => rfl
      have hO1 : ∀ r : List Int, ofL (sgIns.o1 v r) = oneO r := fun r => rfl
      rw [hargs] at hsz hv
      have h0 := hv 0 _ rfl
      have h1 := hv 1 _ rfl
      have h2 := hv 2 _ rfl
      obtain ⟨v0, v1, v2, rfl⟩ : ∃ v0 v1 v2, vals = #[v0, v1, v2] := by
        cases vals with
        | mk l => match l, hsz with
          | [a, b, c], _ => exact ⟨a, b, c, rfl⟩
      have z0 : cvR w g (ofL (sgIns.o0 (xs, (n : Int), [x]))) (.vw 1000000 0 xs.length) v0 := h0
      have z1 : spR w g.Im (.v (.int .i64 n)) v1 := h1
      have z2 : cvR w g (ofL (sgIns.o0 (xs, (n : Int), [x]))) (.li (.int .i64 x)) v2 := h2
      clear h0 h1 h2 hv hsz
      cases z1
      obtain ⟨vb, el, rfl, hvi, hvb⟩ := li_arg z2
      have hv1 : ∀ j u, [Value.int .i64 x][j]? = some u → w.cell? ⟨vb, 0 + j, none⟩ = some u := by
        intro j u hj
        cases j with
        | zero => simp at hj; subst hj; simp [World.cell?, hvb]
        | succ j => simp at hj
      rw [hres, hO1]
      have hlen : (xs.take n ++ x :: xs.drop n).length = xs.length + 1 := by simp; omega
      have hvbo := (hH.im vb hvi).2
      have hvbl := (hH.im vb hvi).1
      have grown : ∀ (w' : World) (c' : Array Value), w'.os = w.os → w'.tape = w.tape → w'.output = w.output → w.heap.size ≤ w'.heap.size → (∀ k, k < w.heap.size → w'.heap[k]? = w.heap[k]?) → Blk w' w.heap.size c' → xs.length + 1 ≤ c'.size →
          (∀ (j : Nat) (y : Int), (xs.take n ++ x :: xs.drop n)[j]? = some y → c'[j]? = some (.int .i64 y)) →
          ∃ g', svR w' g' (oneO (xs.take n ++ x :: xs.drop n)) (cv (.vw 2000000 0 (xs.take n ++ x :: xs.drop n).length)) (.slice (some ⟨w.heap.size, 0, none⟩) (xs.length + 1) c'.size) ∧ Heap w' g' (oneO (xs.take n ++ x :: xs.drop n)) ∧ Fr w g w' g' := by
        intro w' c' a1 a2 a3 a4 a5 a6 a7 a8
        have := rowPost (w := w) (w' := w') (g := g) (r := xs.take n ++ x :: xs.drop n) (b := w.heap.size) (c := c') a1 a2 a3 a4 (fun k hk _ => a5 k hk) (.inl (Nat.le_refl _)) a6 (by rw [hlen]; exact a7) a8 hH.im
        rw [hlen] at this ⊢
        exact this
      have hbx : ∀ (r : List Int) (g' : G) (k : Nat) (l l' : List CV), ofL (sgIns.o0 (xs, (n : Int), [x])) k = .box l → oneO r k = .box l' → g'.β k = g.β k := by
        intro r g' k l l' _ h
        by_cases e : k = 2000000
        · subst e; rw [oneO_at] at h; cases h
        · rw [oneO_ne r e] at h; cases h
      have vals_ok : ∀ (ys : List Int), (∀ u ∈ ys.map (Value.int .i64), u.oneCell' = true) := by
        intro ys u hu
        obtain ⟨y, _, rfl⟩ := List.mem_map.1 hu
        rfl
      have endgrow : ∀ (base : Option Addr) (c : Nat), xs.length ≤ c → c < xs.length + 1 → n = xs.length → (base = none → xs.length = 0) →
          (∀ a, base = some a → ∀ (j : Nat) (u : Value), (xs.map (Value.int .i64))[j]? = some u → w.cell? (a.add j) = some u) →
          Calls P (ρ.f 21) #[.slice base xs.length c, .int .i64 n, .slice (some ⟨vb, 0, none⟩) 1 1] w fun e w' => ∃ u g', e = .returned u ∧ svR w' g' (oneO (xs.take n ++ x :: xs.drop n)) (cv (.vw 2000000 0 (xs.take n ++ x :: xs.drop n).length)) u ∧ Heap w' g' (oneO (xs.take n ++ x :: xs.drop n)) ∧ Fr w g w' g' ∧ ∀ k l l', ofL (sgIns.o0 (xs, (n : Int), [x])) k = .box l → oneO (xs.take n ++ x :: xs.drop n) k = .box l' → g'.β k = g.β k := by
        intro base c hc1 hc2 hn hb hcs
        subst hn
        have := Any2.slices_Insert_int_end_grow L base xs.length c vb 0 1 1 (xs.map (Value.int .i64)) [Value.int .i64 x] w (by omega) hc1 hc2 (by omega) (by simp) rfl hb hcs hv1 (fun u hu => by simp at hu; subst hu; rfl)
        refine this.mono ?_
        rintro e w' ⟨rfl, rfl⟩
        have hcap := cut_le w (xs.length + 1) c (ρ.t 3)
        generalize hcp : grownCap w (xs.length + 1) c (ρ.t 3) = cp at *
        have hsize : ((xs.map (Value.int .i64) ++ [Value.int .i64 x]).toArray ++ Builtin.zeroCells (Value.int .i64 0).cells (cp - (xs.length + 1))).size = cp := by
          simp [Builtin.zeroCells, Value.cells]; omega
        obtain ⟨g', k1, k2, k3⟩ := grown (w.drew.alloc (.cells ((xs.map (Value.int .i64) ++ [Value.int .i64 x]).toArray ++ Builtin.zeroCells (Value.int .i64 0).cells (cp - (xs.length + 1))) (ρ.t 3))) _ rfl rfl rfl (by simp) (fun k hk => Below.heap_alloc w.drew _ k hk) (Blk.new w.drew _ _) (by rw [hsize]; exact hcap) (fun j y hj => by
          rw [List.take_length, List.drop_length] at hj
          have hlt := idx_lt hj
          have e1 : (xs.map (Value.int .i64) ++ [Value.int .i64 x]) = (xs ++ [x]).map (Value.int .i64) := by simp
          rw [e1, Array.getElem?_append, if_pos (by simpa using hlt), List.getElem?_toArray, List.getElem?_map, hj]
          rfl)
        rw [hsize] at k1
        exact ⟨_, g', rfl, k1, k2, k3, hbx _ _⟩
      rcases rowArg hO (hH.O 1000000) z0 with ⟨hx0, a, hu⟩ | ⟨b, c, hu, hown, hB, hle, hcs⟩
      · have hn : n = xs.length := by subst hx0; simp at hi1; simpa using hi1
        have hu2 : v0 = .slice a xs.length 0 := by rw [hu, hx0]; rfl
        rw [hu2]
        refine endgrow a 0 (by rw [hx0]; simp) (by omega) hn (fun _ => by rw [hx0]; rfl) (fun a' _ j u hj => ?_)
        rw [hx0] at hj; simp at hj
      · subst hu
        have hcell : ∀ (j : Nat) (u : Value), (xs.map (Value.int .i64))[j]? = some u → w.cell? ⟨b, 0 + j, none⟩ = some u := by
          intro j u hj
          rw [List.getElem?_map, Option.map_eq_some_iff] at hj
          obtain ⟨y, hy, rfl⟩ := hj
          rw [Nat.zero_add, hB.cell]; exact hcs j y hy
        have hex : ∀ j, j < c.size → (w.cell? ⟨b, 0 + j, none⟩).isSome = true := by
          intro j hj; rw [Nat.zero_add, hB.cell, Array.getElem?_eq_getElem hj]; rfl
        have hfz : ∀ j, j < c.size → w.frozen? ⟨b, 0 + j, none⟩ = false := by
          intro j hj; rw [Nat.zero_add]; exact hB.unf j hj
        have inplace : ∀ (w' : World) (c' : Array Value), w'.os = w.os → w'.tape = w.tape → w'.output = w.output → w'.heap.size = w.heap.size → (∀ k, k ≠ b → w'.heap[k]? = w.heap[k]?) → Blk w' b c' → c'.size = c.size → xs.length + 1 ≤ c.size →
            (∀ (j : Nat) (y : Int), (xs.take n ++ x :: xs.drop n)[j]? = some y → c'[j]? = some (.int .i64 y)) →
            ∃ g', svR w' g' (oneO (xs.take n ++ x :: xs.drop n)) (cv (.vw 2000000 0 (xs.take n ++ x :: xs.drop n).length)) (.slice (some ⟨b, 0, none⟩) (xs.length + 1) c.size) ∧ Heap w' g' (oneO (xs.take n ++ x :: xs.drop n)) ∧ Fr w g w' g' := by
          intro w' c' a1 a2 a3 a4 a5 a6 a7 a8 a9
          have := rowPost (w := w) (w' := w') (g := g) (r := xs.take n ++ x :: xs.drop n) (b := b) (c := c') a1 a2 a3 (by rw [a4]; exact Nat.le_refl _) (fun k hk hn => a5 k (by rintro rfl; rw [hown] at hn; cases hn)) (.inr ⟨_, hown⟩) a6 (by rw [hlen, a7]; exact a8) a9 hH.im
          rw [hlen, a7] at this
          rw [hlen]; exact this
        by_cases hroom : xs.length + 1 ≤ c.size
        · by_cases hn : n = xs.length
          · -- at the end, room
            subst hn
            have := Any2.ins_int_end_room L b 0 xs.length c.size vb 0 1 1 [Value.int .i64 x] w (by omega) hroom (by omega) rfl (fun j hj => by rw [Nat.zero_add]; have := hex (xs.length + j) (by omega); rwa [Nat.zero_add] at this) (fun j hj => by rw [Nat.zero_add]; have := hfz (xs.length + j) (by omega); rwa [Nat.zero_add] at this) hv1 (fun u hu => by simp at hu; subst hu; rfl)
            refine this.mono ?_
            rintro e w' ⟨rfl, rfl⟩
            obtain ⟨s1, s2, s3, s4⟩ := sets_same (b := b) [Value.int .i64 x] (0 + xs.length) w
            obtain ⟨g', k1, k2, k3⟩ := inplace (w.setCells b (0 + xs.length) [Value.int .i64 x]) _ s1 s2 s3 s4 (fun k hk => sets_other _ _ _ k hk) (Blk.sets _ _ _ hB) (size_setsA _ _ _) hroom (fun j y hj => by
              rw [List.take_length, List.drop_length] at hj
              rw [Nat.zero_add, setsA_get _ _ _ _ (by simp; omega)]
              have hlt := idx_lt hj
              simp only [List.length_append, List.length_singleton] at hlt
              by_cases e : j < xs.length
              · rw [if_neg (by omega)]
                rw [List.getElem?_append_left e] at hj
                exact hcs j y hj
              · have e : j = xs.length := by omega
                subst e
                simp at hj
                subst hj
                simp)
            exact ⟨_, g', rfl, k1, k2, k3, hbx _ _⟩
          · -- within, room
            have hlt : n < xs.length := by omega
            have hvb2 : vb ≠ b := by rintro rfl; rw [hvbo] at hown; cases hown
            obtain ⟨elb, frb, hbh, hbf⟩ := hB
            have hB : Blk w b c := ⟨elb, frb, hbh, hbf⟩
            have hBd : Blk w.drew b c := ⟨elb, frb, hbh, hbf⟩
            have := Any2.ins_int_shift L b 0 xs.length c.size n vb 0 1 1 (xs.map (Value.int .i64)) [Value.int .i64 x] w hlt (by omega) hroom (by omega) hvb2 (by simp) rfl hcell (fun j hj => hex j (by omega)) (fun j hj => hfz j (by omega)) hv1 (vals_ok xs) (vals_ok [x]) el elb 1 c.size
              (by simp [World.shape?, hvb]) (by simp [World.shape?, hbh]) (by omega) (by simp [World.frozen?, hvb]) (by simp [World.frozen?, hvb])
            refine this.mono ?_
            rintro e w' ⟨rfl, rfl⟩
            obtain ⟨s1, s2, s3, s4⟩ := sets_same (b := b) ((xs.map (Value.int .i64)).drop n) (0 + (n + 1)) w.drew
            obtain ⟨t1, t2, t3, t4⟩ := sets_same (b := b) [Value.int .i64 x] (0 + n) (w.drew.setCells b (0 + (n + 1)) ((xs.map (Value.int .i64)).drop n))
            obtain ⟨g', k1, k2, k3⟩ := inplace ((w.drew.setCells b (0 + (n + 1)) ((xs.map (Value.int .i64)).drop n)).setCells b (0 + n) [Value.int .i64 x]) _ (t1.trans s1) (t2.trans s2) (t3.trans s3) (t4.trans s4) (fun k hk => (sets_other _ _ _ k hk).trans (sets_other _ _ _ k hk)) (Blk.sets _ _ _ (Blk.sets _ _ _ hBd)) ((size_setsA _ _ _).trans (size_setsA _ _ _)) hroom (fun j y hj => by
              rw [setsA_get _ _ _ _ (by rw [size_setsA]; simp; omega), setsA_get _ _ _ _ (by simp; omega)]
              simp only [Nat.zero_add, List.length_singleton, List.length_drop, List.length_map]
              have hjl := idx_lt hj
              rw [hlen] at hjl
              rw [List.getElem?_append] at hj
              simp only [List.length_take, Nat.min_eq_left hi1] at hj
              by_cases e1 : j < n
              · rw [if_pos e1, List.getElem?_take, if_pos e1] at hj
                rw [if_neg (by omega), if_neg (by omega)]
                exact hcs j y hj
              · rw [if_neg e1] at hj
                by_cases e2 : j = n
                · subst e2
                  simp at hj; subst hj
                  rw [if_pos (by omega)]; simp
                · rw [if_neg (by omega), if_pos (by omega)]
                  have e3 : j - n = (j - (n + 1)) + 1 := by omega
                  rw [e3, List.getElem?_cons_succ] at hj
                  rw [← List.map_drop, List.getElem?_map, hj]; rfl)
            exact ⟨_, g', rfl, k1, k2, k3, hbx _ _⟩
        · by_cases hn : n = xs.length
          · exact endgrow (some ⟨b, 0, none⟩) c.size hle (by omega) hn (fun h => by cases h) (fun a ha j u hj => by cases ha; have := hcell j u hj; rwa [add_mk])
          · -- within, no room
            have hlt : n < xs.length := by omega
            have := Any2.slices_Insert_int_grow L b 0 xs.length c.size n vb 0 1 1 (xs.map (Value.int .i64)) [Value.int .i64 x] w hlt (by omega) hle (by omega) (by omega) (by simp) rfl hcell hv1 (vals_ok xs) (vals_ok [x])
            refine this.mono ?_
            rintro e w' ⟨rfl, rfl⟩
            have hcap := cut_le w (xs.length + 1) c.size (ρ.t 3)
            generalize hcp : grownCap w (xs.length + 1) c.size (ρ.t 3) = cp at *
            generalize hc0 : ((((xs.map (Value.int .i64)).take n).toArray ++ Builtin.zeroCells (Value.int .i64 0).cells (xs.length + 1 - n) ++ Builtin.zeroCells (Value.int .i64 0).cells (cp - (xs.length + 1)))) = c0
            have hs0 : c0.size = cp := by
              rw [← hc0]; simp [Builtin.zeroCells, Value.cells]; omega
            have hB0 : Blk (w.alloc (.cells c0 (ρ.t 3))).drew w.heap.size c0 := by
              obtain ⟨el', fr', h1, h2⟩ := Blk.new w c0 (ρ.t 3)
              exact ⟨el', fr', h1, h2⟩
            have hB1 : Blk ((w.alloc (.cells c0 (ρ.t 3))).drew.setCells w.heap.size n [Value.int .i64 x]).drew w.heap.size (setsA c0 n [Value.int .i64 x]) := by
              obtain ⟨el', fr', h1, h2⟩ := Blk.sets [Value.int .i64 x] n _ hB0
              exact ⟨el', fr', h1, h2⟩
            obtain ⟨s1, s2, s3, s4⟩ := sets_same (b := w.heap.size) [Value.int .i64 x] n (w.alloc (.cells c0 (ρ.t 3))).drew
            obtain ⟨t1, t2, t3, t4⟩ := sets_same (b := w.heap.size) ((xs.map (Value.int .i64)).drop n) (n + 1) ((w.alloc (.cells c0 (ρ.t 3))).drew.setCells w.heap.size n [Value.int .i64 x]).drew
            have hd : ∀ v : World, v.drew.os = v.os ∧ v.drew.tape = v.tape ∧ v.drew.output = v.output ∧ v.drew.heap = v.heap := fun v => ⟨rfl, rfl, rfl, rfl⟩
            obtain ⟨g', k1, k2, k3⟩ := grown ((((w.alloc (.cells c0 (ρ.t 3))).drew.setCells w.heap.size n [Value.int .i64 x]).drew).setCells w.heap.size (n + 1) ((xs.map (Value.int .i64)).drop n)) _ (t1.trans s1) (t2.trans s2) (t3.trans s3)
              (by rw [t4]; show w.heap.size ≤ ((w.alloc (.cells c0 (ρ.t 3))).drew.setCells w.heap.size n [Value.int .i64 x]).heap.size; rw [s4]; simp)
              (fun k hk => by
                rw [sets_other _ _ _ k (by omega)]
                show ((w.alloc (.cells c0 (ρ.t 3))).drew.setCells w.heap.size n [Value.int .i64 x]).heap[k]? = _
                rw [sets_other _ _ _ k (by omega)]
                exact Below.heap_alloc w _ k hk) (Blk.sets _ _ _ hB1) (by rw [size_setsA, size_setsA, hs0]; exact hcap) (fun j y hj => by
              rw [setsA_get _ _ _ _ (by rw [size_setsA, hs0]; simp; omega), setsA_get _ _ _ _ (by rw [hs0]; simp; omega)]
              simp only [List.length_singleton, List.length_drop, List.length_map]
              have hjl := idx_lt hj
              rw [hlen] at hjl
              rw [List.getElem?_append] at hj
              simp only [List.length_take, Nat.min_eq_left hi1] at hj
              by_cases e1 : j < n
              · rw [if_pos e1, List.getElem?_take, if_pos e1] at hj
                rw [if_neg (by omega), if_neg (by omega), ← hc0, Array.getElem?_append_left (by simp; omega), Array.getElem?_append_left (by simp; omega)]
                simp [List.getElem?_take, e1, hj]
              · rw [if_neg e1] at hj
                by_cases e2 : j = n
                · subst e2
                  simp at hj; subst hj
                  rw [if_neg (by omega), if_pos (by omega)]; simp
                · rw [if_pos (by omega)]
                  have e3 : j - n = (j - (n + 1)) + 1 := by omega
                  rw [e3, List.getElem?_cons_succ] at hj
                  rw [← List.map_drop, List.getElem?_map, hj]; rfl)
            rw [size_setsA, size_setsA, hs0] at k1
            exact ⟨_, g', rfl, k1, k2, k3, hbx _ _⟩
  · cases hr
end Go.XM
end
section
namespace Go.XM
abbrev eI : Int → List SP := Ty.enc (.int .i64)
abbrev oL (l : List Int) : List RC := [.o 1 (l.map eI)]
abbrev sL (l : List Int) : List RC := [.s (.sl 1 (l.map eI))]
def mixR (a : List (List Int)) (i : Nat) : List (List RC) := (a.take i).map oL ++ (a.drop i).map sL
theorem mixR_0 (a : List (List Int)) : mixR a 0 = rowR false (.sl (.int .i64)) a := by simp only [mixR, List.take_zero, List.map_nil, List.nil_append, List.drop_zero]; rfl
theorem mixR_n (a : List (List Int)) : mixR a a.length = rowR true (.sl (.int .i64)) a := by simp only [mixR, List.take_length, List.drop_length, List.map_nil, List.append_nil]; rfl
theorem mixR_get {a : List (List Int)} {i : Nat} (h : i < a.length) : (mixR a i)[0 + ((i : Int)).toNat]? = some (sL a[i]) := by
  have e : 0 + ((i : Int)).toNat = i := by simp
  rw [e, mixR, List.getElem?_append_right (by simp; omega)]
  simp [h, Nat.min_eq_left (Nat.le_of_lt h)]
theorem mixR_set {a : List (List Int)} {i : Nat} (h : i < a.length) : (mixR a i).set (0 + ((i : Int)).toNat) (oL a[i]) = mixR a (i + 1) := by
  have e : 0 + ((i : Int)).toNat = i := by simp
  rw [e, mixR, mixR, List.set_append_right _ _ (by simp; omega)]
  have e2 : i - (List.map oL (List.take i a)).length = 0 := by simp; omega
  rw [e2, List.drop_eq_getElem_cons h, List.map_cons, List.set_cons_zero, List.take_succ_eq_append_getElem h, List.map_append]
  simp
theorem mixR_len (a : List (List Int)) (i : Nat) : (mixR a i).length = a.length := by simp [mixR]; omega
abbrev ownT (n : Nat) (i : Int) : List (Nat × SV) := [(1, .a (.c (.bx 1 0))), (2, .a (.c (.bx 2 0))), (10, .a (.c (.p (.v (.int .i64 (n : Int)))))), (11, .a (.c (.p (.v (.int .i64 i)))))]
abbrev ownO (N : Int) (n : Nat) (R : List (List RC)) : List (Nat × RS) := [(1, .box [.p (.v (.int .i64 N)), .vw 6 0 n]), (2, .box [.p (.v (.int .i64 0)), .nl 1]), (6, .row 1 R)]
end Go.XM
end
