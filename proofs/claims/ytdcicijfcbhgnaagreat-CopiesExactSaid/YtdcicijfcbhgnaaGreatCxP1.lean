import Derived.Test.YtdcicijfcbhgnaaGreatCxP0
set_option linter.all false
section
namespace Go.XL
open Go.XM
theorem u64N {a : Int} (h : 0 ≤ a) (h2 : a < 9223372036854775808) : wr .u64 a = a := by
  show IntKind.wrap .u64 _ = _
  unfold IntKind.wrap
  simp only [IntKind.bits, IntKind.signed]
  simp
  omega
theorem within_eq {K : Nat} {a : Int} {n : Nat} (h : 0 ≤ a) (h2 : a < 1000000) (hn : 0 < n) (hn2 : n ≤ 1000000) : ∃ r : Nat, herbariumlaw0_Within K a (n : Int) = some (r : Int) ∧ r < n := by
  obtain ⟨b, rfl⟩ := Int.eq_ofNat_of_zero_le h
  have := Nat.mod_lt b hn
  refine ⟨b % n, ?_, this⟩
  unfold herbariumlaw0_Within
  rw [u64N (by omega) (by omega), u64N (by omega) (by omega), if_pos (by omega), tmodN, w64 (by omega) (by omega)]
def GoodL (made : List (List Int)) (c : Nat) : Prop := ∀ m ∈ made, Bt m ∧ m.length ≤ c
def GoodT (ts bs : List api_Bits) (c : Nat) : Prop := ∀ t ∈ ts, t ∈ bs ∨ ∃ l, Bt l ∧ l.length ≤ c ∧ t = pack l
theorem texts_ev {x : herbariumlaw3_Ask} {made : List (List Int)} {c : Nat} (hc : c ≤ 900000) (hm : GoodL made c) (hB : x.B.length ≤ 900) (hN : x.N.length ≤ 900) : ∃ ts, E0 (fun K => herbariumlaw3_Texts K x made) ts ∧ ts.length ≤ 46 ∧ GoodT ts x.B (c + 3) := by
  have key : ∀ (d i : Nat) (acc : List api_Bits), 10 ≤ i + d → i ≤ 10 → acc.length ≤ 6 + 4 * i → GoodT acc x.B (c + 3) → ∃ ts, E1 (fun K k => herbariumlaw3_Texts.l2 K x made k (i : Int) acc) ts ∧ ts.length ≤ 46 ∧ GoodT ts x.B (c + 3) := by
    intro d
    induction d with
    | zero =>
      intro i acc hi hi2 ha hg
      refine ⟨acc, ?_, by omega, hg⟩
      refine step1 (fun _ _ _ _ _ => herbariumlaw3_Texts.l2.eq_2 ..) ?_
      by_cases h : i < made.length
      · exact posD (by omega) (negD (by omega) (now _))
      · exact negD (by omega) (now _)
    | succ d ih =>
      intro i acc hi hi2 ha hg
      by_cases h : i < made.length
      · by_cases h10 : i < 10
        · obtain ⟨hb, hl⟩ := hm _ (getD_mem (d := []) h)
          have hp := rPack_ev hb (by omega)
          have e1 : E0 (fun K => _herbariumref1_List__Pack K (nth made (i : Int))) (pack (made.getD i [])) := by rw [rd1N]; exact hp
          generalize hy : made.getD i [] = y at *
          have hg1 : GoodT (acc ++ [pack y]) x.B (c + 3) := by
            intro t ht
            rcases List.mem_append.1 ht with ht | ht
            · exact hg t ht
            · obtain rfl := List.mem_singleton.1 ht
              exact .inr ⟨y, hb, by omega, rfl⟩
          by_cases h0 : y.length = 0
          · obtain ⟨ts, t1, t2, t3⟩ := ih (i + 1) (acc ++ [pack y]) (by omega) (by omega) (by simp; omega) hg1
            refine ⟨ts, ?_, t2, t3⟩
            refine step1 (fun _ _ _ _ _ => herbariumlaw3_Texts.l2.eq_2 ..) ?_
            refine posD (by omega) (posD (by omega) (pos (by omega) (bnd e1 (pos (by simp; omega) ?_))))
            rw [rd1N, hy, w1 (by omega)]
            exact posE (by omega) t1
          · have ea : wr .i64 ((wr .i64 ((i : Int) * 7)) + (wr .i64 (((x.N.length : Nat) : Int) * 3))) = (i : Int) * 7 + ((x.N.length : Nat) : Int) * 3 := by
              rw [w64 (i := (i : Int) * 7) (by omega) (by omega), w64 (i := ((x.N.length : Nat) : Int) * 3) (by omega) (by omega), w64 (by omega) (by omega)]
            obtain ⟨r, hr, hr2⟩ := within_eq (K := 0) (a := (i : Int) * 7 + ((x.N.length : Nat) : Int) * 3) (n := y.length) (by omega) (by omega) (by omega) (by omega)
            have hr : ∀ K, herbariumlaw0_Within K ((i : Int) * 7 + ((x.N.length : Nat) : Int) * 3) ((y.length : Nat) : Int) = some (r : Int) := fun K => hr
            have hv : wr .u8 (1 - y.getD r 0) = 1 - y.getD r 0 := by
              rcases hb.get r with e | e <;> rw [e] <;> decide
            have hB1 : Bt (y.set r (1 - y.getD r 0)) := by
              intro z hz
              rcases List.mem_or_eq_of_mem_set hz with hz | rfl
              · exact hb z hz
              · rcases hb.get r with e | e <;> rw [e] <;> decide
            have hB2 : Bt (y.take r) := fun z hz => hb z (List.mem_of_mem_take hz)
            have hB3 : Bt (y ++ [1, 0, 1]) := hb.app (by intro z hz; simp at hz; omega)
            have p1 := rPack_ev hB1 (by simp; omega)
            have p2 := rPack_ev hB2 (by simp; omega)
            have p3 := rPack_ev hB3 (by simp; omega)
            have hg2 : GoodT ((acc ++ [pack y]) ++ [pack (y.set r (1 - y.getD r 0)), pack (y.take r), pack (y ++ [1, 0, 1])]) x.B (c + 3) := by
              intro t ht
              rcases List.mem_append.1 ht with ht | ht
              · exact hg1 t ht
              · simp only [List.mem_cons, List.not_mem_nil, or_false] at ht
                rcases ht with rfl | rfl | rfl
                · exact .inr ⟨_, hB1, by simp; omega, rfl⟩
                · exact .inr ⟨_, hB2, by simp; omega, rfl⟩
                · exact .inr ⟨_, hB3, by simp; omega, rfl⟩
            obtain ⟨ts, t1, t2, t3⟩ := ih (i + 1) _ (by omega) (by omega) (by simp; omega) hg2
            refine ⟨ts, ?_, t2, t3⟩
            refine step1 (fun _ _ _ _ _ => herbariumlaw3_Texts.l2.eq_2 ..) ?_
            refine posD (by omega) (posD (by omega) (pos (by omega) (bnd e1 (pos (by simp; omega) ?_))))
            rw [rd1N, hy, w1 (by omega), ea]
            simp only [List.nil_append]
            refine negE (by omega) (pos (by simp; omega) (bnd (congr (fun K _ _ _ _ => hr K) (now _)) (pos (by omega) (pos (by omega) ?_))))
            rw [rdN, hv, Int.toNat_natCast]
            refine bnd p1 (pos (by omega) (bnd (a := pack (y.take r)) ?_ (pos (by simp; omega) (pos (by simp; omega) (bnd p3 (pos (by simp; omega) t1))))))
            exact congr (fun K _ _ _ _ => by simp) p2
        · refine ⟨acc, ?_, by omega, hg⟩
          refine step1 (fun _ _ _ _ _ => herbariumlaw3_Texts.l2.eq_2 ..) ?_
          exact posD (by omega) (negD (by omega) (now _))
      · refine ⟨acc, ?_, by omega, hg⟩
        refine step1 (fun _ _ _ _ _ => herbariumlaw3_Texts.l2.eq_2 ..) ?_
        exact negD (by omega) (now _)
  have hg0 : GoodT (([((ByteArray.empty, 0) : api_Bits)] : List api_Bits) ++ x.B) x.B (c + 3) := by
    intro t ht
    rcases List.mem_append.1 ht with ht | ht
    · obtain rfl := List.mem_singleton.1 ht
      exact .inr ⟨[], Bt.nil, by simp, rfl⟩
    · exact .inl ht
  have hs : (([((ByteArray.empty, 0) : api_Bits)] : List api_Bits) ++ x.B).length = 1 + x.B.length := by simp; omega
  by_cases h : x.B.length + 1 > 6
  · obtain ⟨ts, t1, t2, t3⟩ := key 10 0 ((([((ByteArray.empty, 0) : api_Bits)] : List api_Bits) ++ x.B).take 6) (by omega) (by omega) (by simp; omega) (fun t ht => hg0 t (List.mem_of_mem_take ht))
    exact ⟨ts, pos (by simp; omega) (posD (by omega) (pos (by omega) t1.e1)), t2, t3⟩
  · obtain ⟨ts, t1, t2, t3⟩ := key 10 0 (([((ByteArray.empty, 0) : api_Bits)] : List api_Bits) ++ x.B) (by omega) (by omega) (by omega) hg0
    exact ⟨ts, pos (by simp; omega) (negD (by omega) t1.e1), t2, t3⟩
theorem goodT_sm {ts bs : List api_Bits} {c : Nat} (hc : c ≤ 900000) (h : GoodT ts bs c) (hb : ∀ b ∈ bs, b.1.size ≤ 3603) : ∀ t ∈ ts, t.Data.size ≤ 1000000 := by
  intro t ht
  rcases h t ht with ht | ⟨l, _, h2, rfl⟩
  · have := hb t ht; show t.1.size ≤ _; omega
  · show (bytesOf (byts l)).size ≤ _
    rw [bytesOf_size, byts_len]; omega
abbrev zBits : api_Bits := (ByteArray.empty, 0)
end Go.XL
end
section
namespace Go.XL
open Go.XM
theorem isR_uniq {l : List Int} (h : Bt l) (hb : l.length ≤ 1000000) {v : Int} (hv : 0 ≤ v) (hv2 : v ≤ 15) {at_ : Nat} (hat : at_ ≤ l.length) {q q' : List Int} (h1 : IsR l at_ v q) (h2 : IsR l at_ v q') : q = q' := by
  have key : ∀ {q}, IsR l at_ v q → E0 (fun K => runs_Read K (pack l) (at_ : Int) v) (q, ((at_ + (runb v q).length : Nat) : Int), true) := by
    rintro q ⟨m, hp⟩
    obtain ⟨b, hb1, hb2⟩ := pre_split hat hp
    have hB : Bt (l.take at_) := fun x hx => h x (List.mem_of_mem_take hx)
    have hBb : Bt b := fun x hx => h x (by rw [hb1]; exact List.mem_append_right _ hx)
    have := RRd_ev (a := l.take at_) (b := b) m hv hv2 hB hBb (by rw [← hb1]; omega)
    rw [← hb1, List.length_append, hb2] at this
    exact this
  exact (Prod.ext_iff.1 ((key h1).uniq (key h2))).1
theorem tkR_of {l : List Int} (h : Bt l) (hb : l.length ≤ 1000000) {v : Int} (hv : 0 ≤ v) (hv2 : v ≤ 15) {at_ : Nat} (hat : at_ ≤ l.length) {q : List Int} (h1 : IsR l at_ v q) : tkR l at_ v = some (q, at_ + (runb v q).length) := by
  cases ht : tkR l at_ v with
  | none => exact absurd h1 (tkR_none ht q)
  | some p =>
    obtain ⟨q', n⟩ := p
    obtain ⟨k1, rfl⟩ := tkR_some ht
    rw [isR_uniq h hb hv hv2 hat h1 k1]
theorem cjoin_some {ref bl q l : List Int} (h : cjoin ref bl q = some l) : MayP l ∧ cparts ref l = (bl, q) := by
  unfold cjoin at h
  split at h
  · cases h
  · split at h
    · rename_i hc; cases h; exact hc.2.2
    · cases h
theorem cwhole_any {ref bl q : List Int} (a : MayP ref) (b : MayP q) (hb : bl.length ≤ 1000) : ∃ res : List Int × Bool, E0 (fun K => copies_Whole K ref bl q) res ∧ (match cjoin ref bl q with | some l => res = (l, true) | none => res.2 = false) := by
  have ha := a.len
  have hbl := b.len
  obtain ⟨l, e, hl⟩ := cw_l1 (ref := ref) (bl := bl) (q := q) (by omega) hb (by omega) 0 (by omega) ref true q (by omega) (by omega)
  rw [List.drop_zero] at e hl
  have hw : E0 (fun K => copies_Whole K ref bl q) _ := bnd (congr (fun K _ _ _ _ => clone_eq K q (by omega)) (now _)) e.e1
  unfold cjoin
  cases hp : pk true ref bl with
  | none =>
    rw [hp] at hw
    exact ⟨_, hw, rfl⟩
  | some P =>
    rw [hp] at hw
    refine ⟨_, hw, ?_⟩
    by_cases hh : MayP (sortF (q ++ P)) ∧ cparts ref (sortF (q ++ P)) = (bl, q)
    · simp only [if_pos (show MayP ref ∧ MayP q ∧ MayP (sortF (q ++ P)) ∧ cparts ref (sortF (q ++ P)) = (bl, q) from ⟨a, b, hh⟩)]
      rw [← hl P hp hh, decide_eq_true]
      rw [hl P hp hh]; exact hh
    · simp only [if_neg (show ¬ (MayP ref ∧ MayP q ∧ MayP (sortF (q ++ P)) ∧ cparts ref (sortF (q ++ P)) = (bl, q)) from fun h => hh h.2.2)]
      exact decide_eq_false hh
theorem rjoinC {ref bl q : List Int} (a : MayP ref) (b : MayP q) (hb : bl.length ≤ 1000) : ∃ l : List Int, E0 (fun K => herbariumref3_JoinCopies K ref bl q) (match cjoin ref bl q with | some l => (l, true) | none => (l, false)) := by
  have ha := a.len
  have hbl := b.len
  obtain ⟨l, e⟩ := RJoinC_ev (ref := ref) (bl := bl) (q := q) (by omega) hb (by omega)
  rw [if_pos ⟨a, b⟩] at e
  exact ⟨l, e⟩
def ccod (i : Nat) (q : List Int) : List Nat := if i = 0 then cnum q else q.map Int.toNat
theorem ccod_nil (i : Nat) : ccod i [] = [] := by unfold ccod; split <;> rfl
theorem ccod_cons (i : Nat) (n : Int) (q : List Int) : ccod i (n :: q) = (if i = 0 then (n + 1).toNat else n.toNat) :: ccod (i + 1) q := by
  unfold ccod
  rw [if_neg (show ¬ i + 1 = 0 by omega)]
  by_cases h : i = 0
  · rw [if_pos h, if_pos h]; rfl
  · rw [if_neg h, if_neg h]; rfl
structure AtC (l : List Int) (v : Int) (ref : List Int) (i at_ d : Nat) (acc L q s : List Int) : Prop where
  may : MayP L
  parts : cparts ref L = (acc ++ q, s)
  len : q.length = d
  nums : gams (ccod i q) <+: l.drop at_
  rest : runb v s <+: l.drop (at_ + (gams (ccod i q)).length)
abbrev endC (v : Int) (i at_ : Nat) (q s : List Int) : Nat := at_ + (gams (ccod i q)).length + (runb v s).length
theorem AtC.cons {l : List Int} {v : Int} {ref : List Int} {i at_ d k : Nat} {acc L q s : List Int} (hp : gam k <+: l.drop at_) (h : AtC l v ref (i + 1) (at_ + (gam k).length) d (acc ++ [if i = 0 then (k : Int) - 1 else (k : Int)]) L q s) :
    AtC l v ref i at_ (d + 1) acc L ((if i = 0 then (k : Int) - 1 else (k : Int)) :: q) s ∧ endC v i at_ ((if i = 0 then (k : Int) - 1 else (k : Int)) :: q) s = endC v (i + 1) (at_ + (gam k).length) q s := by
  have hk : (if i = 0 then ((if i = 0 then (k : Int) - 1 else (k : Int)) + 1).toNat else (if i = 0 then (k : Int) - 1 else (k : Int)).toNat) = k := by
    by_cases h0 : i = 0
    · simp only [if_pos h0]; omega
    · simp only [if_neg h0]; omega
  have hc : ccod i ((if i = 0 then (k : Int) - 1 else (k : Int)) :: q) = k :: ccod (i + 1) q := by rw [ccod_cons, hk]
  have h5 := h.rest
  refine ⟨⟨h.may, by rw [h.parts, List.append_assoc]; rfl, by simp [h.len], ?_, ?_⟩, ?_⟩
  · rw [hc, gams_cons]; exact pre_app hp h.nums
  · rw [hc, gams_cons, List.length_append, ← Nat.add_assoc]; exact h5
  · unfold endC; rw [hc, gams_cons, List.length_append]; omega
theorem AtC.head {l : List Int} {v : Int} {ref : List Int} (hr : MayP ref) {i at_ d : Nat} {acc L q s : List Int} (hat : at_ ≤ l.length) (ha : acc.length = i) (h : AtC l v ref i at_ (d + 1) acc L q s) :
    ∃ (q' : List Int) (k : Nat), k ≤ 17 ∧ rg l at_ = some ((k : Int), at_ + (gam k).length) ∧ AtC l v ref (i + 1) (at_ + (gam k).length) d (acc ++ [if i = 0 then (k : Int) - 1 else (k : Int)]) L q' s ∧ endC v i at_ q s = endC v (i + 1) (at_ + (gam k).length) q' s := by
  obtain ⟨h1, h2, h3, h4, h5⟩ := h
  have hrl := hr.len
  match q, h3 with
  | n :: q', h3 =>
    have hbk := cparts_blks (l := L) hr
    rw [h2] at hbk
    have hmem : n ∈ acc ++ n :: q' := by simp
    have hge := hbk.ge n hmem
    have hsum : n ≤ 16 := by
      have hs := blk_sum (l := L) (inn := true) (m := 0) (r := ref)
      have hcp : blk L true 0 ref = acc ++ n :: q' := by have := congrArg Prod.fst h2; exact this
      rw [hcp] at hs
      rcases hs with hs | hs
      · have hall : ∀ x ∈ acc ++ n :: q', 0 ≤ x := fun x hx => (hbk.ge x hx).1
        have : ∀ (L : List Int), (∀ x ∈ L, 0 ≤ x) → ∀ y ∈ L, y ≤ L.sum := by
          intro L
          induction L with
          | nil => intro _ y hy; cases hy
          | cons z L ih =>
            intro hz y hy
            have hs0 : 0 ≤ L.sum := by
              clear ih hy
              induction L with
              | nil => simp
              | cons w L ih2 =>
                have := hz w (by simp)
                have := ih2 (fun x hx => hz x (by rcases List.mem_cons.1 hx with rfl | hx <;> simp [*]))
                simp only [List.sum_cons]; omega
            have h0 := hz z List.mem_cons_self
            rw [List.sum_cons]
            rcases List.mem_cons.1 hy with rfl | hy
            · omega
            · have := ih (fun x hx => hz x (List.mem_cons_of_mem _ hx)) y hy; omega
        have := this _ hall n hmem
        omega
      · simp at hs
    have hc := ccod_cons i n q'
    generalize hk : (if i = 0 then (n + 1).toNat else n.toNat) = k at hc
    have hn : n = if i = 0 then (k : Int) - 1 else (k : Int) := by
      rw [← hk]
      by_cases h0 : i = 0
      · simp only [if_pos h0]; omega
      · simp only [if_neg h0]; omega
    have hk1 : 0 < k ∧ k ≤ 17 := by
      rw [← hk]
      by_cases h0 : i = 0
      · rw [if_pos h0]; omega
      · rw [if_neg h0]
        have := hbk.one i (by omega) (by simp; omega)
        rw [List.getD_eq_getElem?_getD, List.getElem?_append_right (by omega), ha] at this
        simp at this; omega
    rw [hc, gams_cons] at h4 h5
    obtain ⟨p1, p2⟩ := pre_inv h4
    refine ⟨q', k, hk1.2, rg_pre hat hk1.1 (by omega) p1, ⟨h1, by rw [h2, ← hn, List.append_assoc]; rfl, by simpa using h3, p2, ?_⟩, ?_⟩
    · rw [List.length_append, ← Nat.add_assoc] at h5; exact h5
    · unfold endC; rw [hc, gams_cons, List.length_append]; omega
theorem cread_l1 {l : List Int} (h : Bt l) (hb : l.length ≤ 1000000) {v : Int} (hv : 0 ≤ v) (hv2 : v ≤ 15) {ref : List Int} (hr : MayP ref) : ∀ (d i at_ : Nat) (acc : List Int), i + d ≤ 17 → at_ ≤ l.length → acc.length = i →
    ∃ res : List Int × Int × Bool, E1 (fun K k => copies_Read.l1 K (pack l) v ref k (at_ : Int) ((i + d : Nat) : Int) (i : Int) acc) res ∧ (res.2.2 = true → ∃ L q s, AtC l v ref i at_ d acc L q s ∧ res = (L, ((endC v i at_ q s : Nat) : Int), true)) := by
  intro d
  induction d with
  | zero =>
    intro i at_ acc hi hat ha
    obtain ⟨rs, g1, g2⟩ := rread_tk h hb hv hv2 hat
    have start : ∀ {res : List Int × Int × Bool}, Ev (fun K _ _ _ _ => if (!rs.2.2) then some (([] : List Int), 0, false) else (copies_Whole K ref acc rs.1).bind fun r66 => some (r66.1, rs.2.1, r66.2)) res → E1 (fun K k => copies_Read.l1 K (pack l) v ref k (at_ : Int) ((i + 0 : Nat) : Int) (i : Int) acc) res := by
      intro res hh
      refine step1 (fun _ _ _ _ _ => copies_Read.l1.eq_2 ..) ?_
      exact negD (by omega) (bnd g1 hh)
    cases ht : tkR l at_ v with
    | none =>
      rw [ht] at g2
      refine ⟨([], 0, false), start (pos (by rw [g2]; rfl) (now _)), fun hh => by cases hh⟩
    | some p =>
      obtain ⟨s, n⟩ := p
      rw [ht] at g2
      simp only at g2
      subst g2
      obtain ⟨⟨s1, s2⟩, rfl⟩ := tkR_some ht
      obtain ⟨rw_, w1_, w2⟩ := cwhole_any (bl := acc) hr s1 (by omega)
      refine ⟨(rw_.1, ((at_ + (runb v s).length : Nat) : Int), rw_.2), start (negB rfl (bnd w1_ (now _))), fun hh => ?_⟩
      cases hj : cjoin ref acc s with
      | none => rw [hj] at w2; simp only at w2 hh; rw [w2] at hh; cases hh
      | some L =>
        rw [hj] at w2
        simp only at w2
        subst w2
        obtain ⟨k1, k2⟩ := cjoin_some hj
        refine ⟨L, [], s, ⟨k1, by rw [k2, List.append_nil], rfl, by rw [ccod_nil]; exact List.nil_prefix, by rw [ccod_nil]; exact s2⟩, ?_⟩
        unfold endC; rw [ccod_nil]; rfl
  | succ d ih =>
    intro i at_ acc hi hat ha
    have hrd := Read_ev h (by omega) hat
    cases hrg : rg l at_ with
    | none =>
      rw [hrg] at hrd
      refine ⟨([], 0, false), ?_, fun hh => by cases hh⟩
      refine step1 (fun _ _ _ _ _ => copies_Read.l1.eq_2 ..) ?_
      exact posD (by omega) (bnd hrd (pos rfl (now _)))
    | some p =>
      obtain ⟨x, n⟩ := p
      rw [hrg] at hrd
      obtain ⟨k, rfl, k0, k1, hp, rfl⟩ := rg_can h hrg
      have hpl := pre_len hp
      obtain ⟨res, e1, e2⟩ := ih (i + 1) (at_ + (gam k).length) (acc ++ [if i = 0 then (k : Int) - 1 else (k : Int)]) (by omega) (by omega) (by simp [ha])
      rw [show i + 1 + d = i + (d + 1) by omega] at e1
      refine ⟨res, ?_, fun hh => ?_⟩
      · refine step1 (fun _ _ _ _ _ => copies_Read.l1.eq_2 ..) ?_
        refine posD (by omega) (bnd hrd (negB rfl ?_))
        simp only
        rw [w64 (i := (k : Int) - 1) (by omega) (by omega), w1 (by omega)]
        by_cases h0 : i = 0
        · rw [if_pos h0] at e1
          exact posE (by omega) (pos (by simp; omega) e1)
        · rw [if_neg h0] at e1
          exact negE (by omega) (pos (by simp; omega) e1)
      · obtain ⟨L, q, s, hA, hres⟩ := e2 hh
        obtain ⟨c1, c2⟩ := hA.cons hp
        exact ⟨L, _, s, c1, by rw [hres, c2]⟩
theorem rtb_l1 {l : List Int} (h : Bt l) (hb : l.length ≤ 1000000) {v : Int} (hv : 0 ≤ v) (hv2 : v ≤ 15) {ref : List Int} (hr : MayP ref) {r23 : Int × Int} {m : Nat} (hm : wr .i64 (r23.1 - 1) = (m : Int)) (hm2 : m ≤ 17) : ∀ (d i at_ : Nat) (acc : List Int), i + d = m → at_ ≤ l.length → acc.length = i →
    ∃ res : List Int × Int × Bool, E1 (fun K k => herbariumref3_TakeBy.l1 K r23 l v ref k (at_ : Int) (i : Int) acc) res ∧ (res = ([], 0, false) ∨ ∃ L q s, AtC l v ref i at_ d acc L q s ∧ res = (L, ((endC v i at_ q s : Nat) : Int), true)) ∧
      ∀ L q s, AtC l v ref i at_ d acc L q s → res = (L, ((endC v i at_ q s : Nat) : Int), true) := by
  intro d
  have hrl := hr.len
  induction d with
  | zero =>
    intro i at_ acc hi hat ha
    have g1 := rtr_tk h hb hv hv2 hat
    have start : ∀ {rs res : List Int × Int × Bool}, E0 (fun K => herbariumref3_TakeRuns K l (at_ : Int) v) rs → Ev (fun K _ _ _ _ => if (!rs.2.2) then some (([] : List Int), 0, false) else (herbariumref3_JoinCopies K ref acc rs.1).bind fun r74 => if (!r74.2) then some (([] : List Int), 0, false) else some (r74.1, rs.2.1, true)) res → E1 (fun K k => herbariumref3_TakeBy.l1 K r23 l v ref k (at_ : Int) (i : Int) acc) res := by
      intro rs res hrs hh
      refine step1 (fun _ _ _ _ _ => herbariumref3_TakeBy.l1.eq_2 ..) ?_
      rw [hm]
      exact negD (by omega) (bnd hrs hh)
    have first : ∀ L q s, AtC l v ref i at_ 0 acc L q s → tkR l at_ v = some (s, at_ + (runb v s).length) ∧ cjoin ref acc s = some L ∧ endC v i at_ q s = at_ + (runb v s).length := by
      rintro L q s ⟨h1, h2, h3, h4, h5⟩
      obtain rfl := List.eq_nil_of_length_eq_zero h3
      rw [ccod_nil] at h5
      have hcj := cjoin_parts hr h1
      have hcm := cparts_may (ref := ref) h1
      rw [h2, List.append_nil] at hcj
      rw [h2] at hcm
      refine ⟨tkR_of h hb hv hv2 hat ⟨hcm, h5⟩, hcj, ?_⟩
      unfold endC; rw [ccod_nil]; rfl
    cases ht : tkR l at_ v with
    | none =>
      rw [ht] at g1
      refine ⟨([], 0, false), start g1 (pos rfl (now _)), .inl rfl, fun L q s hA => ?_⟩
      have := (first L q s hA).1
      rw [ht] at this; cases this
    | some p =>
      obtain ⟨s, n⟩ := p
      rw [ht] at g1
      obtain ⟨⟨s1, s2⟩, rfl⟩ := tkR_some ht
      obtain ⟨l', w1_⟩ := rjoinC (bl := acc) hr s1 (by omega)
      cases hj : cjoin ref acc s with
      | none =>
        rw [hj] at w1_
        refine ⟨([], 0, false), start g1 (negB rfl (bnd w1_ (pos rfl (now _)))), .inl rfl, fun L q s' hA => ?_⟩
        obtain ⟨f1, f2, f3⟩ := first L q s' hA
        rw [ht] at f1
        cases (Prod.ext_iff.1 (Option.some.inj f1)).1
        rw [hj] at f2; cases f2
      | some L =>
        rw [hj] at w1_
        obtain ⟨k1, k2⟩ := cjoin_some hj
        refine ⟨(L, ((at_ + (runb v s).length : Nat) : Int), true), start g1 (negB rfl (bnd w1_ (negB rfl (now _)))), .inr ⟨L, [], s, ⟨k1, by rw [k2, List.append_nil], rfl, by rw [ccod_nil]; exact List.nil_prefix, by rw [ccod_nil]; exact s2⟩, ?_⟩, fun L' q s' hA => ?_⟩
        · unfold endC; rw [ccod_nil]; rfl
        · obtain ⟨f1, f2, f3⟩ := first L' q s' hA
          rw [ht] at f1
          cases (Prod.ext_iff.1 (Option.some.inj f1)).1
          rw [hj] at f2; cases f2
          rw [f3]
  | succ d ih =>
    intro i at_ acc hi hat ha
    have hrd := RRead_ev h (by omega) hat
    cases hrg : rg l at_ with
    | none =>
      rw [hrg] at hrd
      refine ⟨([], 0, false), ?_, .inl rfl, fun L q s hA => ?_⟩
      · refine step1 (fun _ _ _ _ _ => herbariumref3_TakeBy.l1.eq_2 ..) ?_
        rw [hm]
        exact posD (by omega) (bnd hrd (posD (show (-1 : Int) < 1 by decide) (now _)))
      · obtain ⟨q', k, _, hh, _⟩ := hA.head hr hat ha
        rw [hrg] at hh; cases hh
    | some p =>
      obtain ⟨x, n⟩ := p
      rw [hrg] at hrd
      obtain ⟨k, rfl, k0, k1, hp, rfl⟩ := rg_can h hrg
      have hpl := pre_len hp
      have hkk : ∀ {k' : Nat} {z : Nat}, rg l at_ = some ((k' : Int), z) → k' = k := by
        intro k' z hh
        rw [hrg] at hh
        have := (Prod.ext_iff.1 (Option.some.inj hh)).1
        simp only at this; omega
      by_cases c : (k : Int) > 17
      · refine ⟨([], 0, false), ?_, .inl rfl, fun L q s hA => ?_⟩
        · refine step1 (fun _ _ _ _ _ => herbariumref3_TakeBy.l1.eq_2 ..) ?_
          rw [hm]
          exact posD (by omega) (bnd hrd (negD (show ¬ ((k : Int) < 1) by omega) (posD c (now _))))
        · obtain ⟨q', k', h17, hh, _⟩ := hA.head hr hat ha
          cases hkk hh
          omega
      · obtain ⟨res, e1, e2, e3⟩ := ih (i + 1) (at_ + (gam k).length) (acc ++ [if i = 0 then (k : Int) - 1 else (k : Int)]) (by omega) (by omega) (by simp [ha])
        refine ⟨res, ?_, ?_, fun L q s hA => ?_⟩
        · refine step1 (fun _ _ _ _ _ => herbariumref3_TakeBy.l1.eq_2 ..) ?_
          rw [hm]
          refine posD (by omega) (bnd hrd (negD (show ¬ ((k : Int) < 1) by omega) (negD c ?_)))
          simp only
          rw [w64 (i := (k : Int) - 1) (by omega) (by omega), w1 (by omega)]
          by_cases h0 : i = 0
          · rw [if_pos h0] at e1
            exact posE (by omega) (pos (by simp; omega) e1)
          · rw [if_neg h0] at e1
            exact negE (by omega) (pos (by simp; omega) e1)
        · rcases e2 with e2 | ⟨L, q, s, hA, hres⟩
          · exact .inl e2
          · obtain ⟨c1, c2⟩ := hA.cons hp
            exact .inr ⟨L, _, s, c1, by rw [hres, c2]⟩
        · obtain ⟨q', k', h17, hh, hA2, he⟩ := hA.head hr hat ha
          cases hkk hh
          rw [e3 L q' s hA2, he]
def IsC (l : List Int) (at_ : Nat) (v : Int) (ref q : List Int) : Prop := MayP q ∧ copb v ref q <+: l.drop at_
open Classical in
noncomputable def tkC (l : List Int) (at_ : Nat) (v : Int) (ref : List Int) : Option (List Int × Nat) := if h : ∃ q, IsC l at_ v ref q then some (h.choose, at_ + (copb v ref h.choose).length) else none
theorem tkC_some {l : List Int} {at_ : Nat} {v : Int} {ref q : List Int} {n : Nat} (h : tkC l at_ v ref = some (q, n)) : IsC l at_ v ref q ∧ n = at_ + (copb v ref q).length := by
  unfold tkC at h
  split at h
  · rename_i hq; cases h; exact ⟨hq.choose_spec, rfl⟩
  · cases h
theorem tkC_none {l : List Int} {at_ : Nat} {v : Int} {ref : List Int} (h : tkC l at_ v ref = none) (q : List Int) : ¬ IsC l at_ v ref q := by
  unfold tkC at h
  split at h
  · cases h
  · rename_i hq; exact fun z => hq ⟨q, z⟩
theorem copb_eq {v : Int} {ref L : List Int} : copb v ref L = gam ((cparts ref L).1.length + 1) ++ (gams (ccod 0 (cparts ref L).1) ++ runb v (cparts ref L).2) := by
  rw [copb, gams_cons, List.append_assoc]; rfl
theorem isC_at {l : List Int} {at_ : Nat} {v : Int} {ref L : List Int} (h : IsC l at_ v ref L) : gam ((cparts ref L).1.length + 1) <+: l.drop at_ ∧ AtC l v ref 0 (at_ + (gam ((cparts ref L).1.length + 1)).length) (cparts ref L).1.length [] L (cparts ref L).1 (cparts ref L).2 ∧ endC v 0 (at_ + (gam ((cparts ref L).1.length + 1)).length) (cparts ref L).1 (cparts ref L).2 = at_ + (copb v ref L).length := by
  obtain ⟨h1, h2⟩ := h
  rw [copb_eq] at h2
  obtain ⟨p1, p2⟩ := pre_inv h2
  obtain ⟨p3, p4⟩ := pre_inv p2
  refine ⟨p1, ⟨h1, rfl, rfl, p3, p4⟩, ?_⟩
  unfold endC; rw [copb_eq, List.length_append, List.length_append]; omega
theorem at_isC {l : List Int} {at_ k : Nat} {v : Int} {ref L q s : List Int} (hp : gam k <+: l.drop at_) (hk : 0 < k) (h : AtC l v ref 0 (at_ + (gam k).length) (k - 1) [] L q s) : IsC l at_ v ref L ∧ endC v 0 (at_ + (gam k).length) q s = at_ + (copb v ref L).length := by
  obtain ⟨h1, h2, h3, h4, h5⟩ := h
  rw [List.nil_append] at h2
  have hc : copb v ref L = gam k ++ (gams (ccod 0 q) ++ runb v s) := by rw [copb_eq, h2]; simp only; rw [h3, show k - 1 + 1 = k by omega]
  refine ⟨⟨h1, ?_⟩, ?_⟩
  · rw [hc]; exact pre_app hp (pre_app h4 h5)
  · unfold endC; rw [hc, List.length_append, List.length_append]; omega
theorem cread_tk {l : List Int} (h : Bt l) (hb : l.length ≤ 1000000) {v : Int} (hv : 0 ≤ v) (hv2 : v ≤ 15) {ref : List Int} (hr : MayP ref) {at_ : Nat} (hat : at_ ≤ l.length) :
    ∃ res : List Int × Int × Bool, E0 (fun K => copies_Read K (pack l) (at_ : Int) v ref) res ∧ (match tkC l at_ v ref with | some (q, n) => res = (q, (n : Int), true) | none => res.2.2 = false) := by
  have snd : ∃ res : List Int × Int × Bool, E0 (fun K => copies_Read K (pack l) (at_ : Int) v ref) res ∧ (res.2.2 = true → ∃ q, IsC l at_ v ref q) := by
    have hrd := Read_ev h (by omega) hat
    cases hrg : rg l at_ with
    | none =>
      rw [hrg] at hrd
      exact ⟨([], 0, false), bnd hrd (pos rfl (now _)), fun hh => by cases hh⟩
    | some p =>
      obtain ⟨x, n⟩ := p
      rw [hrg] at hrd
      obtain ⟨k, rfl, k0, k1, hp, rfl⟩ := rg_can h hrg
      have hpl := pre_len hp
      by_cases c : (k : Int) > 17
      · exact ⟨([], 0, false), bnd hrd (negB rfl (posD c (now _))), fun hh => by cases hh⟩
      · obtain ⟨res, e1, e2⟩ := cread_l1 h hb hv hv2 hr (k - 1) 0 (at_ + (gam k).length) [] (by omega) (by omega) rfl
        have e0 : wr .i64 ((k : Int) - 1) = ((0 + (k - 1) : Nat) : Int) := by rw [w64 (by omega) (by omega)]; omega
        refine ⟨res, bnd hrd (negB rfl (negD c ?_)), fun hh => ?_⟩
        · simp only
          rw [e0]; exact e1.e1
        · obtain ⟨L, q, s, hA, _⟩ := e2 hh
          exact ⟨L, (at_isC hp k0 hA).1⟩
  obtain ⟨res, e1, e2⟩ := snd
  refine ⟨res, e1, ?_⟩
  cases ht : tkC l at_ v ref with
  | none =>
    simp only
    cases hb2 : res.2.2 with
    | false => rfl
    | true =>
      obtain ⟨q, hq⟩ := e2 hb2
      exact absurd hq (tkC_none ht q)
  | some p =>
    obtain ⟨q, n⟩ := p
    obtain ⟨⟨m, hp⟩, rfl⟩ := tkC_some ht
    obtain ⟨b, hb1, hb2⟩ := pre_split hat hp
    have hB : Bt (l.take at_) := fun x hx => h x (List.mem_of_mem_take hx)
    have hBb : Bt b := fun x hx => h x (by rw [hb1]; exact List.mem_append_right _ hx)
    have := CRd_ev (a := l.take at_) (b := b) hr m hv hv2 hB hBb (by rw [← hb1]; omega)
    rw [← hb1, List.length_append, hb2] at this
    exact e1.uniq this
theorem rtb_tk {l : List Int} (h : Bt l) (hb : l.length ≤ 1000000) {v : Int} (hv : 0 ≤ v) (hv2 : v ≤ 15) {ref : List Int} (hr : MayP ref) {at_ : Nat} (hat : at_ ≤ l.length) :
    E0 (fun K => herbariumref3_TakeBy K l (at_ : Int) v ref) (match tkC l at_ v ref with | some (q, n) => (q, (n : Int), true) | none => ([], 0, false)) := by
  have hrl := hr.len
  have key : ∃ res : List Int × Int × Bool, E0 (fun K => herbariumref3_TakeBy K l (at_ : Int) v ref) res ∧ (res = ([], 0, false) ∨ ∃ q, IsC l at_ v ref q ∧ res = (q, ((at_ + (copb v ref q).length : Nat) : Int), true)) ∧ ∀ q, IsC l at_ v ref q → res = (q, ((at_ + (copb v ref q).length : Nat) : Int), true) := by
    have hrd := RRead_ev h (by omega) hat
    have first : ∀ q : List Int, IsC l at_ v ref q → rg l at_ = some ((((cparts ref q).1.length + 1 : Nat) : Int), at_ + (gam ((cparts ref q).1.length + 1)).length) ∧ (cparts ref q).1.length ≤ 16 := by
      intro q hq
      have hbl := (cparts_blks (l := q) hr).len
      exact ⟨rg_pre hat (by omega) (by omega) (isC_at hq).1, hbl⟩
    cases hrg : rg l at_ with
    | none =>
      rw [hrg] at hrd
      refine ⟨([], 0, false), bnd hrd (posD (show (-1 : Int) < 1 by decide) (now _)), .inl rfl, fun q hq => ?_⟩
      rw [(first q hq).1] at hrg; cases hrg
    | some p =>
      obtain ⟨x0, n⟩ := p
      rw [hrg] at hrd
      obtain ⟨k, rfl, k0, k1, hp, rfl⟩ := rg_can h hrg
      have hpl := pre_len hp
      have e0 : wr .i64 ((k : Int) - 1) = ((k - 1 : Nat) : Int) := by rw [w64 (by omega) (by omega)]; omega
      have hkq : ∀ q : List Int, IsC l at_ v ref q → (cparts ref q).1.length + 1 = k := by
        intro q hq
        have := (first q hq).1
        rw [hrg] at this
        have := (Prod.ext_iff.1 (Option.some.inj this)).1
        simp only at this; omega
      by_cases c : ((k - 1 : Nat) : Int) > 16
      · refine ⟨([], 0, false), bnd hrd (negD (show ¬ ((k : Int) < 1) by omega) ?_), .inl rfl, fun q hq => ?_⟩
        · simp only
          rw [e0]; exact posD c (now _)
        · have h1 := hkq q hq
          have h2 := (first q hq).2
          omega
      · obtain ⟨res, e1, e2, e3⟩ := rtb_l1 h hb hv hv2 hr (r23 := ((k : Int), ((at_ + (gam k).length : Nat) : Int))) (m := k - 1) e0 (by omega) (k - 1) 0 (at_ + (gam k).length) [] (by omega) (by omega) rfl
        refine ⟨res, bnd hrd (negD (show ¬ ((k : Int) < 1) by omega) ?_), ?_, fun q hq => ?_⟩
        · simp only
          rw [e0]; exact negD c e1.e1
        · rcases e2 with e2 | ⟨L, q, s, hA, hres⟩
          · exact .inl e2
          · obtain ⟨a1, a2⟩ := at_isC hp k0 hA
            exact .inr ⟨L, a1, by rw [hres, a2]⟩
        · have h1 := hkq q hq
          obtain ⟨b1, b2, b3⟩ := isC_at hq
          rw [h1] at b2 b3
          rw [show (cparts ref q).1.length = k - 1 by omega] at b2
          rw [e3 q _ _ b2, b3]
  obtain ⟨res, e1, e2, e3⟩ := key
  refine ofEq e1 ?_
  cases ht : tkC l at_ v ref with
  | none =>
    rcases e2 with e2 | ⟨q, hq, _⟩
    · exact e2
    · exact absurd hq (tkC_none ht q)
  | some p =>
    obtain ⟨q, n⟩ := p
    obtain ⟨hq, rfl⟩ := tkC_some ht
    exact e3 q hq
theorem RBy_ev {v : Int} {ref l b : List Int} (hr : MayP ref) (h : MayP l) (hv : 0 ≤ v) (hv2 : v ≤ 15) (hlen : b.length ≤ 1099200000000) : E0 (fun K => herbariumref3_By K b v ref l) (b ++ copb v ref l) := by
  have hbk := cparts_blks (l := l) hr
  have hm := cparts_may (ref := ref) h
  have hrl := hr.len
  have hll := h.len
  generalize hp : cparts ref l = p at *
  obtain ⟨bl, s⟩ := p
  replace hbk : Blks bl := hbk
  replace hm : MayP s := hm
  have hbl := hbk.len
  have hcl : (cnum bl).length = bl.length := cnum_len bl
  have key : ∀ i, i ≤ bl.length → ∀ c : List Int, c.length + 30 * (bl.length - i) ≤ 1099300000000 → E1 (fun K k => herbariumref3_By.l1 K (bl, s) v k (i : Int) c) (c ++ gams ((cnum bl).drop i) ++ runb v s) := by
    refine upto ?_ ?_
    · intro c hc
      refine step1 (fun _ _ _ _ _ => herbariumref3_By.l1.eq_2 ..) ?_
      refine negD (by show ¬ ((bl.length : Int) < (bl.length : Int)); omega) (bnd (RRuns_ev hm hv hv2 (by omega)) (nowE ?_))
      rw [List.drop_of_length_le (by omega)]; simp [gams]
    · intro i hi ih c hc
      obtain ⟨n1, n2⟩ := cnum_rng hbk hi
      have hg := cnum_get hi
      have hgl := gam_len8 n2
      have ih2 := ih (c ++ gam ((cnum bl).getD i 0)) (by rw [List.length_append]; omega)
      have hd : c ++ gams ((cnum bl).drop i) = c ++ gam ((cnum bl).getD i 0) ++ gams ((cnum bl).drop (i + 1)) := by
        rw [drop_getD (d := 0) (by omega : i < (cnum bl).length), gams_cons, List.append_assoc]
      rw [hd]
      have a := hbk.ge _ (getD_mem (d := 0) hi)
      refine step1 (fun _ _ _ _ _ => herbariumref3_By.l1.eq_2 ..) ?_
      refine posD (by show (i : Int) < (bl.length : Int); omega) (pos ⟨by omega, by show (i : Int) < (bl.length : Int); omega⟩ ?_)
      simp only
      rw [rdN, w1 (by omega)]
      have hw := RWrite_ev (n := (cnum bl).getD i 0) (l := c) (by omega) (by omega)
      by_cases h0 : i = 0
      · refine posE (by omega) ?_
        have e : wr .i64 (bl.getD i 0 + 1) = (((cnum bl).getD i 0 : Nat) : Int) := by
          rw [hg, if_pos h0, w64 (by omega) (by omega)]; subst h0; omega
        rw [e]
        exact bnd hw ih2
      · refine negE (by omega) ?_
        have e : bl.getD i 0 = (((cnum bl).getD i 0 : Nat) : Int) := by rw [hg, if_neg h0]; omega
        rw [e]
        exact bnd hw ih2
  have hc0 : E0 (fun K => herbariumref3_Copies K ref l) (bl, s) := by rw [← hp]; exact RCopies_ev (by omega) (by omega)
  refine bnd hc0 ?_
  simp only
  rw [w1 (by omega)]
  refine bnd (RWrite_ev (by omega) (by omega)) ?_
  have hg0 := gam_len8 (show bl.length + 1 < 256 by omega)
  have := (key 0 (by omega) (b ++ gam (bl.length + 1)) (by rw [List.length_append]; omega)).e1
  refine ofEq this ?_
  rw [copb, hp, gams_cons, List.drop_zero]
  simp only [List.append_assoc]
theorem by0_l1 (K : Nat) (r : List Int × List Int) (v : Int) : ∀ (k : Nat) (i : Int) (b : List Int), herbariumref3_By_nil0.l1 K r v k i b = herbariumref3_By.l1 K r v k i b
  | 0, _, _ => rfl
  | k + 1, i, b => by
    have ih : herbariumref3_By_nil0.l1 K r v k = herbariumref3_By.l1 K r v k := by funext i b; exact by0_l1 K r v k i b
    rw [herbariumref3_By_nil0.l1.eq_2, herbariumref3_By.l1.eq_2, ih]
theorem RBy0_ev {v : Int} {ref l x : List Int} (hr : MayP ref) (h : MayP l) (hv : 0 ≤ v) (hv2 : v ≤ 15) : E0 (fun K => herbariumref3_By_nil0 K x v ref l) (copb v ref l) := by
  refine congr (fun K _ _ _ _ => (show herbariumref3_By_nil0 K x v ref l = herbariumref3_By K [] v ref l by unfold herbariumref3_By_nil0 herbariumref3_By; simp only [by0_l1])) ?_
  have := RBy_ev (b := []) hr h hv hv2 (by simp)
  rwa [List.nil_append] at this
end Go.XL
end
section
namespace Go.XL
open Go.XM
theorem baEq (a : ByteArray) : (a == a) = true := by
  show (a.data == a.data) = true
  simp
theorem bitsEq (a : api_Bits) : (!((a.Data == a.Data) && ((a.N == a.N) && true))) = false := by rw [baEq]; simp
theorem csize_any {v : Int} {ref l : List Int} (hr : ref.length ≤ 1000000) (hl : l.length ≤ 1000000) : E0 (fun K => copies_Size K v ref l) (if (0 ≤ v ∧ v ≤ 15) ∧ MayP ref ∧ MayP l then (((copb v ref l).length : Int), 0) else (0, 1)) := by
  by_cases h1 : 0 ≤ v ∧ v ≤ 15
  · by_cases h2 : MayP ref
    · by_cases h3 : MayP l
      · rw [if_pos ⟨h1, h2, h3⟩]; exact CSize_ev h2 h3 h1.1 h1.2
      · rw [if_neg (fun z => h3 z.2.2)]
        refine bnd (congr (fun K _ _ _ _ => is_eq K v) (now _)) (negM h1 ?_)
        exact bnd (gmay_ev ref (by omega)) (negM h2 (bnd (gmay_ev l (by omega)) (posM h3 (now _))))
    · rw [if_neg (fun z => h2 z.2.1)]
      refine bnd (congr (fun K _ _ _ _ => is_eq K v) (now _)) (negM h1 ?_)
      exact bnd (gmay_ev ref (by omega)) (posM h2 (now _))
  · rw [if_neg (fun z => h1 z.1)]
    exact bnd (congr (fun K _ _ _ _ => is_eq K v) (now _)) (posM h1 (now _))
theorem cput_any {b : List Int} {v : Int} {ref l : List Int} (hb : Bt b) (hbl : b.length ≤ 1000) (hr : ref.length ≤ 1000000) (hl : l.length ≤ 1000000) : E0 (fun K => copies_Put K (pack b) v ref l) (if (0 ≤ v ∧ v ≤ 15) ∧ MayP ref ∧ MayP l then (pack (b ++ copb v ref l), 0) else (zBits, 1)) := by
  have h0 : E0 (fun K => bits_May K (pack b)) true := congr (fun K _ _ _ _ => bmay hb (by omega) K) (now _)
  by_cases h1 : 0 ≤ v ∧ v ≤ 15
  · by_cases h2 : MayP ref
    · by_cases h3 : MayP l
      · rw [if_pos ⟨h1, h2, h3⟩]; exact CPut_ev h2 h3 h1.1 h1.2 hb (by omega)
      · rw [if_neg (fun z => h3 z.2.2)]
        refine bnd h0 (negB rfl (bnd (congr (fun K _ _ _ _ => is_eq K v) (now _)) (negM h1 ?_)))
        exact bnd (gmay_ev ref (by omega)) (negM h2 (bnd (gmay_ev l (by omega)) (posM h3 (now _))))
    · rw [if_neg (fun z => h2 z.2.1)]
      refine bnd h0 (negB rfl (bnd (congr (fun K _ _ _ _ => is_eq K v) (now _)) (negM h1 ?_)))
      exact bnd (gmay_ev ref (by omega)) (posM h2 (now _))
  · rw [if_neg (fun z => h1 z.1)]
    exact bnd h0 (negB rfl (bnd (congr (fun K _ _ _ _ => is_eq K v) (now _)) (posM h1 (now _))))
theorem ctake_any {b : api_Bits} {v : Int} {ref : List Int} (hs : b.Data.size ≤ 1000000) (hr : ref.length ≤ 1000000) : E0 (fun K => copies_Take K b 0 v ref) (if MayB b ∧ MayP ref ∧ (0 ≤ v ∧ v ≤ 15) then match tkC (ofb b) 0 v ref with | some (q, n) => (q, (n : Int), 0) | none => ([], 0, 9) else ([], 0, 1)) := by
  have h0 : E0 (fun K => bits_May K b) (decide (MayB b)) := congr (fun K _ _ _ _ => bMay_eq hs K) (now _)
  by_cases h1 : MayB b
  · by_cases h2 : 0 ≤ v ∧ v ≤ 15
    · by_cases h3 : MayP ref
      · rw [if_pos ⟨h1, h3, h2⟩]
        have hn : ((ofb b).length : Int) = b.N := by rw [ofb_len]; have := h1.1; omega
        have hb6 := h1.2.1
        have hb0 := h1.1
        obtain ⟨res, e1, e2⟩ := cread_tk (l := ofb b) (ofb_Bt b) (by omega) h2.1 h2.2 h3 (at_ := 0) (by omega)
        rw [pack_ofb h1] at e1
        refine bnd h0 (negM h1 (bnd (congr (fun K _ _ _ _ => is_eq K v) (now _)) (negM h2 (bnd (gmay_ev ref (by omega)) (negM h3 (negD (by omega) (negD (by omega) (bnd e1 ?_))))))))
        cases ht : tkC (ofb b) 0 v ref with
        | none =>
          rw [ht] at e2
          exact pos (by rw [e2]; rfl) (now _)
        | some p =>
          obtain ⟨q, n⟩ := p
          rw [ht] at e2
          simp only at e2
          rw [e2]
          exact negB rfl (now _)
      · rw [if_neg (fun z => h3 z.2.1)]
        exact bnd h0 (negM h1 (bnd (congr (fun K _ _ _ _ => is_eq K v) (now _)) (negM h2 (bnd (gmay_ev ref (by omega)) (posM h3 (now _))))))
    · rw [if_neg (fun z => h2 z.2.2)]
      exact bnd h0 (negM h1 (bnd (congr (fun K _ _ _ _ => is_eq K v) (now _)) (posM h2 (now _))))
  · rw [if_neg (fun z => h1 z.1)]
    exact bnd h0 (posM h1 (now _))
section
variable {ts : List api_Bits} {r35 : List (List Int)} {V : List Int}
theorem cx_j10 {go6 : Nat → Nat → Int → Option Bool} {go8 : Nat → Nat → Nat → Int → Option Bool} {go9 : Nat → Nat → Nat → Nat → Int → Option Bool} {may : Bool} {t24 t26 t27 : Int} {l : List Int} {q : List Int} {n e : Int} (hq : q.length ≤ 1000000)
    (hgo : E3 (fun K a b c => go9 K a b c (wr .i64 (t27 + 1))) true) : E3 (fun K a b c => herbariumlaw5_CopiesExact.j10 K (go6 K a) (go8 K a b) (go9 K a b c) ts may (q, n, e) r35 V t24 l t26 t27 e n q) true := by
  refine bnd (now e) (negN rfl (negN rfl (bnd (eqn_ev q q hq) (negM rfl ?_))))
  exact bnd (nums_ev q hq) hgo
theorem cx_l9 {go6 : Nat → Nat → Int → Option Bool} {go8 : Nat → Nat → Nat → Int → Option Bool} {i r : Nat} (hi : i < ts.length) (hr : r < r35.length) (hs : (ts.getD i zB).Data.size ≤ 1000000) {may : Bool} (hmay : may = decide (MayB (ts.getD i zB))) {l : List Int} (hl : MayB (ts.getD i zB) → l = ofb (ts.getD i zB)) (hi2 : ts.length ≤ 1000) (hr2 : r35.length ≤ 1000) (hk2 : V.length ≤ 1000) (hrl : (r35.getD r []).length ≤ 900)
    (hgo : E2 (fun K a b => go8 K a b ((r + 2 : Nat) : Int)) true) : ∀ k, k ≤ V.length → E3 (fun K a b c => herbariumlaw5_CopiesExact.l9 K (go6 K a) (go8 K a b) ts may r35 V (i : Int) l (r : Int) c (k : Int)) true := by
  refine upto ?_ ?_
  · refine step3 (fun _ _ _ _ _ => herbariumlaw5_CopiesExact.l9.eq_2 ..) ?_
    refine negD (by omega) ?_
    rw [show wr .i64 ((r : Int) + 2) = ((r + 2 : Nat) : Int) by rw [w64 (by omega) (by omega)]; omega]
    exact hgo
  · intro k hk ih
    rw [← w1 (by omega : k < 4611686018427387904)] at ih
    refine step3 (fun _ _ _ _ _ => herbariumlaw5_CopiesExact.l9.eq_2 ..) ?_
    refine posD (by omega) (pos (by omega) (pos (by omega) (pos (by omega) ?_)))
    rw [rdBits, rdN, rd1N]
    generalize hb : ts.getD i zB = b at *
    generalize hv : V.getD k 0 = v at *
    generalize hrr : r35.getD r [] = ref at *
    refine bnd (ctake_any hs (by omega)) ?_
    subst hmay
    by_cases h1 : MayB b
    · have hl := hl h1
      subst hl
      have hln : ((ofb b).length : Int) = b.N := by rw [ofb_len]; have := h1.1; omega
      have hb6 := h1.2.1
      refine posD h1 (pos (by omega) (bnd (may3_ev ref (by omega)) ?_))
      by_cases h4 : MayP ref
      · refine posD h4 (pos (by omega) (bnd (congr (fun K _ _ _ _ => origin_eq K v) (now _)) ?_))
        by_cases h5 : 0 ≤ v ∧ v ≤ 15
        · rw [if_pos ⟨h1, h4, h5⟩]
          have ht2 := rtb_tk (l := ofb b) (ofb_Bt b) (by omega) h5.1 h5.2 h4 (at_ := 0) (by omega)
          refine posD h5 (pos (by omega) (pos (by omega) ?_))
          rw [rdN, rd1N, hv, hrr]
          refine bnd ht2 ?_
          cases ht : tkC (ofb b) 0 v ref with
          | none => exact negB rfl (cx_j10 (go6 := go6) (go8 := go8) (go9 := fun K a b' c => herbariumlaw5_CopiesExact.l9 K (go6 K a) (go8 K a b') ts _ r35 V (i : Int) _ (r : Int) c) (by simp) ih)
          | some p =>
            obtain ⟨q, n⟩ := p
            have := (tkC_some ht).1.1.len
            exact pos rfl (cx_j10 (go6 := go6) (go8 := go8) (go9 := fun K a b' c => herbariumlaw5_CopiesExact.l9 K (go6 K a) (go8 K a b') ts _ r35 V (i : Int) _ (r : Int) c) (by omega) ih)
        · rw [if_neg (fun z => h5 z.2.2)]
          exact negD h5 (cx_j10 (go6 := go6) (go8 := go8) (go9 := fun K a b' c => herbariumlaw5_CopiesExact.l9 K (go6 K a) (go8 K a b') ts _ r35 V (i : Int) _ (r : Int) c) (by simp) ih)
      · rw [if_neg (fun z => h4 z.2.1)]
        exact negD h4 (neg (by decide) (cx_j10 (go6 := go6) (go8 := go8) (go9 := fun K a b' c => herbariumlaw5_CopiesExact.l9 K (go6 K a) (go8 K a b') ts _ r35 V (i : Int) _ (r : Int) c) (by simp) ih))
    · rw [if_neg (fun z => h1 z.1)]
      exact negD h1 (neg (by decide) (cx_j10 (go6 := go6) (go8 := go8) (go9 := fun K a b' c => herbariumlaw5_CopiesExact.l9 K (go6 K a) (go8 K a b') ts _ r35 V (i : Int) _ (r : Int) c) (by simp) ih))
theorem cx_l8 {go6 : Nat → Nat → Int → Option Bool} {i : Nat} (hi : i < ts.length) (hs : (ts.getD i zB).Data.size ≤ 1000000) {may : Bool} (hmay : may = decide (MayB (ts.getD i zB))) {l : List Int} (hl : MayB (ts.getD i zB) → l = ofb (ts.getD i zB)) (hi2 : ts.length ≤ 1000) (hr2 : r35.length ≤ 9) (hk2 : V.length ≤ 1000) (hrl : ∀ y ∈ r35, y.length ≤ 900)
    (hgo : E1 (fun K a => go6 K a ((i + 1 : Nat) : Int)) true) : ∀ (d r : Nat), 10 ≤ r + d → r ≤ 20 → E2 (fun K a b => herbariumlaw5_CopiesExact.l8 K (go6 K a) ts may r35 V (i : Int) l b (r : Int)) true
  | 0, r, h1, h2 => by
    refine step2 (fun _ _ _ _ _ => herbariumlaw5_CopiesExact.l8.eq_2 ..) ?_
    refine negD (by omega) ?_
    rw [w1 (by omega)]; exact hgo
  | d + 1, r, h1, h2 => by
    refine step2 (fun _ _ _ _ _ => herbariumlaw5_CopiesExact.l8.eq_2 ..) ?_
    by_cases hr : r < r35.length
    · refine posD (by omega) ?_
      exact (cx_l9 (go6 := go6) (go8 := fun K a b => herbariumlaw5_CopiesExact.l8 K (go6 K a) ts may r35 V (i : Int) l b) hi hr hs hmay hl hi2 (by omega) hk2 (hrl _ (getD_mem hr)) (cx_l8 hi hs hmay hl hi2 hr2 hk2 hrl hgo d (r + 2) (by omega) (by omega)) 0 (by omega)).e3
    · refine negD (by omega) ?_
      rw [w1 (by omega)]; exact hgo
theorem cx_l6 (hs : ∀ t ∈ ts, t.Data.size ≤ 1000000) (hi2 : ts.length ≤ 1000) (hr2 : r35.length ≤ 9) (hk2 : V.length ≤ 1000) (hrl : ∀ y ∈ r35, y.length ≤ 900) : ∀ i, i ≤ ts.length → E1 (fun K a => herbariumlaw5_CopiesExact.l6 K ts r35 V a (i : Int)) true := by
  refine upto ?_ ?_
  · refine step1 (fun _ _ _ _ _ => herbariumlaw5_CopiesExact.l6.eq_2 ..) ?_
    exact negD (by omega) (bnd wakes5_ev (now true))
  · intro i hi ih
    have hb := hs _ (getD_mem (d := zB) hi)
    refine step1 (fun _ _ _ _ _ => herbariumlaw5_CopiesExact.l6.eq_2 ..) ?_
    refine posD (by omega) (pos (by omega) ?_)
    rw [rdBits]
    refine bnd (rBits_ev hb) ?_
    by_cases h : MayB (ts.getD i zB)
    · refine posD h (pos (by omega) (bnd (rOf_ev h) ?_))
      exact (cx_l8 (go6 := fun K a => herbariumlaw5_CopiesExact.l6 K ts r35 V a) hi hb rfl (fun _ => rfl) hi2 hr2 hk2 hrl ih 10 0 (by omega) (by omega)).e2
    · refine negD h ?_
      exact (cx_l8 (go6 := fun K a => herbariumlaw5_CopiesExact.l6 K ts r35 V a) hi hb rfl (fun z => absurd z h) hi2 hr2 hk2 hrl ih 10 0 (by omega) (by omega)).e2
end
section
variable {x : herbariumlaw3_Ask} {r35 : List (List Int)} {V : List Int}
theorem cx_l3 {go1 : Nat → Nat → Int → List Int → List (List Int) → Option Bool} {go2 : Nat → Nat → Nat → Int → List (List Int) → Option Bool} {i r : Nat} (hi : i < r35.length) (hr : r < r35.length) (hi2 : r35.length ≤ 1000) (hk2 : V.length ≤ 1000) (hy : (r35.getD i []).length ≤ 900) (hz : (r35.getD r []).length ≤ 900)
    (hgo : ∀ made, GoodL made 900 → made.length ≤ 20 → E2 (fun K a b => go2 K a b ((r + 2 : Nat) : Int) made) true) : ∀ k, k ≤ V.length → ∀ made, GoodL made 900 → made.length ≤ 20 → E3 (fun K a b c => herbariumlaw5_CopiesExact.l3 K (go1 K a) (go2 K a b) r35 V (i : Int) (r : Int) x c (k : Int) made) true := by
  refine upto ?_ ?_
  · intro made hm hl
    refine step3 (fun _ _ _ _ _ => herbariumlaw5_CopiesExact.l3.eq_2 ..) ?_
    refine negD (by omega) ?_
    rw [show wr .i64 ((r : Int) + 2) = ((r + 2 : Nat) : Int) by rw [w64 (by omega) (by omega)]; omega]
    exact hgo made hm hl
  · intro k hk ih made hm hl
    have hp1 : (((⟨#[128]⟩ : ByteArray), 2) : api_Bits) = pack [1, 0] := by
      show (((⟨#[128]⟩ : ByteArray), 2) : api_Bits) = (bytesOf (byts [1, 0]), 2)
      congr 1
    refine step3 (fun _ _ _ _ _ => herbariumlaw5_CopiesExact.l3.eq_2 ..) ?_
    refine posD (by omega) (pos (by omega) (pos (by omega) (pos (by omega) ?_)))
    rw [rdN, rd1N, rd1N, hp1]
    generalize hv : V.getD k 0 = v at *
    generalize hyy : r35.getD i [] = y at *
    generalize hzz : r35.getD r [] = z at *
    have B10 : Bt [1, 0] := by intro t ht; simp at ht; omega
    refine bnd (csize_any (by omega) (by omega)) (pos (by omega) (pos (by omega) (pos (by omega) (bnd (cput_any B10 (by decide) (by omega) (by omega)) (pos (by omega) (bnd (may3_ev y (by omega)) ?_))))))
    have j4 : ∀ (e n : Int) (p : api_Bits) (made' : List (List Int)), GoodL made' 900 → made'.length ≤ 20 → Ev (fun K a b c _ => herbariumlaw5_CopiesExact.j4 K (go1 K a) (go2 K a b) (herbariumlaw5_CopiesExact.l3 K (go1 K a) (go2 K a b) r35 V (i : Int) (r : Int) x c) r35 (n, e) (p, e) V (i : Int) (r : Int) (k : Int) x e n made' p.Data p.N) true := by
      intro e n p made' h1 h2
      refine bnd (now e) (negN rfl (negN rfl (bnd (now e) (negN rfl (neg (by rw [bitsEq]; decide) ?_)))))
      rw [w1 (by omega)]
      exact ih made' h1 h2
    by_cases h1 : MayP y
    · refine posD h1 (pos (by omega) (bnd (may3_ev z (by omega)) ?_))
      by_cases h2 : MayP z
      · refine posD h2 (pos (by omega) (bnd (congr (fun K _ _ _ _ => origin_eq K v) (now _)) ?_))
        by_cases h3 : 0 ≤ v ∧ v ≤ 15
        · rw [if_pos ⟨h3, h2, h1⟩, if_pos ⟨h3, h2, h1⟩]
          have hcl := copb_len h2 h1 h3.1 h3.2
          have hcb := copb_Bt v z y
          refine posD h3 (pos (by omega) (pos (by omega) (pos (by omega) ?_)))
          rw [rdN, rd1N, rd1N, hv, hyy, hzz]
          refine bnd (RBy0_ev h2 h1 h3.1 h3.2) (pos (by simp; omega) (bnd (rPack_ev (B10.app hcb) (by simp; omega)) ?_))
          by_cases c20 : made.length < 20
          · refine posD (by omega) (pos (by simp; omega) (j4 0 _ (pack ([1, 0] ++ copb v z y)) _ ?_ (by simp; omega)))
            intro m hm'
            rcases List.mem_append.1 hm' with hm' | hm'
            · exact hm m hm'
            · obtain rfl := List.mem_singleton.1 hm'
              exact ⟨hcb, hcl⟩
          · exact negD (by omega) (j4 0 _ (pack ([1, 0] ++ copb v z y)) _ hm hl)
        · rw [if_neg (fun q => h3 q.1), if_neg (fun q => h3 q.1)]
          exact negD h3 (j4 1 0 zBits _ hm hl)
      · rw [if_neg (fun q => h2 q.2.1), if_neg (fun q => h2 q.2.1)]
        exact negD h2 (neg (by decide) (j4 1 0 zBits _ hm hl))
    · rw [if_neg (fun q => h1 q.2.2), if_neg (fun q => h1 q.2.2)]
      exact negD h1 (neg (by decide) (j4 1 0 zBits _ hm hl))
theorem cx_l2 {go1 : Nat → Nat → Int → List Int → List (List Int) → Option Bool} {i : Nat} (hi : i < r35.length) (hi2 : r35.length ≤ 9) (hk2 : V.length ≤ 1000) (hrl : ∀ y ∈ r35, y.length ≤ 900)
    (hgo : ∀ made, GoodL made 900 → made.length ≤ 20 → E1 (fun K a => go1 K a ((i + 1 : Nat) : Int) V made) true) : ∀ (d r : Nat), 10 ≤ r + d → r ≤ 20 → ∀ made, GoodL made 900 → made.length ≤ 20 → E2 (fun K a b => herbariumlaw5_CopiesExact.l2 K (go1 K a) r35 V (i : Int) x b (r : Int) made) true
  | 0, r, h1, h2, made, hm, hl => by
    refine step2 (fun _ _ _ _ _ => herbariumlaw5_CopiesExact.l2.eq_2 ..) ?_
    refine negD (by omega) ?_
    rw [w1 (by omega)]; exact hgo made hm hl
  | d + 1, r, h1, h2, made, hm, hl => by
    refine step2 (fun _ _ _ _ _ => herbariumlaw5_CopiesExact.l2.eq_2 ..) ?_
    by_cases hr : r < r35.length
    · refine posD (by omega) ?_
      exact (cx_l3 (go1 := go1) (go2 := fun K a b => herbariumlaw5_CopiesExact.l2 K (go1 K a) r35 V (i : Int) x b) hi hr (by omega) hk2 (hrl _ (getD_mem hi)) (hrl _ (getD_mem hr)) (fun made' a b => cx_l2 hi hi2 hk2 hrl hgo d (r + 2) (by omega) (by omega) made' a b) 0 (by omega) made hm hl).e3
    · refine negD (by omega) ?_
      rw [w1 (by omega)]; exact hgo made hm hl
theorem cx_l1 (hr : ∀ y ∈ r35, y.length ≤ 900) (hi2 : r35.length ≤ 9) (hk2 : V.length ≤ 1000) (hB : ∀ b ∈ x.B, b.1.size ≤ 3603) (hB2 : x.B.length ≤ 900) (hN : x.N.length ≤ 900) : ∀ i, i ≤ r35.length → ∀ made, GoodL made 900 → made.length ≤ 20 → E1 (fun K a => herbariumlaw5_CopiesExact.l1 K r35 x a (i : Int) V made) true := by
  refine upto ?_ ?_
  · intro made hm hl
    obtain ⟨ts, t1, t2, t3⟩ := texts_ev (x := x) (c := 900) (by omega) hm hB2 hN
    refine step1 (fun _ _ _ _ _ => herbariumlaw5_CopiesExact.l1.eq_2 ..) ?_
    refine negD (by omega) (bnd t1 ?_)
    exact (cx_l6 (goodT_sm (by omega) t3 hB) (by omega) hi2 hk2 hr 0 (by omega)).e1
  · intro i hi ih made hm hl
    refine step1 (fun _ _ _ _ _ => herbariumlaw5_CopiesExact.l1.eq_2 ..) ?_
    refine posD (by omega) ?_
    exact (cx_l2 (go1 := fun K a => herbariumlaw5_CopiesExact.l1 K r35 x a) hi hi2 hk2 hr (fun made' h1 h2 => ih made' h1 h2) 10 0 (by omega) (by omega) made hm hl).e2
end
theorem copiesExact_pure (x : herbariumlaw3_Ask) (hl : x.L.length ≤ 17592186044416) (hx : ∀ y ∈ x.L, y.length ≤ 17592186044416) (hb : x.B.length ≤ 17592186044416) (hb2 : ∀ b ∈ x.B, b.1.size ≤ 140737488351232) (hn : x.N.length ≤ 17592186044416) : ∃ K, herbariumlaw5_CopiesExact K x = some true := by
  obtain ⟨b, e, h⟩ := heavy3_ev x hl hx hb hb2 hn
  refine Ev.get (g := fun K => herbariumlaw5_CopiesExact K x) (r := true) (bnd e ?_)
  cases b with
  | true => exact pos rfl (now true)
  | false =>
    obtain ⟨h1, h2, h3, h4, h5⟩ := h rfl
    refine negB rfl (bnd (lists3_ev x h1) ?_)
    exact (cx_l1 (ls3_mem h2) (ls3_len x) (by decide) h4 h3 h5 0 (by omega) [] (fun m hm => by cases hm) (by simp)).e1
end Go.XL
end
