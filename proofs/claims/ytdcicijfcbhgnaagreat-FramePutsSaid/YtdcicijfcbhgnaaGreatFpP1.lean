import Derived.Test.YtdcicijfcbhgnaaGreatFpP0
set_option linter.all false
section
namespace Go.XL
open Go.XM
theorem rone_l1 {l : List Int} (h : Bt l) (hb : l.length ≤ 1000000) {r15 : Int × Int} {n u : Nat} (hr : wr .i64 (r15.1 - 1) = (n : Int)) (hu : u < n) (hn : n ≤ 16) : ∀ (d i at_ e : Nat), i + d = u → at_ ≤ l.length → e ≤ 120 →
    E1 (fun K k => herbariumref6_One.l1 K r15 l (u : Int) k (at_ : Int) (e : Int) (i : Int)) (match tkL l (d + 1) i at_ with | none => ([], 9) | some (qs, _) => if (∀ q ∈ qs, 0 < q.length → q.getD (q.length - 1) 0 < (n : Int)) ∧ e + lsum qs ≤ 120 then (qs.getD d [], 0) else ([], 9)) := by
  intro d
  induction d with
  | zero =>
    intro i at_ e hi hat he
    have r1 := rtr_tk h hb (v := (i : Int)) (by omega) (by omega) hat
    refine step1 (fun _ _ _ _ _ => herbariumref6_One.l1.eq_2 ..) ?_
    refine bnd r1 ?_
    simp only [tkL]
    cases ht : tkR l at_ (i : Int) with
    | none => exact pos rfl (now _)
    | some p =>
      obtain ⟨q, m⟩ := p
      obtain ⟨h1, h2⟩ := tkR_le hat ht
      have hql := h1.len
      refine negB rfl ?_
      simp only [hr]
      have ea : wr .i64 ((e : Int) + ((q.length : Nat) : Int)) = ((e + q.length : Nat) : Int) := by rw [w64 (by omega) (by omega)]; omega
      rw [ea]
      have hls : lsum [q] = q.length := by simp [lsum]
      have tail_ : (0 < q.length → q.getD (q.length - 1) 0 < (n : Int)) → Ev (fun K k _ _ _ => if decide (((e + q.length : Nat) : Int) > 120) then some (([] : List Int), 9) else if ((i : Int) == (u : Int)) then some (q, 0) else herbariumref6_One.l1 K r15 l (u : Int) k (m : Int) ((e + q.length : Nat) : Int) (wr .i64 ((i : Int) + 1))) (if (∀ x ∈ [q], 0 < x.length → x.getD (x.length - 1) 0 < (n : Int)) ∧ e + lsum [q] ≤ 120 then ([q].getD 0 [], 0) else ([], 9)) := by
        intro hq
        by_cases c : e + q.length ≤ 120
        · rw [if_pos ⟨fun x hx => by rw [List.mem_singleton.1 hx]; exact hq, by rw [hls]; exact c⟩]
          exact negD (by omega) (posE (by omega) (now _))
        · rw [if_neg (fun z => c (by have := z.2; rwa [hls] at this))]
          exact posD (by omega) (now _)
      by_cases h0 : 0 < q.length
      · have e1 : wr .i64 (((q.length : Nat) : Int) - 1) = ((q.length - 1 : Nat) : Int) := by rw [w64 (by omega) (by omega)]; omega
        refine posD (by omega) ?_
        rw [e1, rdN]
        refine pos (by omega) ?_
        by_cases hlt : q.getD (q.length - 1) 0 ≥ (n : Int)
        · rw [if_neg (fun z => by have := z.1 q (by simp) h0; omega)]
          exact posD hlt (now _)
        · exact negD hlt (tail_ (fun _ => by omega))
      · exact negD (by omega) (tail_ (fun z => absurd z h0))
  | succ d ih =>
    intro i at_ e hi hat he
    have r1 := rtr_tk h hb (v := (i : Int)) (by omega) (by omega) hat
    refine step1 (fun _ _ _ _ _ => herbariumref6_One.l1.eq_2 ..) ?_
    refine bnd r1 ?_
    cases ht : tkR l at_ (i : Int) with
    | none => rw [tkL_none ht]; exact pos rfl (now _)
    | some p =>
      obtain ⟨q, m⟩ := p
      obtain ⟨h1, h2⟩ := tkR_le hat ht
      have hql := h1.len
      refine negB rfl ?_
      simp only [hr]
      have ea : wr .i64 ((e : Int) + ((q.length : Nat) : Int)) = ((e + q.length : Nat) : Int) := by rw [w64 (by omega) (by omega)]; omega
      rw [ea, w1 (by omega)]
      have tail_ : (0 < q.length → q.getD (q.length - 1) 0 < (n : Int)) → Ev (fun K k _ _ _ => if decide (((e + q.length : Nat) : Int) > 120) then some (([] : List Int), 9) else if ((i : Int) == (u : Int)) then some (q, 0) else herbariumref6_One.l1 K r15 l (u : Int) k (m : Int) ((e + q.length : Nat) : Int) ((i + 1 : Nat) : Int)) (match tkL l (d + 1 + 1) i at_ with | none => ([], 9) | some (qs, _) => if (∀ x ∈ qs, 0 < x.length → x.getD (x.length - 1) 0 < (n : Int)) ∧ e + lsum qs ≤ 120 then (qs.getD (d + 1) [], 0) else ([], 9)) := by
        intro hq
        by_cases c : e + q.length ≤ 120
        · refine negD (by clear ih ea hq; omega) (negE (by clear ih ea hq; omega) (ofEq (ih (i + 1) m (e + q.length) (by clear ih ea hq; omega) h2 c) ?_))
          cases hT : tkL l (d + 1) (i + 1) m with
          | none => rw [tkL_bad ht hT]
          | some p =>
            obtain ⟨qs, m'⟩ := p
            rw [tkL_ok ht hT]
            simp only
            by_cases k1 : (∀ x ∈ qs, 0 < x.length → x.getD (x.length - 1) 0 < (n : Int)) ∧ e + q.length + lsum qs ≤ 120
            · rw [if_pos k1, if_pos ⟨fun x hx => (List.mem_cons.1 hx).elim (fun z => z ▸ hq) (k1.1 x), by rw [lsum_cons]; clear ih ea hq; omega⟩]; rfl
            · rw [if_neg k1, if_neg (fun z => k1 ⟨fun x hx => z.1 x (List.mem_cons_of_mem _ hx), by have := z.2; rw [lsum_cons] at this; clear ih ea hq; omega⟩)]
        · refine posD (by clear ih ea hq; omega) (nowE ?_)
          cases hT : tkL l (d + 1) (i + 1) m with
          | none => rw [tkL_bad ht hT]
          | some p =>
            obtain ⟨qs, m'⟩ := p
            rw [tkL_ok ht hT]
            simp only
            rw [if_neg (fun z => c (by have := z.2; rw [lsum_cons] at this; clear ih ea hq; omega))]
      by_cases h0 : 0 < q.length
      · have e1 : wr .i64 (((q.length : Nat) : Int) - 1) = ((q.length - 1 : Nat) : Int) := by rw [w64 (by omega) (by omega)]; omega
        refine posD (by omega) ?_
        rw [e1, rdN]
        refine pos (by omega) ?_
        by_cases hlt : q.getD (q.length - 1) 0 ≥ (n : Int)
        · refine posD hlt (nowE ?_)
          cases hT : tkL l (d + 1) (i + 1) m with
          | none => rw [tkL_bad ht hT]
          | some p =>
            obtain ⟨qs, m'⟩ := p
            rw [tkL_ok ht hT]
            simp only
            rw [if_neg (fun z => by have := z.1 q List.mem_cons_self h0; omega)]
        · exact negD hlt (tail_ (fun _ => by omega))
      · exact negD (by omega) (tail_ (fun z => absurd z h0))
theorem rone_any {l : List Int} (h : Bt l) (hb : l.length ≤ 1000000) (v : Int) : E0 (fun K => herbariumref6_One K l v) (oneS l v) := by
  refine rhead h hb (fun e => by unfold oneS; rw [e]) (fun n at_ e => ?_)
  obtain ⟨hn, hat⟩ := hdF_le h e
  simp only
  unfold oneS
  rw [e]
  simp only
  rw [show wr .i64 (((n + 1 : Nat) : Int) - 2) = (n : Int) - 1 by rw [w64 (by omega) (by omega)]; omega]
  refine bnd (congr (fun K _ _ _ _ => num_eq K v ((n : Int) - 1)) (now _)) ?_
  by_cases c : 0 ≤ v ∧ v < (n : Int)
  · rw [if_pos c]
    obtain ⟨u, rfl⟩ := Int.eq_ofNat_of_zero_le c.1
    refine negM (show 0 ≤ (u : Int) ∧ (u : Int) ≤ (n : Int) - 1 by omega) ?_
    have := (rone_l1 h hb (r15 := (((n + 1 : Nat) : Int), (at_ : Int))) (n := n) (u := u) (by simp only; rw [w64 (by omega) (by omega)]; omega) (by omega) hn u 0 at_ 0 (by omega) hat (by omega)).e1
    refine ofEq this ?_
    rw [Int.toNat_natCast]
    cases tkL l (u + 1) 0 at_ with
    | none => rfl
    | some p =>
      obtain ⟨qs, m⟩ := p
      simp only [Nat.zero_add]
  · rw [if_neg c]
    exact posM (show ¬ (0 ≤ v ∧ v ≤ (n : Int) - 1) by omega) (now _)
end Go.XL
end
section
namespace Go.XL
open Go.XM
theorem baEq' (a : ByteArray) : (a == a) = true := by
  show (a.data == a.data) = true
  simp
theorem bitsEq' (a : api_Bits) : (!((a.Data == a.Data) && ((a.N == a.N) && true))) = false := by rw [baEq']; simp
theorem copyL_ev (xs : List (List Int)) (hl : xs.length ≤ 1000000) (hx : ∀ y ∈ xs, y.length ≤ 1000000) : E0 (fun K => herbariumref0_CopyNumberLists K xs) xs := by
  have key : ∀ i, i ≤ xs.length → E1 (fun K k => herbariumref0_CopyNumberLists.l1 K xs k (i : Int) (xs.take i)) xs := by
    refine upto ?_ ?_
    · refine step1 (fun _ _ _ _ _ => herbariumref0_CopyNumberLists.l1.eq_2 ..) ?_
      exact negD (by omega) (nowE List.take_length)
    · intro i hi ih
      have hy := hx _ (getD_mem (d := []) hi)
      refine step1 (fun _ _ _ _ _ => herbariumref0_CopyNumberLists.l1.eq_2 ..) ?_
      refine posD (by omega) (pos (by omega) ?_)
      rw [rd1N]
      refine bnd (copy_ev _ hy) (pos (by simp; omega) ?_)
      rw [w1 (by omega), ← take_getD (d := []) hi]
      exact ih
  exact (key 0 (by omega)).e1
theorem copyG_ev (g : api_Graph) (hs : GSm g) : E0 (fun K => herbariumref0_CopyGraph K g) g := by
  unfold GSm at hs
  exact bnd (copyL_ev g.Out (by omega) (fun y hy => by have := lsum_mem hy; omega)) (now _)
theorem lawG_ev (g : api_Graph) (hs : GSm g) : E0 (fun K => herbariumlaw0_Graph K g) () := by
  unfold GSm at hs
  have key : ∀ i, i ≤ g.Out.length → ∀ ls : List (List Int), ls.length = g.Out.length → (∀ y ∈ ls, y.length ≤ 1000000) → E1 (fun K k => herbariumlaw0_Graph.l1 K k (i : Int) ls) () := by
    refine upto ?_ ?_
    · intro ls h1 h2
      refine step1 (fun _ _ _ _ _ => herbariumlaw0_Graph.l1.eq_2 ..) ?_
      exact negD (by omega) (now _)
    · intro i hi ih ls h1 h2
      refine step1 (fun _ _ _ _ _ => herbariumlaw0_Graph.l1.eq_2 ..) ?_
      refine posD (by omega) (pos (by omega) ?_)
      rw [rd1N]
      refine bnd (nums_ev _ (h2 _ (getD_mem (by omega)))) (pos (by omega) (pos rfl ?_))
      rw [w1 (by omega)]
      refine ih _ (by simp [h1]) (fun y hy => ?_)
      rcases List.mem_or_eq_of_mem_set hy with hy | rfl
      · exact h2 y hy
      · simp
  exact (key 0 (by omega) g.Out rfl (fun y hy => by have := lsum_mem hy; omega)).e1
def posns (g : api_Graph) (i : Nat) : List Int := (List.range i).map fun j => (posn g j : Int)
theorem posns_succ (g : api_Graph) (i : Nat) : posns g (i + 1) = posns g i ++ [(posn g i : Int)] := by simp [posns, List.range_succ]
theorem posns_len (g : api_Graph) (i : Nat) : (posns g i).length = i := by simp [posns]
theorem flay2_ev {g : api_Graph} (h : GP g) : E0 (fun K => frame_lay K g) (row (frb g), posns g g.Out.length) := by
  have hle := h.le
  have hpre : ∀ i, i ≤ g.Out.length → posn g i ≤ 3000 := by
    intro i hi
    have h1 := fr_len 0 (g.Out.take i) (fun l hl => h.may l (List.mem_of_mem_take hl)) (by simp; omega)
    have h2 := lsum_take_le g.Out i
    have h3 := h.sum
    have h4 := gam_len8 (show g.Out.length + 1 < 256 by omega)
    rw [List.length_take] at h1
    show (gam (g.Out.length + 1) ++ fr 0 (g.Out.take i)).length ≤ 3000
    rw [List.length_append]; omega
  have key : ∀ i, i ≤ g.Out.length → E1 (fun K k => frame_lay.l1 K g k (g.Out.length : Int) (i : Int) (posn g i : Int) (byts (gam (g.Out.length + 1) ++ fr 0 (g.Out.take i))) (posns g i)) (row (frb g), posns g g.Out.length) := by
    refine upto ?_ ?_
    · refine step1 (fun _ _ _ _ _ => frame_lay.l1.eq_2 ..) ?_
      refine negD (by omega) (nowE ?_)
      unfold posn
      rw [List.take_length]; rfl
    · intro i hi ih
      refine step1 (fun _ _ _ _ _ => frame_lay.l1.eq_2 ..) ?_
      have hm := h.may _ (getD_mem (d := []) hi)
      have hp := hpre i (by omega)
      have hlay := RLay_ev (v := (i : Int)) (b := gam (g.Out.length + 1) ++ fr 0 (g.Out.take i)) hm (by omega) (by omega) ((gam_Bt _).app (fr_Bt _ _)) (by show posn g i ≤ _; omega)
      rw [List.append_assoc, ← fr_take hi] at hlay
      refine posD (by omega) (pos (by omega) (bnd (now ((posn g i : Int), row (gam (g.Out.length + 1) ++ fr 0 (g.Out.take i)))) (pos (by simp [posns_len]; omega) ?_)))
      rw [rd1N, w1 (by omega)]
      refine bnd hlay ?_
      rw [posns_succ] at ih
      exact ih
  have hlay := Lay_ev (n := g.Out.length + 1) (l := []) Bt.nil (by omega) (by omega) (by simp)
  rw [List.nil_append] at hlay
  have e0 : wr .i64 (g.N + 1) = ((g.Out.length + 1 : Nat) : Int) := by rw [h.n, w1 (by omega)]
  have he := (key 0 (by omega)).e1
  have hz : gam (g.Out.length + 1) ++ fr 0 (g.Out.take 0) = gam (g.Out.length + 1) := by simp [fr]
  unfold posn at he
  rw [hz] at he
  refine congr (f := fun K _ _ _ _ => (code_Lay K (row []) 2 ((g.Out.length + 1 : Nat) : Int)).bind fun r14 => frame_lay.l1 K g K ((g.Out.length : Nat) : Int) (0 : Int) r14.n r14.data ([] : List Int)) (fun K _ _ _ _ => by unfold frame_lay; rw [e0]; rfl) ?_
  exact bnd hlay he
theorem FPlaces_any {g : api_Graph} (hs : GSm g) : E0 (fun K => frame_Places K g) (if GraphP g then (posns g g.Out.length, 0) else ([], 1)) := by
  refine bnd (gmayG_ev g hs) ?_
  by_cases hg : GraphP g
  · rw [if_pos hg]
    exact negM hg (bnd (flay2_ev hg.gp) (now _))
  · rw [if_neg hg]
    exact posM hg (now _)
theorem FSize_any {g : api_Graph} (hs : GSm g) : E0 (fun K => frame_Size K g) (if GraphP g then (((frb g).length : Int), 0) else (0, 1)) := by
  have := FPut_ev hs
  by_cases hg : GraphP g
  · rw [if_pos hg] at this ⊢
    exact bnd this (now _)
  · rw [if_neg hg] at this ⊢
    exact bnd this (now _)
theorem RWrite0_ev {n : Nat} {x : List Int} (hn : n < 4611686018427387904) : E0 (fun K => _herbariumref1_List__Write_nil0 K x 2 (n : Int)) (gam n) := by
  have hl := lg62 hn
  refine congr (f := fun K _ _ _ _ => (herbariumref1_log K (n : Int)).bind fun r31 => (_herbariumref1_List__Put K [] 0 r31).bind fun r32 => (herbariumref1_log K (n : Int)).bind fun r35 => (_herbariumref1_List__Put K r32 (n : Int) (wr .i64 (r35 + 1))).bind fun r37 => some r37) (fun _ _ _ _ _ => rfl) ?_
  refine bnd (Rlog_ev hn) ?_
  refine bnd (a := ([] : List Int) ++ nb 0 (Nat.log2 n)) (RPut_ev (v := 0) (by omega) (by simp; omega)) ?_
  refine bnd (Rlog_ev hn) ?_
  rw [w1 (by omega)]
  refine bnd (a := gam n) ?_ (now _)
  refine ofEq (RPut_ev (v := n) (w := Nat.log2 n + 1) (by omega) (by simp [nb_len]; omega)) ?_
  simp [gam]
theorem RFrame_ev {g : api_Graph} (h : GP g) : E0 (fun K => herbariumref6_Frame K g) (frb g, posns g g.Out.length) := by
  have hle := h.le
  have hpre : ∀ i, i ≤ g.Out.length → posn g i ≤ 3000 := by
    intro i hi
    have h1 := fr_len 0 (g.Out.take i) (fun l hl => h.may l (List.mem_of_mem_take hl)) (by simp; omega)
    have h2 := lsum_take_le g.Out i
    have h3 := h.sum
    have h4 := gam_len8 (show g.Out.length + 1 < 256 by omega)
    rw [List.length_take] at h1
    show (gam (g.Out.length + 1) ++ fr 0 (g.Out.take i)).length ≤ 3000
    rw [List.length_append]; omega
  have key : ∀ i, i ≤ g.Out.length → E1 (fun K k => herbariumref6_Frame.l1 K g k (i : Int) (gam (g.Out.length + 1) ++ fr 0 (g.Out.take i)) (posns g i)) (frb g, posns g g.Out.length) := by
    refine upto ?_ ?_
    · refine step1 (fun _ _ _ _ _ => herbariumref6_Frame.l1.eq_2 ..) ?_
      refine negD (by rw [h.n]; omega) (nowE ?_)
      rw [List.take_length]; rfl
    · intro i hi ih
      refine step1 (fun _ _ _ _ _ => herbariumref6_Frame.l1.eq_2 ..) ?_
      have hm := h.may _ (getD_mem (d := []) hi)
      have hp := hpre i (by omega)
      have hlay := RRuns_ev (v := (i : Int)) (b := gam (g.Out.length + 1) ++ fr 0 (g.Out.take i)) hm (by omega) (by omega) (by show posn g i ≤ _; omega)
      rw [List.append_assoc, ← fr_take hi] at hlay
      refine posD (by rw [h.n]; omega) (pos (by simp [posns_len]; omega) (pos (by omega) ?_))
      rw [rd1N, w1 (by omega)]
      refine bnd hlay ?_
      rw [posns_succ] at ih
      exact ih
  have e0 : wr .i64 (g.N + 1) = ((g.Out.length + 1 : Nat) : Int) := by rw [h.n, w1 (by omega)]
  have he := (key 0 (by omega)).e1
  have hz : gam (g.Out.length + 1) ++ fr 0 (g.Out.take 0) = gam (g.Out.length + 1) := by simp [fr]
  rw [hz] at he
  refine congr (f := fun K _ _ _ _ => (_herbariumref1_List__Write_nil0 K ([] : List Int) 2 ((g.Out.length + 1 : Nat) : Int)).bind fun r10 => herbariumref6_Frame.l1 K g K (0 : Int) r10 ([] : List Int)) (fun K _ _ _ _ => by unfold herbariumref6_Frame; rw [e0]) ?_
  exact bnd (RWrite0_ev (by omega)) he
theorem tkF_16 {l : List Int} {n : Nat} {m : Nat} {v at_ : Nat} {qs : List (List Int)} (hat : at_ ≤ l.length) (h : tkL l n v at_ = some (qs, m)) : ∀ q ∈ qs, q.length ≤ 16 := fun q hq => ((tkL_spec hat h).2.1 q hq).len
theorem oneS_len {l : List Int} (h : Bt l) (v : Int) : (oneS l v).1.length ≤ 16 := by
  unfold oneS
  cases hd : hdF l with
  | none => simp
  | some p =>
    obtain ⟨n, at_⟩ := p
    obtain ⟨hn, hat⟩ := hdF_le h hd
    simp only
    split
    · cases ht : tkL l (v.toNat + 1) 0 at_ with
      | none => simp
      | some p =>
        obtain ⟨qs, m⟩ := p
        simp only
        split
        · by_cases c : v.toNat < qs.length
          · exact tkF_16 hat ht _ (getD_mem c)
          · rw [List.getD_eq_getElem?_getD, List.getElem?_eq_none (by omega)]; simp
        · simp
    · simp
section
variable {ts : List api_Bits}
theorem fp_l5 {go3 : Nat → Nat → Int → Option Bool} {i : Nat} (hi : i < ts.length) (hi2 : ts.length ≤ 1000) {l : List Int} (hB : Bt l) (hl : l.length ≤ 6000) (ht : ts.getD i zB = pack l)
    (hgo : E1 (fun K a => go3 K a ((i + 1 : Nat) : Int)) true) : ∀ (d : Nat) (v : Int), 17 ≤ v + 2 * d → -1 ≤ v → v ≤ 20 → E2 (fun K a b => herbariumlaw7_FramePuts.l5 K (go3 K a) ts l (i : Int) b v) true := by
  intro d
  induction d with
  | zero =>
    intro v h1 h2 h3
    refine step2 (fun _ _ _ _ _ => herbariumlaw7_FramePuts.l5.eq_2 ..) ?_
    refine negD (by omega) ?_
    rw [w1 (by omega)]; exact hgo
  | succ d ih =>
    intro v h1 h2 h3
    refine step2 (fun _ _ _ _ _ => herbariumlaw7_FramePuts.l5.eq_2 ..) ?_
    by_cases c : v ≤ 16
    · have ih := ih (v + 2) (by omega) (by omega) (by omega)
      rw [← w64 (i := v + 2) (by omega) (by omega)] at ih
      refine posD c (pos (by omega) ?_)
      rw [rdBits, ht]
      have hol := oneS_len hB v
      refine bnd (fone_any hB hl v) (bnd (rone_any hB (by omega) v) (bnd (now (oneS l v).2) (negN rfl (bnd (eqn_ev (oneS l v).1 (oneS l v).1 (by omega)) (negM rfl ih)))))
    · refine negD c ?_
      rw [w1 (by omega)]; exact hgo
theorem fp_j4 {go3 : Nat → Nat → Int → Option Bool} {i : Nat} (hi : i < ts.length) (hi2 : ts.length ≤ 1000) {l : List Int} (hB : Bt l) (hl : l.length ≤ 6000) (ht : ts.getD i zB = pack l) {g : api_Graph} (hg : GSm g) {e : Int}
    (hgo : E1 (fun K a => go3 K a ((i + 1 : Nat) : Int)) true) : E1 (fun K a => herbariumlaw7_FramePuts.j4 K (go3 K a) ts (g, e) l (i : Int) e g.N g.Out) true := by
  refine bnd (now e) (negN rfl (bnd (eqG_ev g hg) (negB rfl (bnd (lawG_ev g hg) ?_))))
  exact (fp_l5 (go3 := go3) hi hi2 hB hl ht hgo 9 (-1) (by omega) (by omega) (by omega)).e2
theorem fp_l3 (hts : GoodT ts [] 3003) (hi2 : ts.length ≤ 1000) : ∀ i, i ≤ ts.length → E1 (fun K a => herbariumlaw7_FramePuts.l3 K ts a (i : Int)) true := by
  refine upto ?_ ?_
  · refine step1 (fun _ _ _ _ _ => herbariumlaw7_FramePuts.l3.eq_2 ..) ?_
    have b1 : E0 (fun K => frame_Take K ((ByteArray.empty, 3) : api_Bits)) (G0, 1) := by
      refine bnd (congr (fun K _ _ _ _ => bMay_eq (b := ((ByteArray.empty, 3) : api_Bits)) (by decide) K) (now _)) (posM (by decide) (now _))
    have b2 : E0 (fun K => frame_One K (((⟨#[1]⟩ : ByteArray), 3) : api_Bits) 0) ([], 1) := by
      refine bnd (congr (fun K _ _ _ _ => bMay_eq (b := (((⟨#[1]⟩ : ByteArray), 3) : api_Bits)) (by decide) K) (now _)) (posM (by decide) (now _))
    exact negD (by omega) (bnd b1 (bnd b2 (bnd (now 1) (posE rfl (bnd (now 1) (posE rfl (bnd wakes7_ev (now true))))))))
  · intro i hi ih
    have htm : ts.getD i zB ∈ ts := getD_mem hi
    obtain ⟨l, hB, hl, ht⟩ : ∃ l, Bt l ∧ l.length ≤ 3003 ∧ ts.getD i zB = pack l := by
      rcases hts _ htm with h | h
      · cases h
      · exact h
    refine step1 (fun _ _ _ _ _ => herbariumlaw7_FramePuts.l3.eq_2 ..) ?_
    refine posD (by omega) (pos (by omega) ?_)
    rw [rdBits, ht]
    have hof := rOf_ev (mayB_pack hB (by omega))
    rw [ofb_pack hB (by omega)] at hof
    refine bnd (ftake_any hB (by omega)) (pos (by omega) (bnd hof (bnd (rtakeF hB (by omega)) ?_)))
    cases hF : tkF l with
    | none =>
      exact negB rfl (fp_j4 (go3 := fun K a => herbariumlaw7_FramePuts.l3 K ts a) hi hi2 hB (by omega) ht (g := G0) (by decide) ih)
    | some g =>
      exact pos rfl (fp_j4 (go3 := fun K a => herbariumlaw7_FramePuts.l3 K ts a) hi hi2 hB (by omega) ht (tkF_G hF).sm ih)
end
variable {x : herbariumlaw6_Script}
abbrev x0 : herbariumlaw3_Ask := ([], [], [])
theorem fp_end (made : List (List Int)) (hm : GoodL made 3000) : Ev (fun K _ _ _ _ => (herbariumlaw3_Texts K x0 made).bind fun r138 => herbariumlaw7_FramePuts.l3 K r138 K (0 : Int)) true := by
  obtain ⟨ts, t1, t2, t3⟩ := texts_ev (x := x0) (c := 3000) (by omega) hm (by decide) (by decide)
  exact bnd t1 (fp_l3 t3 (by omega) 0 (by omega)).e1
theorem fp_l1 (hx : ∀ g ∈ x.G, GSm g) (hl : x.G.length ≤ 1200) : ∀ i, i ≤ x.G.length → ∀ made, GoodL made 3000 → made.length ≤ i → E1 (fun K a => herbariumlaw7_FramePuts.l1 K x a (i : Int) made) true := by
  refine upto ?_ ?_
  · intro made hm hml
    refine step1 (fun _ _ _ _ _ => herbariumlaw7_FramePuts.l1.eq_2 ..) ?_
    exact negD (by omega) (fp_end made hm)
  · intro i hi ih made hm hml
    refine step1 (fun _ _ _ _ _ => herbariumlaw7_FramePuts.l1.eq_2 ..) ?_
    refine posD (by omega) ?_
    by_cases h4 : i < 4
    · have hs := hx _ (getD_mem (d := zG) hi)
      have hgg : ∀ j : Nat, nth x.G (j : Int) = x.G.getD j zG := fun j => rdGG x.G j
      refine posD (by omega) (pos (by omega) ?_)
      rw [hgg]
      generalize hg : x.G.getD i zG = g at hs
      refine bnd (copyG_ev g hs) (bnd (FPut_ev hs) (bnd (FPlaces_any hs) (bnd (FSize_any hs) (pos (by omega) (bnd (rgraph_ev g hs) ?_)))))
      have j2 : ∀ (e n : Int) (b : api_Bits) (at_ : List Int) (made' : List (List Int)), at_.length ≤ 16 → GoodL made' 3000 → made'.length ≤ i + 1 → Ev (fun K a _ _ _ => herbariumlaw7_FramePuts.j2 K (herbariumlaw7_FramePuts.l1 K x a) g (b, e) (at_, e) (n, e) (i : Int) x e n made' b.Data b.N at_) true := by
        intro e n b at_ made' h1 h2 h3
        refine bnd (now e) (negN rfl (bnd (now e) (negN rfl (bnd (now e) (negN rfl (neg (by rw [bitsEq']; decide) (bnd (eqn_ev at_ at_ (by omega)) (negM rfl (negN rfl (pos (by omega) ?_))))))))))
        rw [hgg, hg, w1 (by omega)]
        exact bnd (eqG_ev g hs) (negB rfl (ih made' h2 h3))
      by_cases hG : GraphP g
      · rw [if_pos hG, if_pos hG, if_pos hG]
        have hfl := frb_len hG.gp
        have hle := hG.gp.le
        refine posD hG (pos (by omega) ?_)
        refine bnd (RFrame_ev hG.gp) (bnd (rPack_ev (frb_Bt g) (show (frb g).length ≤ 1000000 by omega)) (pos (by simp; omega) (j2 0 _ (pack (frb g)) _ _ (by rw [posns_len]; omega) ?_ (by simp; omega))))
        intro m hm'
        rcases List.mem_append.1 hm' with hm' | hm'
        · exact hm m hm'
        · obtain rfl := List.mem_singleton.1 hm'
          exact ⟨frb_Bt g, show (frb g).length ≤ 3000 by omega⟩
      · rw [if_neg hG, if_neg hG, if_neg hG]
        exact negD hG (j2 1 0 zBits [] made (by simp) hm (by omega))
    · exact negD (by omega) (fp_end made hm)
theorem framePuts_pure (x : herbariumlaw6_Script) (hl : x.G.length ≤ 17592186044416) (hx : ∀ g ∈ x.G, Gfit g) (ha : x.A.length ≤ 17592186044416) : ∃ K, herbariumlaw7_FramePuts K x = some true := by
  obtain ⟨b, e, h⟩ := heavy6_ev x hl hx ha
  refine Ev.get (g := fun K => herbariumlaw7_FramePuts K x) (r := true) (bnd e ?_)
  cases b with
  | true => exact pos rfl (now true)
  | false =>
    obtain ⟨h1, h2, h3⟩ := h rfl
    refine negB rfl ?_
    exact (fp_l1 (fun g hg => wt_GSm (h3 g hg)) h1 0 (by omega) [] (fun m hm => by cases hm) (by simp)).e1
end Go.XL
end
