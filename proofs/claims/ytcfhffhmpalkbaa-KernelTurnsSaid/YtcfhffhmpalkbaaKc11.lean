import Derived.Test.YtcfhffhmpalkbaaKc10
section
namespace Go.Proofs.Ytcfhffhmpalkbaa.U
open Go.RowKit Go.Proofs.Ytcfhffhmpalkbaa.P Go.Proofs.YtcfhffhmpalkbaaW.PrintWords Go.Proofs.YtcfhffhmpalkbaaW.PrintLast Go.Proofs.YtcfhffhmpalkbaaW.PrintMore
set_option linter.unusedVariables false
set_option linter.unusedSimpArgs false
theorem ext_getD {xs ys : List Int} (hl : xs.length = ys.length) (h : ∀ j, j < xs.length → xs.getD j 0 = ys.getD j 0) : xs = ys := by
  refine List.ext_getElem hl fun j h1 h2 => ?_
  have := h j h1
  rwa [getD_lt h1, getD_lt h2] at this
theorem nodup_le : ∀ (xs ys : List Int), xs.Nodup → (∀ x ∈ xs, x ∈ ys) → xs.length ≤ ys.length
  | [], _, _, _ => Nat.zero_le _
  | x :: xs, ys, hn, hs => by
    have hx := hs x (by simp)
    obtain ⟨h1, h2⟩ := List.nodup_cons.1 hn
    have := nodup_le xs (ys.erase x) h2 (fun y hy => (List.mem_erase_of_ne (fun e => h1 (by rw [← e]; exact hy))).2 (hs y (by simp [hy])))
    rw [List.length_erase_of_mem hx] at this
    have := List.length_pos_of_mem hx
    simp only [List.length_cons]
    omega
def Edge (out : List (List Int)) (u w : Nat) : Prop := (w : Int) ∈ out.getD u []
theorem edge_of {N : Nat} {out : List (List Int)} (h : Good N out) {u j : Nat} (hu : u < N) (hj : j < (out.getD u []).length) : Edge out u ((out.getD u []).getD j 0).toNat ∧ ((out.getD u []).getD j 0).toNat < N ∧ (((out.getD u []).getD j 0).toNat : Int) = (out.getD u []).getD j 0 := by
  have := h.at hu hj
  have e : (((out.getD u []).getD j 0).toNat : Int) = (out.getD u []).getD j 0 := by omega
  exact ⟨by unfold Edge; rw [e]; exact getD_mem hj, by omega, e⟩
theorem edge_at {out : List (List Int)} {u w : Nat} (h : Edge out u w) : ∃ j, j < (out.getD u []).length ∧ (out.getD u []).getD j 0 = (w : Int) := by
  obtain ⟨j, hj, e⟩ := List.mem_iff_getElem.1 h
  exact ⟨j, hj, by rw [getD_lt hj, e]⟩
structure Half (N : Nat) (out : List (List Int)) (a : Nat) (d : List Int) : Prop where
  len : d.length = N
  src : d.getD a 0 = 0
  zero : ∀ v, v < N → d.getD v 0 = 0 → v = a
  low : ∀ v, v < N → -1 ≤ d.getD v 0
  pred : ∀ v, v < N → 0 < d.getD v 0 → ∃ u, u < N ∧ Edge out u v ∧ d.getD u 0 = d.getD v 0 - 1
theorem Half.init {N : Nat} {out : List (List Int)} {a : Nat} (ha : a < N) : Half N out a ((List.replicate N (-1)).set a 0) := by
  have hg : ∀ v, v < N → ((List.replicate N (-1 : Int)).set a 0).getD v 0 = if v = a then 0 else -1 := fun v hv => by
    rw [getD_set _ _ _ _ (by simpa using ha)]
    split
    · rfl
    · simp [List.getD_eq_getElem?_getD, List.getElem?_replicate, hv]
  refine ⟨by simp, by rw [hg a ha]; simp, fun v hv h => ?_, fun v hv => ?_, fun v hv h => ?_⟩
  · rw [hg v hv] at h
    split at h
    · assumption
    · omega
  · rw [hg v hv]; split <;> omega
  · rw [hg v hv] at h
    split at h <;> omega
theorem Half.put {N : Nat} {out : List (List Int)} {a : Nat} {d : List Int} (h : Half N out a d) {u w : Nat} (hu : u < N) (hw : w < N) (he : Edge out u w) (h0 : 0 ≤ d.getD u 0) (h1 : d.getD w 0 < 0) : Half N out a (d.set w (d.getD u 0 + 1)) := by
  have hl := h.len
  have hs := h.src
  have hg : ∀ v, (d.set w (d.getD u 0 + 1)).getD v 0 = if v = w then d.getD u 0 + 1 else d.getD v 0 := fun v => getD_set _ _ _ _ (by omega)
  refine ⟨by simpa using hl, ?_, fun v hv hz => ?_, fun v hv => ?_, fun v hv hp => ?_⟩
  · rw [hg]
    split
    · rename_i e; rw [e] at hs; omega
    · exact hs
  · rw [hg] at hz
    split at hz
    · omega
    · exact h.zero v hv hz
  · rw [hg]
    have := h.low v hv
    split <;> omega
  · rw [hg] at hp
    split at hp
    · rename_i e
      refine ⟨u, hu, by rw [e]; exact he, ?_⟩
      rw [hg, hg, if_pos e, if_neg (by intro e2; rw [e2] at h0; omega)]
      omega
    · rename_i e
      obtain ⟨p, hp1, hp2, hp3⟩ := h.pred v hv hp
      refine ⟨p, hp1, hp2, ?_⟩
      rw [hg, hg, if_neg e, if_neg (by intro e2; rw [e2] at hp3; omega)]
      exact hp3
theorem Half.lt {N : Nat} {out : List (List Int)} {a : Nat} {d : List Int} (h : Half N out a d) {v : Nat} (hv : v < N) : d.getD v 0 < N := by
  have key : ∀ s : Nat, ∀ v, v < N → d.getD v 0 = s → ∀ t : Nat, t ≤ s → ∃ u, u < N ∧ d.getD u 0 = t := by
    intro s
    induction s with
    | zero => intro v hv hs t ht; exact ⟨v, hv, by rw [hs]; omega⟩
    | succ s ih =>
      intro v hv hs t ht
      by_cases e : t = s + 1
      · exact ⟨v, hv, by rw [hs, e]⟩
      · obtain ⟨u, hu, _, h3⟩ := h.pred v hv (by omega)
        exact ih u hu (by omega) t (by omega)
  by_cases h0 : d.getD v 0 < 0
  · omega
  · have hk := key (d.getD v 0).toNat v hv (by omega)
    have := nodup_le ((List.range ((d.getD v 0).toNat + 1)).map fun (t : Nat) => (t : Int)) d ?_ ?_
    · simp only [List.length_map, List.length_range] at this
      have := h.len
      omega
    · refine List.Pairwise.map _ (fun x y (hxy : x ≠ y) => ?_) List.nodup_range
      omega
    · intro x hx
      obtain ⟨t, ht, rfl⟩ := List.mem_map.1 hx
      obtain ⟨u, hu, e⟩ := hk t (by have := List.mem_range.1 ht; omega)
      rw [← e]
      exact getD_mem (by have := h.len; omega)
structure Dist (N : Nat) (out : List (List Int)) (a : Nat) (d : List Int) : Prop where
  half : Half N out a d
  edge : ∀ u w, u < N → w < N → Edge out u w → 0 ≤ d.getD u 0 → 0 ≤ d.getD w 0 ∧ d.getD w 0 ≤ d.getD u 0 + 1
theorem Dist.below {N : Nat} {out : List (List Int)} {a : Nat} {d d' : List Int} (h : Dist N out a d) (h' : Dist N out a d') : ∀ s : Nat, ∀ v, v < N → d.getD v 0 = s → 0 ≤ d'.getD v 0 ∧ d'.getD v 0 ≤ d.getD v 0 := by
  intro s
  induction s with
  | zero =>
    intro v hv hs
    obtain rfl := h.half.zero v hv (by simpa using hs)
    rw [h'.half.src, h.half.src]; omega
  | succ s ih =>
    intro v hv hs
    obtain ⟨u, hu, he, h3⟩ := h.half.pred v hv (by omega)
    have h4 := ih u hu (by omega)
    have h5 := h'.edge u v hu hv he h4.1
    omega
theorem Dist.uniq {N : Nat} {out : List (List Int)} {a : Nat} {d d' : List Int} (h : Dist N out a d) (h' : Dist N out a d') : d = d' := by
  have l := h.half.len
  have l' := h'.half.len
  refine ext_getD (by omega) fun v hv => ?_
  have hv : v < N := by omega
  have a1 := h.half.low v hv
  have a2 := h'.half.low v hv
  by_cases h0 : 0 ≤ d.getD v 0
  · have := h.below h' (d.getD v 0).toNat v hv (by omega)
    have := h'.below h (d'.getD v 0).toNat v hv (by omega)
    omega
  · by_cases h1 : 0 ≤ d'.getD v 0
    · have := h'.below h (d'.getD v 0).toNat v hv (by omega)
      omega
    · omega
structure Lin (N : Nat) (out : List (List Int)) (a t u0 j0 : Nat) (d : List Int) : Prop where
  half : Half N out a d
  cap : ∀ v, v < N → d.getD v 0 ≤ t + 1
  clos : ∀ u w, u < N → w < N → Edge out u w → 0 ≤ d.getD u 0 → d.getD u 0 < t → 0 ≤ d.getD w 0 ∧ d.getD w 0 ≤ d.getD u 0 + 1
  fin : ∀ u w, u < u0 → u < N → w < N → Edge out u w → d.getD u 0 = t → 0 ≤ d.getD w 0
  part : ∀ j, j < j0 → j < (out.getD u0 []).length → d.getD u0 0 = t → 0 ≤ d.getD ((out.getD u0 []).getD j 0).toNat 0
theorem Lin.put {N : Nat} {out : List (List Int)} {a t u0 j0 : Nat} {d : List Int} (hg : Good N out) (h : Lin N out a t u0 j0 d) (hu : u0 < N) (hj : j0 < (out.getD u0 []).length) (ht : d.getD u0 0 = t) (hw : d.getD ((out.getD u0 []).getD j0 0).toNat 0 < 0) :
    Lin N out a t u0 (j0 + 1) (d.set ((out.getD u0 []).getD j0 0).toNat ((t : Int) + 1)) := by
  obtain ⟨he, hwN, hwe⟩ := edge_of hg hu hj
  have hl := h.half.len
  generalize ((out.getD u0 []).getD j0 0).toNat = w at *
  have hG : ∀ v, (d.set w ((t : Int) + 1)).getD v 0 = if v = w then (t : Int) + 1 else d.getD v 0 := fun v => getD_set _ _ _ _ (by omega)
  refine ⟨by have := h.half.put hu hwN he (by omega) hw; rwa [ht] at this, fun v hv => ?_, fun u x hu' hx hE h0 h1 => ?_, fun u x h1 h2 h3 hE h4 => ?_, fun j hj1 hj2 h4 => ?_⟩
  · rw [hG]; have := h.cap v hv; split <;> omega
  · rw [hG] at h0 h1 ⊢
    rw [hG u]
    by_cases e : u = w
    · rw [if_pos e] at h1; omega
    · rw [if_neg e] at h0 h1 ⊢
      have := h.clos u x hu' hx hE h0 h1
      by_cases e2 : x = w
      · rw [e2] at this; omega
      · rw [if_neg e2]; exact this
  · rw [hG] at h4 ⊢
    by_cases e : u = w
    · rw [if_pos e] at h4; omega
    · rw [if_neg e] at h4
      have := h.fin u x h1 h2 h3 hE h4
      split <;> omega
  · rw [hG]
    split
    · omega
    · rename_i e
      by_cases e2 : j = j0
      · subst e2; omega
      · exact h.part j (by omega) hj2 ht
theorem Lin.keep {N : Nat} {out : List (List Int)} {a t u0 j0 : Nat} {d : List Int} (h : Lin N out a t u0 j0 d) (hw : 0 ≤ d.getD ((out.getD u0 []).getD j0 0).toNat 0) : Lin N out a t u0 (j0 + 1) d :=
  ⟨h.half, h.cap, h.clos, h.fin, fun j h1 h2 h3 => by
    by_cases e : j = j0
    · subst e; exact hw
    · exact h.part j (by omega) h2 h3⟩
def unv : List Int → Nat
  | [] => 0
  | x :: xs => (if x < 0 then 1 else 0) + unv xs
theorem unv_set : ∀ (d : List Int) (w : Nat) (v : Int), w < d.length → d.getD w 0 < 0 → 0 ≤ v → unv (d.set w v) + 1 = unv d
  | [], w, v, h, _, _ => by simp at h
  | x :: d, 0, v, _, h1, h2 => by
    have h1 : x < 0 := by simpa using h1
    simp only [List.set_cons_zero, unv]
    rw [if_neg (by omega), if_pos h1]; omega
  | x :: d, w + 1, v, h, h1, h2 => by
    have := unv_set d w v (by simpa using h) (by simpa using h1) h2
    simp only [List.set_cons_succ, unv]
    omega
theorem unv_le : ∀ d : List Int, unv d ≤ d.length
  | [] => Nat.le_refl _
  | x :: d => by
    have := unv_le d
    simp only [unv, List.length_cons]
    split <;> omega
structure Bfs (N : Nat) (out : List (List Int)) (a : Nat) (d q : List Int) : Prop where
  half : Half N out a d
  qin : ∀ x ∈ q, 0 ≤ x ∧ x < N ∧ 0 ≤ d.getD x.toNat 0
  clos : ∀ u, u < N → 0 ≤ d.getD u 0 → (u : Int) ∉ q → ∀ w, w < N → Edge out u w → 0 ≤ d.getD w 0 ∧ d.getD w 0 ≤ d.getD u 0 + 1
  cap : ∀ x ∈ q, ∀ v, v < N → d.getD v 0 ≤ d.getD x.toNat 0 + 1
  srt : q.Pairwise fun x y => d.getD x.toNat 0 ≤ d.getD y.toNat 0
structure Bin (N : Nat) (out : List (List Int)) (a x j0 : Nat) (d q : List Int) : Prop where
  half : Half N out a d
  qin : ∀ x ∈ q, 0 ≤ x ∧ x < N ∧ 0 ≤ d.getD x.toNat 0
  vis : 0 ≤ d.getD x 0
  clos : ∀ u, u < N → 0 ≤ d.getD u 0 → (u : Int) ∉ q → u ≠ x → ∀ w, w < N → Edge out u w → 0 ≤ d.getD w 0 ∧ d.getD w 0 ≤ d.getD u 0 + 1
  part : ∀ j, j < j0 → j < (out.getD x []).length → 0 ≤ d.getD ((out.getD x []).getD j 0).toNat 0
  cap : ∀ v, v < N → d.getD v 0 ≤ d.getD x 0 + 1
  low : ∀ y ∈ q, d.getD x 0 ≤ d.getD y.toNat 0
  srt : q.Pairwise fun x y => d.getD x.toNat 0 ≤ d.getD y.toNat 0
theorem Bin.put {N : Nat} {out : List (List Int)} {a x j0 : Nat} {d q : List Int} (hg : Good N out) (h : Bin N out a x j0 d q) (hx : x < N) (hj : j0 < (out.getD x []).length) (hw : d.getD ((out.getD x []).getD j0 0).toNat 0 < 0) :
    Bin N out a x (j0 + 1) (d.set ((out.getD x []).getD j0 0).toNat (d.getD x 0 + 1)) (q ++ [(out.getD x []).getD j0 0]) := by
  obtain ⟨he, hwN, hwe⟩ := edge_of hg hx hj
  have hl := h.half.len
  have hpt := h.part
  generalize hwd : ((out.getD x []).getD j0 0).toNat = w at *
  rw [← hwe]
  have hG : ∀ v, (d.set w (d.getD x 0 + 1)).getD v 0 = if v = w then d.getD x 0 + 1 else d.getD v 0 := fun v => getD_set _ _ _ _ (by omega)
  have hv := h.vis
  have hxw : x ≠ w := fun e => by rw [← e] at hw; omega
  have hGx : (d.set w (d.getD x 0 + 1)).getD x 0 = d.getD x 0 := by rw [hG, if_neg hxw]
  have hq : ∀ y ∈ q, (d.set w (d.getD x 0 + 1)).getD y.toNat 0 = d.getD y.toNat 0 := fun y hy => by
    rw [hG, if_neg]
    intro e
    have := (h.qin y hy).2.2
    rw [e] at this
    omega
  have hGw : (d.set w (d.getD x 0 + 1)).getD w 0 = d.getD x 0 + 1 := by rw [hG, if_pos rfl]
  refine ⟨h.half.put hx hwN he hv hw, fun y hy => ?_, by rw [hGx]; exact hv, fun u hu h0 hn hne v hvN hE => ?_, fun j hj1 hj2 => ?_, fun v hvN => ?_, fun y hy => ?_, ?_⟩
  · rcases List.mem_append.1 hy with hy | hy
    · rw [hq y hy]; exact h.qin y hy
    · obtain rfl := List.mem_singleton.1 hy
      rw [Int.toNat_natCast, hGw]; omega
  · have hn1 : (u : Int) ∉ q := fun m => hn (List.mem_append.2 (.inl m))
    have hn2 : u ≠ w := fun e => hn (List.mem_append.2 (.inr (by simp [e])))
    rw [hG, if_neg hn2] at h0
    have := h.clos u hu h0 hn1 hne v hvN hE
    rw [hG, hG u, if_neg hn2]
    by_cases e : v = w
    · rw [e] at this; omega
    · rw [if_neg e]; exact this
  · rw [hG]
    split
    · omega
    · rename_i e
      by_cases e2 : j = j0
      · subst e2; omega
      · exact hpt j (by omega) hj2
  · rw [hG, hGx]; have := h.cap v hvN; split <;> omega
  · rw [hGx]
    rcases List.mem_append.1 hy with hy | hy
    · rw [hq y hy]; exact h.low y hy
    · obtain rfl := List.mem_singleton.1 hy
      rw [Int.toNat_natCast, hGw]; omega
  · refine List.pairwise_append.2 ⟨?_, List.pairwise_singleton _ _, fun y hy z hz => ?_⟩
    · refine h.srt.imp_of_mem fun {y z} hy hz hyz => ?_
      rw [hq y hy, hq z hz]; exact hyz
    · obtain rfl := List.mem_singleton.1 hz
      rw [hq y hy, Int.toNat_natCast, hGw]
      exact h.cap _ (by have := h.qin y hy; omega)
theorem Bin.keep {N : Nat} {out : List (List Int)} {a x j0 : Nat} {d q : List Int} (h : Bin N out a x j0 d q) (hw : 0 ≤ d.getD ((out.getD x []).getD j0 0).toNat 0) : Bin N out a x (j0 + 1) d q :=
  ⟨h.half, h.qin, h.vis, h.clos, fun j h1 h2 => by
    by_cases e : j = j0
    · subst e; exact hw
    · exact h.part j (by omega) h2, h.cap, h.low, h.srt⟩
theorem Bin.out {N : Nat} {out : List (List Int)} {a x j0 : Nat} {d q : List Int} (h : Bin N out a x j0 d q) (hj : (out.getD x []).length ≤ j0) : Bfs N out a d q :=
  ⟨h.half, h.qin, fun u hu h0 hn w hw hE => by
    by_cases e : u = x
    · subst e
      obtain ⟨j, hj1, ej⟩ := edge_at hE
      have := h.part j (by omega) hj1
      rw [ej, Int.toNat_natCast] at this
      exact ⟨this, h.cap w hw⟩
    · exact h.clos u hu h0 hn e w hw hE, fun y hy v hv => by have := h.cap v hv; have := h.low y hy; omega, h.srt⟩
theorem kfar_ev (N : Nat) (out : List (List Int)) (hg : Good N out) (a : Nat) (ha : a < N) : ∃ d, Dist N out a d ∧ Ev (fun k => q16.f k (N : Int) out (a : Int)) d := by
  have hN := hg.le
  have hlen := hg.len
  have l0 : ∀ m, m ≤ 1000 → ∀ d q, Bfs N out a d q → unv d + q.length ≤ m → ∃ r, Dist N out a r ∧ Ev (fun k => q16.l0 k d q (N : Int) out) r := by
    intro m
    induction m with
    | zero =>
      intro _ d q h hm
      have hq : q = [] := List.eq_nil_of_length_eq_zero (by omega)
      subst hq
      refine ⟨d, ⟨h.half, fun u w hu hw hE h0 => h.clos u hu h0 (by simp) w hw hE⟩, ?_⟩
      refine Ev.step (fun k => by rw [q16.l0]) ?_
      exact neg (by simp) (Ev.now _)
    | succ m ih =>
      intro hm1 d q h hm
      cases q with
      | nil =>
        refine ⟨d, ⟨h.half, fun u w hu hw hE h0 => h.clos u hu h0 (by simp) w hw hE⟩, ?_⟩
        refine Ev.step (fun k => by rw [q16.l0]) ?_
        exact neg (by simp) (Ev.now _)
      | cons x q =>
        obtain ⟨hx0, hx1, hx2⟩ := h.qin x (by simp)
        obtain ⟨x, rfl⟩ : ∃ n : Nat, x = n := ⟨x.toNat, by omega⟩
        rw [Int.toNat_natCast] at hx2
        have hx : x < N := by omega
        have hrl := hg.rlen x
        have hsr := List.pairwise_cons.1 h.srt
        have hB : Bin N out a x 0 d q := ⟨h.half, fun y hy => h.qin y (by simp [hy]), hx2, fun u hu h0 hn hne w hw hE => h.clos u hu h0 (by simp only [List.mem_cons, not_or]; exact ⟨by omega, hn⟩) w hw hE, fun j hj => by omega, fun v hv => by simpa using h.cap x (by simp) v hv, fun y hy => by simpa using hsr.1 y hy, hsr.2⟩
        have l1 : ∀ j, j ≤ (out.getD x []).length → ∀ d q, Bin N out a x j d q → unv d + q.length ≤ m → ∃ r, Dist N out a r ∧ Ev (fun k => q16.l1 k d q (x : Int) (out.getD x []) (out.getD x []).length (j : Int) (N : Int) out) r := by
          refine upto ?_ ?_
          · intro d q hb hm2
            obtain ⟨r, h1, h2⟩ := ih (by omega) d q (hb.out (Nat.le_refl _)) hm2
            refine ⟨r, h1, ?_⟩
            refine Ev.step (fun k => by rw [q16.l1]) ?_
            exact neg (by omega) h2
          · intro j hj ihj d q hb hm2
            have hdl := hb.half.len
            have hdx := hb.half.lt hx
            have hdv := hb.vis
            obtain ⟨he, hwN, hwe⟩ := edge_of hg hx hj
            by_cases hw : d.getD ((out.getD x []).getD j 0).toNat 0 < 0
            · have hu := unv_set d _ (d.getD x 0 + 1) (by omega) hw (by omega)
              obtain ⟨r, h1, h2⟩ := ihj _ _ (hb.put hg hx hj hw) (by rw [List.length_append, List.length_singleton]; omega)
              refine ⟨r, h1, ?_⟩
              refine Ev.step (fun k => by rw [q16.l1]) ?_
              refine pos (by omega) (pos (by omega) (pos (by omega) ?_))
              rw [rdN, rdN, rdI, w1 (by omega), w64 (by omega) (by omega)]
              exact pos (by omega) (pos (by omega) (pos hw (pos (by omega) (pos (by omega) (pos (by omega) h2)))))
            · obtain ⟨r, h1, h2⟩ := ihj d q (hb.keep (by omega)) hm2
              refine ⟨r, h1, ?_⟩
              refine Ev.step (fun k => by rw [q16.l1]) ?_
              refine pos (by omega) (pos (by omega) (pos (by omega) ?_))
              rw [rdN, rdI, w1 (by omega)]
              exact pos (by omega) (pos (by omega) (neg hw h2))
        obtain ⟨r, h1, h2⟩ := l1 0 (by omega) d q hB (by simp only [List.length_cons] at hm; omega)
        refine ⟨r, h1, ?_⟩
        have e0 : rd ((x : Int) :: q) 0 = (x : Int) := rfl
        refine Ev.step (fun k => by rw [q16.l0]) ?_
        refine pos (by simp only [List.length_cons]; omega) (pos (by simp only [List.length_cons]; omega) (pos (by simp only [List.length_cons]; omega) ?_))
        rw [e0, rd1N]
        exact pos (by omega) (pos (by omega) h2)
  have hi := Half.init (out := out) ha
  have hGi : ∀ v, v < N → ((List.replicate N (-1 : Int)).set a 0).getD v 0 = if v = a then 0 else -1 := fun v hv => by
    rw [getD_set _ _ _ _ (by simpa using ha)]
    split
    · rfl
    · simp [List.getD_eq_getElem?_getD, List.getElem?_replicate, hv]
  have hb : Bfs N out a ((List.replicate N (-1)).set a 0) [(a : Int)] := by
    refine ⟨hi, fun x hx => ?_, fun u hu h0 hn => ?_, fun x hx v hv => ?_, List.pairwise_singleton _ _⟩
    · obtain rfl := List.mem_singleton.1 hx
      rw [Int.toNat_natCast, hi.src]; omega
    · rw [hGi u hu] at h0
      split at h0
      · rename_i e; exact absurd (by simp [e]) hn
      · omega
    · obtain rfl := List.mem_singleton.1 hx
      rw [Int.toNat_natCast, hi.src, hGi v hv]
      split <;> omega
  obtain ⟨r, h1, h2⟩ := l0 1000 (by omega) _ _ hb (by have := unv_le ((List.replicate N (-1 : Int)).set a 0); rw [hi.len] at this; simp only [List.length_singleton]; omega)
  refine ⟨r, h1, ?_⟩
  have hr : q39.f ([(-1)] : List Int) (N : Int) = some (List.replicate N (-1)) := by
    unfold q39.f
    rw [if_pos (by rfl), if_pos (by omega), if_pos (by omega), Int.toNat_natCast]; rfl
  unfold q16.f
  rw [hr]
  refine bnd (Ev.now _) (pos (by omega) (pos (by simp; omega) ?_))
  rw [Int.toNat_natCast]
  exact h2
end Go.Proofs.Ytcfhffhmpalkbaa.U
end
section
namespace Go.Proofs.Ytcfhffhmpalkbaa.U
open Go.RowKit Go.Proofs.Ytcfhffhmpalkbaa.P Go.Proofs.YtcfhffhmpalkbaaW.PrintWords Go.Proofs.YtcfhffhmpalkbaaW.PrintLast Go.Proofs.YtcfhffhmpalkbaaW.PrintMore
set_option linter.unusedVariables false
set_option linter.unusedSimpArgs false
def Conn (N : Nat) (out : List (List Int)) (u v : Nat) : Prop := ∀ f : Nat → Int, (∀ a b, a < N → b < N → Edge out a b → f a = f b) → f u = f v
theorem Conn.rfl' {N : Nat} {out : List (List Int)} (u : Nat) : Conn N out u u := fun _ _ => rfl
theorem Conn.symm {N : Nat} {out : List (List Int)} {u v : Nat} (h : Conn N out u v) : Conn N out v u := fun f hf => (h f hf).symm
theorem Conn.trans {N : Nat} {out : List (List Int)} {u v w : Nat} (h : Conn N out u v) (k : Conn N out v w) : Conn N out u w := fun f hf => (h f hf).trans (k f hf)
theorem Conn.of {N : Nat} {out : List (List Int)} {u v : Nat} (hu : u < N) (hv : v < N) (h : Edge out u v) : Conn N out u v := fun f hf => hf u v hu hv h
structure PHalf (N : Nat) (out : List (List Int)) (l : List Int) : Prop where
  len : l.length = N
  num : ∀ v, v < N → 0 ≤ l.getD v 0 ∧ l.getD v 0 ≤ v
  con : ∀ v, v < N → Conn N out v (l.getD v 0).toNat
structure PartOf (N : Nat) (out : List (List Int)) (l : List Int) : Prop where
  half : PHalf N out l
  edge : ∀ u w, u < N → w < N → Edge out u w → l.getD u 0 = l.getD w 0
theorem PartOf.le {N : Nat} {out : List (List Int)} {l l' : List Int} (h : PartOf N out l) (h' : PartOf N out l') {v : Nat} (hv : v < N) : l'.getD v 0 ≤ l.getD v 0 := by
  have h1 := h.half.num v hv
  have h2 : l'.getD v 0 = l'.getD (l.getD v 0).toNat 0 := h.half.con v hv (fun u => l'.getD u 0) h'.edge
  have h3 := h'.half.num (l.getD v 0).toNat (by omega)
  omega
theorem PartOf.uniq {N : Nat} {out : List (List Int)} {l l' : List Int} (h : PartOf N out l) (h' : PartOf N out l') : l = l' := by
  have a := h.half.len
  have b := h'.half.len
  refine ext_getD (by omega) fun v hv => ?_
  have := h.le h' (v := v) (by omega)
  have := h'.le h (v := v) (by omega)
  omega
theorem PHalf.init {N : Nat} {out : List (List Int)} {l : List Int} (hl : l.length = N) (h : ∀ j, j < N → l.getD j 0 = j) : PHalf N out l :=
  ⟨hl, fun v hv => by rw [h v hv]; omega, fun v hv => by rw [h v hv, Int.toNat_natCast]; exact Conn.rfl' v⟩
def Fin1 (N : Nat) (out : List (List Int)) (l : List Int) (v : Nat) : Prop := ∀ u, u < N → Conn N out v u → l.getD v 0 ≤ u
theorem Fin1.le {N : Nat} {out : List (List Int)} {l l' : List Int} {v : Nat} (h : Fin1 N out l v) (k : l'.getD v 0 ≤ l.getD v 0) : Fin1 N out l' v := fun u hu hc => by have := h u hu hc; omega
theorem fin_near {N : Nat} {out : List (List Int)} {l : List Int} (h : PHalf N out l) : ∀ n v, v < n → v < N → ∃ u, u < N ∧ Conn N out v u ∧ Fin1 N out l u := by
  intro n
  induction n with
  | zero => intro v hv; omega
  | succ n ih =>
    intro v hv hN
    by_cases hf : Fin1 N out l v
    · exact ⟨v, hN, Conn.rfl' v, hf⟩
    · obtain ⟨u, hu⟩ := Classical.not_forall.1 hf
      obtain ⟨hu1, hu2⟩ := Classical.not_forall.1 hu
      obtain ⟨hu2, hu3⟩ := Classical.not_forall.1 hu2
      have := h.num v hN
      obtain ⟨x, hx1, hx2, hx3⟩ := ih u (by omega) hu1
      exact ⟨x, hx1, hu2.trans hx2, hx3⟩
theorem fin_cross {N : Nat} {out : List (List Int)} {l : List Int} (h : PHalf N out l) {v : Nat} (hv : v < N) (hf : ¬ Fin1 N out l v) : ∃ a b, a < N ∧ b < N ∧ Edge out a b ∧ ((Fin1 N out l a ∧ ¬ Fin1 N out l b) ∨ (¬ Fin1 N out l a ∧ Fin1 N out l b)) := by
  apply Classical.byContradiction
  intro hn
  obtain ⟨u, hu, hc, hfu⟩ := fin_near h (v + 1) v (by omega) hv
  have := hc (fun x => @ite _ (Fin1 N out l x) (Classical.propDecidable _) 1 0) (fun a b ha hb he => by
    by_cases h1 : Fin1 N out l a <;> by_cases h2 : Fin1 N out l b
    · simp only [h1, h2]
    · exact absurd ⟨a, b, ha, hb, he, .inl ⟨h1, h2⟩⟩ hn
    · exact absurd ⟨a, b, ha, hb, he, .inr ⟨h1, h2⟩⟩ hn
    · simp only [h1, h2])
  simp only [if_neg hf, if_pos hfu] at this
  omega
def Settled (N : Nat) (out : List (List Int)) (l : List Int) (t : Nat) : Prop := (∀ v, v < N → Fin1 N out l v) ∨ ∃ xs : List Nat, xs.Nodup ∧ (∀ x ∈ xs, x < N ∧ Fin1 N out l x) ∧ t ≤ xs.length
theorem nodup_ltN {N : Nat} {xs : List Nat} (h : xs.Nodup) (hx : ∀ x ∈ xs, x < N) : xs.length ≤ N := by
  have := nodup_le (xs.map fun (x : Nat) => (x : Int)) ((List.range N).map fun (x : Nat) => (x : Int)) (List.Pairwise.map _ (fun x y (hxy : x ≠ y) => by omega) h) (fun y hy => by
    obtain ⟨x, hm, rfl⟩ := List.mem_map.1 hy
    exact List.mem_map.2 ⟨x, List.mem_range.2 (hx x hm), rfl⟩)
  simpa using this
theorem Settled.all {N : Nat} {out : List (List Int)} {l : List Int} (h : Settled N out l N) : ∀ v, v < N → Fin1 N out l v := by
  rcases h with h | ⟨xs, h1, h2, h3⟩
  · exact h
  · intro v hv
    by_cases hm : v ∈ xs
    · exact (h2 v hm).2
    · have := nodup_ltN (N := N) (List.nodup_cons.2 ⟨hm, h1⟩) (fun x hx => by
        rcases List.mem_cons.1 hx with rfl | hx
        · exact hv
        · exact (h2 x hx).1)
      simp only [List.length_cons] at this
      omega
structure Swp (N : Nat) (out : List (List Int)) (l0 : List Int) (u0 j0 : Nat) (l : List Int) : Prop where
  half : PHalf N out l
  le : ∀ v, v < N → l.getD v 0 ≤ l0.getD v 0
  fin : ∀ u w, u < u0 → u < N → w < N → Edge out u w → (Fin1 N out l0 u ∨ Fin1 N out l0 w) → Fin1 N out l u ∧ Fin1 N out l w
  part : ∀ j, j < j0 → j < (out.getD u0 []).length → (Fin1 N out l0 u0 ∨ Fin1 N out l0 ((out.getD u0 []).getD j 0).toNat) → Fin1 N out l u0 ∧ Fin1 N out l ((out.getD u0 []).getD j 0).toNat
theorem mn_le (a b : Int) : mn a b ≤ a ∧ mn a b ≤ b ∧ (mn a b = a ∨ mn a b = b) := by unfold mn; split <;> omega
theorem Swp.put {N : Nat} {out : List (List Int)} {l0 : List Int} {u0 j0 : Nat} {l : List Int} (hg : Good N out) (h : Swp N out l0 u0 j0 l) (hu : u0 < N) (hj : j0 < (out.getD u0 []).length) :
    Swp N out l0 u0 (j0 + 1) ((l.set u0 (mn (l.getD u0 0) (l.getD ((out.getD u0 []).getD j0 0).toNat 0))).set ((out.getD u0 []).getD j0 0).toNat (mn (l.getD u0 0) (l.getD ((out.getD u0 []).getD j0 0).toNat 0))) := by
  obtain ⟨he, hwN, hwe⟩ := edge_of hg hu hj
  have hl := h.half.len
  have hpt := h.part
  generalize hwd : ((out.getD u0 []).getD j0 0).toNat = w at *
  obtain ⟨hm1, hm2, hm3⟩ := mn_le (l.getD u0 0) (l.getD w 0)
  generalize mn (l.getD u0 0) (l.getD w 0) = m at *
  have hG : ∀ v, ((l.set u0 m).set w m).getD v 0 = if v = w ∨ v = u0 then m else l.getD v 0 := fun v => by
    rw [getD_set _ _ _ _ (by rw [List.length_set]; omega), getD_set _ _ _ _ (by omega)]
    by_cases e1 : v = w
    · simp [e1]
    · by_cases e2 : v = u0 <;> simp [e1, e2]
  have hle : ∀ v, ((l.set u0 m).set w m).getD v 0 ≤ l.getD v 0 := fun v => by
    rw [hG]
    split
    · rename_i e; rcases e with rfl | rfl <;> assumption
    · omega
  have hfu : ∀ v, Fin1 N out l v → Fin1 N out ((l.set u0 m).set w m) v := fun v hv => hv.le (hle v)
  have hc := Conn.of hu hwN he
  have hm : m = l.getD u0 0 ∨ m = l.getD w 0 := hm3
  have a := h.half.num u0 hu
  have b := h.half.num w hwN
  have hmc : Conn N out u0 m.toNat := by
    rcases hm with e | e
    · rw [e]; exact h.half.con u0 hu
    · rw [e]; exact hc.trans (h.half.con w hwN)
  refine ⟨⟨by simp [hl], fun v hv => ?_, fun v hv => ?_⟩, fun v hv => Int.le_trans (hle v) (h.le v hv), fun u x h1 h2 h3 hE h4 => ?_, fun j h1 h2 h4 => ?_⟩
  · have := h.half.num v hv
    have := hle v
    refine ⟨?_, by omega⟩
    rw [hG]
    split <;> omega
  · rw [hG]
    split
    · rename_i e
      rcases e with rfl | rfl
      · exact hc.symm.trans hmc
      · exact hmc
    · exact h.half.con v hv
  · obtain ⟨p, q⟩ := h.fin u x h1 h2 h3 hE h4
    exact ⟨hfu u p, hfu x q⟩
  · by_cases e : j = j0
    · subst e
      rw [hwd] at h4 ⊢
      have hG1 : ((l.set u0 m).set w m).getD u0 0 = m := by rw [hG]; simp
      have hG2 : ((l.set u0 m).set w m).getD w 0 = m := by rw [hG]; simp
      have hmin : ∀ y, y < N → Conn N out u0 y → m ≤ y := by
        intro y hy hcy
        rcases h4 with h4 | h4
        · have := h4 y hy hcy
          have := h.le u0 hu
          omega
        · have := h4 y hy (hc.symm.trans hcy)
          have := h.le w hwN
          omega
      exact ⟨fun y hy hcy => by rw [hG1]; exact hmin y hy hcy, fun y hy hcy => by rw [hG2]; exact hmin y hy (hc.trans hcy)⟩
    · obtain ⟨p, q⟩ := hpt j (by omega) h2 h4
      exact ⟨hfu u0 p, hfu _ q⟩
theorem Swp.done {N : Nat} {out : List (List Int)} {l0 l : List Int} {t : Nat} (h0 : PHalf N out l0) (hs : Settled N out l0 t) (h : Swp N out l0 N 0 l) : Settled N out l (t + 1) := by
  have hup : ∀ v, v < N → Fin1 N out l0 v → Fin1 N out l v := fun v hv hf => hf.le (h.le v hv)
  rcases hs with hs | ⟨xs, h1, h2, h3⟩
  · exact .inl fun v hv => hup v hv (hs v hv)
  · by_cases hall : ∀ v, v < N → Fin1 N out l0 v
    · exact .inl fun v hv => hup v hv (hall v hv)
    · obtain ⟨v, hv⟩ := Classical.not_forall.1 hall
      obtain ⟨hvN, hvf⟩ := Classical.not_forall.1 hv
      obtain ⟨a, b, ha, hb, hE, hab⟩ := fin_cross h0 hvN hvf
      obtain ⟨fa, fb⟩ := h.fin a b ha ha hb hE (hab.elim (fun x => .inl x.1) (fun x => .inr x.2))
      rcases hab with ⟨_, hnb⟩ | ⟨hna, _⟩
      · exact .inr ⟨b :: xs, List.nodup_cons.2 ⟨fun hm => hnb (h2 b hm).2, h1⟩, fun x hx => by
          rcases List.mem_cons.1 hx with rfl | hx
          · exact ⟨hb, fb⟩
          · exact ⟨(h2 x hx).1, hup x (h2 x hx).1 (h2 x hx).2⟩, by simp only [List.length_cons]; omega⟩
      · exact .inr ⟨a :: xs, List.nodup_cons.2 ⟨fun hm => hna (h2 a hm).2, h1⟩, fun x hx => by
          rcases List.mem_cons.1 hx with rfl | hx
          · exact ⟨ha, fa⟩
          · exact ⟨(h2 x hx).1, hup x (h2 x hx).1 (h2 x hx).2⟩, by simp only [List.length_cons]; omega⟩
theorem kpart_ev (N : Nat) (out : List (List Int)) (hg : Good N out) : ∃ l, PartOf N out l ∧ Ev (fun k => q7.f k (N : Int) out) l := by
  have hN := hg.le
  have hlen := hg.len
  have hsum := hg.sum
  have hpl : (prs 0 out).length = lsum out := prs_length _ _
  have hps : ∀ p ∈ prs 0 out, ∃ u w : Nat, p.f0 = u ∧ p.f1 = w ∧ u < N ∧ w < N ∧ Edge out u w := fun p hp => by
    obtain ⟨j, hj, e, hm⟩ := prs_mem 0 out p hp
    have := hg.row j (by omega) _ hm
    have e2 : ((p.f1.toNat : Nat) : Int) = p.f1 := by omega
    exact ⟨j, p.f1.toNat, by rw [e]; simp, e2.symm, by omega, by omega, by unfold Edge; rw [e2]; exact hm⟩
  have hpe : ∀ u w, u < N → Edge out u w → ∃ i, i < (prs 0 out).length ∧ (prs 0 out).getD i z78 = ⟨u, w⟩ := fun u w hu he => by
    have := mem_prs 0 out u w (by omega) he
    rw [Nat.zero_add] at this
    obtain ⟨i, hi, e⟩ := List.mem_iff_getElem.1 this
    exact ⟨i, hi, by rw [getD_lt hi, e]⟩
  have l1 : ∀ i, i ≤ (prs 0 out).length → ∀ l, PHalf N out l → (∀ j, j < i → l.getD ((prs 0 out).getD j z78).f0.toNat 0 = l.getD ((prs 0 out).getD j z78).f1.toNat 0) →
      ∃ r, PartOf N out r ∧ Ev (fun k => q7.l1 k l (prs 0 out) (prs 0 out).length (i : Int)) r := by
    refine upto ?_ ?_
    · intro l hl hd
      refine ⟨l, ⟨hl, fun u w hu hw he => ?_⟩, ?_⟩
      · obtain ⟨i, hi, e⟩ := hpe u w hu he
        have := hd i hi
        rw [e] at this
        simpa only [Int.toNat_natCast] using this
      · refine Ev.step (fun k => by rw [q7.l1]) ?_
        exact neg (by omega) (Ev.now _)
    · intro i hi ih l hl hd
      obtain ⟨u, w, e0, e1, hu, hw, hE⟩ := hps _ (getD_mem (d := z78) hi)
      have hll := hl.len
      have hc := Conn.of hu hw hE
      have nu := hl.num u hu
      have nw := hl.num w hw
      have hlo : ∃ lo hi' : Int, mn (l.getD u 0) (l.getD w 0) = lo ∧ mx (l.getD u 0) (l.getD w 0) = hi' ∧ lo ≤ hi' ∧ ((lo = l.getD u 0 ∧ hi' = l.getD w 0) ∨ (lo = l.getD w 0 ∧ hi' = l.getD u 0)) := by
        refine ⟨_, _, rfl, rfl, ?_⟩
        unfold mn mx
        split <;> split <;> omega
      obtain ⟨lo, hh, elo, ehi, hlh, hcase⟩ := hlo
      have hch : Conn N out lo.toNat hh.toNat := by
        have a := hl.con u hu
        have b := hl.con w hw
        rcases hcase with ⟨a1, a2⟩ | ⟨a1, a2⟩
        · rw [a1, a2]; exact a.symm.trans (hc.trans b)
        · rw [a1, a2]; exact b.symm.trans (hc.symm.trans a)
      have l2 : ∀ x, x ≤ N → ∀ s : List Int, s.length = N → (∀ j, j < N → s.getD j 0 = if j < x ∧ l.getD j 0 = hh then lo else l.getD j 0) → ∃ r, PartOf N out r ∧ Ev (fun k => q7.l2 k s lo hh (prs 0 out) (prs 0 out).length (i : Int) (N : Int) (x : Int)) r := by
        refine upto ?_ ?_
        · intro s hs hv
          have hG : ∀ j, j < N → s.getD j 0 = if l.getD j 0 = hh then lo else l.getD j 0 := fun j hj => by rw [hv j hj]; simp [hj]
          obtain ⟨r, h1, h2⟩ := ih s ⟨hs, fun v hv => by rw [hG v hv]; have := hl.num v hv; split <;> omega, fun v hv => by
              rw [hG v hv]
              have := hl.con v hv
              split
              · rename_i e; rw [e] at this; exact this.trans hch.symm
              · exact this⟩ (fun j hj => by
            obtain ⟨u', w', e0', e1', hu', hw', hE'⟩ := hps _ (getD_mem (d := z78) (show j < (prs 0 out).length by omega))
            rw [e0', e1', Int.toNat_natCast, Int.toNat_natCast, hG _ hu', hG _ hw']
            by_cases e : j = i
            · subst e
              have q0 : u' = u := by omega
              have q1 : w' = w := by omega
              subst q0 q1
              rcases hcase with ⟨a1, a2⟩ | ⟨a1, a2⟩ <;> split <;> split <;> omega
            · have := hd j (by omega)
              rw [e0', e1', Int.toNat_natCast, Int.toNat_natCast] at this
              rw [this])
          refine ⟨r, h1, ?_⟩
          refine Ev.step (fun k => by rw [q7.l2]) ?_
          refine neg (by omega) ?_
          rw [w1 (by omega)]
          exact h2
        · intro x hx ihx s hs hv
          have hsx : s.getD x 0 = l.getD x 0 := by rw [hv x hx]; simp
          by_cases e : l.getD x 0 = hh
          · obtain ⟨r, h1, h2⟩ := ihx (s.set x lo) (by simpa using hs) (fun j hj => by
              rw [getD_set _ _ _ _ (by omega)]
              by_cases ej : j = x
              · rw [if_pos ej, if_pos ⟨by omega, by rw [ej]; exact e⟩]
              · rw [if_neg ej, hv j hj]
                by_cases q : l.getD j 0 = hh
                · by_cases q2 : j < x
                  · rw [if_pos ⟨q2, q⟩, if_pos ⟨by omega, q⟩]
                  · rw [if_neg (fun h => q2 h.1), if_neg (fun h => q2 (by omega))]
                · rw [if_neg (fun h => q h.2), if_neg (fun h => q h.2)])
            refine ⟨r, h1, ?_⟩
            refine Ev.step (fun k => by rw [q7.l2]) ?_
            refine pos (by omega) (pos (by omega) (pos (by omega) ?_))
            rw [rdN, w1 (by omega), Int.toNat_natCast]
            exact pos (by rw [hsx]; exact e) h2
          · obtain ⟨r, h1, h2⟩ := ihx s hs (fun j hj => by
              rw [hv j hj]
              by_cases ej : j = x
              · rw [if_neg (fun h => by rw [ej] at h; exact e h.2), if_neg (fun h => by rw [ej] at h; exact e h.2)]
              · by_cases q : l.getD j 0 = hh
                · by_cases q2 : j < x
                  · rw [if_pos ⟨q2, q⟩, if_pos ⟨by omega, q⟩]
                  · rw [if_neg (fun h => q2 h.1), if_neg (fun h => q2 (by omega))]
                · rw [if_neg (fun h => q h.2), if_neg (fun h => q h.2)])
            refine ⟨r, h1, ?_⟩
            refine Ev.step (fun k => by rw [q7.l2]) ?_
            refine pos (by omega) (pos (by omega) (pos (by omega) ?_))
            rw [rdN, w1 (by omega), Int.toNat_natCast]
            exact neg (by rw [hsx]; exact e) h2
      obtain ⟨r, h1, h2⟩ := l2 0 (by omega) l hll (fun j hj => by simp)
      refine ⟨r, h1, ?_⟩
      refine Ev.step (fun k => by rw [q7.l1]) ?_
      refine pos (by omega) (pos (by omega) (pos (by omega) ?_))
      rw [rdP, e0, e1, rdN, rdN, elo, ehi, hll]
      exact pos (by omega) (pos (by omega) (pos (by omega) (pos (by omega) h2)))
  have l0 : ∀ i, i ≤ N → ∀ l : List Int, l.length = N → (∀ j, j < i → l.getD j 0 = j) → ∃ r, PartOf N out r ∧ Ev (fun k => q7.l0 k l (N : Int) (i : Int) (N : Int) out) r := by
    refine upto ?_ ?_
    · intro l hl hd
      obtain ⟨r, h1, h2⟩ := l1 0 (by omega) l (PHalf.init hl hd) (fun j hj => by omega)
      refine ⟨r, h1, ?_⟩
      refine Ev.step (fun k => by rw [q7.l0]) ?_
      exact neg (by omega) (bnd (list_ev _ out (by unfold Sm; omega)) h2)
    · intro i hi ih l hl hd
      obtain ⟨r, h1, h2⟩ := ih (l.set i i) (by simpa using hl) (fun j hj => by
        rw [getD_set _ _ _ _ (by omega)]
        split
        · rename_i e; rw [e]
        · exact hd j (by omega))
      refine ⟨r, h1, ?_⟩
      refine Ev.step (fun k => by rw [q7.l0]) ?_
      refine pos (by omega) (pos (by omega) (pos (by omega) ?_))
      rw [Int.toNat_natCast, w1 (by omega)]
      exact h2
  obtain ⟨r, h1, h2⟩ := l0 0 (by omega) (List.replicate N 0) (by simp) (fun j hj => by omega)
  refine ⟨r, h1, ?_⟩
  unfold q7.f
  refine pos (by omega) (pos (by omega) ?_)
  rw [Int.toNat_natCast]
  refine bnd (Ev.now _) ?_
  simp only [List.length_replicate]
  exact h2
end Go.Proofs.Ytcfhffhmpalkbaa.U
end
section
namespace Go.Proofs.Ytcfhffhmpalkbaa.U
open Go.RowKit Go.Proofs.Ytcfhffhmpalkbaa.P Go.Proofs.YtcfhffhmpalkbaaW.PrintWords Go.Proofs.YtcfhffhmpalkbaaW.PrintLast Go.Proofs.YtcfhffhmpalkbaaW.PrintMore
set_option linter.unusedVariables false
set_option linter.unusedSimpArgs false
theorem eqn_ev (xs ys : List Int) (h : xs.length ≤ 1000000) : Ev (fun k => q5.f k xs ys) (decide (xs = ys)) := by
  by_cases hl : xs.length = ys.length
  · have key : ∀ i, i ≤ xs.length → (∀ j, j < i → xs.getD j 0 = ys.getD j 0) → Ev (fun k => q5.l0 k xs ys (i : Int)) (decide (xs = ys)) := by
      refine upto ?_ ?_
      · intro hd
        refine Ev.step (fun k => by rw [q5.l0]) ?_
        exact neg (by omega) (ofEq (Ev.now _) (by rw [ext_getD hl hd]; simp))
      · intro i hi ih hd
        refine Ev.step (fun k => by rw [q5.l0]) ?_
        refine pos (by omega) (pos (by omega) (pos (by omega) ?_))
        rw [rdN, rdN, w1 (by omega)]
        by_cases e : xs.getD i 0 = ys.getD i 0
        · refine pos e (ih fun j hj => ?_)
          by_cases q : j = i
          · rw [q]; exact e
          · exact hd j (by omega)
        · refine neg e (ofEq (Ev.now _) ?_)
          have : ¬ xs = ys := fun h => e (by rw [h])
          simp [this]
    unfold q5.f
    exact pos (by omega) (key 0 (by omega) (fun j hj => by omega))
  · unfold q5.f
    refine neg (by omega) (ofEq (Ev.now _) ?_)
    have : ¬ xs = ys := fun h => hl (by rw [h])
    simp [this]
theorem fold_rows (ps : List S78) : ∀ (st : List (List Int)) (b : Nat), (∀ p ∈ ps, p.f1.toNat < st.length) → (∀ j, (st.getD j []).length ≤ b) → ∀ j, ((ps.foldl tstep st).getD j []).length ≤ b + ps.length := by
  induction ps with
  | nil => intro st b _ h j; exact h j
  | cons p ps ih =>
    intro st b hp h j
    rw [List.foldl_cons]
    have := ih (tstep st p) (b + 1) (fun q hq => by rw [tstep_length]; exact hp q (by simp [hq])) (tstep_rows h (hp p (by simp))) j
    simp only [List.length_cons]
    omega
theorem turn_rows {N : Nat} {out : List (List Int)} (hg : Good N out) (j : Nat) : ((turn N out).getD j []).length ≤ 120 := by
  have hpl : (prs 0 out).length = lsum out := prs_length _ _
  have := hg.sum
  have := fold_rows (prs 0 out) (List.replicate N []) 0 (fun p hp => by
    obtain ⟨i, hi, _, hm⟩ := prs_mem 0 out p hp
    have := hg.row i (by have := hg.len; omega) _ hm
    simp only [List.length_replicate]
    omega) (fun j => by simp [List.getD_eq_getElem?_getD, List.getElem?_replicate]; split <;> simp) j
  unfold turn
  omega
theorem cnt_length {N : Nat} {out : List (List Int)} (hg : Good N out) : (cnt out).length ≤ 17 := by
  have key : ∀ (xs : List (List Int)) (c : List Int), (∀ r ∈ xs, r.length ≤ 16) → c.length ≤ 17 → (xs.foldl cstep c).length ≤ 17 := by
    intro xs
    induction xs with
    | nil => intro c _ h; exact h
    | cons r rs ih =>
      intro c hr hc
      rw [List.foldl_cons]
      refine ih _ (fun q hq => hr q (by simp [hq])) ?_
      rw [cstep_length]
      have := hr r (by simp)
      omega
  refine key out [] (fun r hr => ?_) (by simp)
  obtain ⟨i, hi, rfl⟩ := List.mem_iff_getElem.1 hr
  rw [← getD_lt (d := []) hi]
  exact hg.rlen i
def code (n kind a : Int) : Int := if 1 ≤ kind ∧ kind ≤ 6 then (if kind = 1 ∨ kind = 2 ∨ kind = 4 then (if 0 ≤ a ∧ a < n then 0 else 3) else 0) else 1
theorem named_eq (a : Int) : q38.f a = some (decide (a = 1 ∨ a = 2 ∨ a = 4)) := by
  unfold q38.f
  by_cases h1 : a = 1
  · simp [h1]
  · by_cases h2 : a = 2
    · simp [h2]
    · rw [if_neg h1, if_neg h2]
      by_cases h4 : a = 4
      · simp [h4]
      · simp [h1, h2, h4]
theorem isG_eq (n : Int) (out : List (List Int)) (a : Int) : q34.f n out a = some (decide (0 ≤ a ∧ a < n)) := by
  unfold q34.f
  by_cases h : a ≥ 0
  · simp [h]
  · rw [if_neg h]; simp; omega
theorem asked_ev (n : Int) (out : List (List Int)) (kind a : Int) (hs : Sm out) : Ev (fun k => q18.f k n out kind a) (if GraphP n out then code n kind a else 1) := by
  have hj : ∀ r, Ev (fun k => q18.j0 k kind a true n out) r ↔ r = 1 := fun r => by
    have : Ev (fun k => q18.j0 k kind a true n out) 1 := by
      refine Ev.step (fun k => by rw [q18.j0]) ?_
      exact pos rfl (Ev.now _)
    exact ⟨fun h => uniq h this, fun h => h ▸ this⟩
  unfold q18.f
  refine bnd (gmayG_ev n out hs) ?_
  by_cases hg : GraphP n out
  · rw [if_pos hg]
    refine pos (by simpa using hg) ?_
    by_cases h1 : kind < 1
    · exact pos h1 ((hj _).2 (by unfold code; rw [if_neg (by omega)]))
    · refine neg h1 ?_
      by_cases h6 : kind > 6
      · rw [show decide (kind > 6) = true by simpa using h6]
        exact (hj _).2 (by unfold code; rw [if_neg (by omega)])
      · rw [show decide (kind > 6) = false by simpa using h6]
        refine Ev.step (fun k => by rw [q18.j0]) ?_
        refine neg (by simp) ?_
        rw [named_eq, isG_eq]
        unfold code
        rw [if_pos (by omega)]
        refine bnd (Ev.now _) ?_
        by_cases hk : kind = 1 ∨ kind = 2 ∨ kind = 4
        · rw [if_pos hk]
          refine pos (by simpa using hk) (bnd (Ev.now _) ?_)
          by_cases ha : 0 ≤ a ∧ a < n
          · rw [if_pos ha]; exact pos (by simpa using ha) (Ev.now _)
          · rw [if_neg ha]; exact neg (by simpa using ha) (Ev.now _)
        · rw [if_neg hk]
          exact neg (by simpa using hk) (Ev.now _)
  · rw [if_neg hg]
    exact neg (by simpa using hg) ((hj _).2 rfl)
end Go.Proofs.Ytcfhffhmpalkbaa.U
end
section
namespace Go.Proofs.Ytcfhffhmpalkbaa.U
open Go.RowKit Go.Proofs.Ytcfhffhmpalkbaa.P Go.Proofs.YtcfhffhmpalkbaaW.PrintWords Go.Proofs.YtcfhffhmpalkbaaW.PrintLast Go.Proofs.YtcfhffhmpalkbaaW.PrintMore
set_option linter.unusedVariables false
set_option linter.unusedSimpArgs false
theorem may_of_rise {xs : List Int} (h : xs.Pairwise (· < ·)) (hx : ∀ x ∈ xs, 0 ≤ x ∧ x ≤ 15) : MayP xs := by
  intro i hi
  have hm := hx _ (getD_mem (d := 0) hi)
  refine ⟨hm.1, hm.2, fun h0 => ?_⟩
  have := List.pairwise_iff_getElem.1 h (i - 1) i (by omega) hi (by omega)
  rwa [getD_lt hi, getD_lt (show i - 1 < xs.length by omega)]
theorem rise_of_may {xs : List Int} (h : MayP xs) : xs.Pairwise (· < ·) := by
  refine List.pairwise_iff_getElem.2 fun i j hi hj hij => ?_
  have := h.mono (j - i) i (by omega)
  rw [show i + (j - i) = j by omega, getD_lt hi, getD_lt hj] at this
  omega
theorem nodup_of_rise {xs : List Int} (h : xs.Pairwise (· < ·)) : xs.Nodup := h.imp fun hab => by omega
def into (w : Nat) : Nat → List (List Int) → List Int
  | _, [] => []
  | i, r :: rs => (if (w : Int) ∈ r then [(i : Int)] else []) ++ into w (i + 1) rs
theorem fold_row (i : Nat) (w : Nat) : ∀ (r : List Int) (st : List (List Int)), r.Nodup → (∀ v ∈ r, 0 ≤ v ∧ v.toNat < st.length) → ((r.map fun v => (⟨i, v⟩ : S78)).foldl tstep st).getD w [] = st.getD w [] ++ (if (w : Int) ∈ r then [(i : Int)] else [])
  | [], st, _, _ => by simp
  | v :: r, st, hn, hv => by
    obtain ⟨h1, h2⟩ := List.nodup_cons.1 hn
    have hv0 := hv v (by simp)
    rw [List.map_cons, List.foldl_cons, fold_row i w r _ h2 (fun u hu => by rw [tstep_length]; exact hv u (by simp [hu]))]
    unfold tstep
    rw [getD_set _ _ _ _ hv0.2]
    by_cases e : w = v.toNat
    · have e2 : (w : Int) = v := by omega
      rw [if_pos e, e2, if_neg h1, e]
      simp
    · have e2 : ¬ (w : Int) = v := by omega
      rw [if_neg e]
      simp [e2]
theorem fold_rows_at (w : Nat) : ∀ (xs : List (List Int)) (i : Nat) (st : List (List Int)), (∀ r ∈ xs, r.Nodup ∧ ∀ v ∈ r, 0 ≤ v ∧ v.toNat < st.length) → ((prs i xs).foldl tstep st).getD w [] = st.getD w [] ++ into w i xs
  | [], i, st, _ => by simp [prs, into]
  | r :: rs, i, st, h => by
    have hr := h r (by simp)
    rw [prs, List.foldl_append, fold_rows_at w rs (i + 1) _ (fun q hq => by rw [fold_length]; exact h q (by simp [hq])), fold_row i w r st hr.1 hr.2, into]
    simp
theorem into_mem (w : Nat) : ∀ (xs : List (List Int)) (i : Nat) (u : Int), u ∈ into w i xs ↔ ∃ j, j < xs.length ∧ u = ((i + j : Nat) : Int) ∧ (w : Int) ∈ xs.getD j []
  | [], i, u => by simp [into]
  | r :: rs, i, u => by
    rw [into, List.mem_append, into_mem w rs (i + 1) u]
    constructor
    · rintro (h | ⟨j, hj, e, hm⟩)
      · by_cases q : (w : Int) ∈ r
        · rw [if_pos q] at h
          exact ⟨0, by simp, by simpa using h, by simpa using q⟩
        · rw [if_neg q] at h; cases h
      · exact ⟨j + 1, by simp only [List.length_cons]; omega, by omega, by simpa using hm⟩
    · rintro ⟨j, hj, e, hm⟩
      rcases Nat.eq_zero_or_pos j with rfl | h0
      · have q : (w : Int) ∈ r := by simpa using hm
        exact .inl (by rw [if_pos q]; simpa using e)
      · obtain ⟨j, rfl⟩ : ∃ m, j = m + 1 := ⟨j - 1, by omega⟩
        exact .inr ⟨j, by simp only [List.length_cons] at hj; omega, by omega, by simpa using hm⟩
theorem into_rise (w : Nat) : ∀ (xs : List (List Int)) (i : Nat), (into w i xs).Pairwise (· < ·)
  | [], i => List.Pairwise.nil
  | r :: rs, i => by
    rw [into]
    refine List.pairwise_append.2 ⟨by split <;> simp, into_rise w rs (i + 1), fun a ha b hb => ?_⟩
    obtain ⟨j, _, e, _⟩ := (into_mem w rs (i + 1) b).1 hb
    split at ha
    · simp at ha; omega
    · cases ha
theorem turn_at {N : Nat} {out : List (List Int)} (hg : Good N out) (w : Nat) : (turn N out).getD w [] = into w 0 out := by
  unfold turn
  rw [fold_rows_at w out 0 _ (fun r hr => ?_)]
  · simp [List.getD_eq_getElem?_getD, List.getElem?_replicate]; split <;> simp
  · obtain ⟨i, hi, rfl⟩ := List.mem_iff_getElem.1 hr
    have hi' : i < N := by have := hg.len; omega
    rw [← getD_lt (d := []) hi]
    exact ⟨nodup_of_rise (rise_of_may (hg.may i hi')), fun v hv => by have := hg.row i hi' v hv; simp only [List.length_replicate]; omega⟩
theorem lsum_set : ∀ (st : List (List Int)) (i : Nat) (r : List Int), i < st.length → lsum (st.set i r) + (st.getD i []).length = lsum st + r.length
  | [], i, r, h => by simp at h
  | x :: st, 0, r, _ => by simp only [List.set_cons_zero, lsum_cons, List.getD_cons_zero]; omega
  | x :: st, i + 1, r, h => by
    have := lsum_set st i r (by simpa using h)
    simp only [List.set_cons_succ, lsum_cons, List.getD_cons_succ]
    omega
theorem lsum_fold (ps : List S78) : ∀ st : List (List Int), (∀ p ∈ ps, p.f1.toNat < st.length) → lsum (ps.foldl tstep st) = lsum st + ps.length := by
  induction ps with
  | nil => intro st _; rfl
  | cons p ps ih =>
    intro st h
    rw [List.foldl_cons, ih _ (fun q hq => by rw [tstep_length]; exact h q (by simp [hq]))]
    have := lsum_set st p.f1.toNat (st.getD p.f1.toNat [] ++ [p.f0]) (h p (by simp))
    rw [List.length_append, List.length_singleton] at this
    unfold tstep
    simp only [List.length_cons]
    omega
theorem lsum_nils (n : Nat) : lsum (List.replicate n []) = 0 := by
  induction n with
  | zero => rfl
  | succ n ih => rw [List.replicate_succ, lsum_cons, ih]; rfl
theorem turn_sum {N : Nat} {out : List (List Int)} (hg : Good N out) : lsum (turn N out) = lsum out := by
  unfold turn
  rw [lsum_fold, lsum_nils, prs_length]
  · omega
  · intro p hp
    obtain ⟨i, hi, _, hm⟩ := prs_mem 0 out p hp
    have := hg.row i (by have := hg.len; omega) _ hm
    simp only [List.length_replicate]
    omega
theorem turn_good {N : Nat} {out : List (List Int)} (hg : Good N out) : Good N (turn N out) := by
  have hN := hg.le
  have hlen := hg.len
  have hm : ∀ i v, v ∈ (turn N out).getD i [] → 0 ≤ v ∧ v < N := fun i v hv => by
    rw [turn_at hg, into_mem] at hv
    obtain ⟨j, hj, e, _⟩ := hv
    omega
  refine ⟨hN, turn_length N out, fun i _ v hv => hm i v hv, fun i _ => may_of_rise (by rw [turn_at hg]; exact into_rise i out 0) (fun x hx => by have := hm i x hx; omega), by rw [turn_sum hg]; exact hg.sum⟩
theorem turn_edge {N : Nat} {out : List (List Int)} (hg : Good N out) (u w : Nat) : Edge (turn N out) w u ↔ u < N ∧ Edge out u w := by
  have hlen := hg.len
  unfold Edge
  rw [turn_at hg, into_mem]
  constructor
  · rintro ⟨j, hj, e, hm⟩
    obtain rfl : u = j := by omega
    exact ⟨by omega, hm⟩
  · rintro ⟨h, hm⟩
    exact ⟨u, by omega, by omega, hm⟩
theorem Good.graph {N : Nat} {out : List (List Int)} (hg : Good N out) : GraphP (N : Int) out := by
  have hN := hg.le
  have hlen := hg.len
  refine ⟨by omega, by omega, by omega, fun i hi => ⟨hg.may i (by omega), fun h => ?_⟩, hg.sum⟩
  have := hg.row i (by omega) _ (getD_mem (d := 0) (show (out.getD i []).length - 1 < (out.getD i []).length by omega))
  exact this.2
theorem turn_part {N : Nat} {out : List (List Int)} (hg : Good N out) {l : List Int} (h : PartOf N (turn N out) l) : PartOf N out l := by
  refine ⟨⟨h.half.len, h.half.num, fun v hv f hf => ?_⟩, fun u w hu hw he => (h.edge w u hw hu ((turn_edge hg u w).2 ⟨hu, he⟩)).symm⟩
  exact h.half.con v hv f fun a b ha hb hE => (hf b a hb ha ((turn_edge hg b a).1 hE).2).symm
theorem Half.conn {N : Nat} {out : List (List Int)} {a : Nat} {d : List Int} (h : Half N out a d) : ∀ s : Nat, ∀ v, v < N → d.getD v 0 = s → Conn N out a v := by
  intro s
  induction s with
  | zero =>
    intro v hv hs
    obtain rfl := h.zero v hv (by simpa using hs)
    exact Conn.rfl' v
  | succ s ih =>
    intro v hv hs
    obtain ⟨u, hu, he, h3⟩ := h.pred v hv (by omega)
    exact (ih u hu (by omega)).trans (Conn.of hu hv he)
def isum (c : List Int) : Int := c.foldr (· + ·) 0
theorem isum_cons (x : Int) (c : List Int) : isum (x :: c) = x + isum c := rfl
theorem isum_append (c d : List Int) : isum (c ++ d) = isum c + isum d := by
  induction c with
  | nil => simp [isum]
  | cons x c ih => rw [List.cons_append, isum_cons, ih, isum_cons]; omega
theorem isum_zeros (n : Nat) : isum (List.replicate n 0) = 0 := by
  induction n with
  | zero => rfl
  | succ n ih => rw [List.replicate_succ, isum_cons, ih]; rfl
theorem isum_set : ∀ (c : List Int) (i : Nat) (v : Int), i < c.length → isum (c.set i v) + c.getD i 0 = isum c + v
  | [], i, v, h => by simp at h
  | x :: c, 0, v, _ => by simp only [List.set_cons_zero, isum_cons, List.getD_cons_zero]; omega
  | x :: c, i + 1, v, h => by
    have := isum_set c i v (by simpa using h)
    simp only [List.set_cons_succ, isum_cons, List.getD_cons_succ]
    omega
theorem cnt_sum {N : Nat} {out : List (List Int)} (hg : Good N out) : isum (cnt out) = N ∧ ∀ j, 0 ≤ (cnt out).getD j 0 ∧ (cnt out).getD j 0 ≤ 16 := by
  have hN := hg.le
  have hlen := hg.len
  have key : ∀ (xs : List (List Int)) (c : List Int) (b : Nat), (∀ j, 0 ≤ c.getD j 0 ∧ c.getD j 0 ≤ b) → b + xs.length ≤ 1000 → isum (xs.foldl cstep c) = isum c + xs.length ∧ ∀ j, 0 ≤ (xs.foldl cstep c).getD j 0 ∧ (xs.foldl cstep c).getD j 0 ≤ b + xs.length := by
    intro xs
    induction xs with
    | nil => intro c b h _; exact ⟨by simp, by simpa using h⟩
    | cons r rs ih =>
      intro c b h hx
      simp only [List.length_cons] at hx
      have hp : ∀ j, 0 ≤ (pad c r.length).getD j 0 ∧ (pad c r.length).getD j 0 ≤ b := fun j => by
        unfold pad
        by_cases q : j < c.length
        · have := h j
          rw [show (c ++ List.replicate (r.length + 1 - c.length) (0 : Int)).getD j 0 = c.getD j 0 by simp [List.getD_eq_getElem?_getD, List.getElem?_append_left q]]
          exact this
        · rw [show (c ++ List.replicate (r.length + 1 - c.length) (0 : Int)).getD j 0 = 0 by
            rw [List.getD_eq_getElem?_getD, List.getElem?_append_right (by omega), List.getElem?_replicate]; split <;> rfl]
          omega
      have hpl : r.length < (pad c r.length).length := by rw [pad_length]; omega
      have hw : wrap64 ((pad c r.length).getD r.length 0 + 1) = (pad c r.length).getD r.length 0 + 1 := by
        have := hp r.length
        exact w64 (by omega) (by omega)
      have hs : isum (cstep c r) = isum c + 1 := by
        unfold cstep
        have := isum_set (pad c r.length) r.length (wrap64 ((pad c r.length).getD r.length 0 + 1)) hpl
        have e : isum (pad c r.length) = isum c := by unfold pad; rw [isum_append, isum_zeros]; omega
        rw [hw] at this ⊢
        omega
      have hc : ∀ j, 0 ≤ (cstep c r).getD j 0 ∧ (cstep c r).getD j 0 ≤ ((b + 1 : Nat) : Int) := fun j => by
        unfold cstep
        rw [getD_set _ _ _ _ hpl, hw]
        have := hp r.length
        have := hp j
        split <;> omega
      obtain ⟨a1, a2⟩ := ih (cstep c r) (b + 1) hc (by omega)
      rw [List.foldl_cons]
      refine ⟨by rw [a1, hs]; simp only [List.length_cons]; omega, fun j => ?_⟩
      have := a2 j
      simp only [List.length_cons]
      omega
  obtain ⟨a1, a2⟩ := key out [] 0 (fun j => by simp) (by omega)
  unfold cnt
  refine ⟨by rw [a1, hlen]; simp [isum], fun j => ?_⟩
  have := a2 j
  omega
theorem code_k {N : Nat} {a : Nat} (ha : a < N) (kind : Int) (h1 : 1 ≤ kind) (h6 : kind ≤ 6) : code (N : Int) kind (a : Int) = 0 := by
  unfold code
  rw [if_pos ⟨h1, h6⟩]
  split
  · rw [if_pos (by omega)]
  · rfl
theorem code_z (n : Int) (kind a : Int) (h : kind = 3 ∨ kind = 5 ∨ kind = 6) : code n kind a = 0 := by
  unfold code
  rw [if_pos (by omega), if_neg (by omega)]
theorem ask_good {N : Nat} {out : List (List Int)} (hg : Good N out) {kind a : Int} (hc : code (N : Int) kind a = 0) : Ev (fun k => q18.f k (N : Int) out kind a) 0 := by
  have hs : Sm out := by have := hg.sum; have := hg.len; have := hg.le; unfold Sm; omega
  have := asked_ev (N : Int) out kind a hs
  rwa [if_pos hg.graph, hc] at this
theorem kout_ev {N : Nat} {out : List (List Int)} (hg : Good N out) {a : Nat} (ha : a < N) : Ev (fun k => q40.f k (N : Int) out (a : Int)) (out.getD a [], 0) := by
  have hlen := hg.len
  have hr := hg.rlen a
  unfold q40.f q24.f
  refine bnd (a := (out.getD a [], (0 : Int))) (bnd (ask_good hg (code_k ha 1 (by omega) (by omega))) (pos rfl (pos rfl (pos (by omega) (pos (by omega) ?_))))) (Ev.now _)
  rw [rd1N]; exact bnd (clone_ev _ (by omega)) (Ev.now _)
theorem kin_ev {N : Nat} {out : List (List Int)} (hg : Good N out) {a : Nat} (ha : a < N) : Ev (fun k => q43.f k (N : Int) out (a : Int)) ((turn N out).getD a [], 0) := by
  have hlen := turn_length N out
  unfold q43.f q24.f
  refine bnd (a := ((turn N out).getD a [], (0 : Int))) (bnd (ask_good hg (code_k ha 2 (by omega) (by omega))) (pos rfl (neg (by omega) (pos rfl (bnd (turned_ev N out hg) (pos (by omega) (pos (by dsimp only; omega) ?_))))))) (Ev.now _)
  rw [rd1N]; exact Ev.now _
theorem kcount_ev {N : Nat} {out : List (List Int)} (hg : Good N out) : Ev (fun k => q29.f k (N : Int) out) (cnt out, 0) := by
  have hs : Sm out := by have := hg.sum; have := hg.len; have := hg.le; unfold Sm; omega
  unfold q29.f q24.f
  exact bnd (a := (cnt out, (0 : Int))) (bnd (ask_good hg (code_z _ 3 _ (.inl rfl))) (pos rfl (neg (by omega) (neg (by omega) (pos rfl (bnd (count_ev _ out hs) (Ev.now _))))))) (Ev.now _)
theorem kfarQ_ev {N : Nat} {out : List (List Int)} (hg : Good N out) {a : Nat} (ha : a < N) : ∃ d, Dist N out a d ∧ Ev (fun k => q26.f k (N : Int) out (a : Int)) (d, 0) := by
  obtain ⟨d, hd, h⟩ := kfar_ev N out hg a ha
  refine ⟨d, hd, ?_⟩
  unfold q26.f q24.f
  exact bnd (a := (d, (0 : Int))) (bnd (ask_good hg (code_k ha 4 (by omega) (by omega))) (pos rfl (neg (by omega) (neg (by omega) (neg (by omega) (pos rfl (bnd h (Ev.now _)))))))) (Ev.now _)
theorem kpartQ_ev {N : Nat} {out : List (List Int)} (hg : Good N out) : ∃ l, PartOf N out l ∧ Ev (fun k => q25.f k (N : Int) out) (l, 0) := by
  obtain ⟨d, hd, h⟩ := kpart_ev N out hg
  refine ⟨d, hd, ?_⟩
  unfold q25.f q24.f
  exact bnd (a := (d, (0 : Int))) (bnd (ask_good hg (code_z _ 5 _ (.inr (.inl rfl)))) (pos rfl (neg (by omega) (neg (by omega) (neg (by omega) (neg (by omega) (pos rfl (bnd h (Ev.now _))))))))) (Ev.now _)
theorem gturn_ev (n : Int) (out : List (List Int)) (hs : Sm out) : (GraphP n out → Ev (fun k => q32.f k n out) (n, turn n.toNat out, 0)) ∧ (¬ GraphP n out → Ev (fun k => q32.f k n out) (0, [], 1)) := by
  refine ⟨fun h => ?_, fun h => ?_⟩
  · obtain ⟨e, hg⟩ := h.good
    unfold q32.f
    refine bnd (gmayG_ev n out hs) (pos (by simpa using h) ?_)
    have := turned_ev n.toNat out hg
    rw [← e] at this
    exact bnd this (Ev.now _)
  · unfold q32.f
    exact bnd (gmayG_ev n out hs) (neg (by simpa using h) (Ev.now _))
end Go.Proofs.Ytcfhffhmpalkbaa.U
end
section
namespace Go.Proofs.Ytcfhffhmpalkbaa.U
open Go.RowKit Go.Proofs.Ytcfhffhmpalkbaa.P Go.Proofs.YtcfhffhmpalkbaaW.PrintWords Go.Proofs.YtcfhffhmpalkbaaW.PrintLast Go.Proofs.YtcfhffhmpalkbaaW.PrintMore
set_option linter.unusedVariables false
set_option linter.unusedSimpArgs false
instance (out : List (List Int)) : Decidable (Sm out) := by unfold Sm; infer_instance
theorem wakes_ev : Ev (fun k => q31.f k) true := Ev.of (q31.mono) (k := 60) (by decide +kernel)
theorem wt_Sm {g : S42} (h : wt g ≤ 1200) : Sm g.f1 := by unfold wt at h; unfold Sm; omega
end Go.Proofs.Ytcfhffhmpalkbaa.U
end
