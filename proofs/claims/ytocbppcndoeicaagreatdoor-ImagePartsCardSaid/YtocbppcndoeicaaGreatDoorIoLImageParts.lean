import Derived.Test.YtocbppcndoeicaaGreatDoorIoP0
import Derived.Test.YtocbppcndoeicaaGreatDoorRows
import Derived.Test.YtocbppcndoeicaaGreatDoorCards
import Derived.Test.YtocbppcndoeicaaGreatDoorTie
import Derived.LaidMore
import Derived.Lay
import Derived.SevenTiedAt
import Derived.Stop.Joined
import Derived.WalkKit
import Derived.ProofKit
import Derived.OpenShut
import Derived.ShutString
import Derived.ChangeOld
import Derived.Below
import Derived.SizedLaws
set_option linter.all false
namespace Go.Proofs.YtocbppcndoeicaaGreatDoor
open Go.RowKit Go.XM Go.ChangeShapes Go.WideShapes
set_option linter.unusedVariables false
set_option linter.unusedSimpArgs false
def Sz_herbariumlaw17_Ask (x : herbariumlaw17_Ask) : Prop := (x.length * 16 ≤ 140737488351232 ∧ ∀ y0 ∈ x, y0.size ≤ 140737488351232)
set_option maxRecDepth 100000 in
theorem opn_herbariumlaw17_Ask : Opn Tryz.prog 24 Ty_herbariumlaw17_Ask.enc Sz_herbariumlaw17_Ask := by
  have h := Opn.struct (P := Tryz.prog) (sz := 1) (E := Ty_herbariumlaw17_Ask.enc) (f := fun x : herbariumlaw17_Ask => x) (g := fun x => x) Tryz.underlying24 (by kernel_rfl) (fun _ => rfl) (fun _ => rfl) (OpnFs.one (sz := 1) rfl (by kernel_rfl) (Opn.slice (B := 16) (sz := 1) Tryz.underlying22 (by kernel_rfl) (by decide) (by kernel_rfl) (fun _ => rfl) (Opn.string Tryz.underlying9)))
  exact h
namespace imageParts
open Go.ChangeShapes Go.WideShapes Go.ChangeAt Go.RowKit Go.XM
open Go.ChangeMaps (open_string shut_string)
theorem own : ownKnob Tryz.prog.godebug = none := by kernel_rfl
theorem laidOut : laidOutB Tryz.prog = true := by kernel_rfl
def Pure : Prop := ∀ x : herbariumlaw17_Ask, Sz_herbariumlaw17_Ask x → ∃ K, herbariumlaw18_ImageParts K x = some true
theorem walk (P : Pure) (x : herbariumlaw17_Ask) (hS : Sz_herbariumlaw17_Ask x) (w : World) (cs : List Value) (hK : CellsR w cs (Ty_herbariumlaw17_Ask.enc x)) :
    Calls Tryz.prog 3 #[.agg cs.toArray] w fun e w' => e = .returned (.bool true) ∧ Below w.heap.size w w' := by
  obtain ⟨k, h⟩ := P x hS
  exact law_walk (herbariumlaw18_ImageParts.ct k 0 x true h) rfl (fun _ => rfl) rfl hK
set_option maxRecDepth 100000 in
theorem lifted (P : Pure) (os : Os) (started : os.Started) (H : Type) (enc : TypeId × Value → H) :
    ReturnsInHanded {} Tryz.checked os 3 .any (fun w args => (Rows.imagePartsSpec.pre enc Tryz.prog Tryz.f3 Rows.imagePartsRow.domain false w args ∧ laidMetH Tryz.prog Rows.imagePartsRow.laid w) ∧ sizedMet enc Tryz.prog Tryz.f3 (OpenSpec.ofChange Rows.imagePartsSpec) false w args) (Rows.imagePartsSpec.post enc Tryz.prog Tryz.f3 false true false false) := by
  refine returnsInHanded_of_change_and (C := Tryz.checked) (X := fun w _ => laidMetH Tryz.prog Rows.imagePartsRow.laid w) (fun _ _ _ hh h => h.of_heap hh) own started (by kernel_rfl) Tryz.func3
    (ChangeSpec.witness_shaped (enc := enc) (C := Tryz.checked) (os := os) (X := fun w _ => laidMetH Tryz.prog Rows.imagePartsRow.laid w) false (World.laidAll Tryz.prog os Rows.imagePartsRow.laid) #[.agg #[.slice none 0 0]] 8 (World.laidAll_os _ _ _)
      (World.shaped_of_ZipB (by kernel_rfl) (by kernel_rfl)) (by kernel_rfl) (by kernel_rfl) (by kernel_rfl)
      (by rw [MakeChecks.laidMetH_plain _ _ _ (by kernel_rfl)]; exact laidMet_laidAll _ (by kernel_rfl) (by kernel_rfl))) ?_
  intro W base args ds gs before hval0 hW hcnd hsz0 _ _
  have hsz : (DataW.weightsEach Tryz.prog (Tryz.f3.params.toList ++ Rows.imagePartsSpec.plain.varTypes Tryz.prog) (ds ++ gs)).all (· ≤ reachBytes) = true := hsz0
  have hval : ∀ (j : Nat) t v, Tryz.f3.params[j]? = some t → args[j]? = some v → Value.okWide Tryz.prog W .any base t v := hval0
  have hW' := hW
  obtain ⟨p, q, hA0, hV, rfl, hfz, hnd⟩ := hW
  have hA : DataW.TrodAll enc Tryz.prog W 0 (fun _ => true) true Tryz.f3.params.toList args.toList ds p := hA0
  rw [Tryz.params3] at hA hval hsz
  obtain ⟨v0, vs0, d0, ds0, p0, q0, hargs, rfl, rfl, h0, r0⟩ := trodAll_cons hA
  obtain ⟨rfl, rfl, rfl⟩ := trodAll_nil r0
  obtain rfl : args = #[v0] := by cases args; simp_all
  obtain ⟨rfl, rfl⟩ := trodVars_none hV
  have hv0 := hval 0 24 v0 rfl rfl
  unfold Value.okWide at hv0
  rw [Tryz.underlying24] at hv0
  obtain ⟨cs, rfl, _⟩ := hv0
  have k0 := h0
  have lt0 : ∀ x ∈ p0, x.block < W.heap.size := by obtain ⟨m, hm⟩ := k0; exact DataW.trod_lt m _ _ _ hm
  have hw0 : ∀ n ∈ d0.weights Tryz.prog 24, n ≤ 140737488351232 := by
    intro n hn
    have := List.all_eq_true.1 hsz n (DataW.weights_mem_each (j := 0) rfl rfl n hn)
    exact of_decide_eq_true this
  obtain ⟨fuel, hf⟩ := h0
  obtain ⟨x, hK, hS⟩ := opn_herbariumlaw17_Ask _ enc W fuel _ _ hf hw0
  clear hA0 hval0 hsz0 hsz
  refine (walk P x hS W cs.toList hK).mono fun e W' ⟨he, bel⟩ => ?_
  subst he
  exact ⟨_, rfl, _, _, _, [], _, [], hW', trodAll_mk1 (shut_bool Tryz.underlying4 _), (trodAll_cons_mk (Below.trod laidOut (by kernel_rfl) (of_decide_eq_true (by kernel_rfl)) k0 bel lt0) trodAll_mk0), rfl, bel.frame _, fun h => by cases h⟩
theorem c2 : mapsRowed Tryz.prog = true := by kernel_rfl
theorem c9 : (Rows.imagePartsRow.inPlace == Tryz.prog.inPlace 3) = true := by kernel_rfl
theorem c10 : (Rows.imagePartsRow.unfollowed == Tryz.prog.unfollowed 3) = true := by kernel_rfl
theorem c11 : (Rows.imagePartsRow.recurses == Tryz.prog.recurses 3) = true := by kernel_rfl
theorem c12 : (Rows.imagePartsRow.named == Tryz.prog.varsNamed 3) = true := by kernel_rfl
theorem c22 : (Rows.imagePartsRow.plainKeys == Tryz.prog.plainKeys) = true := by kernel_rfl
theorem c24 : Tryz.prog.stopsHeard = true := by kernel_rfl
theorem c25 : Tryz.prog.mayEnter = true := by kernel_rfl
theorem c26 : (Rows.imagePartsRow.lifted == Tryz.prog.liftsFinal) = true := by kernel_rfl
theorem c27 : (Tryz.prog.make == some Rows.imagePartsRow.make) = true := by kernel_rfl
theorem an {a b : Bool} (h : a = true) (k : b = true) : (a && b) = true := by rw [h, k]; rfl
theorem closed : joinedFacts Tryz.prog 3 Tryz.f3 Rows.imagePartsSpec Rows.imagePartsRow = true := (an (an (an (an (an (an (an (an (an (an (an (an (an (an (an (an (an (an (an (an (an (an (an (an (an (an (an (an (an (an (an (by kernel_rfl) laidOut) c2) (by kernel_rfl)) (by kernel_rfl)) (by kernel_rfl)) (by kernel_rfl)) (by kernel_rfl)) (by kernel_rfl)) c9) c10) c11) c12) (by kernel_rfl)) (by kernel_rfl)) (by kernel_rfl)) (by kernel_rfl)) (by kernel_rfl)) (by kernel_rfl)) (by kernel_rfl)) (by kernel_rfl)) (by kernel_rfl)) c22) (by kernel_rfl)) c24) c25) c26) c27) (by kernel_rfl)) (by kernel_rfl)) (by kernel_rfl)) (by kernel_rfl))
theorem d1 : Tryz.prog.mainIs = some (true, "4c950d668b5ae28b96f8fde2ff5a90282b6df3a786e5cbed40625414c6f8146c".toList) := by kernel_rfl
theorem d2 : false = Tryz.prog.looks [] := by kernel_rfl
theorem d3 : ([24].all fun u => !Tryz.prog.wantsStandIn u) = true := by kernel_rfl
theorem d4 : false = Rows.imagePartsRow.goesBy Tryz.prog := by kernel_rfl
theorem d5 : Tryz.prog.funcNamed "herbarium/herbariumlaw18.ImageParts" = some 3 := by kernel_rfl
theorem over (P : Pure) : Rows.imagePartsRow.holds Tryz.pinned (OpenSpec.ofChange Rows.imagePartsSpec) :=
  OpenClaim.holds_of_wide 3 Tryz.f3 rfl rfl rfl rfl rfl rfl rfl ⟨rfl, rfl, rfl, rfl, rfl⟩ rfl rfl rfl rfl rfl d5 Tryz.func3 closed
    (of_decide_eq_true (by kernel_rfl)) (by unfold Func.isWrapper; first | (rw [if_pos (by decide +kernel)]; kernel_rfl) | (rw [if_neg (by decide +kernel)]; exact ⟨rfl, rfl⟩))
    (fun os started H enc _ => lifted P os started H enc)
theorem proved (P : Pure) : Rows.ImagePartsCardSaid :=
  Claim7.holds_tied_plain_at .later [] [.data, .pinned] true (true, "4c950d668b5ae28b96f8fde2ff5a90282b6df3a786e5cbed40625414c6f8146c") false (over P) (fun _ h => by cases h) (by kernel_rfl) (fun _ h => by cases h) imageParts_row_tie rfl ⟨rfl, rfl⟩ d1 rfl
    (fun f fn hf hfn => by
      obtain rfl : f = 3 := Option.some.inj (d5.symm.trans hf) |>.symm
      obtain rfl : fn = Tryz.f3 := (Option.some.inj (Tryz.func3.symm.trans hfn)).symm
      exact ⟨d2, fun j t ht => by
        rw [Tryz.params3] at ht
        have hm : t ∈ [24] := by simpa using Array.mem_of_getElem? ht
        exact (show Tryz.prog.wantsStandIn t = false by simpa using List.all_eq_true.1 d3 t hm)⟩)
    d4
end imageParts
theorem imageParts_holds : Rows.ImagePartsCardSaid := imageParts.proved (fun x h => Go.XL.imageParts_pure x h)
end Go.Proofs.YtocbppcndoeicaaGreatDoor
