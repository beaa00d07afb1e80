import Derived.Test.YtobccadjomcoiaaSxP0
import Derived.Test.YtobccadjomcoiaaRows
import Derived.WalkKit
import Derived.ProofKit
import Derived.OpenShut
import Derived.ShutString
import Derived.ChangeOld
import Derived.Below
import Derived.SizedLaws
set_option linter.all false
namespace Go.Proofs.Ytobccadjomcoiaa
open Go.RowKit Go.XM Go.ChangeShapes Go.WideShapes
set_option linter.unusedVariables false
set_option linter.unusedSimpArgs false
def Sz_herbariumlaw17_Ask (x : herbariumlaw17_Ask) : Prop := (x.length * 16 ≤ 140737488351232 ∧ ∀ y0 ∈ x, y0.size ≤ 140737488351232)
set_option maxRecDepth 100000 in
theorem opn_herbariumlaw17_Ask : Opn Try.prog 24 Ty_herbariumlaw17_Ask.enc Sz_herbariumlaw17_Ask := by
  have h := Opn.struct (P := Try.prog) (sz := 1) (E := Ty_herbariumlaw17_Ask.enc) (f := fun x : herbariumlaw17_Ask => x) (g := fun x => x) Try.underlying24 (by kernel_rfl) (fun _ => rfl) (fun _ => rfl) (OpnFs.one (sz := 1) rfl (by kernel_rfl) (Opn.slice (B := 16) (sz := 1) Try.underlying22 (by kernel_rfl) (by decide) (by kernel_rfl) (fun _ => rfl) (Opn.string Try.underlying9)))
  exact h
namespace sealExact
open Go.ChangeShapes Go.WideShapes Go.ChangeAt Go.RowKit Go.XM
open Go.ChangeMaps (open_string shut_string)
theorem own : ownKnob Try.prog.godebug = none := by kernel_rfl
theorem laidOut : laidOutB Try.prog = true := by kernel_rfl
def Pure : Prop := ∀ x : herbariumlaw17_Ask, Sz_herbariumlaw17_Ask x → ∃ K, herbariumlaw17_SealExact K x = some true
theorem walk (P : Pure) (x : herbariumlaw17_Ask) (hS : Sz_herbariumlaw17_Ask x) (w : World) (cs : List Value) (hK : CellsR w cs (Ty_herbariumlaw17_Ask.enc x)) :
    Calls Try.prog 3 #[.agg cs.toArray] w fun e w' => e = .returned (.bool true) ∧ Below w.heap.size w w' := by
  obtain ⟨k, h⟩ := P x hS
  exact law_walk (herbariumlaw17_SealExact.ct k 0 x true h) rfl (fun _ => rfl) rfl hK
set_option maxRecDepth 100000 in
theorem lifted (P : Pure) (os : Os) (started : os.Started) (H : Type) (enc : TypeId × Value → H) :
    ReturnsInHanded {} Try.checked os 3 .any (Rows.sealExactSpec.pre6 enc Try.prog Try.f3 Rows.sealExactRow.domain false) (Rows.sealExactSpec.post enc Try.prog Try.f3 false true false false) := by
  refine returnsInHanded_of_change_sized (C := Try.checked) own started (by kernel_rfl) Try.func3
    (ChangeSpec.witness6 (enc := enc) (C := Try.checked) false ⟨#[], #[.agg #[.slice none 0 0]], []⟩ 8 (by kernel_rfl) (by kernel_rfl) (by kernel_rfl) (by kernel_rfl)) ?_
  intro W base args ds gs before hval0 hW hcnd hsz0 _
  have hsz : (DataW.weightsEach Try.prog (Try.f3.params.toList ++ Rows.sealExactSpec.plain.varTypes Try.prog) (ds ++ gs)).all (· ≤ reachBytes) = true := hsz0
  have hval : ∀ (j : Nat) t v, Try.f3.params[j]? = some t → args[j]? = some v → Value.okWide Try.prog W .any base t v := hval0
  have hW' := hW
  obtain ⟨p, q, hA0, hV, rfl, hfz, hnd⟩ := hW
  have hA : DataW.TrodAll enc Try.prog W 0 (fun _ => true) true Try.f3.params.toList args.toList ds p := hA0
  rw [Try.params3] at hA hval hsz
  obtain ⟨v0, vs0, d0, ds0, p0, q0, hargs, rfl, rfl, h0, r0⟩ := trodAll_cons hA
  obtain ⟨rfl, rfl, rfl⟩ := trodAll_nil r0
  obtain rfl : args = #[v0] := by cases args; simp_all
  obtain ⟨rfl, rfl⟩ := trodVars_none hV
  have hv0 := hval 0 24 v0 rfl rfl
  unfold Value.okWide at hv0
  rw [Try.underlying24] at hv0
  obtain ⟨cs, rfl, _⟩ := hv0
  have k0 := h0
  have lt0 : ∀ x ∈ p0, x.block < W.heap.size := by obtain ⟨m, hm⟩ := k0; exact DataW.trod_lt m _ _ _ hm
  have hw0 : ∀ n ∈ d0.weights Try.prog 24, n ≤ 140737488351232 := by
    intro n hn
    have := List.all_eq_true.1 hsz n (DataW.weights_mem_each (j := 0) rfl rfl n hn)
    exact of_decide_eq_true this
  obtain ⟨fuel, hf⟩ := h0
  obtain ⟨x, hK, hS⟩ := opn_herbariumlaw17_Ask _ enc W fuel _ _ hf hw0
  clear hA0 hval0 hsz0 hsz
  refine (walk P x hS W cs.toList hK).mono fun e W' ⟨he, bel⟩ => ?_
  subst he
  exact ⟨_, rfl, _, _, _, [], _, [], hW', trodAll_mk1 (shut_bool Try.underlying4 _), (trodAll_cons_mk (Below.trod laidOut (by kernel_rfl) (of_decide_eq_true (by kernel_rfl)) k0 bel lt0) trodAll_mk0), rfl, bel.frame _, fun h => by cases h⟩
theorem over (P : Pure) : Rows.sealExactRow.holds Try.pinned (OpenSpec.ofChange Rows.sealExactSpec) :=
  OpenClaim.holds_of_wide 3 Try.f3 rfl rfl rfl rfl rfl rfl rfl ⟨rfl, rfl, rfl, rfl, rfl⟩ rfl rfl rfl rfl rfl (by kernel_rfl) Try.func3 (by kernel_rfl)
    (of_decide_eq_true (by kernel_rfl)) (by unfold Func.isWrapper; first | (rw [if_pos (by decide +kernel)]; kernel_rfl) | (rw [if_neg (by decide +kernel)]; exact ⟨rfl, rfl⟩))
    (fun os started H enc _ => lifted P os started H enc)
theorem proved (P : Pure) : Rows.SealExactSaid := over P
end sealExact
theorem sealExact_holds : Rows.SealExactSaid := sealExact.proved (fun x h => Go.XL.sealExact_pure x h)
end Go.Proofs.Ytobccadjomcoiaa
