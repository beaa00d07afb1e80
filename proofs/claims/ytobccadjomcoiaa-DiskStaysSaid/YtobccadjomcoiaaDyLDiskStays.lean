import Derived.Test.YtobccadjomcoiaaDyP0
import Derived.Test.YtobccadjomcoiaaRows
import Derived.WalkKit
import Derived.ProofKit
import Derived.OpenShut
import Derived.ShutString
import Derived.ChangeOld
import Derived.Below
import Derived.SizedLaws
set_option linter.all false
namespace Go.Proofs.Ytobccadjomcoiaa
open Go.RowKit Go.XM Go.ChangeShapes Go.WideShapes
set_option linter.unusedVariables false
set_option linter.unusedSimpArgs false
def Sz_api_Put (x : api_Put) : Prop := (Lit.int .i64 x.1).wf = true ∧ x.2.size ≤ 140737488351232
set_option maxRecDepth 100000 in
theorem opn_api_Put : Opn Try.prog 46 Ty_api_Put.enc Sz_api_Put := by
  have h := Opn.struct (P := Try.prog) (sz := 2) (E := Ty_api_Put.enc) (f := fun x : api_Put => x) (g := fun x => x) Try.underlying46 (by kernel_rfl) (fun _ => rfl) (fun _ => rfl) (OpnFs.cons (s1 := 1) (s2 := 1) rfl (by kernel_rfl) (Opn.int Try.underlying3) (OpnFs.one (sz := 1) rfl (by kernel_rfl) (Opn.string Try.underlying9)))
  exact h
def Sz_api_Disk (x : api_Disk) : Prop := (x.1.length * 16 ≤ 140737488351232 ∧ ∀ y0 ∈ x.1, y0.size ≤ 140737488351232) ∧ (x.2.length * 24 ≤ 140737488351232 ∧ ∀ y0 ∈ x.2, Sz_api_Put y0)
set_option maxRecDepth 100000 in
theorem opn_api_Disk : Opn Try.prog 36 Ty_api_Disk.enc Sz_api_Disk := by
  have h := Opn.struct (P := Try.prog) (sz := 2) (E := Ty_api_Disk.enc) (f := fun x : api_Disk => x) (g := fun x => x) Try.underlying36 (by kernel_rfl) (fun _ => rfl) (fun _ => rfl) (OpnFs.cons (s1 := 1) (s2 := 1) rfl (by kernel_rfl) (Opn.slice (B := 16) (sz := 1) Try.underlying22 (by kernel_rfl) (by decide) (by kernel_rfl) (fun _ => rfl) (Opn.string Try.underlying9)) (OpnFs.one (sz := 1) rfl (by kernel_rfl) (Opn.slice (B := 24) (sz := 2) Try.underlying34 (by kernel_rfl) (by decide) (by kernel_rfl) (fun _ => rfl) opn_api_Put)))
  exact h
def Sz_api_Do (x : api_Do) : Prop := True ∧ Sz_api_Put x.2
set_option maxRecDepth 100000 in
theorem opn_api_Do : Opn Try.prog 48 Ty_api_Do.enc Sz_api_Do := by
  have h := Opn.struct (P := Try.prog) (sz := 3) (E := Ty_api_Do.enc) (f := fun x : api_Do => x) (g := fun x => x) Try.underlying48 (by kernel_rfl) (fun _ => rfl) (fun _ => rfl) (OpnFs.cons (s1 := 1) (s2 := 2) rfl (by kernel_rfl) (Opn.bool Try.underlying4) (OpnFs.one (sz := 2) rfl (by kernel_rfl) opn_api_Put))
  exact h
def Sz_herbariumlaw19_Act (x : herbariumlaw19_Act) : Prop := (Lit.int .i64 x.1).wf = true ∧ (Lit.int .i64 x.2.1).wf = true ∧ (x.2.2.1.length * 32 ≤ 140737488351232 ∧ ∀ y0 ∈ x.2.2.1, Sz_api_Do y0) ∧ (x.2.2.2.length * 8 ≤ 140737488351232 ∧ ∀ y0 ∈ x.2.2.2, (Lit.int .i64 y0).wf = true)
set_option maxRecDepth 100000 in
theorem opn_herbariumlaw19_Act : Opn Try.prog 57 Ty_herbariumlaw19_Act.enc Sz_herbariumlaw19_Act := by
  have h := Opn.struct (P := Try.prog) (sz := 4) (E := Ty_herbariumlaw19_Act.enc) (f := fun x : herbariumlaw19_Act => x) (g := fun x => x) Try.underlying57 (by kernel_rfl) (fun _ => rfl) (fun _ => rfl) (OpnFs.cons (s1 := 1) (s2 := 3) rfl (by kernel_rfl) (Opn.int Try.underlying3) (OpnFs.cons (s1 := 1) (s2 := 2) rfl (by kernel_rfl) (Opn.int Try.underlying3) (OpnFs.cons (s1 := 1) (s2 := 1) rfl (by kernel_rfl) (Opn.slice (B := 32) (sz := 3) Try.underlying55 (by kernel_rfl) (by decide) (by kernel_rfl) (fun _ => rfl) opn_api_Do) (OpnFs.one (sz := 1) rfl (by kernel_rfl) (Opn.slice (B := 8) (sz := 1) Try.underlying52 (by kernel_rfl) (by decide) (by kernel_rfl) (fun _ => rfl) (Opn.int Try.underlying3))))))
  exact h
def Sz_herbariumlaw19_Script (x : herbariumlaw19_Script) : Prop := Sz_api_Disk x.1 ∧ (Lit.int .i64 x.2.1).wf = true ∧ (x.2.2.length * 64 ≤ 140737488351232 ∧ ∀ y0 ∈ x.2.2, Sz_herbariumlaw19_Act y0)
set_option maxRecDepth 100000 in
theorem opn_herbariumlaw19_Script : Opn Try.prog 39 Ty_herbariumlaw19_Script.enc Sz_herbariumlaw19_Script := by
  have h := Opn.struct (P := Try.prog) (sz := 4) (E := Ty_herbariumlaw19_Script.enc) (f := fun x : herbariumlaw19_Script => x) (g := fun x => x) Try.underlying39 (by kernel_rfl) (fun _ => rfl) (fun _ => rfl) (OpnFs.cons (s1 := 2) (s2 := 2) rfl (by kernel_rfl) opn_api_Disk (OpnFs.cons (s1 := 1) (s2 := 1) rfl (by kernel_rfl) (Opn.int Try.underlying3) (OpnFs.one (sz := 1) rfl (by kernel_rfl) (Opn.slice (B := 64) (sz := 4) Try.underlying37 (by kernel_rfl) (by decide) (by kernel_rfl) (fun _ => rfl) opn_herbariumlaw19_Act))))
  exact h
namespace diskStays
open Go.ChangeShapes Go.WideShapes Go.ChangeAt Go.RowKit Go.XM
open Go.ChangeMaps (open_string shut_string)
theorem own : ownKnob Try.prog.godebug = none := by kernel_rfl
theorem laidOut : laidOutB Try.prog = true := by kernel_rfl
def Pure : Prop := ∀ x : herbariumlaw19_Script, Sz_herbariumlaw19_Script x → ∃ K, herbariumlaw19_DiskStays K x = some true
theorem walk (P : Pure) (x : herbariumlaw19_Script) (hS : Sz_herbariumlaw19_Script x) (w : World) (cs : List Value) (hK : CellsR w cs (Ty_herbariumlaw19_Script.enc x)) :
    Calls Try.prog 6 #[.agg cs.toArray] w fun e w' => e = .returned (.bool true) ∧ Below w.heap.size w w' := by
  obtain ⟨k, h⟩ := P x hS
  exact law_walk (herbariumlaw19_DiskStays.ct k 0 x true h) rfl (fun _ => rfl) rfl hK
set_option maxRecDepth 100000 in
theorem lifted (P : Pure) (os : Os) (started : os.Started) (H : Type) (enc : TypeId × Value → H) :
    ReturnsInHanded {} Try.checked os 6 .any (Rows.diskStaysSpec.pre6 enc Try.prog Try.f6 Rows.diskStaysRow.domain false) (Rows.diskStaysSpec.post enc Try.prog Try.f6 false true false false) := by
  refine returnsInHanded_of_change_sized (C := Try.checked) own started (by kernel_rfl) Try.func6
    (ChangeSpec.witness6 (enc := enc) (C := Try.checked) false ⟨#[], #[.agg #[.slice none 0 0, .slice none 0 0, .int .i64 0, .slice none 0 0]], []⟩ 8 (by kernel_rfl) (by kernel_rfl) (by kernel_rfl) (by kernel_rfl)) ?_
  intro W base args ds gs before hval0 hW hcnd hsz0 _
  have hsz : (DataW.weightsEach Try.prog (Try.f6.params.toList ++ Rows.diskStaysSpec.plain.varTypes Try.prog) (ds ++ gs)).all (· ≤ reachBytes) = true := hsz0
  have hval : ∀ (j : Nat) t v, Try.f6.params[j]? = some t → args[j]? = some v → Value.okWide Try.prog W .any base t v := hval0
  have hW' := hW
  obtain ⟨p, q, hA0, hV, rfl, hfz, hnd⟩ := hW
  have hA : DataW.TrodAll enc Try.prog W 0 (fun _ => true) true Try.f6.params.toList args.toList ds p := hA0
  rw [Try.params6] at hA hval hsz
  obtain ⟨v0, vs0, d0, ds0, p0, q0, hargs, rfl, rfl, h0, r0⟩ := trodAll_cons hA
  obtain ⟨rfl, rfl, rfl⟩ := trodAll_nil r0
  obtain rfl : args = #[v0] := by cases args; simp_all
  obtain ⟨rfl, rfl⟩ := trodVars_none hV
  have hv0 := hval 0 39 v0 rfl rfl
  unfold Value.okWide at hv0
  rw [Try.underlying39] at hv0
  obtain ⟨cs, rfl, _⟩ := hv0
  have k0 := h0
  have lt0 : ∀ x ∈ p0, x.block < W.heap.size := by obtain ⟨m, hm⟩ := k0; exact DataW.trod_lt m _ _ _ hm
  have hw0 : ∀ n ∈ d0.weights Try.prog 39, n ≤ 140737488351232 := by
    intro n hn
    have := List.all_eq_true.1 hsz n (DataW.weights_mem_each (j := 0) rfl rfl n hn)
    exact of_decide_eq_true this
  obtain ⟨fuel, hf⟩ := h0
  obtain ⟨x, hK, hS⟩ := opn_herbariumlaw19_Script _ enc W fuel _ _ hf hw0
  clear hA0 hval0 hsz0 hsz
  refine (walk P x hS W cs.toList hK).mono fun e W' ⟨he, bel⟩ => ?_
  subst he
  exact ⟨_, rfl, _, _, _, [], _, [], hW', trodAll_mk1 (shut_bool Try.underlying4 _), (trodAll_cons_mk (Below.trod laidOut (by kernel_rfl) (of_decide_eq_true (by kernel_rfl)) k0 bel lt0) trodAll_mk0), rfl, bel.frame _, fun h => by cases h⟩
theorem over (P : Pure) : Rows.diskStaysRow.holds Try.pinned (OpenSpec.ofChange Rows.diskStaysSpec) :=
  OpenClaim.holds_of_wide 6 Try.f6 rfl rfl rfl rfl rfl rfl rfl ⟨rfl, rfl, rfl, rfl, rfl⟩ rfl rfl rfl rfl rfl (by kernel_rfl) Try.func6 (by kernel_rfl)
    (of_decide_eq_true (by kernel_rfl)) (by unfold Func.isWrapper; first | (rw [if_pos (by decide +kernel)]; kernel_rfl) | (rw [if_neg (by decide +kernel)]; exact ⟨rfl, rfl⟩))
    (fun os started H enc _ => lifted P os started H enc)
theorem proved (P : Pure) : Rows.DiskStaysSaid := over P
end diskStays
theorem diskStays_holds : Rows.DiskStaysSaid := diskStays.proved (fun x h => Go.XL.diskStays_pure x ⟨⟨h.1.1, h.1.2.1, fun p hp => (h.1.2.2 p hp).2⟩, h.2.2.1, fun a ha => ⟨⟨(h.2.2.2 a ha).2.2.1.1, fun y hy => ((h.2.2.2 a ha).2.2.1.2 y hy).2.2⟩, (h.2.2.2 a ha).2.2.2.1⟩⟩)
end Go.Proofs.Ytobccadjomcoiaa
