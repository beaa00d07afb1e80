import Derived.Test.YthpoclbejpoklaaSbP
import Derived.Test.YthpoclbejpoklaaRows
import Derived.WalkKit
import Derived.ProofKit
import Derived.OpenShut
import Derived.ShutString
import Derived.ChangeOld
import Derived.Below
import Derived.SizedLaws
set_option linter.all false
namespace Go.Proofs.Ythpoclbejpoklaa
open Go.RowKit Go.XM Go.ChangeShapes Go.WideShapes
set_option linter.unusedVariables false
set_option linter.unusedSimpArgs false
def e_herbariumlaw6_Script (x : herbariumlaw6_Script) : List SP := [.sl 2 (x.G.map e_api_Graph), .sl 3 (x.A.map e_herbariumlaw6_Act)]
def e_herbariumlaw11_Ask (x : herbariumlaw11_Ask) : List SP := [.sl 2 (x.G.G.map e_api_Graph), .sl 3 (x.G.A.map e_herbariumlaw6_Act), .sl 6 (x.J.map e_api_Job), .sl 1 (x.N.map e_int)]
def Sz_api_Graph (x : api_Graph) : Prop := (Lit.int .i64 x.N).wf = true ∧ (x.Out.length * 24 ≤ 140737488351232 ∧ ∀ y0 ∈ x.Out, (y0.length * 8 ≤ 140737488351232 ∧ ∀ y1 ∈ y0, (Lit.int .i64 y1).wf = true))
set_option maxRecDepth 100000 in
theorem opn_api_Graph : Opn Try.prog 34 e_api_Graph Sz_api_Graph := by
  have h := Opn.struct (P := Try.prog) (sz := 2) (E := e_api_Graph) (f := fun x : api_Graph => (x.N, x.Out)) (g := fun y => (⟨y.1, y.2⟩ : api_Graph)) Try.underlying34 (by kernel_rfl) (fun _ => rfl) (fun _ => rfl) (OpnFs.cons (s1 := 1) (s2 := 1) rfl (by kernel_rfl) (Opn.int Try.underlying3) (OpnFs.one (sz := 1) rfl (by kernel_rfl) (Opn.slice (B := 24) (sz := 1) Try.underlying32 (by kernel_rfl) (by decide) (by kernel_rfl) (fun _ => rfl) (Opn.slice (B := 8) (sz := 1) Try.underlying27 (by kernel_rfl) (by decide) (by kernel_rfl) (fun _ => rfl) (Opn.int Try.underlying3)))))
  exact h
def Sz_herbariumlaw6_Act (x : herbariumlaw6_Act) : Prop := (Lit.int .i64 x.Do).wf = true ∧ (Lit.int .i64 x.A).wf = true ∧ (Lit.int .i64 x.B).wf = true
set_option maxRecDepth 100000 in
theorem opn_herbariumlaw6_Act : Opn Try.prog 102 e_herbariumlaw6_Act Sz_herbariumlaw6_Act := by
  have h := Opn.struct (P := Try.prog) (sz := 3) (E := e_herbariumlaw6_Act) (f := fun x : herbariumlaw6_Act => (x.Do, x.A, x.B)) (g := fun y => (⟨y.1, y.2.1, y.2.2⟩ : herbariumlaw6_Act)) Try.underlying102 (by kernel_rfl) (fun _ => rfl) (fun _ => rfl) (OpnFs.cons (s1 := 1) (s2 := 2) rfl (by kernel_rfl) (Opn.int Try.underlying3) (OpnFs.cons (s1 := 1) (s2 := 1) rfl (by kernel_rfl) (Opn.int Try.underlying3) (OpnFs.one (sz := 1) rfl (by kernel_rfl) (Opn.int Try.underlying3))))
  exact h
def Sz_herbariumlaw6_Script (x : herbariumlaw6_Script) : Prop := (x.G.length * 32 ≤ 140737488351232 ∧ ∀ y0 ∈ x.G, Sz_api_Graph y0) ∧ (x.A.length * 24 ≤ 140737488351232 ∧ ∀ y0 ∈ x.A, Sz_herbariumlaw6_Act y0)
set_option maxRecDepth 100000 in
theorem opn_herbariumlaw6_Script : Opn Try.prog 25 e_herbariumlaw6_Script Sz_herbariumlaw6_Script := by
  have h := Opn.struct (P := Try.prog) (sz := 2) (E := e_herbariumlaw6_Script) (f := fun x : herbariumlaw6_Script => (x.G, x.A)) (g := fun y => (⟨y.1, y.2⟩ : herbariumlaw6_Script)) Try.underlying25 (by kernel_rfl) (fun _ => rfl) (fun _ => rfl) (OpnFs.cons (s1 := 1) (s2 := 1) rfl (by kernel_rfl) (Opn.slice (B := 32) (sz := 2) Try.underlying22 (by kernel_rfl) (by decide) (by kernel_rfl) (fun _ => rfl) opn_api_Graph) (OpnFs.one (sz := 1) rfl (by kernel_rfl) (Opn.slice (B := 24) (sz := 3) Try.underlying23 (by kernel_rfl) (by decide) (by kernel_rfl) (fun _ => rfl) opn_herbariumlaw6_Act)))
  exact h
def Sz_api_Job (x : api_Job) : Prop := (Lit.int .i64 x.Kind).wf = true ∧ (Lit.int .i64 x.A).wf = true ∧ (Lit.int .i64 x.At).wf = true ∧ True ∧ (x.List_.length * 8 ≤ 140737488351232 ∧ ∀ y0 ∈ x.List_, (Lit.int .i64 y0).wf = true) ∧ (x.Out.length * 8 ≤ 140737488351232 ∧ ∀ y0 ∈ x.Out, (Lit.int .i64 y0).wf = true)
set_option maxRecDepth 100000 in
theorem opn_api_Job : Opn Try.prog 37 e_api_Job Sz_api_Job := by
  have h := Opn.struct (P := Try.prog) (sz := 6) (E := e_api_Job) (f := fun x : api_Job => (x.Kind, x.A, x.At, x.Move, x.List_, x.Out)) (g := fun y => (⟨y.1, y.2.1, y.2.2.1, y.2.2.2.1, y.2.2.2.2.1, y.2.2.2.2.2⟩ : api_Job)) Try.underlying37 (by kernel_rfl) (fun _ => rfl) (fun _ => rfl) (OpnFs.cons (s1 := 1) (s2 := 5) rfl (by kernel_rfl) (Opn.int Try.underlying3) (OpnFs.cons (s1 := 1) (s2 := 4) rfl (by kernel_rfl) (Opn.int Try.underlying3) (OpnFs.cons (s1 := 1) (s2 := 3) rfl (by kernel_rfl) (Opn.int Try.underlying3) (OpnFs.cons (s1 := 1) (s2 := 2) rfl (by kernel_rfl) (Opn.bool Try.underlying4) (OpnFs.cons (s1 := 1) (s2 := 1) rfl (by kernel_rfl) (Opn.slice (B := 8) (sz := 1) Try.underlying27 (by kernel_rfl) (by decide) (by kernel_rfl) (fun _ => rfl) (Opn.int Try.underlying3)) (OpnFs.one (sz := 1) rfl (by kernel_rfl) (Opn.slice (B := 8) (sz := 1) Try.underlying27 (by kernel_rfl) (by decide) (by kernel_rfl) (fun _ => rfl) (Opn.int Try.underlying3))))))))
  exact h
def Sz_herbariumlaw11_Ask (x : herbariumlaw11_Ask) : Prop := Sz_herbariumlaw6_Script x.G ∧ (x.J.length * 80 ≤ 140737488351232 ∧ ∀ y0 ∈ x.J, Sz_api_Job y0) ∧ (x.N.length * 8 ≤ 140737488351232 ∧ ∀ y0 ∈ x.N, (Lit.int .i64 y0).wf = true)
set_option maxRecDepth 100000 in
theorem opn_herbariumlaw11_Ask : Opn Try.prog 29 e_herbariumlaw11_Ask Sz_herbariumlaw11_Ask := by
  have h := Opn.struct (P := Try.prog) (sz := 4) (E := e_herbariumlaw11_Ask) (f := fun x : herbariumlaw11_Ask => (x.G, x.J, x.N)) (g := fun y => (⟨y.1, y.2.1, y.2.2⟩ : herbariumlaw11_Ask)) Try.underlying29 (by kernel_rfl) (fun _ => rfl) (fun _ => rfl) (OpnFs.cons (s1 := 2) (s2 := 2) rfl (by kernel_rfl) opn_herbariumlaw6_Script (OpnFs.cons (s1 := 1) (s2 := 1) rfl (by kernel_rfl) (Opn.slice (B := 80) (sz := 6) Try.underlying26 (by kernel_rfl) (by decide) (by kernel_rfl) (fun _ => rfl) opn_api_Job) (OpnFs.one (sz := 1) rfl (by kernel_rfl) (Opn.slice (B := 8) (sz := 1) Try.underlying27 (by kernel_rfl) (by decide) (by kernel_rfl) (fun _ => rfl) (Opn.int Try.underlying3)))))
  exact h
namespace slowBad
open Go.ChangeShapes Go.WideShapes Go.ChangeAt Go.RowKit Go.XM
open Go.ChangeMaps (open_string shut_string)
theorem own : ownKnob Try.prog.godebug = none := by kernel_rfl
theorem laidOut : laidOutB Try.prog = true := by kernel_rfl
def Pure : Prop := ∀ x : herbariumlaw11_Ask, Sz_herbariumlaw11_Ask x → ∃ K, herbariumlaw11_SlowBad K x = some true
theorem walk (P : Pure) (x : herbariumlaw11_Ask) (hS : Sz_herbariumlaw11_Ask x) (w : World) (cs : List Value) (hK : CellsR w cs (e_herbariumlaw11_Ask x)) :
    Calls Try.prog 9 #[.agg cs.toArray] w fun e w' => e = .returned (.bool true) ∧ Below w.heap.size w w' := by
  obtain ⟨k, h⟩ := P x hS
  exact law_walk (herbariumlaw11_SlowBad.ct k x true h) rfl (fun k => by cases k <;> rfl) rfl hK
set_option maxRecDepth 100000 in
theorem lifted (P : Pure) (os : Os) (started : os.Started) (H : Type) (enc : TypeId × Value → H) :
    ReturnsInHanded {} Try.checked os 9 .any (Rows.slowBadSpec.pre6 enc Try.prog Try.f9 Rows.slowBadRow.domain false) (Rows.slowBadSpec.post enc Try.prog Try.f9 false true false false) := by
  refine returnsInHanded_of_change_sized (C := Try.checked) own started (by kernel_rfl) Try.func9
    (ChangeSpec.witness6 (enc := enc) (C := Try.checked) false ⟨#[], #[.agg #[.slice none 0 0, .slice none 0 0, .slice none 0 0, .slice none 0 0]], []⟩ 8 (by kernel_rfl) (by kernel_rfl) (by kernel_rfl) (by kernel_rfl)) ?_
  intro W base args ds gs before hval0 hW hcnd hsz0 _
  have hsz : (DataW.weightsEach Try.prog (Try.f9.params.toList ++ Rows.slowBadSpec.plain.varTypes Try.prog) (ds ++ gs)).all (· ≤ reachBytes) = true := hsz0
  have hval : ∀ (j : Nat) t v, Try.f9.params[j]? = some t → args[j]? = some v → Value.okWide Try.prog W .any base t v := hval0
  have hW' := hW
  obtain ⟨p, q, hA0, hV, rfl, hfz, hnd⟩ := hW
  have hA : DataW.TrodAll enc Try.prog W 0 (fun _ => true) true Try.f9.params.toList args.toList ds p := hA0
  rw [Try.params9] at hA hval hsz
  obtain ⟨v0, vs0, d0, ds0, p0, q0, hargs, rfl, rfl, h0, r0⟩ := trodAll_cons hA
  obtain ⟨rfl, rfl, rfl⟩ := trodAll_nil r0
  obtain rfl : args = #[v0] := by cases args; simp_all
  obtain ⟨rfl, rfl⟩ := trodVars_none hV
  have hv0 := hval 0 29 v0 rfl rfl
  unfold Value.okWide at hv0
  rw [Try.underlying29] at hv0
  obtain ⟨cs, rfl, _⟩ := hv0
  have k0 := h0
  have lt0 : ∀ x ∈ p0, x.block < W.heap.size := by obtain ⟨m, hm⟩ := k0; exact DataW.trod_lt m _ _ _ hm
  have hw0 : ∀ n ∈ d0.weights Try.prog 29, n ≤ 140737488351232 := by
    intro n hn
    have := List.all_eq_true.1 hsz n (DataW.weights_mem_each (j := 0) rfl rfl n hn)
    exact of_decide_eq_true this
  obtain ⟨fuel, hf⟩ := h0
  obtain ⟨x, hK, hS⟩ := opn_herbariumlaw11_Ask _ enc W fuel _ _ hf hw0
  clear hA0 hval0 hsz0 hsz
  refine (walk P x hS W cs.toList hK).mono fun e W' ⟨he, bel⟩ => ?_
  subst he
  exact ⟨_, rfl, _, _, _, [], _, [], hW', trodAll_mk1 (shut_bool Try.underlying4 _), (trodAll_cons_mk (Below.trod laidOut (by kernel_rfl) (of_decide_eq_true (by kernel_rfl)) k0 bel lt0) trodAll_mk0), rfl, bel.frame _, fun h => by cases h⟩
theorem over (P : Pure) : Rows.slowBadRow.holds Try.pinned (OpenSpec.ofChange Rows.slowBadSpec) :=
  OpenClaim.holds_of_wide 9 Try.f9 rfl rfl rfl rfl rfl rfl rfl ⟨rfl, rfl, rfl, rfl, rfl⟩ rfl rfl rfl rfl rfl (by kernel_rfl) Try.func9 (by kernel_rfl)
    (of_decide_eq_true (by kernel_rfl)) (by unfold Func.isWrapper; first | (rw [if_pos (by decide +kernel)]; kernel_rfl) | (rw [if_neg (by decide +kernel)]; exact ⟨rfl, rfl⟩))
    (fun os started H enc _ => lifted P os started H enc)
theorem proved (P : Pure) : Rows.SlowBadSaid := over P
end slowBad
theorem slowBad_holds : Rows.SlowBadSaid := slowBad.proved (fun x _ => ⟨60, Go.XM.slowBad_plain x⟩)
end Go.Proofs.Ythpoclbejpoklaa
