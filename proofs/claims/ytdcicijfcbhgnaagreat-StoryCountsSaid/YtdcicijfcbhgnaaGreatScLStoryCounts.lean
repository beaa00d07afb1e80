import Derived.Test.YtdcicijfcbhgnaaGreatScP0
import Derived.Test.YtdcicijfcbhgnaaGreatRows
import Derived.WalkKit
import Derived.ProofKit
import Derived.OpenShut
import Derived.ShutString
import Derived.ChangeOld
import Derived.Below
import Derived.SizedLaws
set_option linter.all false
namespace Go.Proofs.YtdcicijfcbhgnaaGreat
open Go.RowKit Go.XM Go.ChangeShapes Go.WideShapes
set_option linter.unusedVariables false
set_option linter.unusedSimpArgs false
def Sz_api_Bits (x:Av):Prop:=x.1.size≤140737488351232∧(Lit.int .i64 x.2).wf=true
set_option maxRecDepth 100000 in
theorem opn_api_Bits:Opn Tryz.prog 33 C8.enc Sz_api_Bits:=by
 have h:=Opn.struct (P:=Tryz.prog) (sz:=2) (E:=C8.enc) (f:=fun x:Av=>x) (g:=fun x=>x) Tryz.underlying33 (by kernel_rfl) (fun _=>rfl) (fun _=>rfl) (OpnFs.cons (s1:=1) (s2:=1) rfl (by kernel_rfl) (Opn.string Tryz.underlying9) (OpnFs.one (sz:=1) rfl (by kernel_rfl) (Opn.int Tryz.underlying3)))
 exact h
def Sz_api_Object (x:Ae):Prop:=(Lit.int .i64 x.1).wf=true∧(Lit.int .i64 x.2.1).wf=true∧Sz_api_Bits x.2.2
set_option maxRecDepth 100000 in
theorem opn_api_Object:Opn Tryz.prog 96 Bb.enc Sz_api_Object:=by
 have h:=Opn.struct (P:=Tryz.prog) (sz:=4) (E:=Bb.enc) (f:=fun x:Ae=>x) (g:=fun x=>x) Tryz.underlying96 (by kernel_rfl) (fun _=>rfl) (fun _=>rfl) (OpnFs.cons (s1:=1) (s2:=3) rfl (by kernel_rfl) (Opn.int Tryz.underlying3) (OpnFs.cons (s1:=1) (s2:=2) rfl (by kernel_rfl) (Opn.int Tryz.underlying3) (OpnFs.one (sz:=2) rfl (by kernel_rfl) opn_api_Bits)))
 exact h
def Sz_api_Graph (x:Aa):Prop:=(Lit.int .i64 x.1).wf=true∧(x.2.length*24≤140737488351232∧∀ y0∈x.2,(y0.length*8≤140737488351232∧∀ y1∈y0,(Lit.int .i64 y1).wf=true))
set_option maxRecDepth 100000 in
theorem opn_api_Graph:Opn Tryz.prog 30 Ba.enc Sz_api_Graph:=by
 have h:=Opn.struct (P:=Tryz.prog) (sz:=2) (E:=Ba.enc) (f:=fun x:Aa=>x) (g:=fun x=>x) Tryz.underlying30 (by kernel_rfl) (fun _=>rfl) (fun _=>rfl) (OpnFs.cons (s1:=1) (s2:=1) rfl (by kernel_rfl) (Opn.int Tryz.underlying3) (OpnFs.one (sz:=1) rfl (by kernel_rfl) (Opn.slice (B:=24) (sz:=1) Tryz.underlying28 (by kernel_rfl) (by decide) (by kernel_rfl) (fun _=>rfl) (Opn.slice (B:=8) (sz:=1) Tryz.underlying37 (by kernel_rfl) (by decide) (by kernel_rfl) (fun _=>rfl) (Opn.int Tryz.underlying3)))))
 exact h
def Sz_herbariumlaw6_Act (x:Dz):Prop:=(Lit.int .i64 x.1).wf=true∧(Lit.int .i64 x.2.1).wf=true∧(Lit.int .i64 x.2.2).wf=true
set_option maxRecDepth 100000 in
theorem opn_herbariumlaw6_Act:Opn Tryz.prog 250 Dw.enc Sz_herbariumlaw6_Act:=by
 have h:=Opn.struct (P:=Tryz.prog) (sz:=3) (E:=Dw.enc) (f:=fun x:Dz=>x) (g:=fun x=>x) Tryz.underlying250 (by kernel_rfl) (fun _=>rfl) (fun _=>rfl) (OpnFs.cons (s1:=1) (s2:=2) rfl (by kernel_rfl) (Opn.int Tryz.underlying3) (OpnFs.cons (s1:=1) (s2:=1) rfl (by kernel_rfl) (Opn.int Tryz.underlying3) (OpnFs.one (sz:=1) rfl (by kernel_rfl) (Opn.int Tryz.underlying3))))
 exact h
def Sz_herbariumlaw6_Script (x:Cc):Prop:=(x.1.length*32≤140737488351232∧∀ y0∈x.1,Sz_api_Graph y0)∧(x.2.length*24≤140737488351232∧∀ y0∈x.2,Sz_herbariumlaw6_Act y0)
set_option maxRecDepth 100000 in
theorem opn_herbariumlaw6_Script:Opn Tryz.prog 25 Ed.enc Sz_herbariumlaw6_Script:=by
 have h:=Opn.struct (P:=Tryz.prog) (sz:=2) (E:=Ed.enc) (f:=fun x:Cc=>x) (g:=fun x=>x) Tryz.underlying25 (by kernel_rfl) (fun _=>rfl) (fun _=>rfl) (OpnFs.cons (s1:=1) (s2:=1) rfl (by kernel_rfl) (Opn.slice (B:=32) (sz:=2) Tryz.underlying22 (by kernel_rfl) (by decide) (by kernel_rfl) (fun _=>rfl) opn_api_Graph) (OpnFs.one (sz:=1) rfl (by kernel_rfl) (Opn.slice (B:=24) (sz:=3) Tryz.underlying23 (by kernel_rfl) (by decide) (by kernel_rfl) (fun _=>rfl) opn_herbariumlaw6_Act)))
 exact h
def Sz_herbariumlaw9_Ask (x:Cq):Prop:=(x.1.length*24≤140737488351232∧∀ y0∈x.1,(y0.length*40≤140737488351232∧∀ y1∈y0,Sz_api_Object y1))∧Sz_herbariumlaw6_Script x.2.1∧(x.2.2.length*8≤140737488351232∧∀ y0∈x.2.2,(Lit.int .i64 y0).wf=true)
set_option maxRecDepth 100000 in
theorem opn_herbariumlaw9_Ask:Opn Tryz.prog 87 Ee.enc Sz_herbariumlaw9_Ask:=by
 have h:=Opn.struct (P:=Tryz.prog) (sz:=4) (E:=Ee.enc) (f:=fun x:Cq=>x) (g:=fun x=>x) Tryz.underlying87 (by kernel_rfl) (fun _=>rfl) (fun _=>rfl) (OpnFs.cons (s1:=1) (s2:=3) rfl (by kernel_rfl) (Opn.slice (B:=24) (sz:=1) Tryz.underlying85 (by kernel_rfl) (by decide) (by kernel_rfl) (fun _=>rfl) (Opn.slice (B:=40) (sz:=4) Tryz.underlying89 (by kernel_rfl) (by decide) (by kernel_rfl) (fun _=>rfl) opn_api_Object)) (OpnFs.cons (s1:=2) (s2:=1) rfl (by kernel_rfl) opn_herbariumlaw6_Script (OpnFs.one (sz:=1) rfl (by kernel_rfl) (Opn.slice (B:=8) (sz:=1) Tryz.underlying37 (by kernel_rfl) (by decide) (by kernel_rfl) (fun _=>rfl) (Opn.int Tryz.underlying3)))))
 exact h
namespace storyCounts
open Go.ChangeShapes Go.WideShapes Go.ChangeAt Go.RowKit Go.XM
open Go.ChangeMaps (open_string shut_string)
theorem own:ownKnob Tryz.prog.godebug=none:=by kernel_rfl
theorem laidOut:laidOutB Tryz.prog=true:=by kernel_rfl
def Pure:Prop:=∀ x:Cq,Sz_herbariumlaw9_Ask x→∃ K,Ab K x=some true
theorem walk (P:Pure) (x:Cq) (hS:Sz_herbariumlaw9_Ask x) (w:World) (cs:List Value) (hK:CellsR w cs (Ee.enc x)) :
  Calls Tryz.prog 6 #[.agg cs.toArray] w fun e w'=>e=.returned (.bool true)∧Below w.heap.size w w':=by
 obtain ⟨k,h⟩:=P x hS
 exact law_walk (Ab.ct k 0 x true h) rfl (fun _=>rfl) rfl hK
set_option maxRecDepth 100000 in
theorem lifted (P:Pure) (os:Os) (started:os.Started) (H:Type) (enc:TypeId × Value→H) :
  ReturnsInHanded {} Tryz.checked os 6 .any (Rows.storyCountsSpec.pre6 enc Tryz.prog Tryz.f6 Rows.storyCountsRow.domain false) (Rows.storyCountsSpec.post enc Tryz.prog Tryz.f6 false true false false):=by
 refine returnsInHanded_of_change_sized (C:=Tryz.checked) own started (by kernel_rfl) Tryz.func6
  (ChangeSpec.witness6 (enc:=enc) (C:=Tryz.checked) false ⟨#[],#[.agg #[.slice none 0 0,.slice none 0 0,.slice none 0 0,.slice none 0 0]],[]⟩ 8 (by kernel_rfl) (by kernel_rfl) (by kernel_rfl) (by kernel_rfl)) ?_
 intro W base args ds gs before hval0 hW hcnd hsz0 _
 have hsz:(DataW.weightsEach Tryz.prog (Tryz.f6.params.toList++Rows.storyCountsSpec.plain.varTypes Tryz.prog) (ds++gs)).all (·≤reachBytes)=true:=hsz0
 have hval:∀ (j:Nat) t v,Tryz.f6.params[j]?=some t→args[j]?=some v→Value.okWide Tryz.prog W .any base t v:=hval0
 have hW':=hW
 obtain ⟨p,q,hA0,hV,rfl,hfz,hnd⟩:=hW
 have hA:DataW.TrodAll enc Tryz.prog W 0 (fun _=>true) true Tryz.f6.params.toList args.toList ds p:=hA0
 rw [Tryz.params6] at hA hval hsz
 obtain ⟨v0,vs0,d0,ds0,p0,q0,hargs,rfl,rfl,h0,r0⟩:=trodAll_cons hA
 obtain ⟨rfl,rfl,rfl⟩:=trodAll_nil r0
 obtain rfl:args=#[v0]:=by cases args;simp_all
 obtain ⟨rfl,rfl⟩:=trodVars_none hV
 have hv0:=hval 0 87 v0 rfl rfl
 unfold Value.okWide at hv0
 rw [Tryz.underlying87] at hv0
 obtain ⟨cs,rfl,_⟩:=hv0
 have k0:=h0
 have lt0:∀ x∈p0,x.block<W.heap.size:=by obtain ⟨m,hm⟩:=k0;exact DataW.trod_lt m _ _ _ hm
 have hw0:∀ n∈d0.weights Tryz.prog 87,n≤140737488351232:=by
  intro n hn
  have:=List.all_eq_true.1 hsz n (DataW.weights_mem_each (j:=0) rfl rfl n hn)
  exact of_decide_eq_true this
 obtain ⟨fuel,hf⟩:=h0
 obtain ⟨x,hK,hS⟩:=opn_herbariumlaw9_Ask _ enc W fuel _ _ hf hw0
 clear hA0 hval0 hsz0 hsz
 refine (walk P x hS W cs.toList hK).mono fun e W' ⟨he,bel⟩=>?_
 subst he
 exact ⟨_,rfl,_,_,_,[],_,[],hW',trodAll_mk1 (shut_bool Tryz.underlying4 _),(trodAll_cons_mk (Below.trod laidOut (by kernel_rfl) (of_decide_eq_true (by kernel_rfl)) k0 bel lt0) trodAll_mk0),rfl,bel.frame _,fun h=>by cases h⟩
theorem over (P:Pure):Rows.storyCountsRow.holds Tryz.pinned (OpenSpec.ofChange Rows.storyCountsSpec) :=
 OpenClaim.holds_of_wide 6 Tryz.f6 rfl rfl rfl rfl rfl rfl rfl ⟨rfl,rfl,rfl,rfl,rfl⟩ rfl rfl rfl rfl rfl (by kernel_rfl) Tryz.func6 (by kernel_rfl)
  (of_decide_eq_true (by kernel_rfl)) (by unfold Func.isWrapper;first | (rw [if_pos (by decide +kernel)];kernel_rfl) | (rw [if_neg (by decide +kernel)];exact ⟨rfl,rfl⟩))
  (fun os started H enc _=>lifted P os started H enc)
theorem proved (P:Pure):Rows.StoryCountsSaid:=over P
end storyCounts
theorem storyCounts_holds:Rows.StoryCountsSaid:=storyCounts.proved (fun x h=>Go.XL.storyCounts_pure x (Go.XL.le8 h.1.1 (by decide)) (fun l hl=>⟨Go.XL.le8 (h.1.2 l hl).1 (by decide),fun o ho=>((h.1.2 l hl).2 o ho).2.2.1⟩) (Go.XL.le8 h.2.2.1 (by decide)) (Go.XL.le8 h.2.1.1.1 (by decide)) (fun g hg=>⟨Go.XL.le8 (h.2.1.1.2 g hg).2.1 (by decide),fun y hy=>Go.XL.le8 ((h.2.1.1.2 g hg).2.2 y hy).1 (by decide)⟩) (Go.XL.le8 h.2.1.2.1 (by decide)))
end Go.Proofs.YtdcicijfcbhgnaaGreat
