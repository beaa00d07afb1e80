import Derived.Test.YtocbppcndoeicaaGreatInP1
import Derived.Test.YtocbppcndoeicaaGreatRows
import Derived.WalkKit
import Derived.ProofKit
import Derived.OpenShut
import Derived.ShutString
import Derived.ChangeOld
import Derived.Below
import Derived.SizedLaws
set_option linter.all false
namespace Go.Proofs.YtocbppcndoeicaaGreat
open Go.RowKit Go.XM Go.ChangeShapes Go.WideShapes
set_option linter.unusedVariables false
set_option linter.unusedSimpArgs false
def Sz_api_Bits (x:Cu):Prop:=x.1.size≤140737488351232∧(Lit.int .i64 x.2).wf=true
set_option maxRecDepth 100000 in
theorem opn_api_Bits:Opn Tryz.prog 67 Fy.enc Sz_api_Bits:=by
 have h:=Opn.struct (P:=Tryz.prog) (sz:=2) (E:=Fy.enc) (f:=fun x:Cu=>x) (g:=fun x=>x) Tryz.underlying67 (by kernel_rfl) (fun _=>rfl) (fun _=>rfl) (OpnFs.cons (s1:=1) (s2:=1) rfl (by kernel_rfl) (Opn.string Tryz.underlying9) (OpnFs.one (sz:=1) rfl (by kernel_rfl) (Opn.int Tryz.underlying3)))
 exact h
def Sz_api_Version (x:Ao):Prop:=(Lit.int .i64 x.1).wf=true∧(Lit.int .i64 x.2.1).wf=true∧(Lit.int .i64 x.2.2.1).wf=true∧Sz_api_Bits x.2.2.2.1∧(Lit.int .i64 x.2.2.2.2.1).wf=true∧True∧True
set_option maxRecDepth 100000 in
theorem opn_api_Version:Opn Tryz.prog 69 Bw.enc Sz_api_Version:=by
 have h:=Opn.struct (P:=Tryz.prog) (sz:=8) (E:=Bw.enc) (f:=fun x:Ao=>x) (g:=fun x=>x) Tryz.underlying69 (by kernel_rfl) (fun _=>rfl) (fun _=>rfl) (OpnFs.cons (s1:=1) (s2:=7) rfl (by kernel_rfl) (Opn.int Tryz.underlying3) (OpnFs.cons (s1:=1) (s2:=6) rfl (by kernel_rfl) (Opn.int Tryz.underlying3) (OpnFs.cons (s1:=1) (s2:=5) rfl (by kernel_rfl) (Opn.int Tryz.underlying3) (OpnFs.cons (s1:=2) (s2:=3) rfl (by kernel_rfl) opn_api_Bits (OpnFs.cons (s1:=1) (s2:=2) rfl (by kernel_rfl) (Opn.int Tryz.underlying3) (OpnFs.cons (s1:=1) (s2:=1) rfl (by kernel_rfl) (Opn.bool Tryz.underlying4) (OpnFs.one (sz:=1) rfl (by kernel_rfl) (Opn.bool Tryz.underlying4))))))))
 exact h
def Sz_api_Graph (x:Ac):Prop:=(Lit.int .i64 x.1).wf=true∧(x.2.length*24≤140737488351232∧∀ y0∈x.2,(y0.length*8≤140737488351232∧∀ y1∈y0,(Lit.int .i64 y1).wf=true))
set_option maxRecDepth 100000 in
theorem opn_api_Graph:Opn Tryz.prog 72 Di.enc Sz_api_Graph:=by
 have h:=Opn.struct (P:=Tryz.prog) (sz:=2) (E:=Di.enc) (f:=fun x:Ac=>x) (g:=fun x=>x) Tryz.underlying72 (by kernel_rfl) (fun _=>rfl) (fun _=>rfl) (OpnFs.cons (s1:=1) (s2:=1) rfl (by kernel_rfl) (Opn.int Tryz.underlying3) (OpnFs.one (sz:=1) rfl (by kernel_rfl) (Opn.slice (B:=24) (sz:=1) Tryz.underlying70 (by kernel_rfl) (by decide) (by kernel_rfl) (fun _=>rfl) (Opn.slice (B:=8) (sz:=1) Tryz.underlying28 (by kernel_rfl) (by decide) (by kernel_rfl) (fun _=>rfl) (Opn.int Tryz.underlying3)))))
 exact h
def Sz_api_Job (x:Ai):Prop:=(Lit.int .i64 x.1).wf=true∧(Lit.int .i64 x.2.1).wf=true∧(Lit.int .i64 x.2.2.1).wf=true∧True∧(x.2.2.2.2.1.length*8≤140737488351232∧∀ y0∈x.2.2.2.2.1,(Lit.int .i64 y0).wf=true)∧(x.2.2.2.2.2.length*8≤140737488351232∧∀ y0∈x.2.2.2.2.2,(Lit.int .i64 y0).wf=true)
set_option maxRecDepth 100000 in
theorem opn_api_Job:Opn Tryz.prog 78 Fv.enc Sz_api_Job:=by
 have h:=Opn.struct (P:=Tryz.prog) (sz:=6) (E:=Fv.enc) (f:=fun x:Ai=>x) (g:=fun x=>x) Tryz.underlying78 (by kernel_rfl) (fun _=>rfl) (fun _=>rfl) (OpnFs.cons (s1:=1) (s2:=5) rfl (by kernel_rfl) (Opn.int Tryz.underlying3) (OpnFs.cons (s1:=1) (s2:=4) rfl (by kernel_rfl) (Opn.int Tryz.underlying3) (OpnFs.cons (s1:=1) (s2:=3) rfl (by kernel_rfl) (Opn.int Tryz.underlying3) (OpnFs.cons (s1:=1) (s2:=2) rfl (by kernel_rfl) (Opn.bool Tryz.underlying4) (OpnFs.cons (s1:=1) (s2:=1) rfl (by kernel_rfl) (Opn.slice (B:=8) (sz:=1) Tryz.underlying28 (by kernel_rfl) (by decide) (by kernel_rfl) (fun _=>rfl) (Opn.int Tryz.underlying3)) (OpnFs.one (sz:=1) rfl (by kernel_rfl) (Opn.slice (B:=8) (sz:=1) Tryz.underlying28 (by kernel_rfl) (by decide) (by kernel_rfl) (fun _=>rfl) (Opn.int Tryz.underlying3))))))))
 exact h
def Sz_api_Session (x:A9):Prop:=True∧(Lit.int .i64 x.2.1).wf=true∧True∧(Lit.int .i64 x.2.2.2.1).wf=true∧Sz_api_Graph x.2.2.2.2.1∧Sz_api_Job x.2.2.2.2.2
set_option maxRecDepth 100000 in
theorem opn_api_Session:Opn Tryz.prog 80 Ce.enc Sz_api_Session:=by
 have h:=Opn.struct (P:=Tryz.prog) (sz:=12) (E:=Ce.enc) (f:=fun x:A9=>x) (g:=fun x=>x) Tryz.underlying80 (by kernel_rfl) (fun _=>rfl) (fun _=>rfl) (OpnFs.cons (s1:=1) (s2:=11) rfl (by kernel_rfl) (Opn.bool Tryz.underlying4) (OpnFs.cons (s1:=1) (s2:=10) rfl (by kernel_rfl) (Opn.int Tryz.underlying3) (OpnFs.cons (s1:=1) (s2:=9) rfl (by kernel_rfl) (Opn.bool Tryz.underlying4) (OpnFs.cons (s1:=1) (s2:=8) rfl (by kernel_rfl) (Opn.int Tryz.underlying3) (OpnFs.cons (s1:=2) (s2:=6) rfl (by kernel_rfl) opn_api_Graph (OpnFs.one (sz:=6) rfl (by kernel_rfl) opn_api_Job))))))
 exact h
def Sz_api_State (x:Ag):Prop:=(Lit.int .i64 x.1).wf=true∧(Lit.int .i64 x.2.1).wf=true∧(x.2.2.1.length*64≤140737488351232∧∀ y0∈x.2.2.1,Sz_api_Version y0)∧(x.2.2.2.length*144≤140737488351232∧∀ y0∈x.2.2.2,Sz_api_Session y0)
set_option maxRecDepth 100000 in
theorem opn_api_State:Opn Tryz.prog 38 Cy.enc Sz_api_State:=by
 have h:=Opn.struct (P:=Tryz.prog) (sz:=4) (E:=Cy.enc) (f:=fun x:Ag=>x) (g:=fun x=>x) Tryz.underlying38 (by kernel_rfl) (fun _=>rfl) (fun _=>rfl) (OpnFs.cons (s1:=1) (s2:=3) rfl (by kernel_rfl) (Opn.int Tryz.underlying3) (OpnFs.cons (s1:=1) (s2:=2) rfl (by kernel_rfl) (Opn.int Tryz.underlying3) (OpnFs.cons (s1:=1) (s2:=1) rfl (by kernel_rfl) (Opn.slice (B:=64) (sz:=8) Tryz.underlying35 (by kernel_rfl) (by decide) (by kernel_rfl) (fun _=>rfl) opn_api_Version) (OpnFs.one (sz:=1) rfl (by kernel_rfl) (Opn.slice (B:=144) (sz:=12) Tryz.underlying36 (by kernel_rfl) (by decide) (by kernel_rfl) (fun _=>rfl) opn_api_Session)))))
 exact h
def Sz_api_Object (x:Am):Prop:=(Lit.int .i64 x.1).wf=true∧(Lit.int .i64 x.2.1).wf=true∧Sz_api_Bits x.2.2
set_option maxRecDepth 100000 in
theorem opn_api_Object:Opn Tryz.prog 98 Da.enc Sz_api_Object:=by
 have h:=Opn.struct (P:=Tryz.prog) (sz:=4) (E:=Da.enc) (f:=fun x:Am=>x) (g:=fun x=>x) Tryz.underlying98 (by kernel_rfl) (fun _=>rfl) (fun _=>rfl) (OpnFs.cons (s1:=1) (s2:=3) rfl (by kernel_rfl) (Opn.int Tryz.underlying3) (OpnFs.cons (s1:=1) (s2:=2) rfl (by kernel_rfl) (Opn.int Tryz.underlying3) (OpnFs.one (sz:=2) rfl (by kernel_rfl) opn_api_Bits)))
 exact h
def Sz_herbariumlaw6_Act (x:Fg):Prop:=(Lit.int .i64 x.1).wf=true∧(Lit.int .i64 x.2.1).wf=true∧(Lit.int .i64 x.2.2).wf=true
set_option maxRecDepth 100000 in
theorem opn_herbariumlaw6_Act:Opn Tryz.prog 262 Fw.enc Sz_herbariumlaw6_Act:=by
 have h:=Opn.struct (P:=Tryz.prog) (sz:=3) (E:=Fw.enc) (f:=fun x:Fg=>x) (g:=fun x=>x) Tryz.underlying262 (by kernel_rfl) (fun _=>rfl) (fun _=>rfl) (OpnFs.cons (s1:=1) (s2:=2) rfl (by kernel_rfl) (Opn.int Tryz.underlying3) (OpnFs.cons (s1:=1) (s2:=1) rfl (by kernel_rfl) (Opn.int Tryz.underlying3) (OpnFs.one (sz:=1) rfl (by kernel_rfl) (Opn.int Tryz.underlying3))))
 exact h
def Sz_herbariumlaw6_Script (x:Ef):Prop:=(x.1.length*32≤140737488351232∧∀ y0∈x.1,Sz_api_Graph y0)∧(x.2.length*24≤140737488351232∧∀ y0∈x.2,Sz_herbariumlaw6_Act y0)
set_option maxRecDepth 100000 in
theorem opn_herbariumlaw6_Script:Opn Tryz.prog 27 Gw.enc Sz_herbariumlaw6_Script:=by
 have h:=Opn.struct (P:=Tryz.prog) (sz:=2) (E:=Gw.enc) (f:=fun x:Ef=>x) (g:=fun x=>x) Tryz.underlying27 (by kernel_rfl) (fun _=>rfl) (fun _=>rfl) (OpnFs.cons (s1:=1) (s2:=1) rfl (by kernel_rfl) (Opn.slice (B:=32) (sz:=2) Tryz.underlying24 (by kernel_rfl) (by decide) (by kernel_rfl) (fun _=>rfl) opn_api_Graph) (OpnFs.one (sz:=1) rfl (by kernel_rfl) (Opn.slice (B:=24) (sz:=3) Tryz.underlying25 (by kernel_rfl) (by decide) (by kernel_rfl) (fun _=>rfl) opn_herbariumlaw6_Act)))
 exact h
def Sz_herbariumlaw9_Ask (x:Em):Prop:=(x.1.length*24≤140737488351232∧∀ y0∈x.1,(y0.length*40≤140737488351232∧∀ y1∈y0,Sz_api_Object y1))∧Sz_herbariumlaw6_Script x.2.1∧(x.2.2.length*8≤140737488351232∧∀ y0∈x.2.2,(Lit.int .i64 y0).wf=true)
set_option maxRecDepth 100000 in
theorem opn_herbariumlaw9_Ask:Opn Tryz.prog 30 G6.enc Sz_herbariumlaw9_Ask:=by
 have h:=Opn.struct (P:=Tryz.prog) (sz:=4) (E:=G6.enc) (f:=fun x:Em=>x) (g:=fun x=>x) Tryz.underlying30 (by kernel_rfl) (fun _=>rfl) (fun _=>rfl) (OpnFs.cons (s1:=1) (s2:=3) rfl (by kernel_rfl) (Opn.slice (B:=24) (sz:=1) Tryz.underlying23 (by kernel_rfl) (by decide) (by kernel_rfl) (fun _=>rfl) (Opn.slice (B:=40) (sz:=4) Tryz.underlying60 (by kernel_rfl) (by decide) (by kernel_rfl) (fun _=>rfl) opn_api_Object)) (OpnFs.cons (s1:=2) (s2:=1) rfl (by kernel_rfl) opn_herbariumlaw6_Script (OpnFs.one (sz:=1) rfl (by kernel_rfl) (Opn.slice (B:=8) (sz:=1) Tryz.underlying28 (by kernel_rfl) (by decide) (by kernel_rfl) (fun _=>rfl) (Opn.int Tryz.underlying3)))))
 exact h
def Sz_herbariumlaw14_Ask (x:Dr):Prop:=(x.1.length*64≤140737488351232∧∀ y0∈x.1,Sz_api_State y0)∧Sz_herbariumlaw9_Ask x.2
set_option maxRecDepth 100000 in
theorem opn_herbariumlaw14_Ask:Opn Tryz.prog 32 Gz.enc Sz_herbariumlaw14_Ask:=by
 have h:=Opn.struct (P:=Tryz.prog) (sz:=5) (E:=Gz.enc) (f:=fun x:Dr=>x) (g:=fun x=>x) Tryz.underlying32 (by kernel_rfl) (fun _=>rfl) (fun _=>rfl) (OpnFs.cons (s1:=1) (s2:=4) rfl (by kernel_rfl) (Opn.slice (B:=64) (sz:=4) Tryz.underlying22 (by kernel_rfl) (by decide) (by kernel_rfl) (fun _=>rfl) opn_api_State) (OpnFs.one (sz:=4) rfl (by kernel_rfl) opn_herbariumlaw9_Ask))
 exact h
namespace imageNumbers
open Go.ChangeShapes Go.WideShapes Go.ChangeAt Go.RowKit Go.XM
open Go.ChangeMaps (open_string shut_string)
theorem own:ownKnob Tryz.prog.godebug=none:=by kernel_rfl
theorem laidOut:laidOutB Tryz.prog=true:=by kernel_rfl
def Pure:Prop:=∀ x:Dr,Sz_herbariumlaw14_Ask x→∃ K,Af K x=some true
theorem walk (P:Pure) (x:Dr) (hS:Sz_herbariumlaw14_Ask x) (w:World) (cs:List Value) (hK:CellsR w cs (Gz.enc x)) :
  Calls Tryz.prog 4 #[.agg cs.toArray] w fun e w'=>e=.returned (.bool true)∧Below w.heap.size w w':=by
 obtain ⟨k,h⟩:=P x hS
 exact law_walk (Af.ct k 0 x true h) rfl (fun _=>rfl) rfl hK
set_option maxRecDepth 100000 in
theorem lifted (P:Pure) (os:Os) (started:os.Started) (H:Type) (enc:TypeId × Value→H) :
  ReturnsInHanded {} Tryz.checked os 4 .any (Rows.imageNumbersSpec.pre6 enc Tryz.prog Tryz.f4 Rows.imageNumbersRow.domain false) (Rows.imageNumbersSpec.post enc Tryz.prog Tryz.f4 false true false false):=by
 refine returnsInHanded_of_change_sized (C:=Tryz.checked) own started (by kernel_rfl) Tryz.func4
  (ChangeSpec.witness6 (enc:=enc) (C:=Tryz.checked) false ⟨#[],#[.agg #[.slice none 0 0,.slice none 0 0,.slice none 0 0,.slice none 0 0,.slice none 0 0]],[]⟩ 8 (by kernel_rfl) (by kernel_rfl) (by kernel_rfl) (by kernel_rfl)) ?_
 intro W base args ds gs before hval0 hW hcnd hsz0 _
 have hsz:(DataW.weightsEach Tryz.prog (Tryz.f4.params.toList++Rows.imageNumbersSpec.plain.varTypes Tryz.prog) (ds++gs)).all (·≤reachBytes)=true:=hsz0
 have hval:∀ (j:Nat) t v,Tryz.f4.params[j]?=some t→args[j]?=some v→Value.okWide Tryz.prog W .any base t v:=hval0
 have hW':=hW
 obtain ⟨p,q,hA0,hV,rfl,hfz,hnd⟩:=hW
 have hA:DataW.TrodAll enc Tryz.prog W 0 (fun _=>true) true Tryz.f4.params.toList args.toList ds p:=hA0
 rw [Tryz.params4] at hA hval hsz
 obtain ⟨v0,vs0,d0,ds0,p0,q0,hargs,rfl,rfl,h0,r0⟩:=trodAll_cons hA
 obtain ⟨rfl,rfl,rfl⟩:=trodAll_nil r0
 obtain rfl:args=#[v0]:=by cases args;simp_all
 obtain ⟨rfl,rfl⟩:=trodVars_none hV
 have hv0:=hval 0 32 v0 rfl rfl
 unfold Value.okWide at hv0
 rw [Tryz.underlying32] at hv0
 obtain ⟨cs,rfl,_⟩:=hv0
 have k0:=h0
 have lt0:∀ x∈p0,x.block<W.heap.size:=by obtain ⟨m,hm⟩:=k0;exact DataW.trod_lt m _ _ _ hm
 have hw0:∀ n∈d0.weights Tryz.prog 32,n≤140737488351232:=by
  intro n hn
  have:=List.all_eq_true.1 hsz n (DataW.weights_mem_each (j:=0) rfl rfl n hn)
  exact of_decide_eq_true this
 obtain ⟨fuel,hf⟩:=h0
 obtain ⟨x,hK,hS⟩:=opn_herbariumlaw14_Ask _ enc W fuel _ _ hf hw0
 clear hA0 hval0 hsz0 hsz
 refine (walk P x hS W cs.toList hK).mono fun e W' ⟨he,bel⟩=>?_
 subst he
 exact ⟨_,rfl,_,_,_,[],_,[],hW',trodAll_mk1 (shut_bool Tryz.underlying4 _),(trodAll_cons_mk (Below.trod laidOut (by kernel_rfl) (of_decide_eq_true (by kernel_rfl)) k0 bel lt0) trodAll_mk0),rfl,bel.frame _,fun h=>by cases h⟩
theorem over (P:Pure):Rows.imageNumbersRow.holds Tryz.pinned (OpenSpec.ofChange Rows.imageNumbersSpec) :=
 OpenClaim.holds_of_wide 4 Tryz.f4 rfl rfl rfl rfl rfl rfl rfl ⟨rfl,rfl,rfl,rfl,rfl⟩ rfl rfl rfl rfl rfl (by kernel_rfl) Tryz.func4 (by kernel_rfl)
  (of_decide_eq_true (by kernel_rfl)) (by unfold Func.isWrapper;first | (rw [if_pos (by decide +kernel)];kernel_rfl) | (rw [if_neg (by decide +kernel)];exact ⟨rfl,rfl⟩))
  (fun os started H enc _=>lifted P os started H enc)
theorem proved (P:Pure):Rows.ImageNumbersSaid:=over P
end imageNumbers
theorem imageNumbers_holds:Rows.ImageNumbersSaid:=imageNumbers.proved (fun x h=>Go.XL.imageNumbers_pure x ⟨Go.XL.le8 h.1.1 (by decide),fun s hs=>⟨Go.XL.le64 (h.1.2 s hs).2.2.1.1 (by decide),fun v hv=>⟨((h.1.2 s hs).2.2.1.2 v hv).2.2.2.1.1,Go.XL.wf64 ((h.1.2 s hs).2.2.1.2 v hv).2.2.2.2.1⟩,Go.XL.le64 (h.1.2 s hs).2.2.2.1 (by decide),fun q hq=>⟨⟨Go.XL.le8 ((h.1.2 s hs).2.2.2.2 q hq).2.2.2.2.1.2.1 (by decide),fun y hy=>Go.XL.le8 (((h.1.2 s hs).2.2.2.2 q hq).2.2.2.2.1.2.2 y hy).1 (by decide)⟩,Go.XL.le8 ((h.1.2 s hs).2.2.2.2 q hq).2.2.2.2.2.2.2.2.2.1.1 (by decide),Go.XL.le8 ((h.1.2 s hs).2.2.2.2 q hq).2.2.2.2.2.2.2.2.2.2.1 (by decide)⟩⟩,Go.XL.le8 h.2.1.1 (by decide),fun l hl=>⟨Go.XL.le8 (h.2.1.2 l hl).1 (by decide),fun o ho=>((h.2.1.2 l hl).2 o ho).2.2.1⟩,Go.XL.le8 h.2.2.2.1 (by decide),Go.XL.le8 h.2.2.1.1.1 (by decide),fun g hg=>⟨Go.XL.le8 (h.2.2.1.1.2 g hg).2.1 (by decide),fun y hy=>Go.XL.le8 ((h.2.2.1.1.2 g hg).2.2 y hy).1 (by decide)⟩,Go.XL.le8 h.2.2.1.2.1 (by decide)⟩)
end Go.Proofs.YtocbppcndoeicaaGreat
