import Derived.Test.YtocbppcndoeicaaGreatDoorIbP1
import Derived.Test.YtocbppcndoeicaaGreatDoorRows
import Derived.Test.YtocbppcndoeicaaGreatDoorCards
import Derived.Test.YtocbppcndoeicaaGreatDoorTie
import Derived.LaidMore
import Derived.Lay
import Derived.SevenTiedAt
import Derived.Stop.Joined
import Derived.WalkKit
import Derived.ProofKit
import Derived.OpenShut
import Derived.ShutString
import Derived.ChangeOld
import Derived.Below
import Derived.SizedLaws
set_option linter.all false
namespace Go.Proofs.YtocbppcndoeicaaGreatDoor
open Go.RowKit Go.XM Go.ChangeShapes Go.WideShapes
set_option linter.unusedVariables false
set_option linter.unusedSimpArgs false
def Sz_api_Bits (x:Ap):Prop:=x.1.size≤140737488351232∧(Lit.int .i64 x.2).wf=true
set_option maxRecDepth 100000 in
theorem opn_api_Bits:Opn Tryz.prog 37 Cz.enc Sz_api_Bits:=by
 have h:=Opn.struct (P:=Tryz.prog) (sz:=2) (E:=Cz.enc) (f:=fun x:Ap=>x) (g:=fun x=>x) Tryz.underlying37 (by kernel_rfl) (fun _=>rfl) (fun _=>rfl) (OpnFs.cons (s1:=1) (s2:=1) rfl (by kernel_rfl) (Opn.string Tryz.underlying9) (OpnFs.one (sz:=1) rfl (by kernel_rfl) (Opn.int Tryz.underlying3)))
 exact h
def Sz_api_Version (x:Ak):Prop:=(Lit.int .i64 x.1).wf=true∧(Lit.int .i64 x.2.1).wf=true∧(Lit.int .i64 x.2.2.1).wf=true∧Sz_api_Bits x.2.2.2.1∧(Lit.int .i64 x.2.2.2.2.1).wf=true∧True∧True
set_option maxRecDepth 100000 in
theorem opn_api_Version:Opn Tryz.prog 68 Br.enc Sz_api_Version:=by
 have h:=Opn.struct (P:=Tryz.prog) (sz:=8) (E:=Br.enc) (f:=fun x:Ak=>x) (g:=fun x=>x) Tryz.underlying68 (by kernel_rfl) (fun _=>rfl) (fun _=>rfl) (OpnFs.cons (s1:=1) (s2:=7) rfl (by kernel_rfl) (Opn.int Tryz.underlying3) (OpnFs.cons (s1:=1) (s2:=6) rfl (by kernel_rfl) (Opn.int Tryz.underlying3) (OpnFs.cons (s1:=1) (s2:=5) rfl (by kernel_rfl) (Opn.int Tryz.underlying3) (OpnFs.cons (s1:=2) (s2:=3) rfl (by kernel_rfl) opn_api_Bits (OpnFs.cons (s1:=1) (s2:=2) rfl (by kernel_rfl) (Opn.int Tryz.underlying3) (OpnFs.cons (s1:=1) (s2:=1) rfl (by kernel_rfl) (Opn.bool Tryz.underlying4) (OpnFs.one (sz:=1) rfl (by kernel_rfl) (Opn.bool Tryz.underlying4))))))))
 exact h
def Sz_api_Graph (x:Aa):Prop:=(Lit.int .i64 x.1).wf=true∧(x.2.length*24≤140737488351232∧∀ y0∈x.2,(y0.length*8≤140737488351232∧∀ y1∈y0,(Lit.int .i64 y1).wf=true))
set_option maxRecDepth 100000 in
theorem opn_api_Graph:Opn Tryz.prog 136 Bh.enc Sz_api_Graph:=by
 have h:=Opn.struct (P:=Tryz.prog) (sz:=2) (E:=Bh.enc) (f:=fun x:Aa=>x) (g:=fun x=>x) Tryz.underlying136 (by kernel_rfl) (fun _=>rfl) (fun _=>rfl) (OpnFs.cons (s1:=1) (s2:=1) rfl (by kernel_rfl) (Opn.int Tryz.underlying3) (OpnFs.one (sz:=1) rfl (by kernel_rfl) (Opn.slice (B:=24) (sz:=1) Tryz.underlying134 (by kernel_rfl) (by decide) (by kernel_rfl) (fun _=>rfl) (Opn.slice (B:=8) (sz:=1) Tryz.underlying41 (by kernel_rfl) (by decide) (by kernel_rfl) (fun _=>rfl) (Opn.int Tryz.underlying3)))))
 exact h
def Sz_api_Job (x:Ac):Prop:=(Lit.int .i64 x.1).wf=true∧(Lit.int .i64 x.2.1).wf=true∧(Lit.int .i64 x.2.2.1).wf=true∧True∧(x.2.2.2.2.1.length*8≤140737488351232∧∀ y0∈x.2.2.2.2.1,(Lit.int .i64 y0).wf=true)∧(x.2.2.2.2.2.length*8≤140737488351232∧∀ y0∈x.2.2.2.2.2,(Lit.int .i64 y0).wf=true)
set_option maxRecDepth 100000 in
theorem opn_api_Job:Opn Tryz.prog 141 Dq.enc Sz_api_Job:=by
 have h:=Opn.struct (P:=Tryz.prog) (sz:=6) (E:=Dq.enc) (f:=fun x:Ac=>x) (g:=fun x=>x) Tryz.underlying141 (by kernel_rfl) (fun _=>rfl) (fun _=>rfl) (OpnFs.cons (s1:=1) (s2:=5) rfl (by kernel_rfl) (Opn.int Tryz.underlying3) (OpnFs.cons (s1:=1) (s2:=4) rfl (by kernel_rfl) (Opn.int Tryz.underlying3) (OpnFs.cons (s1:=1) (s2:=3) rfl (by kernel_rfl) (Opn.int Tryz.underlying3) (OpnFs.cons (s1:=1) (s2:=2) rfl (by kernel_rfl) (Opn.bool Tryz.underlying4) (OpnFs.cons (s1:=1) (s2:=1) rfl (by kernel_rfl) (Opn.slice (B:=8) (sz:=1) Tryz.underlying41 (by kernel_rfl) (by decide) (by kernel_rfl) (fun _=>rfl) (Opn.int Tryz.underlying3)) (OpnFs.one (sz:=1) rfl (by kernel_rfl) (Opn.slice (B:=8) (sz:=1) Tryz.underlying41 (by kernel_rfl) (by decide) (by kernel_rfl) (fun _=>rfl) (Opn.int Tryz.underlying3))))))))
 exact h
def Sz_api_Session (x:Aq):Prop:=True∧(Lit.int .i64 x.2.1).wf=true∧True∧(Lit.int .i64 x.2.2.2.1).wf=true∧Sz_api_Graph x.2.2.2.2.1∧Sz_api_Job x.2.2.2.2.2
set_option maxRecDepth 100000 in
theorem opn_api_Session:Opn Tryz.prog 143 Bu.enc Sz_api_Session:=by
 have h:=Opn.struct (P:=Tryz.prog) (sz:=12) (E:=Bu.enc) (f:=fun x:Aq=>x) (g:=fun x=>x) Tryz.underlying143 (by kernel_rfl) (fun _=>rfl) (fun _=>rfl) (OpnFs.cons (s1:=1) (s2:=11) rfl (by kernel_rfl) (Opn.bool Tryz.underlying4) (OpnFs.cons (s1:=1) (s2:=10) rfl (by kernel_rfl) (Opn.int Tryz.underlying3) (OpnFs.cons (s1:=1) (s2:=9) rfl (by kernel_rfl) (Opn.bool Tryz.underlying4) (OpnFs.cons (s1:=1) (s2:=8) rfl (by kernel_rfl) (Opn.int Tryz.underlying3) (OpnFs.cons (s1:=2) (s2:=6) rfl (by kernel_rfl) opn_api_Graph (OpnFs.one (sz:=6) rfl (by kernel_rfl) opn_api_Job))))))
 exact h
def Sz_api_State (x:Ai):Prop:=(Lit.int .i64 x.1).wf=true∧(Lit.int .i64 x.2.1).wf=true∧(x.2.2.1.length*64≤140737488351232∧∀ y0∈x.2.2.1,Sz_api_Version y0)∧(x.2.2.2.length*144≤140737488351232∧∀ y0∈x.2.2.2,Sz_api_Session y0)
set_option maxRecDepth 100000 in
theorem opn_api_State:Opn Tryz.prog 62 Ck.enc Sz_api_State:=by
 have h:=Opn.struct (P:=Tryz.prog) (sz:=4) (E:=Ck.enc) (f:=fun x:Ai=>x) (g:=fun x=>x) Tryz.underlying62 (by kernel_rfl) (fun _=>rfl) (fun _=>rfl) (OpnFs.cons (s1:=1) (s2:=3) rfl (by kernel_rfl) (Opn.int Tryz.underlying3) (OpnFs.cons (s1:=1) (s2:=2) rfl (by kernel_rfl) (Opn.int Tryz.underlying3) (OpnFs.cons (s1:=1) (s2:=1) rfl (by kernel_rfl) (Opn.slice (B:=64) (sz:=8) Tryz.underlying59 (by kernel_rfl) (by decide) (by kernel_rfl) (fun _=>rfl) opn_api_Version) (OpnFs.one (sz:=1) rfl (by kernel_rfl) (Opn.slice (B:=144) (sz:=12) Tryz.underlying60 (by kernel_rfl) (by decide) (by kernel_rfl) (fun _=>rfl) opn_api_Session)))))
 exact h
def Sz_api_Object (x:Al):Prop:=(Lit.int .i64 x.1).wf=true∧(Lit.int .i64 x.2.1).wf=true∧Sz_api_Bits x.2.2
set_option maxRecDepth 100000 in
theorem opn_api_Object:Opn Tryz.prog 190 Ci.enc Sz_api_Object:=by
 have h:=Opn.struct (P:=Tryz.prog) (sz:=4) (E:=Ci.enc) (f:=fun x:Al=>x) (g:=fun x=>x) Tryz.underlying190 (by kernel_rfl) (fun _=>rfl) (fun _=>rfl) (OpnFs.cons (s1:=1) (s2:=3) rfl (by kernel_rfl) (Opn.int Tryz.underlying3) (OpnFs.cons (s1:=1) (s2:=2) rfl (by kernel_rfl) (Opn.int Tryz.underlying3) (OpnFs.one (sz:=2) rfl (by kernel_rfl) opn_api_Bits)))
 exact h
def Sz_herbariumlaw6_Act (x:Eu):Prop:=(Lit.int .i64 x.1).wf=true∧(Lit.int .i64 x.2.1).wf=true∧(Lit.int .i64 x.2.2).wf=true
set_option maxRecDepth 100000 in
theorem opn_herbariumlaw6_Act:Opn Tryz.prog 403 E5.enc Sz_herbariumlaw6_Act:=by
 have h:=Opn.struct (P:=Tryz.prog) (sz:=3) (E:=E5.enc) (f:=fun x:Eu=>x) (g:=fun x=>x) Tryz.underlying403 (by kernel_rfl) (fun _=>rfl) (fun _=>rfl) (OpnFs.cons (s1:=1) (s2:=2) rfl (by kernel_rfl) (Opn.int Tryz.underlying3) (OpnFs.cons (s1:=1) (s2:=1) rfl (by kernel_rfl) (Opn.int Tryz.underlying3) (OpnFs.one (sz:=1) rfl (by kernel_rfl) (Opn.int Tryz.underlying3))))
 exact h
def Sz_herbariumlaw6_Script (x:Dh):Prop:=(x.1.length*32≤140737488351232∧∀ y0∈x.1,Sz_api_Graph y0)∧(x.2.length*24≤140737488351232∧∀ y0∈x.2,Sz_herbariumlaw6_Act y0)
set_option maxRecDepth 100000 in
theorem opn_herbariumlaw6_Script:Opn Tryz.prog 52 Gz.enc Sz_herbariumlaw6_Script:=by
 have h:=Opn.struct (P:=Tryz.prog) (sz:=2) (E:=Gz.enc) (f:=fun x:Dh=>x) (g:=fun x=>x) Tryz.underlying52 (by kernel_rfl) (fun _=>rfl) (fun _=>rfl) (OpnFs.cons (s1:=1) (s2:=1) rfl (by kernel_rfl) (Opn.slice (B:=32) (sz:=2) Tryz.underlying49 (by kernel_rfl) (by decide) (by kernel_rfl) (fun _=>rfl) opn_api_Graph) (OpnFs.one (sz:=1) rfl (by kernel_rfl) (Opn.slice (B:=24) (sz:=3) Tryz.underlying50 (by kernel_rfl) (by decide) (by kernel_rfl) (fun _=>rfl) opn_herbariumlaw6_Act)))
 exact h
def Sz_herbariumlaw9_Ask (x:D8):Prop:=(x.1.length*24≤140737488351232∧∀ y0∈x.1,(y0.length*40≤140737488351232∧∀ y1∈y0,Sz_api_Object y1))∧Sz_herbariumlaw6_Script x.2.1∧(x.2.2.length*8≤140737488351232∧∀ y0∈x.2.2,(Lit.int .i64 y0).wf=true)
set_option maxRecDepth 100000 in
theorem opn_herbariumlaw9_Ask:Opn Tryz.prog 54 G7.enc Sz_herbariumlaw9_Ask:=by
 have h:=Opn.struct (P:=Tryz.prog) (sz:=4) (E:=G7.enc) (f:=fun x:D8=>x) (g:=fun x=>x) Tryz.underlying54 (by kernel_rfl) (fun _=>rfl) (fun _=>rfl) (OpnFs.cons (s1:=1) (s2:=3) rfl (by kernel_rfl) (Opn.slice (B:=24) (sz:=1) Tryz.underlying48 (by kernel_rfl) (by decide) (by kernel_rfl) (fun _=>rfl) (Opn.slice (B:=40) (sz:=4) Tryz.underlying128 (by kernel_rfl) (by decide) (by kernel_rfl) (fun _=>rfl) opn_api_Object)) (OpnFs.cons (s1:=2) (s2:=1) rfl (by kernel_rfl) opn_herbariumlaw6_Script (OpnFs.one (sz:=1) rfl (by kernel_rfl) (Opn.slice (B:=8) (sz:=1) Tryz.underlying41 (by kernel_rfl) (by decide) (by kernel_rfl) (fun _=>rfl) (Opn.int Tryz.underlying3)))))
 exact h
def Sz_herbariumlaw14_Ask (x:C8):Prop:=(x.1.length*64≤140737488351232∧∀ y0∈x.1,Sz_api_State y0)∧Sz_herbariumlaw9_Ask x.2
set_option maxRecDepth 100000 in
theorem opn_herbariumlaw14_Ask:Opn Tryz.prog 56 G5.enc Sz_herbariumlaw14_Ask:=by
 have h:=Opn.struct (P:=Tryz.prog) (sz:=5) (E:=G5.enc) (f:=fun x:C8=>x) (g:=fun x=>x) Tryz.underlying56 (by kernel_rfl) (fun _=>rfl) (fun _=>rfl) (OpnFs.cons (s1:=1) (s2:=4) rfl (by kernel_rfl) (Opn.slice (B:=64) (sz:=4) Tryz.underlying47 (by kernel_rfl) (by decide) (by kernel_rfl) (fun _=>rfl) opn_api_State) (OpnFs.one (sz:=4) rfl (by kernel_rfl) opn_herbariumlaw9_Ask))
 exact h
namespace imageBack
open Go.ChangeShapes Go.WideShapes Go.ChangeAt Go.RowKit Go.XM
open Go.ChangeMaps (open_string shut_string)
theorem own:ownKnob Tryz.prog.godebug=none:=by kernel_rfl
theorem laidOut:laidOutB Tryz.prog=true:=by kernel_rfl
def Pure:Prop:=∀ x:C8,Sz_herbariumlaw14_Ask x→∃ K,Ah K x=some true
theorem walk (P:Pure) (x:C8) (hS:Sz_herbariumlaw14_Ask x) (w:World) (cs:List Value) (hK:CellsR w cs (G5.enc x)) :
  Calls Tryz.prog 4 #[.agg cs.toArray] w fun e w'=>e=.returned (.bool true)∧Below w.heap.size w w':=by
 obtain ⟨k,h⟩:=P x hS
 exact law_walk (Ah.ct k 0 x true h) rfl (fun _=>rfl) rfl hK
set_option maxRecDepth 100000 in
theorem lifted (P:Pure) (os:Os) (started:os.Started) (H:Type) (enc:TypeId × Value→H) :
  ReturnsInHanded {} Tryz.checked os 4 .any (fun w args=>(Rows.imageBackSpec.pre enc Tryz.prog Tryz.f4 Rows.imageBackRow.domain false w args∧laidMetH Tryz.prog Rows.imageBackRow.laid w)∧sizedMet enc Tryz.prog Tryz.f4 (OpenSpec.ofChange Rows.imageBackSpec) false w args) (Rows.imageBackSpec.post enc Tryz.prog Tryz.f4 false true false false):=by
 refine returnsInHanded_of_change_and (C:=Tryz.checked) (X:=fun w _=>laidMetH Tryz.prog Rows.imageBackRow.laid w) (fun _ _ _ hh h=>h.of_heap hh) own started (by kernel_rfl) Tryz.func4
  (ChangeSpec.witness_shaped (enc:=enc) (C:=Tryz.checked) (os:=os) (X:=fun w _=>laidMetH Tryz.prog Rows.imageBackRow.laid w) false (World.laidAll Tryz.prog os Rows.imageBackRow.laid) #[.agg #[.slice none 0 0,.slice none 0 0,.slice none 0 0,.slice none 0 0,.slice none 0 0]] 8 (World.laidAll_os _ _ _)
   (World.shaped_of_ZipB (by kernel_rfl) (by kernel_rfl)) (by kernel_rfl) (by kernel_rfl) (by kernel_rfl)
   (by rw [MakeChecks.laidMetH_plain _ _ _ (by kernel_rfl)];exact laidMet_laidAll _ (by kernel_rfl) (by kernel_rfl))) ?_
 intro W base args ds gs before hval0 hW hcnd hsz0 _ _
 have hsz:(DataW.weightsEach Tryz.prog (Tryz.f4.params.toList++Rows.imageBackSpec.plain.varTypes Tryz.prog) (ds++gs)).all (·≤reachBytes)=true:=hsz0
 have hval:∀ (j:Nat) t v,Tryz.f4.params[j]?=some t→args[j]?=some v→Value.okWide Tryz.prog W .any base t v:=hval0
 have hW':=hW
 obtain ⟨p,q,hA0,hV,rfl,hfz,hnd⟩:=hW
 have hA:DataW.TrodAll enc Tryz.prog W 0 (fun _=>true) true Tryz.f4.params.toList args.toList ds p:=hA0
 rw [Tryz.params4] at hA hval hsz
 obtain ⟨v0,vs0,d0,ds0,p0,q0,hargs,rfl,rfl,h0,r0⟩:=trodAll_cons hA
 obtain ⟨rfl,rfl,rfl⟩:=trodAll_nil r0
 obtain rfl:args=#[v0]:=by cases args;simp_all
 obtain ⟨rfl,rfl⟩:=trodVars_none hV
 have hv0:=hval 0 56 v0 rfl rfl
 unfold Value.okWide at hv0
 rw [Tryz.underlying56] at hv0
 obtain ⟨cs,rfl,_⟩:=hv0
 have k0:=h0
 have lt0:∀ x∈p0,x.block<W.heap.size:=by obtain ⟨m,hm⟩:=k0;exact DataW.trod_lt m _ _ _ hm
 have hw0:∀ n∈d0.weights Tryz.prog 56,n≤140737488351232:=by
  intro n hn
  have:=List.all_eq_true.1 hsz n (DataW.weights_mem_each (j:=0) rfl rfl n hn)
  exact of_decide_eq_true this
 obtain ⟨fuel,hf⟩:=h0
 obtain ⟨x,hK,hS⟩:=opn_herbariumlaw14_Ask _ enc W fuel _ _ hf hw0
 clear hA0 hval0 hsz0 hsz
 refine (walk P x hS W cs.toList hK).mono fun e W' ⟨he,bel⟩=>?_
 subst he
 exact ⟨_,rfl,_,_,_,[],_,[],hW',trodAll_mk1 (shut_bool Tryz.underlying4 _),(trodAll_cons_mk (Below.trod laidOut (by kernel_rfl) (of_decide_eq_true (by kernel_rfl)) k0 bel lt0) trodAll_mk0),rfl,bel.frame _,fun h=>by cases h⟩
theorem c2:mapsRowed Tryz.prog=true:=by kernel_rfl
theorem c9:(Rows.imageBackRow.inPlace == Tryz.prog.inPlace 4)=true:=by kernel_rfl
theorem c10:(Rows.imageBackRow.unfollowed == Tryz.prog.unfollowed 4)=true:=by kernel_rfl
theorem c11:(Rows.imageBackRow.recurses == Tryz.prog.recurses 4)=true:=by kernel_rfl
theorem c12:(Rows.imageBackRow.named == Tryz.prog.varsNamed 4)=true:=by kernel_rfl
theorem c22:(Rows.imageBackRow.plainKeys == Tryz.prog.plainKeys)=true:=by kernel_rfl
theorem c24:Tryz.prog.stopsHeard=true:=by kernel_rfl
theorem c25:Tryz.prog.mayEnter=true:=by kernel_rfl
theorem c26:(Rows.imageBackRow.lifted == Tryz.prog.liftsFinal)=true:=by kernel_rfl
theorem c27:(Tryz.prog.make == some Rows.imageBackRow.make)=true:=by kernel_rfl
theorem an {a b:Bool} (h:a=true) (k:b=true):(a && b)=true:=by rw [h,k];rfl
theorem closed:joinedFacts Tryz.prog 4 Tryz.f4 Rows.imageBackSpec Rows.imageBackRow=true:=(an (an (an (an (an (an (an (an (an (an (an (an (an (an (an (an (an (an (an (an (an (an (an (an (an (an (an (an (an (an (an (by kernel_rfl) laidOut) c2) (by kernel_rfl)) (by kernel_rfl)) (by kernel_rfl)) (by kernel_rfl)) (by kernel_rfl)) (by kernel_rfl)) c9) c10) c11) c12) (by kernel_rfl)) (by kernel_rfl)) (by kernel_rfl)) (by kernel_rfl)) (by kernel_rfl)) (by kernel_rfl)) (by kernel_rfl)) (by kernel_rfl)) (by kernel_rfl)) c22) (by kernel_rfl)) c24) c25) c26) c27) (by kernel_rfl)) (by kernel_rfl)) (by kernel_rfl)) (by kernel_rfl))
theorem d1:Tryz.prog.mainIs=some (true,"4c950d668b5ae28b96f8fde2ff5a90282b6df3a786e5cbed40625414c6f8146c".toList):=by kernel_rfl
theorem d2:false=Tryz.prog.looks []:=by kernel_rfl
theorem d3:([56].all fun u=>!Tryz.prog.wantsStandIn u)=true:=by kernel_rfl
theorem d4:false=Rows.imageBackRow.goesBy Tryz.prog:=by kernel_rfl
theorem d5:Tryz.prog.funcNamed "herbarium/herbariumlaw18.ImageBack"=some 4:=by kernel_rfl
theorem over (P:Pure):Rows.imageBackRow.holds Tryz.pinned (OpenSpec.ofChange Rows.imageBackSpec) :=
 OpenClaim.holds_of_wide 4 Tryz.f4 rfl rfl rfl rfl rfl rfl rfl ⟨rfl,rfl,rfl,rfl,rfl⟩ rfl rfl rfl rfl rfl d5 Tryz.func4 closed
  (of_decide_eq_true (by kernel_rfl)) (by unfold Func.isWrapper;first | (rw [if_pos (by decide +kernel)];kernel_rfl) | (rw [if_neg (by decide +kernel)];exact ⟨rfl,rfl⟩))
  (fun os started H enc _=>lifted P os started H enc)
theorem proved (P:Pure):Rows.ImageBackCardSaid :=
 Claim7.holds_tied_plain_at .later [] [.data,.pinned] true (true,"4c950d668b5ae28b96f8fde2ff5a90282b6df3a786e5cbed40625414c6f8146c") false (over P) (fun _ h=>by cases h) (by kernel_rfl) (fun _ h=>by cases h) imageBack_row_tie rfl ⟨rfl,rfl⟩ d1 rfl
  (fun f fn hf hfn=>by
   obtain rfl:f=4:=Option.some.inj (d5.symm.trans hf) |>.symm
   obtain rfl:fn=Tryz.f4:=(Option.some.inj (Tryz.func4.symm.trans hfn)).symm
   exact ⟨d2,fun j t ht=>by
    rw [Tryz.params4] at ht
    have hm:t∈[56]:=by simpa using Array.mem_of_getElem? ht
    exact (show Tryz.prog.wantsStandIn t=false by simpa using List.all_eq_true.1 d3 t hm)⟩)
  d4
end imageBack
theorem imageBack_holds:Rows.ImageBackCardSaid:=imageBack.proved (fun x h=>Go.XL.imageBack_pure x ⟨Go.XL.le8 h.1.1 (by decide),fun s hs=>⟨Go.XL.le64 (h.1.2 s hs).2.2.1.1 (by decide),fun v hv=>⟨((h.1.2 s hs).2.2.1.2 v hv).2.2.2.1.1,Go.XL.wf64 ((h.1.2 s hs).2.2.1.2 v hv).2.2.2.2.1⟩,Go.XL.le64 (h.1.2 s hs).2.2.2.1 (by decide),fun q hq=>⟨⟨Go.XL.le8 ((h.1.2 s hs).2.2.2.2 q hq).2.2.2.2.1.2.1 (by decide),fun y hy=>Go.XL.le8 (((h.1.2 s hs).2.2.2.2 q hq).2.2.2.2.1.2.2 y hy).1 (by decide)⟩,Go.XL.le8 ((h.1.2 s hs).2.2.2.2 q hq).2.2.2.2.2.2.2.2.2.1.1 (by decide),Go.XL.le8 ((h.1.2 s hs).2.2.2.2 q hq).2.2.2.2.2.2.2.2.2.2.1 (by decide)⟩⟩,Go.XL.le8 h.2.1.1 (by decide),fun l hl=>⟨Go.XL.le8 (h.2.1.2 l hl).1 (by decide),fun o ho=>((h.2.1.2 l hl).2 o ho).2.2.1⟩,Go.XL.le8 h.2.2.2.1 (by decide),Go.XL.le8 h.2.2.1.1.1 (by decide),fun g hg=>⟨Go.XL.le8 (h.2.2.1.1.2 g hg).2.1 (by decide),fun y hy=>Go.XL.le8 ((h.2.2.1.1.2 g hg).2.2 y hy).1 (by decide)⟩,Go.XL.le8 h.2.2.1.2.1 (by decide)⟩)
end Go.Proofs.YtocbppcndoeicaaGreatDoor
