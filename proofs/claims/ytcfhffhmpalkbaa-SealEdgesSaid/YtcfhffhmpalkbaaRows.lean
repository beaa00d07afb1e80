/-
  No cell of these rows narrows 'for every input' (looked for: loops, veiled, ifaces, maps, wideKeys, modest, calm, conditions, laid).
  DERIVED. THE GIVEN ROWS OF THIS SEAT. 11 by the template 'for every input the law returns true; each argument reads behind the call as it read before'; 0 by the template 'total and deterministic' (their statements: YtcfhffhmpalkbaaTotals.lean).
  GIVEN WITH THE SEED: the statements are not yours to turn. If you find one false, say at which input.
  Laid BY PROGRAM, IN A SANDBOX (cutbox-rows.mjs): the forced cells as the released guide's own fill.sh prints them over the translation 1200641c05242d29… (all of the seat's roots in one cut). By AI agents, Wed Nov 11 2026. No macro, syntax, notation, axiom, sorry.
-/
import Derived.Test.YtcfhffhmpalkbaaChecked
import GoSem.Claim
import GoSem.ClaimJoined
import GoSem.ClaimMapViews
import Derived.JoinedTies
import Derived.KernelRfl
namespace Go.Proofs.Ytcfhffhmpalkbaa
/- THE CELL 'sum', in the pinned program and in every row, IS THE sha256 OF THE DUMP (.gsa) THAT YtcfhffhmpalkbaaProg.lean LOADS. Nothing in Lean hashes anything: it is a label: what it is worth is what the hold of that sum in a sandbox is worth. -/
noncomputable def Try.pinned : Pinned := { name := "ytcfhffhmpalkbaa", sum := "1200641c05242d29a88f3f97a03f75b89f6cdcda5df7fd2ef5c979170a19d190", checked := Try.checked }
namespace Rows
def none {H : Type} : Left H := { results := [], args := [] }

/-- 'herbariumlaw17.SealExact': WHATEVER THE INPUT: true; the input reads as it did. -/
def sealExactSpec : ChangeSpec := { name := "sealExact", fn := fun _ => fun
  | [d] => { results := [.lit (.bool true)], args := [d] }
  | _ => none }
def sealExactRow : OpenClaim := { program := "ytcfhffhmpalkbaa", sum := "1200641c05242d29a88f3f97a03f75b89f6cdcda5df7fd2ef5c979170a19d190", func := "herbarium/herbariumlaw17.SealExact", spec := "sealExact", inPlace := ["internal/abi.NoEscape", "internal/bytealg.MakeNoZero"], apart := false }
def SealExactSaid : Prop := sealExactRow.holds Try.pinned (OpenSpec.ofChange sealExactSpec)

/-- ITS FALSE NEIGHBOUR: 'it returns false'. Refute it at one input. -/
def sealExactWrong : ChangeSpec := { name := "sealExact", fn := fun _ => fun
  | [d] => { results := [.lit (.bool false)], args := [d] }
  | _ => none }
def SealExactWrongFalsely : Prop := sealExactRow.holds Try.pinned (OpenSpec.ofChange sealExactWrong)

/-- 'herbariumlaw17.SealTurned': WHATEVER THE INPUT: true; the input reads as it did. -/
def sealTurnedSpec : ChangeSpec := { name := "sealTurned", fn := fun _ => fun
  | [d] => { results := [.lit (.bool true)], args := [d] }
  | _ => none }
def sealTurnedRow : OpenClaim := { program := "ytcfhffhmpalkbaa", sum := "1200641c05242d29a88f3f97a03f75b89f6cdcda5df7fd2ef5c979170a19d190", func := "herbarium/herbariumlaw17.SealTurned", spec := "sealTurned", inPlace := ["internal/abi.NoEscape", "internal/bytealg.MakeNoZero"], apart := false }
def SealTurnedSaid : Prop := sealTurnedRow.holds Try.pinned (OpenSpec.ofChange sealTurnedSpec)

/-- ITS FALSE NEIGHBOUR: 'it returns false'. Refute it at one input. -/
def sealTurnedWrong : ChangeSpec := { name := "sealTurned", fn := fun _ => fun
  | [d] => { results := [.lit (.bool false)], args := [d] }
  | _ => none }
def SealTurnedWrongFalsely : Prop := sealTurnedRow.holds Try.pinned (OpenSpec.ofChange sealTurnedWrong)

/-- 'herbariumlaw17.SealEdges': WHATEVER THE INPUT: true; the input reads as it did. -/
def sealEdgesSpec : ChangeSpec := { name := "sealEdges", fn := fun _ => fun
  | [d] => { results := [.lit (.bool true)], args := [d] }
  | _ => none }
def sealEdgesRow : OpenClaim := { program := "ytcfhffhmpalkbaa", sum := "1200641c05242d29a88f3f97a03f75b89f6cdcda5df7fd2ef5c979170a19d190", func := "herbarium/herbariumlaw17.SealEdges", spec := "sealEdges", inPlace := ["internal/abi.NoEscape", "internal/bytealg.MakeNoZero"], apart := false }
def SealEdgesSaid : Prop := sealEdgesRow.holds Try.pinned (OpenSpec.ofChange sealEdgesSpec)

/-- ITS FALSE NEIGHBOUR: 'it returns false'. Refute it at one input. -/
def sealEdgesWrong : ChangeSpec := { name := "sealEdges", fn := fun _ => fun
  | [d] => { results := [.lit (.bool false)], args := [d] }
  | _ => none }
def SealEdgesWrongFalsely : Prop := sealEdgesRow.holds Try.pinned (OpenSpec.ofChange sealEdgesWrong)

/-- 'herbariumlaw10.KernelOut': WHATEVER THE INPUT: true; the input reads as it did. -/
def kernelOutSpec : ChangeSpec := { name := "kernelOut", fn := fun _ => fun
  | [d] => { results := [.lit (.bool true)], args := [d] }
  | _ => none }
def kernelOutRow : OpenClaim := { program := "ytcfhffhmpalkbaa", sum := "1200641c05242d29a88f3f97a03f75b89f6cdcda5df7fd2ef5c979170a19d190", func := "herbarium/herbariumlaw10.KernelOut", spec := "kernelOut", apart := false }
def KernelOutSaid : Prop := kernelOutRow.holds Try.pinned (OpenSpec.ofChange kernelOutSpec)

/-- ITS FALSE NEIGHBOUR: 'it returns false'. Refute it at one input. -/
def kernelOutWrong : ChangeSpec := { name := "kernelOut", fn := fun _ => fun
  | [d] => { results := [.lit (.bool false)], args := [d] }
  | _ => none }
def KernelOutWrongFalsely : Prop := kernelOutRow.holds Try.pinned (OpenSpec.ofChange kernelOutWrong)

/-- 'herbariumlaw10.KernelIn': WHATEVER THE INPUT: true; the input reads as it did. -/
def kernelInSpec : ChangeSpec := { name := "kernelIn", fn := fun _ => fun
  | [d] => { results := [.lit (.bool true)], args := [d] }
  | _ => none }
def kernelInRow : OpenClaim := { program := "ytcfhffhmpalkbaa", sum := "1200641c05242d29a88f3f97a03f75b89f6cdcda5df7fd2ef5c979170a19d190", func := "herbarium/herbariumlaw10.KernelIn", spec := "kernelIn", apart := false }
def KernelInSaid : Prop := kernelInRow.holds Try.pinned (OpenSpec.ofChange kernelInSpec)

/-- ITS FALSE NEIGHBOUR: 'it returns false'. Refute it at one input. -/
def kernelInWrong : ChangeSpec := { name := "kernelIn", fn := fun _ => fun
  | [d] => { results := [.lit (.bool false)], args := [d] }
  | _ => none }
def KernelInWrongFalsely : Prop := kernelInRow.holds Try.pinned (OpenSpec.ofChange kernelInWrong)

/-- 'herbariumlaw10.KernelCount': WHATEVER THE INPUT: true; the input reads as it did. -/
def kernelCountSpec : ChangeSpec := { name := "kernelCount", fn := fun _ => fun
  | [d] => { results := [.lit (.bool true)], args := [d] }
  | _ => none }
def kernelCountRow : OpenClaim := { program := "ytcfhffhmpalkbaa", sum := "1200641c05242d29a88f3f97a03f75b89f6cdcda5df7fd2ef5c979170a19d190", func := "herbarium/herbariumlaw10.KernelCount", spec := "kernelCount", apart := false }
def KernelCountSaid : Prop := kernelCountRow.holds Try.pinned (OpenSpec.ofChange kernelCountSpec)

/-- ITS FALSE NEIGHBOUR: 'it returns false'. Refute it at one input. -/
def kernelCountWrong : ChangeSpec := { name := "kernelCount", fn := fun _ => fun
  | [d] => { results := [.lit (.bool false)], args := [d] }
  | _ => none }
def KernelCountWrongFalsely : Prop := kernelCountRow.holds Try.pinned (OpenSpec.ofChange kernelCountWrong)

/-- 'herbariumlaw10.KernelFar': WHATEVER THE INPUT: true; the input reads as it did. -/
def kernelFarSpec : ChangeSpec := { name := "kernelFar", fn := fun _ => fun
  | [d] => { results := [.lit (.bool true)], args := [d] }
  | _ => none }
def kernelFarRow : OpenClaim := { program := "ytcfhffhmpalkbaa", sum := "1200641c05242d29a88f3f97a03f75b89f6cdcda5df7fd2ef5c979170a19d190", func := "herbarium/herbariumlaw10.KernelFar", spec := "kernelFar", apart := false }
def KernelFarSaid : Prop := kernelFarRow.holds Try.pinned (OpenSpec.ofChange kernelFarSpec)

/-- ITS FALSE NEIGHBOUR: 'it returns false'. Refute it at one input. -/
def kernelFarWrong : ChangeSpec := { name := "kernelFar", fn := fun _ => fun
  | [d] => { results := [.lit (.bool false)], args := [d] }
  | _ => none }
def KernelFarWrongFalsely : Prop := kernelFarRow.holds Try.pinned (OpenSpec.ofChange kernelFarWrong)

/-- 'herbariumlaw10.KernelPart': WHATEVER THE INPUT: true; the input reads as it did. -/
def kernelPartSpec : ChangeSpec := { name := "kernelPart", fn := fun _ => fun
  | [d] => { results := [.lit (.bool true)], args := [d] }
  | _ => none }
def kernelPartRow : OpenClaim := { program := "ytcfhffhmpalkbaa", sum := "1200641c05242d29a88f3f97a03f75b89f6cdcda5df7fd2ef5c979170a19d190", func := "herbarium/herbariumlaw10.KernelPart", spec := "kernelPart", apart := false }
def KernelPartSaid : Prop := kernelPartRow.holds Try.pinned (OpenSpec.ofChange kernelPartSpec)

/-- ITS FALSE NEIGHBOUR: 'it returns false'. Refute it at one input. -/
def kernelPartWrong : ChangeSpec := { name := "kernelPart", fn := fun _ => fun
  | [d] => { results := [.lit (.bool false)], args := [d] }
  | _ => none }
def KernelPartWrongFalsely : Prop := kernelPartRow.holds Try.pinned (OpenSpec.ofChange kernelPartWrong)

/-- 'herbariumlaw10.KernelAll': WHATEVER THE INPUT: true; the input reads as it did. -/
def kernelAllSpec : ChangeSpec := { name := "kernelAll", fn := fun _ => fun
  | [d] => { results := [.lit (.bool true)], args := [d] }
  | _ => none }
def kernelAllRow : OpenClaim := { program := "ytcfhffhmpalkbaa", sum := "1200641c05242d29a88f3f97a03f75b89f6cdcda5df7fd2ef5c979170a19d190", func := "herbarium/herbariumlaw10.KernelAll", spec := "kernelAll", apart := false }
def KernelAllSaid : Prop := kernelAllRow.holds Try.pinned (OpenSpec.ofChange kernelAllSpec)

/-- ITS FALSE NEIGHBOUR: 'it returns false'. Refute it at one input. -/
def kernelAllWrong : ChangeSpec := { name := "kernelAll", fn := fun _ => fun
  | [d] => { results := [.lit (.bool false)], args := [d] }
  | _ => none }
def KernelAllWrongFalsely : Prop := kernelAllRow.holds Try.pinned (OpenSpec.ofChange kernelAllWrong)

/-- 'herbariumlaw10.KernelAsks': WHATEVER THE INPUT: true; the input reads as it did. -/
def kernelAsksSpec : ChangeSpec := { name := "kernelAsks", fn := fun _ => fun
  | [d] => { results := [.lit (.bool true)], args := [d] }
  | _ => none }
def kernelAsksRow : OpenClaim := { program := "ytcfhffhmpalkbaa", sum := "1200641c05242d29a88f3f97a03f75b89f6cdcda5df7fd2ef5c979170a19d190", func := "herbarium/herbariumlaw10.KernelAsks", spec := "kernelAsks", apart := false }
def KernelAsksSaid : Prop := kernelAsksRow.holds Try.pinned (OpenSpec.ofChange kernelAsksSpec)

/-- ITS FALSE NEIGHBOUR: 'it returns false'. Refute it at one input. -/
def kernelAsksWrong : ChangeSpec := { name := "kernelAsks", fn := fun _ => fun
  | [d] => { results := [.lit (.bool false)], args := [d] }
  | _ => none }
def KernelAsksWrongFalsely : Prop := kernelAsksRow.holds Try.pinned (OpenSpec.ofChange kernelAsksWrong)

/-- 'herbariumlaw10.KernelTurns': WHATEVER THE INPUT: true; the input reads as it did. -/
def kernelTurnsSpec : ChangeSpec := { name := "kernelTurns", fn := fun _ => fun
  | [d] => { results := [.lit (.bool true)], args := [d] }
  | _ => none }
def kernelTurnsRow : OpenClaim := { program := "ytcfhffhmpalkbaa", sum := "1200641c05242d29a88f3f97a03f75b89f6cdcda5df7fd2ef5c979170a19d190", func := "herbarium/herbariumlaw10.KernelTurns", spec := "kernelTurns", apart := false }
def KernelTurnsSaid : Prop := kernelTurnsRow.holds Try.pinned (OpenSpec.ofChange kernelTurnsSpec)

/-- ITS FALSE NEIGHBOUR: 'it returns false'. Refute it at one input. -/
def kernelTurnsWrong : ChangeSpec := { name := "kernelTurns", fn := fun _ => fun
  | [d] => { results := [.lit (.bool false)], args := [d] }
  | _ => none }
def KernelTurnsWrongFalsely : Prop := kernelTurnsRow.holds Try.pinned (OpenSpec.ofChange kernelTurnsWrong)

/- THE SECOND FORM. 'bulk': how many values and letters a reading holds, each counted each time it is reached (what is shared counts as often as it is met; a slice's spare places count too). A statement '..UptoSaid' is the law's where the arguments, and the package variables that the reading takes, are together of bulk at most 1048576: NARROWER than '..Said'. Prove '..Said' where nothing that the law and all that it calls make is longer than what came in: it says more and counts as full. Else prove '..UptoSaid'. A law counts once. -/
mutual
def uptoBulk {H : Type} : DataW H → Nat
  | .lit (.string bytes) => bytes.length + 1
  | .lit _ => 1
  | .nil => 1
  | .ptr d => uptoBulk d + 1
  | .slice elems spare => uptoBulkAll elems + uptoBulkAll spare + 1
  | .agg parts => uptoBulkAll parts + 1
  | .iface _ d => uptoBulk d + 1
  | .map entries => uptoBulkEntries entries + 1
  | .held _ => 1
def uptoBulkAll {H : Type} : List (DataW H) → Nat
  | [] => 0
  | d :: r => uptoBulk d + uptoBulkAll r
def uptoBulkEntries {H : Type} : List (Lit × DataW H) → Nat
  | [] => 0
  | x :: r => uptoBulkEntry x + uptoBulkEntries r
def uptoBulkEntry {H : Type} : Lit × DataW H → Nat
  | (.string bytes, d) => bytes.length + uptoBulk d + 1
  | (_, d) => uptoBulk d + 1
 end
def uptoSmall : (H : Type) → List (DataW H) → Bool := fun _ ds => decide (uptoBulkAll ds ≤ 1048576)
def OpenSpec.upto (s : _root_.Go.ChangeSpec) : _root_.Go.OpenSpec := { _root_.Go.OpenSpec.ofChange s with cond := some uptoSmall }

/-- 'herbariumlaw17.SealExact', WHERE WHAT IT READS IS OF BULK AT MOST 1048576: true; the input reads as it did. -/
def sealExactUptoRow : OpenClaim := { program := "ytcfhffhmpalkbaa", sum := "1200641c05242d29a88f3f97a03f75b89f6cdcda5df7fd2ef5c979170a19d190", func := "herbarium/herbariumlaw17.SealExact", spec := "sealExact", inPlace := ["internal/abi.NoEscape", "internal/bytealg.MakeNoZero"], apart := false, narrowed := true }
def SealExactUptoSaid : Prop := sealExactUptoRow.holds Try.pinned (OpenSpec.upto sealExactSpec)

/-- 'herbariumlaw17.SealTurned', WHERE WHAT IT READS IS OF BULK AT MOST 1048576: true; the input reads as it did. -/
def sealTurnedUptoRow : OpenClaim := { program := "ytcfhffhmpalkbaa", sum := "1200641c05242d29a88f3f97a03f75b89f6cdcda5df7fd2ef5c979170a19d190", func := "herbarium/herbariumlaw17.SealTurned", spec := "sealTurned", inPlace := ["internal/abi.NoEscape", "internal/bytealg.MakeNoZero"], apart := false, narrowed := true }
def SealTurnedUptoSaid : Prop := sealTurnedUptoRow.holds Try.pinned (OpenSpec.upto sealTurnedSpec)

/-- 'herbariumlaw17.SealEdges', WHERE WHAT IT READS IS OF BULK AT MOST 1048576: true; the input reads as it did. -/
def sealEdgesUptoRow : OpenClaim := { program := "ytcfhffhmpalkbaa", sum := "1200641c05242d29a88f3f97a03f75b89f6cdcda5df7fd2ef5c979170a19d190", func := "herbarium/herbariumlaw17.SealEdges", spec := "sealEdges", inPlace := ["internal/abi.NoEscape", "internal/bytealg.MakeNoZero"], apart := false, narrowed := true }
def SealEdgesUptoSaid : Prop := sealEdgesUptoRow.holds Try.pinned (OpenSpec.upto sealEdgesSpec)

/-- 'herbariumlaw10.KernelOut', WHERE WHAT IT READS IS OF BULK AT MOST 1048576: true; the input reads as it did. -/
def kernelOutUptoRow : OpenClaim := { program := "ytcfhffhmpalkbaa", sum := "1200641c05242d29a88f3f97a03f75b89f6cdcda5df7fd2ef5c979170a19d190", func := "herbarium/herbariumlaw10.KernelOut", spec := "kernelOut", apart := false, narrowed := true }
def KernelOutUptoSaid : Prop := kernelOutUptoRow.holds Try.pinned (OpenSpec.upto kernelOutSpec)

/-- 'herbariumlaw10.KernelIn', WHERE WHAT IT READS IS OF BULK AT MOST 1048576: true; the input reads as it did. -/
def kernelInUptoRow : OpenClaim := { program := "ytcfhffhmpalkbaa", sum := "1200641c05242d29a88f3f97a03f75b89f6cdcda5df7fd2ef5c979170a19d190", func := "herbarium/herbariumlaw10.KernelIn", spec := "kernelIn", apart := false, narrowed := true }
def KernelInUptoSaid : Prop := kernelInUptoRow.holds Try.pinned (OpenSpec.upto kernelInSpec)

/-- 'herbariumlaw10.KernelCount', WHERE WHAT IT READS IS OF BULK AT MOST 1048576: true; the input reads as it did. -/
def kernelCountUptoRow : OpenClaim := { program := "ytcfhffhmpalkbaa", sum := "1200641c05242d29a88f3f97a03f75b89f6cdcda5df7fd2ef5c979170a19d190", func := "herbarium/herbariumlaw10.KernelCount", spec := "kernelCount", apart := false, narrowed := true }
def KernelCountUptoSaid : Prop := kernelCountUptoRow.holds Try.pinned (OpenSpec.upto kernelCountSpec)

/-- 'herbariumlaw10.KernelFar', WHERE WHAT IT READS IS OF BULK AT MOST 1048576: true; the input reads as it did. -/
def kernelFarUptoRow : OpenClaim := { program := "ytcfhffhmpalkbaa", sum := "1200641c05242d29a88f3f97a03f75b89f6cdcda5df7fd2ef5c979170a19d190", func := "herbarium/herbariumlaw10.KernelFar", spec := "kernelFar", apart := false, narrowed := true }
def KernelFarUptoSaid : Prop := kernelFarUptoRow.holds Try.pinned (OpenSpec.upto kernelFarSpec)

/-- 'herbariumlaw10.KernelPart', WHERE WHAT IT READS IS OF BULK AT MOST 1048576: true; the input reads as it did. -/
def kernelPartUptoRow : OpenClaim := { program := "ytcfhffhmpalkbaa", sum := "1200641c05242d29a88f3f97a03f75b89f6cdcda5df7fd2ef5c979170a19d190", func := "herbarium/herbariumlaw10.KernelPart", spec := "kernelPart", apart := false, narrowed := true }
def KernelPartUptoSaid : Prop := kernelPartUptoRow.holds Try.pinned (OpenSpec.upto kernelPartSpec)

/-- 'herbariumlaw10.KernelAll', WHERE WHAT IT READS IS OF BULK AT MOST 1048576: true; the input reads as it did. -/
def kernelAllUptoRow : OpenClaim := { program := "ytcfhffhmpalkbaa", sum := "1200641c05242d29a88f3f97a03f75b89f6cdcda5df7fd2ef5c979170a19d190", func := "herbarium/herbariumlaw10.KernelAll", spec := "kernelAll", apart := false, narrowed := true }
def KernelAllUptoSaid : Prop := kernelAllUptoRow.holds Try.pinned (OpenSpec.upto kernelAllSpec)

/-- 'herbariumlaw10.KernelAsks', WHERE WHAT IT READS IS OF BULK AT MOST 1048576: true; the input reads as it did. -/
def kernelAsksUptoRow : OpenClaim := { program := "ytcfhffhmpalkbaa", sum := "1200641c05242d29a88f3f97a03f75b89f6cdcda5df7fd2ef5c979170a19d190", func := "herbarium/herbariumlaw10.KernelAsks", spec := "kernelAsks", apart := false, narrowed := true }
def KernelAsksUptoSaid : Prop := kernelAsksUptoRow.holds Try.pinned (OpenSpec.upto kernelAsksSpec)

/-- 'herbariumlaw10.KernelTurns', WHERE WHAT IT READS IS OF BULK AT MOST 1048576: true; the input reads as it did. -/
def kernelTurnsUptoRow : OpenClaim := { program := "ytcfhffhmpalkbaa", sum := "1200641c05242d29a88f3f97a03f75b89f6cdcda5df7fd2ef5c979170a19d190", func := "herbarium/herbariumlaw10.KernelTurns", spec := "kernelTurns", apart := false, narrowed := true }
def KernelTurnsUptoSaid : Prop := kernelTurnsUptoRow.holds Try.pinned (OpenSpec.upto kernelTurnsSpec)

end Rows
end Go.Proofs.Ytcfhffhmpalkbaa
