/-
  No cell of these rows narrows 'for every input' (looked for: loops, veiled, ifaces, maps, wideKeys, modest, calm, conditions, laid).
  DERIVED. THE GIVEN ROWS OF THIS SEAT. 12 by the template 'for every input the law returns true; each argument reads behind the call as it read before'; 0 by the template 'total and deterministic' (their statements: YtdcicijfcbhgnaaTotals.lean).
  GIVEN WITH THE SEED: the statements are not yours to turn. If you find one false, say at which input.
  Laid BY PROGRAM, IN A SANDBOX (cutbox-rows.mjs): the forced cells as the released guide's own fill.sh prints them over the translation 13a361659922a4bb… (all of the seat's roots in one cut). By AI agents, Wed Nov 11 2026. No macro, syntax, notation, axiom, sorry.
-/
import Derived.Test.YtdcicijfcbhgnaaChecked
import GoSem.Claim
import GoSem.ClaimJoined
import GoSem.ClaimMapViews
import Derived.JoinedTies
import Derived.KernelRfl
namespace Go.Proofs.Ytdcicijfcbhgnaa
/- THE CELL 'sum', in the pinned program and in every row, IS THE sha256 OF THE DUMP (.gsa) THAT YtdcicijfcbhgnaaProg.lean LOADS. Nothing in Lean hashes anything: it is a label: what it is worth is what the hold of that sum in a sandbox is worth. -/
noncomputable def Try.pinned : Pinned := { name := "ytdcicijfcbhgnaa", sum := "13a361659922a4bbb045368a808bd974a40a147d6c86d96569b0bd8c4caedc73", checked := Try.checked }
namespace Rows
def none {H : Type} : Left H := { results := [], args := [] }

/-- 'herbariumlaw4.RunsSplit': WHATEVER THE INPUT: true; the input reads as it did. -/
def runsSplitSpec : ChangeSpec := { name := "runsSplit", fn := fun _ => fun
  | [d] => { results := [.lit (.bool true)], args := [d] }
  | _ => none }
def runsSplitRow : OpenClaim := { program := "ytdcicijfcbhgnaa", sum := "13a361659922a4bbb045368a808bd974a40a147d6c86d96569b0bd8c4caedc73", func := "herbarium/herbariumlaw4.RunsSplit", spec := "runsSplit", recurses := true, apart := false }
def RunsSplitSaid : Prop := runsSplitRow.holds Try.pinned (OpenSpec.ofChange runsSplitSpec)

/-- ITS FALSE NEIGHBOUR: 'it returns false'. Refute it at one input. -/
def runsSplitWrong : ChangeSpec := { name := "runsSplit", fn := fun _ => fun
  | [d] => { results := [.lit (.bool false)], args := [d] }
  | _ => none }
def RunsSplitWrongFalsely : Prop := runsSplitRow.holds Try.pinned (OpenSpec.ofChange runsSplitWrong)

/-- 'herbariumlaw5.CopiesOf': WHATEVER THE INPUT: true; the input reads as it did. -/
def copiesOfSpec : ChangeSpec := { name := "copiesOf", fn := fun _ => fun
  | [d] => { results := [.lit (.bool true)], args := [d] }
  | _ => none }
def copiesOfRow : OpenClaim := { program := "ytdcicijfcbhgnaa", sum := "13a361659922a4bbb045368a808bd974a40a147d6c86d96569b0bd8c4caedc73", func := "herbarium/herbariumlaw5.CopiesOf", spec := "copiesOf", recurses := true, apart := false }
def CopiesOfSaid : Prop := copiesOfRow.holds Try.pinned (OpenSpec.ofChange copiesOfSpec)

/-- ITS FALSE NEIGHBOUR: 'it returns false'. Refute it at one input. -/
def copiesOfWrong : ChangeSpec := { name := "copiesOf", fn := fun _ => fun
  | [d] => { results := [.lit (.bool false)], args := [d] }
  | _ => none }
def CopiesOfWrongFalsely : Prop := copiesOfRow.holds Try.pinned (OpenSpec.ofChange copiesOfWrong)

/-- 'herbariumlaw4.RunsBack': WHATEVER THE INPUT: true; the input reads as it did. -/
def runsBackSpec : ChangeSpec := { name := "runsBack", fn := fun _ => fun
  | [d] => { results := [.lit (.bool true)], args := [d] }
  | _ => none }
def runsBackRow : OpenClaim := { program := "ytdcicijfcbhgnaa", sum := "13a361659922a4bbb045368a808bd974a40a147d6c86d96569b0bd8c4caedc73", func := "herbarium/herbariumlaw4.RunsBack", spec := "runsBack", recurses := true, apart := false }
def RunsBackSaid : Prop := runsBackRow.holds Try.pinned (OpenSpec.ofChange runsBackSpec)

/-- ITS FALSE NEIGHBOUR: 'it returns false'. Refute it at one input. -/
def runsBackWrong : ChangeSpec := { name := "runsBack", fn := fun _ => fun
  | [d] => { results := [.lit (.bool false)], args := [d] }
  | _ => none }
def RunsBackWrongFalsely : Prop := runsBackRow.holds Try.pinned (OpenSpec.ofChange runsBackWrong)

/-- 'herbariumlaw4.RunsExact': WHATEVER THE INPUT: true; the input reads as it did. -/
def runsExactSpec : ChangeSpec := { name := "runsExact", fn := fun _ => fun
  | [d] => { results := [.lit (.bool true)], args := [d] }
  | _ => none }
def runsExactRow : OpenClaim := { program := "ytdcicijfcbhgnaa", sum := "13a361659922a4bbb045368a808bd974a40a147d6c86d96569b0bd8c4caedc73", func := "herbarium/herbariumlaw4.RunsExact", spec := "runsExact", recurses := true, apart := false }
def RunsExactSaid : Prop := runsExactRow.holds Try.pinned (OpenSpec.ofChange runsExactSpec)

/-- ITS FALSE NEIGHBOUR: 'it returns false'. Refute it at one input. -/
def runsExactWrong : ChangeSpec := { name := "runsExact", fn := fun _ => fun
  | [d] => { results := [.lit (.bool false)], args := [d] }
  | _ => none }
def RunsExactWrongFalsely : Prop := runsExactRow.holds Try.pinned (OpenSpec.ofChange runsExactWrong)

/-- 'herbariumlaw4.RunsAll': WHATEVER THE INPUT: true; the input reads as it did. -/
def runsAllSpec : ChangeSpec := { name := "runsAll", fn := fun _ => fun
  | [d] => { results := [.lit (.bool true)], args := [d] }
  | _ => none }
def runsAllRow : OpenClaim := { program := "ytdcicijfcbhgnaa", sum := "13a361659922a4bbb045368a808bd974a40a147d6c86d96569b0bd8c4caedc73", func := "herbarium/herbariumlaw4.RunsAll", spec := "runsAll", recurses := true, apart := false }
def RunsAllSaid : Prop := runsAllRow.holds Try.pinned (OpenSpec.ofChange runsAllSpec)

/-- ITS FALSE NEIGHBOUR: 'it returns false'. Refute it at one input. -/
def runsAllWrong : ChangeSpec := { name := "runsAll", fn := fun _ => fun
  | [d] => { results := [.lit (.bool false)], args := [d] }
  | _ => none }
def RunsAllWrongFalsely : Prop := runsAllRow.holds Try.pinned (OpenSpec.ofChange runsAllWrong)

/-- 'herbariumlaw7.FrameRings': WHATEVER THE INPUT: true; the input reads as it did. -/
def frameRingsSpec : ChangeSpec := { name := "frameRings", fn := fun _ => fun
  | [d] => { results := [.lit (.bool true)], args := [d] }
  | _ => none }
def frameRingsRow : OpenClaim := { program := "ytdcicijfcbhgnaa", sum := "13a361659922a4bbb045368a808bd974a40a147d6c86d96569b0bd8c4caedc73", func := "herbarium/herbariumlaw7.FrameRings", spec := "frameRings", unfollowed := true, recurses := true, apart := false }
def FrameRingsSaid : Prop := frameRingsRow.holds Try.pinned (OpenSpec.ofChange frameRingsSpec)

/-- ITS FALSE NEIGHBOUR: 'it returns false'. Refute it at one input. -/
def frameRingsWrong : ChangeSpec := { name := "frameRings", fn := fun _ => fun
  | [d] => { results := [.lit (.bool false)], args := [d] }
  | _ => none }
def FrameRingsWrongFalsely : Prop := frameRingsRow.holds Try.pinned (OpenSpec.ofChange frameRingsWrong)

/-- 'herbariumlaw7.FrameBack': WHATEVER THE INPUT: true; the input reads as it did. -/
def frameBackSpec : ChangeSpec := { name := "frameBack", fn := fun _ => fun
  | [d] => { results := [.lit (.bool true)], args := [d] }
  | _ => none }
def frameBackRow : OpenClaim := { program := "ytdcicijfcbhgnaa", sum := "13a361659922a4bbb045368a808bd974a40a147d6c86d96569b0bd8c4caedc73", func := "herbarium/herbariumlaw7.FrameBack", spec := "frameBack", unfollowed := true, recurses := true, apart := false }
def FrameBackSaid : Prop := frameBackRow.holds Try.pinned (OpenSpec.ofChange frameBackSpec)

/-- ITS FALSE NEIGHBOUR: 'it returns false'. Refute it at one input. -/
def frameBackWrong : ChangeSpec := { name := "frameBack", fn := fun _ => fun
  | [d] => { results := [.lit (.bool false)], args := [d] }
  | _ => none }
def FrameBackWrongFalsely : Prop := frameBackRow.holds Try.pinned (OpenSpec.ofChange frameBackWrong)

/-- 'herbariumlaw5.CopiesBack': WHATEVER THE INPUT: true; the input reads as it did. -/
def copiesBackSpec : ChangeSpec := { name := "copiesBack", fn := fun _ => fun
  | [d] => { results := [.lit (.bool true)], args := [d] }
  | _ => none }
def copiesBackRow : OpenClaim := { program := "ytdcicijfcbhgnaa", sum := "13a361659922a4bbb045368a808bd974a40a147d6c86d96569b0bd8c4caedc73", func := "herbarium/herbariumlaw5.CopiesBack", spec := "copiesBack", recurses := true, apart := false }
def CopiesBackSaid : Prop := copiesBackRow.holds Try.pinned (OpenSpec.ofChange copiesBackSpec)

/-- ITS FALSE NEIGHBOUR: 'it returns false'. Refute it at one input. -/
def copiesBackWrong : ChangeSpec := { name := "copiesBack", fn := fun _ => fun
  | [d] => { results := [.lit (.bool false)], args := [d] }
  | _ => none }
def CopiesBackWrongFalsely : Prop := copiesBackRow.holds Try.pinned (OpenSpec.ofChange copiesBackWrong)

/-- 'herbariumlaw5.CopiesAll': WHATEVER THE INPUT: true; the input reads as it did. -/
def copiesAllSpec : ChangeSpec := { name := "copiesAll", fn := fun _ => fun
  | [d] => { results := [.lit (.bool true)], args := [d] }
  | _ => none }
def copiesAllRow : OpenClaim := { program := "ytdcicijfcbhgnaa", sum := "13a361659922a4bbb045368a808bd974a40a147d6c86d96569b0bd8c4caedc73", func := "herbarium/herbariumlaw5.CopiesAll", spec := "copiesAll", recurses := true, apart := false }
def CopiesAllSaid : Prop := copiesAllRow.holds Try.pinned (OpenSpec.ofChange copiesAllSpec)

/-- ITS FALSE NEIGHBOUR: 'it returns false'. Refute it at one input. -/
def copiesAllWrong : ChangeSpec := { name := "copiesAll", fn := fun _ => fun
  | [d] => { results := [.lit (.bool false)], args := [d] }
  | _ => none }
def CopiesAllWrongFalsely : Prop := copiesAllRow.holds Try.pinned (OpenSpec.ofChange copiesAllWrong)

/-- 'herbariumlaw8.DeltaBack': WHATEVER THE INPUT: true; the input reads as it did. -/
def deltaBackSpec : ChangeSpec := { name := "deltaBack", fn := fun _ => fun
  | [d] => { results := [.lit (.bool true)], args := [d] }
  | _ => none }
def deltaBackRow : OpenClaim := { program := "ytdcicijfcbhgnaa", sum := "13a361659922a4bbb045368a808bd974a40a147d6c86d96569b0bd8c4caedc73", func := "herbarium/herbariumlaw8.DeltaBack", spec := "deltaBack", unfollowed := true, recurses := true, apart := false }
def DeltaBackSaid : Prop := deltaBackRow.holds Try.pinned (OpenSpec.ofChange deltaBackSpec)

/-- ITS FALSE NEIGHBOUR: 'it returns false'. Refute it at one input. -/
def deltaBackWrong : ChangeSpec := { name := "deltaBack", fn := fun _ => fun
  | [d] => { results := [.lit (.bool false)], args := [d] }
  | _ => none }
def DeltaBackWrongFalsely : Prop := deltaBackRow.holds Try.pinned (OpenSpec.ofChange deltaBackWrong)

/-- 'herbariumlaw8.DeltaKinds': WHATEVER THE INPUT: true; the input reads as it did. -/
def deltaKindsSpec : ChangeSpec := { name := "deltaKinds", fn := fun _ => fun
  | [d] => { results := [.lit (.bool true)], args := [d] }
  | _ => none }
def deltaKindsRow : OpenClaim := { program := "ytdcicijfcbhgnaa", sum := "13a361659922a4bbb045368a808bd974a40a147d6c86d96569b0bd8c4caedc73", func := "herbarium/herbariumlaw8.DeltaKinds", spec := "deltaKinds", unfollowed := true, recurses := true, apart := false }
def DeltaKindsSaid : Prop := deltaKindsRow.holds Try.pinned (OpenSpec.ofChange deltaKindsSpec)

/-- ITS FALSE NEIGHBOUR: 'it returns false'. Refute it at one input. -/
def deltaKindsWrong : ChangeSpec := { name := "deltaKinds", fn := fun _ => fun
  | [d] => { results := [.lit (.bool false)], args := [d] }
  | _ => none }
def DeltaKindsWrongFalsely : Prop := deltaKindsRow.holds Try.pinned (OpenSpec.ofChange deltaKindsWrong)

/-- 'herbariumlaw9.ChainLoops': WHATEVER THE INPUT: true; the input reads as it did. -/
def chainLoopsSpec : ChangeSpec := { name := "chainLoops", fn := fun _ => fun
  | [d] => { results := [.lit (.bool true)], args := [d] }
  | _ => none }
def chainLoopsRow : OpenClaim := { program := "ytdcicijfcbhgnaa", sum := "13a361659922a4bbb045368a808bd974a40a147d6c86d96569b0bd8c4caedc73", func := "herbarium/herbariumlaw9.ChainLoops", spec := "chainLoops", unfollowed := true, recurses := true, apart := false }
def ChainLoopsSaid : Prop := chainLoopsRow.holds Try.pinned (OpenSpec.ofChange chainLoopsSpec)

/-- ITS FALSE NEIGHBOUR: 'it returns false'. Refute it at one input. -/
def chainLoopsWrong : ChangeSpec := { name := "chainLoops", fn := fun _ => fun
  | [d] => { results := [.lit (.bool false)], args := [d] }
  | _ => none }
def ChainLoopsWrongFalsely : Prop := chainLoopsRow.holds Try.pinned (OpenSpec.ofChange chainLoopsWrong)

/- THE SECOND FORM. 'bulk': how many values and letters a reading holds, each counted each time it is reached (what is shared counts as often as it is met; a slice's spare places count too). A statement '..UptoSaid' is the law's where the arguments, and the package variables that the reading takes, are together of bulk at most 1048576: NARROWER than '..Said'. Prove '..Said' where nothing that the law and all that it calls make is longer than what came in: it says more and counts as full. Else prove '..UptoSaid'. A law counts once. -/
mutual
def uptoBulk {H : Type} : DataW H → Nat
  | .lit (.string bytes) => bytes.length + 1
  | .lit _ => 1
  | .nil => 1
  | .ptr d => uptoBulk d + 1
  | .slice elems spare => uptoBulkAll elems + uptoBulkAll spare + 1
  | .agg parts => uptoBulkAll parts + 1
  | .iface _ d => uptoBulk d + 1
  | .map entries => uptoBulkEntries entries + 1
  | .held _ => 1
def uptoBulkAll {H : Type} : List (DataW H) → Nat
  | [] => 0
  | d :: r => uptoBulk d + uptoBulkAll r
def uptoBulkEntries {H : Type} : List (Lit × DataW H) → Nat
  | [] => 0
  | x :: r => uptoBulkEntry x + uptoBulkEntries r
def uptoBulkEntry {H : Type} : Lit × DataW H → Nat
  | (.string bytes, d) => bytes.length + uptoBulk d + 1
  | (_, d) => uptoBulk d + 1
 end
def uptoSmall : (H : Type) → List (DataW H) → Bool := fun _ ds => decide (uptoBulkAll ds ≤ 1048576)
def OpenSpec.upto (s : _root_.Go.ChangeSpec) : _root_.Go.OpenSpec := { _root_.Go.OpenSpec.ofChange s with cond := some uptoSmall }

/-- 'herbariumlaw4.RunsSplit', WHERE WHAT IT READS IS OF BULK AT MOST 1048576: true; the input reads as it did. -/
def runsSplitUptoRow : OpenClaim := { program := "ytdcicijfcbhgnaa", sum := "13a361659922a4bbb045368a808bd974a40a147d6c86d96569b0bd8c4caedc73", func := "herbarium/herbariumlaw4.RunsSplit", spec := "runsSplit", recurses := true, apart := false, narrowed := true }
def RunsSplitUptoSaid : Prop := runsSplitUptoRow.holds Try.pinned (OpenSpec.upto runsSplitSpec)

/-- 'herbariumlaw5.CopiesOf', WHERE WHAT IT READS IS OF BULK AT MOST 1048576: true; the input reads as it did. -/
def copiesOfUptoRow : OpenClaim := { program := "ytdcicijfcbhgnaa", sum := "13a361659922a4bbb045368a808bd974a40a147d6c86d96569b0bd8c4caedc73", func := "herbarium/herbariumlaw5.CopiesOf", spec := "copiesOf", recurses := true, apart := false, narrowed := true }
def CopiesOfUptoSaid : Prop := copiesOfUptoRow.holds Try.pinned (OpenSpec.upto copiesOfSpec)

/-- 'herbariumlaw4.RunsBack', WHERE WHAT IT READS IS OF BULK AT MOST 1048576: true; the input reads as it did. -/
def runsBackUptoRow : OpenClaim := { program := "ytdcicijfcbhgnaa", sum := "13a361659922a4bbb045368a808bd974a40a147d6c86d96569b0bd8c4caedc73", func := "herbarium/herbariumlaw4.RunsBack", spec := "runsBack", recurses := true, apart := false, narrowed := true }
def RunsBackUptoSaid : Prop := runsBackUptoRow.holds Try.pinned (OpenSpec.upto runsBackSpec)

/-- 'herbariumlaw4.RunsExact', WHERE WHAT IT READS IS OF BULK AT MOST 1048576: true; the input reads as it did. -/
def runsExactUptoRow : OpenClaim := { program := "ytdcicijfcbhgnaa", sum := "13a361659922a4bbb045368a808bd974a40a147d6c86d96569b0bd8c4caedc73", func := "herbarium/herbariumlaw4.RunsExact", spec := "runsExact", recurses := true, apart := false, narrowed := true }
def RunsExactUptoSaid : Prop := runsExactUptoRow.holds Try.pinned (OpenSpec.upto runsExactSpec)

/-- 'herbariumlaw4.RunsAll', WHERE WHAT IT READS IS OF BULK AT MOST 1048576: true; the input reads as it did. -/
def runsAllUptoRow : OpenClaim := { program := "ytdcicijfcbhgnaa", sum := "13a361659922a4bbb045368a808bd974a40a147d6c86d96569b0bd8c4caedc73", func := "herbarium/herbariumlaw4.RunsAll", spec := "runsAll", recurses := true, apart := false, narrowed := true }
def RunsAllUptoSaid : Prop := runsAllUptoRow.holds Try.pinned (OpenSpec.upto runsAllSpec)

/-- 'herbariumlaw7.FrameRings', WHERE WHAT IT READS IS OF BULK AT MOST 1048576: true; the input reads as it did. -/
def frameRingsUptoRow : OpenClaim := { program := "ytdcicijfcbhgnaa", sum := "13a361659922a4bbb045368a808bd974a40a147d6c86d96569b0bd8c4caedc73", func := "herbarium/herbariumlaw7.FrameRings", spec := "frameRings", unfollowed := true, recurses := true, apart := false, narrowed := true }
def FrameRingsUptoSaid : Prop := frameRingsUptoRow.holds Try.pinned (OpenSpec.upto frameRingsSpec)

/-- 'herbariumlaw7.FrameBack', WHERE WHAT IT READS IS OF BULK AT MOST 1048576: true; the input reads as it did. -/
def frameBackUptoRow : OpenClaim := { program := "ytdcicijfcbhgnaa", sum := "13a361659922a4bbb045368a808bd974a40a147d6c86d96569b0bd8c4caedc73", func := "herbarium/herbariumlaw7.FrameBack", spec := "frameBack", unfollowed := true, recurses := true, apart := false, narrowed := true }
def FrameBackUptoSaid : Prop := frameBackUptoRow.holds Try.pinned (OpenSpec.upto frameBackSpec)

/-- 'herbariumlaw5.CopiesBack', WHERE WHAT IT READS IS OF BULK AT MOST 1048576: true; the input reads as it did. -/
def copiesBackUptoRow : OpenClaim := { program := "ytdcicijfcbhgnaa", sum := "13a361659922a4bbb045368a808bd974a40a147d6c86d96569b0bd8c4caedc73", func := "herbarium/herbariumlaw5.CopiesBack", spec := "copiesBack", recurses := true, apart := false, narrowed := true }
def CopiesBackUptoSaid : Prop := copiesBackUptoRow.holds Try.pinned (OpenSpec.upto copiesBackSpec)

/-- 'herbariumlaw5.CopiesAll', WHERE WHAT IT READS IS OF BULK AT MOST 1048576: true; the input reads as it did. -/
def copiesAllUptoRow : OpenClaim := { program := "ytdcicijfcbhgnaa", sum := "13a361659922a4bbb045368a808bd974a40a147d6c86d96569b0bd8c4caedc73", func := "herbarium/herbariumlaw5.CopiesAll", spec := "copiesAll", recurses := true, apart := false, narrowed := true }
def CopiesAllUptoSaid : Prop := copiesAllUptoRow.holds Try.pinned (OpenSpec.upto copiesAllSpec)

/-- 'herbariumlaw8.DeltaBack', WHERE WHAT IT READS IS OF BULK AT MOST 1048576: true; the input reads as it did. -/
def deltaBackUptoRow : OpenClaim := { program := "ytdcicijfcbhgnaa", sum := "13a361659922a4bbb045368a808bd974a40a147d6c86d96569b0bd8c4caedc73", func := "herbarium/herbariumlaw8.DeltaBack", spec := "deltaBack", unfollowed := true, recurses := true, apart := false, narrowed := true }
def DeltaBackUptoSaid : Prop := deltaBackUptoRow.holds Try.pinned (OpenSpec.upto deltaBackSpec)

/-- 'herbariumlaw8.DeltaKinds', WHERE WHAT IT READS IS OF BULK AT MOST 1048576: true; the input reads as it did. -/
def deltaKindsUptoRow : OpenClaim := { program := "ytdcicijfcbhgnaa", sum := "13a361659922a4bbb045368a808bd974a40a147d6c86d96569b0bd8c4caedc73", func := "herbarium/herbariumlaw8.DeltaKinds", spec := "deltaKinds", unfollowed := true, recurses := true, apart := false, narrowed := true }
def DeltaKindsUptoSaid : Prop := deltaKindsUptoRow.holds Try.pinned (OpenSpec.upto deltaKindsSpec)

/-- 'herbariumlaw9.ChainLoops', WHERE WHAT IT READS IS OF BULK AT MOST 1048576: true; the input reads as it did. -/
def chainLoopsUptoRow : OpenClaim := { program := "ytdcicijfcbhgnaa", sum := "13a361659922a4bbb045368a808bd974a40a147d6c86d96569b0bd8c4caedc73", func := "herbarium/herbariumlaw9.ChainLoops", spec := "chainLoops", unfollowed := true, recurses := true, apart := false, narrowed := true }
def ChainLoopsUptoSaid : Prop := chainLoopsUptoRow.holds Try.pinned (OpenSpec.upto chainLoopsSpec)

end Rows
end Go.Proofs.Ytdcicijfcbhgnaa
