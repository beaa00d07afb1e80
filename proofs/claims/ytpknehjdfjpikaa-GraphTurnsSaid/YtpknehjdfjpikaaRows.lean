/-
  No cell of these rows narrows 'for every input' (looked for: loops, veiled, ifaces, maps, wideKeys, modest, calm, conditions, laid).
  DERIVED. THE GIVEN ROWS OF THIS SEAT. 15 by the template 'for every input the law returns true; each argument reads behind the call as it read before'; 0 by the template 'total and deterministic' (their statements: YtpknehjdfjpikaaTotals.lean).
  GIVEN WITH THE SEED: the statements are not yours to turn. If you find one false, say at which input.
  Laid BY PROGRAM, IN A SANDBOX (cutbox-rows.mjs): the forced cells as the released guide's own fill.sh prints them over the translation 4e25d40a83cefe9f… (all of the seat's roots in one cut). By AI agents, Wed Nov 11 2026. No macro, syntax, notation, axiom, sorry.
-/
import Derived.Test.YtpknehjdfjpikaaChecked
import GoSem.Claim
import GoSem.ClaimJoined
import GoSem.ClaimMapViews
import Derived.JoinedTies
import Derived.KernelRfl
namespace Go.Proofs.Ytpknehjdfjpikaa
/- THE CELL 'sum', in the pinned program and in every row, IS THE sha256 OF THE DUMP (.gsa) THAT YtpknehjdfjpikaaProg.lean LOADS. Nothing in Lean hashes anything: it is a label: what it is worth is what the hold of that sum in a sandbox is worth. -/
noncomputable def Try.pinned : Pinned := { name := "ytpknehjdfjpikaa", sum := "4e25d40a83cefe9f6b4df9855ae28fe7afaac83b7e0287b88c0c9e2e81072141", checked := Try.checked }
namespace Rows
def none {H : Type} : Left H := { results := [], args := [] }

/-- 'herbariumlaw11.SlowOut': WHATEVER THE INPUT: true; the input reads as it did. -/
def slowOutSpec : ChangeSpec := { name := "slowOut", fn := fun _ => fun
  | [d] => { results := [.lit (.bool true)], args := [d] }
  | _ => none }
def slowOutRow : OpenClaim := { program := "ytpknehjdfjpikaa", sum := "4e25d40a83cefe9f6b4df9855ae28fe7afaac83b7e0287b88c0c9e2e81072141", func := "herbarium/herbariumlaw11.SlowOut", spec := "slowOut", apart := false }
def SlowOutSaid : Prop := slowOutRow.holds Try.pinned (OpenSpec.ofChange slowOutSpec)

/-- ITS FALSE NEIGHBOUR: 'it returns false'. Refute it at one input. -/
def slowOutWrong : ChangeSpec := { name := "slowOut", fn := fun _ => fun
  | [d] => { results := [.lit (.bool false)], args := [d] }
  | _ => none }
def SlowOutWrongFalsely : Prop := slowOutRow.holds Try.pinned (OpenSpec.ofChange slowOutWrong)

/-- 'herbariumlaw11.SlowIn': WHATEVER THE INPUT: true; the input reads as it did. -/
def slowInSpec : ChangeSpec := { name := "slowIn", fn := fun _ => fun
  | [d] => { results := [.lit (.bool true)], args := [d] }
  | _ => none }
def slowInRow : OpenClaim := { program := "ytpknehjdfjpikaa", sum := "4e25d40a83cefe9f6b4df9855ae28fe7afaac83b7e0287b88c0c9e2e81072141", func := "herbarium/herbariumlaw11.SlowIn", spec := "slowIn", apart := false }
def SlowInSaid : Prop := slowInRow.holds Try.pinned (OpenSpec.ofChange slowInSpec)

/-- ITS FALSE NEIGHBOUR: 'it returns false'. Refute it at one input. -/
def slowInWrong : ChangeSpec := { name := "slowIn", fn := fun _ => fun
  | [d] => { results := [.lit (.bool false)], args := [d] }
  | _ => none }
def SlowInWrongFalsely : Prop := slowInRow.holds Try.pinned (OpenSpec.ofChange slowInWrong)

/-- 'herbariumlaw11.SlowCount': WHATEVER THE INPUT: true; the input reads as it did. -/
def slowCountSpec : ChangeSpec := { name := "slowCount", fn := fun _ => fun
  | [d] => { results := [.lit (.bool true)], args := [d] }
  | _ => none }
def slowCountRow : OpenClaim := { program := "ytpknehjdfjpikaa", sum := "4e25d40a83cefe9f6b4df9855ae28fe7afaac83b7e0287b88c0c9e2e81072141", func := "herbarium/herbariumlaw11.SlowCount", spec := "slowCount", apart := false }
def SlowCountSaid : Prop := slowCountRow.holds Try.pinned (OpenSpec.ofChange slowCountSpec)

/-- ITS FALSE NEIGHBOUR: 'it returns false'. Refute it at one input. -/
def slowCountWrong : ChangeSpec := { name := "slowCount", fn := fun _ => fun
  | [d] => { results := [.lit (.bool false)], args := [d] }
  | _ => none }
def SlowCountWrongFalsely : Prop := slowCountRow.holds Try.pinned (OpenSpec.ofChange slowCountWrong)

/-- 'herbariumlaw11.SlowFar': WHATEVER THE INPUT: true; the input reads as it did. -/
def slowFarSpec : ChangeSpec := { name := "slowFar", fn := fun _ => fun
  | [d] => { results := [.lit (.bool true)], args := [d] }
  | _ => none }
def slowFarRow : OpenClaim := { program := "ytpknehjdfjpikaa", sum := "4e25d40a83cefe9f6b4df9855ae28fe7afaac83b7e0287b88c0c9e2e81072141", func := "herbarium/herbariumlaw11.SlowFar", spec := "slowFar", apart := false }
def SlowFarSaid : Prop := slowFarRow.holds Try.pinned (OpenSpec.ofChange slowFarSpec)

/-- ITS FALSE NEIGHBOUR: 'it returns false'. Refute it at one input. -/
def slowFarWrong : ChangeSpec := { name := "slowFar", fn := fun _ => fun
  | [d] => { results := [.lit (.bool false)], args := [d] }
  | _ => none }
def SlowFarWrongFalsely : Prop := slowFarRow.holds Try.pinned (OpenSpec.ofChange slowFarWrong)

/-- 'herbariumlaw11.SlowPart': WHATEVER THE INPUT: true; the input reads as it did. -/
def slowPartSpec : ChangeSpec := { name := "slowPart", fn := fun _ => fun
  | [d] => { results := [.lit (.bool true)], args := [d] }
  | _ => none }
def slowPartRow : OpenClaim := { program := "ytpknehjdfjpikaa", sum := "4e25d40a83cefe9f6b4df9855ae28fe7afaac83b7e0287b88c0c9e2e81072141", func := "herbarium/herbariumlaw11.SlowPart", spec := "slowPart", apart := false }
def SlowPartSaid : Prop := slowPartRow.holds Try.pinned (OpenSpec.ofChange slowPartSpec)

/-- ITS FALSE NEIGHBOUR: 'it returns false'. Refute it at one input. -/
def slowPartWrong : ChangeSpec := { name := "slowPart", fn := fun _ => fun
  | [d] => { results := [.lit (.bool false)], args := [d] }
  | _ => none }
def SlowPartWrongFalsely : Prop := slowPartRow.holds Try.pinned (OpenSpec.ofChange slowPartWrong)

/-- 'herbariumlaw11.SlowAll': WHATEVER THE INPUT: true; the input reads as it did. -/
def slowAllSpec : ChangeSpec := { name := "slowAll", fn := fun _ => fun
  | [d] => { results := [.lit (.bool true)], args := [d] }
  | _ => none }
def slowAllRow : OpenClaim := { program := "ytpknehjdfjpikaa", sum := "4e25d40a83cefe9f6b4df9855ae28fe7afaac83b7e0287b88c0c9e2e81072141", func := "herbarium/herbariumlaw11.SlowAll", spec := "slowAll", apart := false }
def SlowAllSaid : Prop := slowAllRow.holds Try.pinned (OpenSpec.ofChange slowAllSpec)

/-- ITS FALSE NEIGHBOUR: 'it returns false'. Refute it at one input. -/
def slowAllWrong : ChangeSpec := { name := "slowAll", fn := fun _ => fun
  | [d] => { results := [.lit (.bool false)], args := [d] }
  | _ => none }
def SlowAllWrongFalsely : Prop := slowAllRow.holds Try.pinned (OpenSpec.ofChange slowAllWrong)

/-- 'herbariumlaw11.SlowBad': WHATEVER THE INPUT: true; the input reads as it did. -/
def slowBadSpec : ChangeSpec := { name := "slowBad", fn := fun _ => fun
  | [d] => { results := [.lit (.bool true)], args := [d] }
  | _ => none }
def slowBadRow : OpenClaim := { program := "ytpknehjdfjpikaa", sum := "4e25d40a83cefe9f6b4df9855ae28fe7afaac83b7e0287b88c0c9e2e81072141", func := "herbarium/herbariumlaw11.SlowBad", spec := "slowBad", apart := false }
def SlowBadSaid : Prop := slowBadRow.holds Try.pinned (OpenSpec.ofChange slowBadSpec)

/-- ITS FALSE NEIGHBOUR: 'it returns false'. Refute it at one input. -/
def slowBadWrong : ChangeSpec := { name := "slowBad", fn := fun _ => fun
  | [d] => { results := [.lit (.bool false)], args := [d] }
  | _ => none }
def SlowBadWrongFalsely : Prop := slowBadRow.holds Try.pinned (OpenSpec.ofChange slowBadWrong)

/-- 'herbariumlaw11.SlowSteps': WHATEVER THE INPUT: true; the input reads as it did. -/
def slowStepsSpec : ChangeSpec := { name := "slowSteps", fn := fun _ => fun
  | [d] => { results := [.lit (.bool true)], args := [d] }
  | _ => none }
def slowStepsRow : OpenClaim := { program := "ytpknehjdfjpikaa", sum := "4e25d40a83cefe9f6b4df9855ae28fe7afaac83b7e0287b88c0c9e2e81072141", func := "herbarium/herbariumlaw11.SlowSteps", spec := "slowSteps", apart := false }
def SlowStepsSaid : Prop := slowStepsRow.holds Try.pinned (OpenSpec.ofChange slowStepsSpec)

/-- ITS FALSE NEIGHBOUR: 'it returns false'. Refute it at one input. -/
def slowStepsWrong : ChangeSpec := { name := "slowSteps", fn := fun _ => fun
  | [d] => { results := [.lit (.bool false)], args := [d] }
  | _ => none }
def SlowStepsWrongFalsely : Prop := slowStepsRow.holds Try.pinned (OpenSpec.ofChange slowStepsWrong)

/-- 'herbariumlaw11.SlowEnds': WHATEVER THE INPUT: true; the input reads as it did. -/
def slowEndsSpec : ChangeSpec := { name := "slowEnds", fn := fun _ => fun
  | [d] => { results := [.lit (.bool true)], args := [d] }
  | _ => none }
def slowEndsRow : OpenClaim := { program := "ytpknehjdfjpikaa", sum := "4e25d40a83cefe9f6b4df9855ae28fe7afaac83b7e0287b88c0c9e2e81072141", func := "herbarium/herbariumlaw11.SlowEnds", spec := "slowEnds", apart := false }
def SlowEndsSaid : Prop := slowEndsRow.holds Try.pinned (OpenSpec.ofChange slowEndsSpec)

/-- ITS FALSE NEIGHBOUR: 'it returns false'. Refute it at one input. -/
def slowEndsWrong : ChangeSpec := { name := "slowEnds", fn := fun _ => fun
  | [d] => { results := [.lit (.bool false)], args := [d] }
  | _ => none }
def SlowEndsWrongFalsely : Prop := slowEndsRow.holds Try.pinned (OpenSpec.ofChange slowEndsWrong)

/-- 'herbariumlaw6.GraphFull': WHATEVER THE INPUT: true; the input reads as it did. -/
def graphFullSpec : ChangeSpec := { name := "graphFull", fn := fun _ => fun
  | [d] => { results := [.lit (.bool true)], args := [d] }
  | _ => none }
def graphFullRow : OpenClaim := { program := "ytpknehjdfjpikaa", sum := "4e25d40a83cefe9f6b4df9855ae28fe7afaac83b7e0287b88c0c9e2e81072141", func := "herbarium/herbariumlaw6.GraphFull", spec := "graphFull", inPlace := ["slices.overlaps[int]"], apart := false }
def GraphFullSaid : Prop := graphFullRow.holds Try.pinned (OpenSpec.ofChange graphFullSpec)

/-- ITS FALSE NEIGHBOUR: 'it returns false'. Refute it at one input. -/
def graphFullWrong : ChangeSpec := { name := "graphFull", fn := fun _ => fun
  | [d] => { results := [.lit (.bool false)], args := [d] }
  | _ => none }
def GraphFullWrongFalsely : Prop := graphFullRow.holds Try.pinned (OpenSpec.ofChange graphFullWrong)

/-- 'herbariumlaw6.GraphAdds': WHATEVER THE INPUT: true; the input reads as it did. -/
def graphAddsSpec : ChangeSpec := { name := "graphAdds", fn := fun _ => fun
  | [d] => { results := [.lit (.bool true)], args := [d] }
  | _ => none }
def graphAddsRow : OpenClaim := { program := "ytpknehjdfjpikaa", sum := "4e25d40a83cefe9f6b4df9855ae28fe7afaac83b7e0287b88c0c9e2e81072141", func := "herbarium/herbariumlaw6.GraphAdds", spec := "graphAdds", inPlace := ["slices.overlaps[int]"], apart := false }
def GraphAddsSaid : Prop := graphAddsRow.holds Try.pinned (OpenSpec.ofChange graphAddsSpec)

/-- ITS FALSE NEIGHBOUR: 'it returns false'. Refute it at one input. -/
def graphAddsWrong : ChangeSpec := { name := "graphAdds", fn := fun _ => fun
  | [d] => { results := [.lit (.bool false)], args := [d] }
  | _ => none }
def GraphAddsWrongFalsely : Prop := graphAddsRow.holds Try.pinned (OpenSpec.ofChange graphAddsWrong)

/-- 'herbariumlaw6.GraphCuts': WHATEVER THE INPUT: true; the input reads as it did. -/
def graphCutsSpec : ChangeSpec := { name := "graphCuts", fn := fun _ => fun
  | [d] => { results := [.lit (.bool true)], args := [d] }
  | _ => none }
def graphCutsRow : OpenClaim := { program := "ytpknehjdfjpikaa", sum := "4e25d40a83cefe9f6b4df9855ae28fe7afaac83b7e0287b88c0c9e2e81072141", func := "herbarium/herbariumlaw6.GraphCuts", spec := "graphCuts", inPlace := ["slices.overlaps[int]"], apart := false }
def GraphCutsSaid : Prop := graphCutsRow.holds Try.pinned (OpenSpec.ofChange graphCutsSpec)

/-- ITS FALSE NEIGHBOUR: 'it returns false'. Refute it at one input. -/
def graphCutsWrong : ChangeSpec := { name := "graphCuts", fn := fun _ => fun
  | [d] => { results := [.lit (.bool false)], args := [d] }
  | _ => none }
def GraphCutsWrongFalsely : Prop := graphCutsRow.holds Try.pinned (OpenSpec.ofChange graphCutsWrong)

/-- 'herbariumlaw6.GraphGrows': WHATEVER THE INPUT: true; the input reads as it did. -/
def graphGrowsSpec : ChangeSpec := { name := "graphGrows", fn := fun _ => fun
  | [d] => { results := [.lit (.bool true)], args := [d] }
  | _ => none }
def graphGrowsRow : OpenClaim := { program := "ytpknehjdfjpikaa", sum := "4e25d40a83cefe9f6b4df9855ae28fe7afaac83b7e0287b88c0c9e2e81072141", func := "herbarium/herbariumlaw6.GraphGrows", spec := "graphGrows", inPlace := ["slices.overlaps[int]"], apart := false }
def GraphGrowsSaid : Prop := graphGrowsRow.holds Try.pinned (OpenSpec.ofChange graphGrowsSpec)

/-- ITS FALSE NEIGHBOUR: 'it returns false'. Refute it at one input. -/
def graphGrowsWrong : ChangeSpec := { name := "graphGrows", fn := fun _ => fun
  | [d] => { results := [.lit (.bool false)], args := [d] }
  | _ => none }
def GraphGrowsWrongFalsely : Prop := graphGrowsRow.holds Try.pinned (OpenSpec.ofChange graphGrowsWrong)

/-- 'herbariumlaw6.GraphDiffs': WHATEVER THE INPUT: true; the input reads as it did. -/
def graphDiffsSpec : ChangeSpec := { name := "graphDiffs", fn := fun _ => fun
  | [d] => { results := [.lit (.bool true)], args := [d] }
  | _ => none }
def graphDiffsRow : OpenClaim := { program := "ytpknehjdfjpikaa", sum := "4e25d40a83cefe9f6b4df9855ae28fe7afaac83b7e0287b88c0c9e2e81072141", func := "herbarium/herbariumlaw6.GraphDiffs", spec := "graphDiffs", inPlace := ["slices.overlaps[int]"], unfollowed := true, recurses := true, apart := false }
def GraphDiffsSaid : Prop := graphDiffsRow.holds Try.pinned (OpenSpec.ofChange graphDiffsSpec)

/-- ITS FALSE NEIGHBOUR: 'it returns false'. Refute it at one input. -/
def graphDiffsWrong : ChangeSpec := { name := "graphDiffs", fn := fun _ => fun
  | [d] => { results := [.lit (.bool false)], args := [d] }
  | _ => none }
def GraphDiffsWrongFalsely : Prop := graphDiffsRow.holds Try.pinned (OpenSpec.ofChange graphDiffsWrong)

/-- 'herbariumlaw6.GraphTurns': WHATEVER THE INPUT: true; the input reads as it did. -/
def graphTurnsSpec : ChangeSpec := { name := "graphTurns", fn := fun _ => fun
  | [d] => { results := [.lit (.bool true)], args := [d] }
  | _ => none }
def graphTurnsRow : OpenClaim := { program := "ytpknehjdfjpikaa", sum := "4e25d40a83cefe9f6b4df9855ae28fe7afaac83b7e0287b88c0c9e2e81072141", func := "herbarium/herbariumlaw6.GraphTurns", spec := "graphTurns", inPlace := ["slices.overlaps[int]"], unfollowed := true, recurses := true, apart := false }
def GraphTurnsSaid : Prop := graphTurnsRow.holds Try.pinned (OpenSpec.ofChange graphTurnsSpec)

/-- ITS FALSE NEIGHBOUR: 'it returns false'. Refute it at one input. -/
def graphTurnsWrong : ChangeSpec := { name := "graphTurns", fn := fun _ => fun
  | [d] => { results := [.lit (.bool false)], args := [d] }
  | _ => none }
def GraphTurnsWrongFalsely : Prop := graphTurnsRow.holds Try.pinned (OpenSpec.ofChange graphTurnsWrong)

/- THE SECOND FORM. 'bulk': how many values and letters a reading holds, each counted each time it is reached (what is shared counts as often as it is met; a slice's spare places count too). A statement '..UptoSaid' is the law's where the arguments, and the package variables that the reading takes, are together of bulk at most 1048576: NARROWER than '..Said'. Prove '..Said' where nothing that the law and all that it calls make is longer than what came in: it says more and counts as full. Else prove '..UptoSaid'. A law counts once. -/
mutual
def uptoBulk {H : Type} : DataW H → Nat
  | .lit (.string bytes) => bytes.length + 1
  | .lit _ => 1
  | .nil => 1
  | .ptr d => uptoBulk d + 1
  | .slice elems spare => uptoBulkAll elems + uptoBulkAll spare + 1
  | .agg parts => uptoBulkAll parts + 1
  | .iface _ d => uptoBulk d + 1
  | .map entries => uptoBulkEntries entries + 1
  | .held _ => 1
def uptoBulkAll {H : Type} : List (DataW H) → Nat
  | [] => 0
  | d :: r => uptoBulk d + uptoBulkAll r
def uptoBulkEntries {H : Type} : List (Lit × DataW H) → Nat
  | [] => 0
  | x :: r => uptoBulkEntry x + uptoBulkEntries r
def uptoBulkEntry {H : Type} : Lit × DataW H → Nat
  | (.string bytes, d) => bytes.length + uptoBulk d + 1
  | (_, d) => uptoBulk d + 1
 end
def uptoSmall : (H : Type) → List (DataW H) → Bool := fun _ ds => decide (uptoBulkAll ds ≤ 1048576)
def OpenSpec.upto (s : _root_.Go.ChangeSpec) : _root_.Go.OpenSpec := { _root_.Go.OpenSpec.ofChange s with cond := some uptoSmall }

/-- 'herbariumlaw11.SlowOut', WHERE WHAT IT READS IS OF BULK AT MOST 1048576: true; the input reads as it did. -/
def slowOutUptoRow : OpenClaim := { program := "ytpknehjdfjpikaa", sum := "4e25d40a83cefe9f6b4df9855ae28fe7afaac83b7e0287b88c0c9e2e81072141", func := "herbarium/herbariumlaw11.SlowOut", spec := "slowOut", apart := false, narrowed := true }
def SlowOutUptoSaid : Prop := slowOutUptoRow.holds Try.pinned (OpenSpec.upto slowOutSpec)

/-- 'herbariumlaw11.SlowIn', WHERE WHAT IT READS IS OF BULK AT MOST 1048576: true; the input reads as it did. -/
def slowInUptoRow : OpenClaim := { program := "ytpknehjdfjpikaa", sum := "4e25d40a83cefe9f6b4df9855ae28fe7afaac83b7e0287b88c0c9e2e81072141", func := "herbarium/herbariumlaw11.SlowIn", spec := "slowIn", apart := false, narrowed := true }
def SlowInUptoSaid : Prop := slowInUptoRow.holds Try.pinned (OpenSpec.upto slowInSpec)

/-- 'herbariumlaw11.SlowCount', WHERE WHAT IT READS IS OF BULK AT MOST 1048576: true; the input reads as it did. -/
def slowCountUptoRow : OpenClaim := { program := "ytpknehjdfjpikaa", sum := "4e25d40a83cefe9f6b4df9855ae28fe7afaac83b7e0287b88c0c9e2e81072141", func := "herbarium/herbariumlaw11.SlowCount", spec := "slowCount", apart := false, narrowed := true }
def SlowCountUptoSaid : Prop := slowCountUptoRow.holds Try.pinned (OpenSpec.upto slowCountSpec)

/-- 'herbariumlaw11.SlowFar', WHERE WHAT IT READS IS OF BULK AT MOST 1048576: true; the input reads as it did. -/
def slowFarUptoRow : OpenClaim := { program := "ytpknehjdfjpikaa", sum := "4e25d40a83cefe9f6b4df9855ae28fe7afaac83b7e0287b88c0c9e2e81072141", func := "herbarium/herbariumlaw11.SlowFar", spec := "slowFar", apart := false, narrowed := true }
def SlowFarUptoSaid : Prop := slowFarUptoRow.holds Try.pinned (OpenSpec.upto slowFarSpec)

/-- 'herbariumlaw11.SlowPart', WHERE WHAT IT READS IS OF BULK AT MOST 1048576: true; the input reads as it did. -/
def slowPartUptoRow : OpenClaim := { program := "ytpknehjdfjpikaa", sum := "4e25d40a83cefe9f6b4df9855ae28fe7afaac83b7e0287b88c0c9e2e81072141", func := "herbarium/herbariumlaw11.SlowPart", spec := "slowPart", apart := false, narrowed := true }
def SlowPartUptoSaid : Prop := slowPartUptoRow.holds Try.pinned (OpenSpec.upto slowPartSpec)

/-- 'herbariumlaw11.SlowAll', WHERE WHAT IT READS IS OF BULK AT MOST 1048576: true; the input reads as it did. -/
def slowAllUptoRow : OpenClaim := { program := "ytpknehjdfjpikaa", sum := "4e25d40a83cefe9f6b4df9855ae28fe7afaac83b7e0287b88c0c9e2e81072141", func := "herbarium/herbariumlaw11.SlowAll", spec := "slowAll", apart := false, narrowed := true }
def SlowAllUptoSaid : Prop := slowAllUptoRow.holds Try.pinned (OpenSpec.upto slowAllSpec)

/-- 'herbariumlaw11.SlowBad', WHERE WHAT IT READS IS OF BULK AT MOST 1048576: true; the input reads as it did. -/
def slowBadUptoRow : OpenClaim := { program := "ytpknehjdfjpikaa", sum := "4e25d40a83cefe9f6b4df9855ae28fe7afaac83b7e0287b88c0c9e2e81072141", func := "herbarium/herbariumlaw11.SlowBad", spec := "slowBad", apart := false, narrowed := true }
def SlowBadUptoSaid : Prop := slowBadUptoRow.holds Try.pinned (OpenSpec.upto slowBadSpec)

/-- 'herbariumlaw11.SlowSteps', WHERE WHAT IT READS IS OF BULK AT MOST 1048576: true; the input reads as it did. -/
def slowStepsUptoRow : OpenClaim := { program := "ytpknehjdfjpikaa", sum := "4e25d40a83cefe9f6b4df9855ae28fe7afaac83b7e0287b88c0c9e2e81072141", func := "herbarium/herbariumlaw11.SlowSteps", spec := "slowSteps", apart := false, narrowed := true }
def SlowStepsUptoSaid : Prop := slowStepsUptoRow.holds Try.pinned (OpenSpec.upto slowStepsSpec)

/-- 'herbariumlaw11.SlowEnds', WHERE WHAT IT READS IS OF BULK AT MOST 1048576: true; the input reads as it did. -/
def slowEndsUptoRow : OpenClaim := { program := "ytpknehjdfjpikaa", sum := "4e25d40a83cefe9f6b4df9855ae28fe7afaac83b7e0287b88c0c9e2e81072141", func := "herbarium/herbariumlaw11.SlowEnds", spec := "slowEnds", apart := false, narrowed := true }
def SlowEndsUptoSaid : Prop := slowEndsUptoRow.holds Try.pinned (OpenSpec.upto slowEndsSpec)

/-- 'herbariumlaw6.GraphFull', WHERE WHAT IT READS IS OF BULK AT MOST 1048576: true; the input reads as it did. -/
def graphFullUptoRow : OpenClaim := { program := "ytpknehjdfjpikaa", sum := "4e25d40a83cefe9f6b4df9855ae28fe7afaac83b7e0287b88c0c9e2e81072141", func := "herbarium/herbariumlaw6.GraphFull", spec := "graphFull", inPlace := ["slices.overlaps[int]"], apart := false, narrowed := true }
def GraphFullUptoSaid : Prop := graphFullUptoRow.holds Try.pinned (OpenSpec.upto graphFullSpec)

/-- 'herbariumlaw6.GraphAdds', WHERE WHAT IT READS IS OF BULK AT MOST 1048576: true; the input reads as it did. -/
def graphAddsUptoRow : OpenClaim := { program := "ytpknehjdfjpikaa", sum := "4e25d40a83cefe9f6b4df9855ae28fe7afaac83b7e0287b88c0c9e2e81072141", func := "herbarium/herbariumlaw6.GraphAdds", spec := "graphAdds", inPlace := ["slices.overlaps[int]"], apart := false, narrowed := true }
def GraphAddsUptoSaid : Prop := graphAddsUptoRow.holds Try.pinned (OpenSpec.upto graphAddsSpec)

/-- 'herbariumlaw6.GraphCuts', WHERE WHAT IT READS IS OF BULK AT MOST 1048576: true; the input reads as it did. -/
def graphCutsUptoRow : OpenClaim := { program := "ytpknehjdfjpikaa", sum := "4e25d40a83cefe9f6b4df9855ae28fe7afaac83b7e0287b88c0c9e2e81072141", func := "herbarium/herbariumlaw6.GraphCuts", spec := "graphCuts", inPlace := ["slices.overlaps[int]"], apart := false, narrowed := true }
def GraphCutsUptoSaid : Prop := graphCutsUptoRow.holds Try.pinned (OpenSpec.upto graphCutsSpec)

/-- 'herbariumlaw6.GraphGrows', WHERE WHAT IT READS IS OF BULK AT MOST 1048576: true; the input reads as it did. -/
def graphGrowsUptoRow : OpenClaim := { program := "ytpknehjdfjpikaa", sum := "4e25d40a83cefe9f6b4df9855ae28fe7afaac83b7e0287b88c0c9e2e81072141", func := "herbarium/herbariumlaw6.GraphGrows", spec := "graphGrows", inPlace := ["slices.overlaps[int]"], apart := false, narrowed := true }
def GraphGrowsUptoSaid : Prop := graphGrowsUptoRow.holds Try.pinned (OpenSpec.upto graphGrowsSpec)

/-- 'herbariumlaw6.GraphDiffs', WHERE WHAT IT READS IS OF BULK AT MOST 1048576: true; the input reads as it did. -/
def graphDiffsUptoRow : OpenClaim := { program := "ytpknehjdfjpikaa", sum := "4e25d40a83cefe9f6b4df9855ae28fe7afaac83b7e0287b88c0c9e2e81072141", func := "herbarium/herbariumlaw6.GraphDiffs", spec := "graphDiffs", inPlace := ["slices.overlaps[int]"], unfollowed := true, recurses := true, apart := false, narrowed := true }
def GraphDiffsUptoSaid : Prop := graphDiffsUptoRow.holds Try.pinned (OpenSpec.upto graphDiffsSpec)

/-- 'herbariumlaw6.GraphTurns', WHERE WHAT IT READS IS OF BULK AT MOST 1048576: true; the input reads as it did. -/
def graphTurnsUptoRow : OpenClaim := { program := "ytpknehjdfjpikaa", sum := "4e25d40a83cefe9f6b4df9855ae28fe7afaac83b7e0287b88c0c9e2e81072141", func := "herbarium/herbariumlaw6.GraphTurns", spec := "graphTurns", inPlace := ["slices.overlaps[int]"], unfollowed := true, recurses := true, apart := false, narrowed := true }
def GraphTurnsUptoSaid : Prop := graphTurnsUptoRow.holds Try.pinned (OpenSpec.upto graphTurnsSpec)

end Rows
end Go.Proofs.Ytpknehjdfjpikaa
