/-
  No cell of these rows narrows 'for every input' (looked for: loops, veiled, ifaces, maps, wideKeys, modest, calm, conditions, laid).
  DERIVED. THE GIVEN ROWS OF THIS SEAT. 8 by the template 'for every input the law returns true; each argument reads behind the call as it read before'; 0 by the template 'total and deterministic' (their statements: YtdcicijfcbhgnaaGreatTotals.lean).
  GIVEN WITH THE SEED: the statements are not yours to turn. If you find one false, say at which input.
  Laid BY PROGRAM, IN A SANDBOX (cutbox-rows.mjs): the forced cells as the released guide's own fill.sh prints them over the translation dfbc72c5ee428d58… (all of the seat's roots in one cut). By AI agents, Wed Nov 11 2026. No macro, syntax, notation, axiom, sorry.
-/
import Derived.Test.YtdcicijfcbhgnaaGreatChecked
import GoSem.Claim
import GoSem.ClaimJoined
import GoSem.ClaimMapViews
import Derived.JoinedTies
import Derived.KernelRfl
namespace Go.Proofs.YtdcicijfcbhgnaaGreat
/- THE CELL 'sum', in the pinned program and in every row, IS THE sha256 OF THE DUMP (.gsa) THAT YtdcicijfcbhgnaaGreatProg.lean LOADS. Nothing in Lean hashes anything: it is a label: what it is worth is what the hold of that sum in a sandbox is worth. -/
noncomputable def Tryz.pinned : Pinned := { name := "ytdcicijfcbhgnaagreat", sum := "dfbc72c5ee428d5816bfd0f702b32f859e8bdc77d409a5cebf3aeef6d0dcc776", checked := Tryz.checked }
namespace Rows
def none {H : Type} : Left H := { results := [], args := [] }

/-- 'herbariumlaw7.FramePuts': WHATEVER THE INPUT: true; the input reads as it did. -/
def framePutsSpec : ChangeSpec := { name := "framePuts", fn := fun _ => fun
  | [d] => { results := [.lit (.bool true)], args := [d] }
  | _ => none }
def framePutsRow : OpenClaim := { program := "ytdcicijfcbhgnaagreat", sum := "dfbc72c5ee428d5816bfd0f702b32f859e8bdc77d409a5cebf3aeef6d0dcc776", func := "herbarium/herbariumlaw7.FramePuts", spec := "framePuts", unfollowed := true, recurses := true, apart := false }
def FramePutsSaid : Prop := framePutsRow.holds Tryz.pinned (OpenSpec.ofChange framePutsSpec)

/-- ITS FALSE NEIGHBOUR: 'it returns false'. Refute it at one input. -/
def framePutsWrong : ChangeSpec := { name := "framePuts", fn := fun _ => fun
  | [d] => { results := [.lit (.bool false)], args := [d] }
  | _ => none }
def FramePutsWrongFalsely : Prop := framePutsRow.holds Tryz.pinned (OpenSpec.ofChange framePutsWrong)

/-- 'herbariumlaw5.CopiesExact': WHATEVER THE INPUT: true; the input reads as it did. -/
def copiesExactSpec : ChangeSpec := { name := "copiesExact", fn := fun _ => fun
  | [d] => { results := [.lit (.bool true)], args := [d] }
  | _ => none }
def copiesExactRow : OpenClaim := { program := "ytdcicijfcbhgnaagreat", sum := "dfbc72c5ee428d5816bfd0f702b32f859e8bdc77d409a5cebf3aeef6d0dcc776", func := "herbarium/herbariumlaw5.CopiesExact", spec := "copiesExact", recurses := true, apart := false }
def CopiesExactSaid : Prop := copiesExactRow.holds Tryz.pinned (OpenSpec.ofChange copiesExactSpec)

/-- ITS FALSE NEIGHBOUR: 'it returns false'. Refute it at one input. -/
def copiesExactWrong : ChangeSpec := { name := "copiesExact", fn := fun _ => fun
  | [d] => { results := [.lit (.bool false)], args := [d] }
  | _ => none }
def CopiesExactWrongFalsely : Prop := copiesExactRow.holds Tryz.pinned (OpenSpec.ofChange copiesExactWrong)

/-- 'herbariumlaw8.DeltaPuts': WHATEVER THE INPUT: true; the input reads as it did. -/
def deltaPutsSpec : ChangeSpec := { name := "deltaPuts", fn := fun _ => fun
  | [d] => { results := [.lit (.bool true)], args := [d] }
  | _ => none }
def deltaPutsRow : OpenClaim := { program := "ytdcicijfcbhgnaagreat", sum := "dfbc72c5ee428d5816bfd0f702b32f859e8bdc77d409a5cebf3aeef6d0dcc776", func := "herbarium/herbariumlaw8.DeltaPuts", spec := "deltaPuts", unfollowed := true, recurses := true, apart := false }
def DeltaPutsSaid : Prop := deltaPutsRow.holds Tryz.pinned (OpenSpec.ofChange deltaPutsSpec)

/-- ITS FALSE NEIGHBOUR: 'it returns false'. Refute it at one input. -/
def deltaPutsWrong : ChangeSpec := { name := "deltaPuts", fn := fun _ => fun
  | [d] => { results := [.lit (.bool false)], args := [d] }
  | _ => none }
def DeltaPutsWrongFalsely : Prop := deltaPutsRow.holds Tryz.pinned (OpenSpec.ofChange deltaPutsWrong)

/-- 'herbariumlaw12.StoryCounts': WHATEVER THE INPUT: true; the input reads as it did. -/
def storyCountsSpec : ChangeSpec := { name := "storyCounts", fn := fun _ => fun
  | [d] => { results := [.lit (.bool true)], args := [d] }
  | _ => none }
def storyCountsRow : OpenClaim := { program := "ytdcicijfcbhgnaagreat", sum := "dfbc72c5ee428d5816bfd0f702b32f859e8bdc77d409a5cebf3aeef6d0dcc776", func := "herbarium/herbariumlaw12.StoryCounts", spec := "storyCounts", unfollowed := true, recurses := true, apart := false }
def StoryCountsSaid : Prop := storyCountsRow.holds Tryz.pinned (OpenSpec.ofChange storyCountsSpec)

/-- ITS FALSE NEIGHBOUR: 'it returns false'. Refute it at one input. -/
def storyCountsWrong : ChangeSpec := { name := "storyCounts", fn := fun _ => fun
  | [d] => { results := [.lit (.bool false)], args := [d] }
  | _ => none }
def StoryCountsWrongFalsely : Prop := storyCountsRow.holds Tryz.pinned (OpenSpec.ofChange storyCountsWrong)

/-- 'herbariumlaw9.ChainMakes': WHATEVER THE INPUT: true; the input reads as it did. -/
def chainMakesSpec : ChangeSpec := { name := "chainMakes", fn := fun _ => fun
  | [d] => { results := [.lit (.bool true)], args := [d] }
  | _ => none }
def chainMakesRow : OpenClaim := { program := "ytdcicijfcbhgnaagreat", sum := "dfbc72c5ee428d5816bfd0f702b32f859e8bdc77d409a5cebf3aeef6d0dcc776", func := "herbarium/herbariumlaw9.ChainMakes", spec := "chainMakes", unfollowed := true, recurses := true, apart := false }
def ChainMakesSaid : Prop := chainMakesRow.holds Tryz.pinned (OpenSpec.ofChange chainMakesSpec)

/-- ITS FALSE NEIGHBOUR: 'it returns false'. Refute it at one input. -/
def chainMakesWrong : ChangeSpec := { name := "chainMakes", fn := fun _ => fun
  | [d] => { results := [.lit (.bool false)], args := [d] }
  | _ => none }
def ChainMakesWrongFalsely : Prop := chainMakesRow.holds Tryz.pinned (OpenSpec.ofChange chainMakesWrong)

/-- 'herbariumlaw9.ChainDeep': WHATEVER THE INPUT: true; the input reads as it did. -/
def chainDeepSpec : ChangeSpec := { name := "chainDeep", fn := fun _ => fun
  | [d] => { results := [.lit (.bool true)], args := [d] }
  | _ => none }
def chainDeepRow : OpenClaim := { program := "ytdcicijfcbhgnaagreat", sum := "dfbc72c5ee428d5816bfd0f702b32f859e8bdc77d409a5cebf3aeef6d0dcc776", func := "herbarium/herbariumlaw9.ChainDeep", spec := "chainDeep", unfollowed := true, recurses := true, apart := false }
def ChainDeepSaid : Prop := chainDeepRow.holds Tryz.pinned (OpenSpec.ofChange chainDeepSpec)

/-- ITS FALSE NEIGHBOUR: 'it returns false'. Refute it at one input. -/
def chainDeepWrong : ChangeSpec := { name := "chainDeep", fn := fun _ => fun
  | [d] => { results := [.lit (.bool false)], args := [d] }
  | _ => none }
def ChainDeepWrongFalsely : Prop := chainDeepRow.holds Tryz.pinned (OpenSpec.ofChange chainDeepWrong)

/-- 'herbariumlaw9.ChainTells': WHATEVER THE INPUT: true; the input reads as it did. -/
def chainTellsSpec : ChangeSpec := { name := "chainTells", fn := fun _ => fun
  | [d] => { results := [.lit (.bool true)], args := [d] }
  | _ => none }
def chainTellsRow : OpenClaim := { program := "ytdcicijfcbhgnaagreat", sum := "dfbc72c5ee428d5816bfd0f702b32f859e8bdc77d409a5cebf3aeef6d0dcc776", func := "herbarium/herbariumlaw9.ChainTells", spec := "chainTells", unfollowed := true, recurses := true, apart := false }
def ChainTellsSaid : Prop := chainTellsRow.holds Tryz.pinned (OpenSpec.ofChange chainTellsSpec)

/-- ITS FALSE NEIGHBOUR: 'it returns false'. Refute it at one input. -/
def chainTellsWrong : ChangeSpec := { name := "chainTells", fn := fun _ => fun
  | [d] => { results := [.lit (.bool false)], args := [d] }
  | _ => none }
def ChainTellsWrongFalsely : Prop := chainTellsRow.holds Tryz.pinned (OpenSpec.ofChange chainTellsWrong)

/-- 'herbariumlaw12.StoryRow': WHATEVER THE INPUT: true; the input reads as it did. -/
def storyRowSpec : ChangeSpec := { name := "storyRow", fn := fun _ => fun
  | [d] => { results := [.lit (.bool true)], args := [d] }
  | _ => none }
def storyRowRow : OpenClaim := { program := "ytdcicijfcbhgnaagreat", sum := "dfbc72c5ee428d5816bfd0f702b32f859e8bdc77d409a5cebf3aeef6d0dcc776", func := "herbarium/herbariumlaw12.StoryRow", spec := "storyRow", unfollowed := true, recurses := true, apart := false }
def StoryRowSaid : Prop := storyRowRow.holds Tryz.pinned (OpenSpec.ofChange storyRowSpec)

/-- ITS FALSE NEIGHBOUR: 'it returns false'. Refute it at one input. -/
def storyRowWrong : ChangeSpec := { name := "storyRow", fn := fun _ => fun
  | [d] => { results := [.lit (.bool false)], args := [d] }
  | _ => none }
def StoryRowWrongFalsely : Prop := storyRowRow.holds Tryz.pinned (OpenSpec.ofChange storyRowWrong)

/- THE SECOND FORM. 'bulk': how many values and letters a reading holds, each counted each time it is reached (what is shared counts as often as it is met; a slice's spare places count too). A statement '..UptoSaid' is the law's where the arguments, and the package variables that the reading takes, are together of bulk at most 1048576: NARROWER than '..Said'. Prove '..Said' where nothing that the law and all that it calls make is longer than what came in: it says more and counts as full. Else prove '..UptoSaid'. A law counts once. -/
mutual
def uptoBulk {H : Type} : DataW H → Nat
  | .lit (.string bytes) => bytes.length + 1
  | .lit _ => 1
  | .nil => 1
  | .ptr d => uptoBulk d + 1
  | .slice elems spare => uptoBulkAll elems + uptoBulkAll spare + 1
  | .agg parts => uptoBulkAll parts + 1
  | .iface _ d => uptoBulk d + 1
  | .map entries => uptoBulkEntries entries + 1
  | .held _ => 1
def uptoBulkAll {H : Type} : List (DataW H) → Nat
  | [] => 0
  | d :: r => uptoBulk d + uptoBulkAll r
def uptoBulkEntries {H : Type} : List (Lit × DataW H) → Nat
  | [] => 0
  | x :: r => uptoBulkEntry x + uptoBulkEntries r
def uptoBulkEntry {H : Type} : Lit × DataW H → Nat
  | (.string bytes, d) => bytes.length + uptoBulk d + 1
  | (_, d) => uptoBulk d + 1
 end
def uptoSmall : (H : Type) → List (DataW H) → Bool := fun _ ds => decide (uptoBulkAll ds ≤ 1048576)
def OpenSpec.upto (s : _root_.Go.ChangeSpec) : _root_.Go.OpenSpec := { _root_.Go.OpenSpec.ofChange s with cond := some uptoSmall }

/-- 'herbariumlaw7.FramePuts', WHERE WHAT IT READS IS OF BULK AT MOST 1048576: true; the input reads as it did. -/
def framePutsUptoRow : OpenClaim := { program := "ytdcicijfcbhgnaagreat", sum := "dfbc72c5ee428d5816bfd0f702b32f859e8bdc77d409a5cebf3aeef6d0dcc776", func := "herbarium/herbariumlaw7.FramePuts", spec := "framePuts", unfollowed := true, recurses := true, apart := false, narrowed := true }
def FramePutsUptoSaid : Prop := framePutsUptoRow.holds Tryz.pinned (OpenSpec.upto framePutsSpec)

/-- 'herbariumlaw5.CopiesExact', WHERE WHAT IT READS IS OF BULK AT MOST 1048576: true; the input reads as it did. -/
def copiesExactUptoRow : OpenClaim := { program := "ytdcicijfcbhgnaagreat", sum := "dfbc72c5ee428d5816bfd0f702b32f859e8bdc77d409a5cebf3aeef6d0dcc776", func := "herbarium/herbariumlaw5.CopiesExact", spec := "copiesExact", recurses := true, apart := false, narrowed := true }
def CopiesExactUptoSaid : Prop := copiesExactUptoRow.holds Tryz.pinned (OpenSpec.upto copiesExactSpec)

/-- 'herbariumlaw8.DeltaPuts', WHERE WHAT IT READS IS OF BULK AT MOST 1048576: true; the input reads as it did. -/
def deltaPutsUptoRow : OpenClaim := { program := "ytdcicijfcbhgnaagreat", sum := "dfbc72c5ee428d5816bfd0f702b32f859e8bdc77d409a5cebf3aeef6d0dcc776", func := "herbarium/herbariumlaw8.DeltaPuts", spec := "deltaPuts", unfollowed := true, recurses := true, apart := false, narrowed := true }
def DeltaPutsUptoSaid : Prop := deltaPutsUptoRow.holds Tryz.pinned (OpenSpec.upto deltaPutsSpec)

/-- 'herbariumlaw12.StoryCounts', WHERE WHAT IT READS IS OF BULK AT MOST 1048576: true; the input reads as it did. -/
def storyCountsUptoRow : OpenClaim := { program := "ytdcicijfcbhgnaagreat", sum := "dfbc72c5ee428d5816bfd0f702b32f859e8bdc77d409a5cebf3aeef6d0dcc776", func := "herbarium/herbariumlaw12.StoryCounts", spec := "storyCounts", unfollowed := true, recurses := true, apart := false, narrowed := true }
def StoryCountsUptoSaid : Prop := storyCountsUptoRow.holds Tryz.pinned (OpenSpec.upto storyCountsSpec)

/-- 'herbariumlaw9.ChainMakes', WHERE WHAT IT READS IS OF BULK AT MOST 1048576: true; the input reads as it did. -/
def chainMakesUptoRow : OpenClaim := { program := "ytdcicijfcbhgnaagreat", sum := "dfbc72c5ee428d5816bfd0f702b32f859e8bdc77d409a5cebf3aeef6d0dcc776", func := "herbarium/herbariumlaw9.ChainMakes", spec := "chainMakes", unfollowed := true, recurses := true, apart := false, narrowed := true }
def ChainMakesUptoSaid : Prop := chainMakesUptoRow.holds Tryz.pinned (OpenSpec.upto chainMakesSpec)

/-- 'herbariumlaw9.ChainDeep', WHERE WHAT IT READS IS OF BULK AT MOST 1048576: true; the input reads as it did. -/
def chainDeepUptoRow : OpenClaim := { program := "ytdcicijfcbhgnaagreat", sum := "dfbc72c5ee428d5816bfd0f702b32f859e8bdc77d409a5cebf3aeef6d0dcc776", func := "herbarium/herbariumlaw9.ChainDeep", spec := "chainDeep", unfollowed := true, recurses := true, apart := false, narrowed := true }
def ChainDeepUptoSaid : Prop := chainDeepUptoRow.holds Tryz.pinned (OpenSpec.upto chainDeepSpec)

/-- 'herbariumlaw9.ChainTells', WHERE WHAT IT READS IS OF BULK AT MOST 1048576: true; the input reads as it did. -/
def chainTellsUptoRow : OpenClaim := { program := "ytdcicijfcbhgnaagreat", sum := "dfbc72c5ee428d5816bfd0f702b32f859e8bdc77d409a5cebf3aeef6d0dcc776", func := "herbarium/herbariumlaw9.ChainTells", spec := "chainTells", unfollowed := true, recurses := true, apart := false, narrowed := true }
def ChainTellsUptoSaid : Prop := chainTellsUptoRow.holds Tryz.pinned (OpenSpec.upto chainTellsSpec)

/-- 'herbariumlaw12.StoryRow', WHERE WHAT IT READS IS OF BULK AT MOST 1048576: true; the input reads as it did. -/
def storyRowUptoRow : OpenClaim := { program := "ytdcicijfcbhgnaagreat", sum := "dfbc72c5ee428d5816bfd0f702b32f859e8bdc77d409a5cebf3aeef6d0dcc776", func := "herbarium/herbariumlaw12.StoryRow", spec := "storyRow", unfollowed := true, recurses := true, apart := false, narrowed := true }
def StoryRowUptoSaid : Prop := storyRowUptoRow.holds Tryz.pinned (OpenSpec.upto storyRowSpec)

end Rows
end Go.Proofs.YtdcicijfcbhgnaaGreat
