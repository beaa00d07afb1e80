/-
  NARROWER THAN 'FOR EVERY INPUT', by the rows' own cells (each row's printed sentence says how): ImageParts: laid · ImageBack: laid · ImageObjects: laid · BookOpens: laid · BookRot: laid · BookSteps: laid · BookSaves: laid · BookPower: laid.
  DERIVED. THE GIVEN ROWS OF THIS SEAT. 8 by the template 'for every input the law returns true; each argument reads behind the call as it read before'; 0 by the template 'total and deterministic' (their statements: YtocbppcndoeicaaGreatDoorTotals.lean).
  GIVEN WITH THE SEED: the statements are not yours to turn. If you find one false, say at which input.
  Laid BY PROGRAM, IN A SANDBOX (cutbox-rows.mjs): the forced cells as the released guide's own fill.sh prints them over the translation e73b98da8971b01c… (all of the seat's roots in one cut). By AI agents, Wed Nov 11 2026. No macro, syntax, notation, axiom, sorry.
-/
import Derived.Test.YtocbppcndoeicaaGreatDoorChecked
import GoSem.PinnedTables
import GoSem.Claim
import GoSem.ClaimJoined
import GoSem.ClaimMapViews
import Derived.JoinedTies
import Derived.KernelRfl
namespace Go.Proofs.YtocbppcndoeicaaGreatDoor
/- THE CELL 'sum', in the pinned program and in every row, IS THE sha256 OF THE DUMP (.gsa) THAT YtocbppcndoeicaaGreatDoorProg.lean LOADS. Nothing in Lean hashes anything: it is a label: what it is worth is what the hold of that sum in a sandbox is worth. -/
noncomputable def Tryz.pinned : Pinned := { name := "ytocbppcndoeicaagreatdoor", sum := "e73b98da8971b01c72e8e2d44676b0e4d506c7bbcd59c90e98fd751adec38d84", checked := Tryz.checked }
namespace Rows
def none {H : Type} : Left H := { results := [], args := [] }

/- WHAT THE LISTED PACKAGE-LEVEL VARIABLES READ AS WHEN THE CALL BEGINS. Each datum BY PROGRAM (the guide's laid-datum.mjs) off the statement by which the dump's own 'gosem.cut.vars' lays the variable. In a bare row this is a premise. The card (YtocbppcndoeicaaGreatDoorCards.lean) ties it to the program's text. -/
def laid_unicode_utf8_acceptRanges {H : Type} : DataW H := .agg [.agg [.lit (.int .u8 128), .lit (.int .u8 191)], .agg [.lit (.int .u8 160), .lit (.int .u8 191)], .agg [.lit (.int .u8 128), .lit (.int .u8 159)], .agg [.lit (.int .u8 144), .lit (.int .u8 191)], .agg [.lit (.int .u8 128), .lit (.int .u8 143)], .agg [.lit (.int .u8 0), .lit (.int .u8 0)], .agg [.lit (.int .u8 0), .lit (.int .u8 0)], .agg [.lit (.int .u8 0), .lit (.int .u8 0)], .agg [.lit (.int .u8 0), .lit (.int .u8 0)], .agg [.lit (.int .u8 0), .lit (.int .u8 0)], .agg [.lit (.int .u8 0), .lit (.int .u8 0)], .agg [.lit (.int .u8 0), .lit (.int .u8 0)], .agg [.lit (.int .u8 0), .lit (.int .u8 0)], .agg [.lit (.int .u8 0), .lit (.int .u8 0)], .agg [.lit (.int .u8 0), .lit (.int .u8 0)], .agg [.lit (.int .u8 0), .lit (.int .u8 0)]]
/-- One of Go's own tables, pinned by name: the form's constant. -/
def laid_unicode_utf8_first : DataW Unit := Go.Pinned.utf8First

/-- 'herbariumlaw18.ImageParts': WHATEVER THE INPUT: true; the input reads as it did. -/
def imagePartsSpec : ChangeSpec := { name := "imageParts", fn := fun _ => fun
  | [d] => { results := [.lit (.bool true)], args := [d] }
  | _ => none }
def imagePartsRow : OpenClaim := { program := "ytocbppcndoeicaagreatdoor", sum := "e73b98da8971b01c72e8e2d44676b0e4d506c7bbcd59c90e98fd751adec38d84", func := "herbarium/herbariumlaw18.ImageParts", spec := "imageParts", inPlace := ["internal/abi.NoEscape", "internal/bytealg.MakeNoZero", "internal/bytealg.IndexByteString", "internal/bytealg.IndexString"], unfollowed := true, recurses := true, named := ["unicode/utf8.first", "unicode/utf8.acceptRanges", "internal/bytealg.MaxLen"], apart := false, laid := [("unicode/utf8.acceptRanges", laid_unicode_utf8_acceptRanges), ("unicode/utf8.first", laid_unicode_utf8_first)] }
def ImagePartsSaid : Prop := imagePartsRow.holds Tryz.pinned (OpenSpec.ofChange imagePartsSpec)

/-- ITS FALSE NEIGHBOUR: 'it returns false'. Refute it at one input. -/
def imagePartsWrong : ChangeSpec := { name := "imageParts", fn := fun _ => fun
  | [d] => { results := [.lit (.bool false)], args := [d] }
  | _ => none }
def ImagePartsWrongFalsely : Prop := imagePartsRow.holds Tryz.pinned (OpenSpec.ofChange imagePartsWrong)

/-- 'herbariumlaw18.ImageBack': WHATEVER THE INPUT: true; the input reads as it did. -/
def imageBackSpec : ChangeSpec := { name := "imageBack", fn := fun _ => fun
  | [d] => { results := [.lit (.bool true)], args := [d] }
  | _ => none }
def imageBackRow : OpenClaim := { program := "ytocbppcndoeicaagreatdoor", sum := "e73b98da8971b01c72e8e2d44676b0e4d506c7bbcd59c90e98fd751adec38d84", func := "herbarium/herbariumlaw18.ImageBack", spec := "imageBack", inPlace := ["internal/abi.NoEscape", "internal/bytealg.MakeNoZero", "internal/bytealg.IndexByteString", "internal/bytealg.IndexString"], unfollowed := true, recurses := true, named := ["unicode/utf8.first", "unicode/utf8.acceptRanges", "internal/bytealg.MaxLen"], apart := false, laid := [("unicode/utf8.acceptRanges", laid_unicode_utf8_acceptRanges), ("unicode/utf8.first", laid_unicode_utf8_first)] }
def ImageBackSaid : Prop := imageBackRow.holds Tryz.pinned (OpenSpec.ofChange imageBackSpec)

/-- ITS FALSE NEIGHBOUR: 'it returns false'. Refute it at one input. -/
def imageBackWrong : ChangeSpec := { name := "imageBack", fn := fun _ => fun
  | [d] => { results := [.lit (.bool false)], args := [d] }
  | _ => none }
def ImageBackWrongFalsely : Prop := imageBackRow.holds Tryz.pinned (OpenSpec.ofChange imageBackWrong)

/-- 'herbariumlaw18.ImageObjects': WHATEVER THE INPUT: true; the input reads as it did. -/
def imageObjectsSpec : ChangeSpec := { name := "imageObjects", fn := fun _ => fun
  | [d] => { results := [.lit (.bool true)], args := [d] }
  | _ => none }
def imageObjectsRow : OpenClaim := { program := "ytocbppcndoeicaagreatdoor", sum := "e73b98da8971b01c72e8e2d44676b0e4d506c7bbcd59c90e98fd751adec38d84", func := "herbarium/herbariumlaw18.ImageObjects", spec := "imageObjects", inPlace := ["internal/abi.NoEscape", "internal/bytealg.MakeNoZero", "internal/bytealg.IndexByteString", "internal/bytealg.IndexString"], unfollowed := true, recurses := true, named := ["unicode/utf8.first", "unicode/utf8.acceptRanges", "internal/bytealg.MaxLen"], apart := false, laid := [("unicode/utf8.acceptRanges", laid_unicode_utf8_acceptRanges), ("unicode/utf8.first", laid_unicode_utf8_first)] }
def ImageObjectsSaid : Prop := imageObjectsRow.holds Tryz.pinned (OpenSpec.ofChange imageObjectsSpec)

/-- ITS FALSE NEIGHBOUR: 'it returns false'. Refute it at one input. -/
def imageObjectsWrong : ChangeSpec := { name := "imageObjects", fn := fun _ => fun
  | [d] => { results := [.lit (.bool false)], args := [d] }
  | _ => none }
def ImageObjectsWrongFalsely : Prop := imageObjectsRow.holds Tryz.pinned (OpenSpec.ofChange imageObjectsWrong)

/-- 'herbariumlaw20.BookOpens': WHATEVER THE INPUT: true; the input reads as it did. -/
def bookOpensSpec : ChangeSpec := { name := "bookOpens", fn := fun _ => fun
  | [d] => { results := [.lit (.bool true)], args := [d] }
  | _ => none }
def bookOpensRow : OpenClaim := { program := "ytocbppcndoeicaagreatdoor", sum := "e73b98da8971b01c72e8e2d44676b0e4d506c7bbcd59c90e98fd751adec38d84", func := "herbarium/herbariumlaw20.BookOpens", spec := "bookOpens", inPlace := ["internal/abi.NoEscape", "internal/bytealg.MakeNoZero", "internal/bytealg.IndexByteString", "internal/bytealg.IndexString"], unfollowed := true, recurses := true, named := ["unicode/utf8.first", "unicode/utf8.acceptRanges", "internal/bytealg.MaxLen"], apart := false, laid := [("unicode/utf8.acceptRanges", laid_unicode_utf8_acceptRanges), ("unicode/utf8.first", laid_unicode_utf8_first)] }
def BookOpensSaid : Prop := bookOpensRow.holds Tryz.pinned (OpenSpec.ofChange bookOpensSpec)

/-- ITS FALSE NEIGHBOUR: 'it returns false'. Refute it at one input. -/
def bookOpensWrong : ChangeSpec := { name := "bookOpens", fn := fun _ => fun
  | [d] => { results := [.lit (.bool false)], args := [d] }
  | _ => none }
def BookOpensWrongFalsely : Prop := bookOpensRow.holds Tryz.pinned (OpenSpec.ofChange bookOpensWrong)

/-- 'herbariumlaw20.BookRot': WHATEVER THE INPUT: true; the input reads as it did. -/
def bookRotSpec : ChangeSpec := { name := "bookRot", fn := fun _ => fun
  | [d] => { results := [.lit (.bool true)], args := [d] }
  | _ => none }
def bookRotRow : OpenClaim := { program := "ytocbppcndoeicaagreatdoor", sum := "e73b98da8971b01c72e8e2d44676b0e4d506c7bbcd59c90e98fd751adec38d84", func := "herbarium/herbariumlaw20.BookRot", spec := "bookRot", inPlace := ["internal/abi.NoEscape", "internal/bytealg.MakeNoZero", "internal/bytealg.IndexByteString", "internal/bytealg.IndexString"], unfollowed := true, recurses := true, named := ["unicode/utf8.first", "unicode/utf8.acceptRanges", "internal/bytealg.MaxLen"], apart := false, laid := [("unicode/utf8.acceptRanges", laid_unicode_utf8_acceptRanges), ("unicode/utf8.first", laid_unicode_utf8_first)] }
def BookRotSaid : Prop := bookRotRow.holds Tryz.pinned (OpenSpec.ofChange bookRotSpec)

/-- ITS FALSE NEIGHBOUR: 'it returns false'. Refute it at one input. -/
def bookRotWrong : ChangeSpec := { name := "bookRot", fn := fun _ => fun
  | [d] => { results := [.lit (.bool false)], args := [d] }
  | _ => none }
def BookRotWrongFalsely : Prop := bookRotRow.holds Tryz.pinned (OpenSpec.ofChange bookRotWrong)

/-- 'herbariumlaw20.BookSteps': WHATEVER THE INPUT: true; the input reads as it did. -/
def bookStepsSpec : ChangeSpec := { name := "bookSteps", fn := fun _ => fun
  | [d] => { results := [.lit (.bool true)], args := [d] }
  | _ => none }
def bookStepsRow : OpenClaim := { program := "ytocbppcndoeicaagreatdoor", sum := "e73b98da8971b01c72e8e2d44676b0e4d506c7bbcd59c90e98fd751adec38d84", func := "herbarium/herbariumlaw20.BookSteps", spec := "bookSteps", inPlace := ["internal/abi.NoEscape", "internal/bytealg.MakeNoZero", "internal/bytealg.IndexByteString", "internal/bytealg.IndexString"], unfollowed := true, recurses := true, named := ["unicode/utf8.first", "unicode/utf8.acceptRanges", "internal/bytealg.MaxLen"], apart := false, laid := [("unicode/utf8.acceptRanges", laid_unicode_utf8_acceptRanges), ("unicode/utf8.first", laid_unicode_utf8_first)] }
def BookStepsSaid : Prop := bookStepsRow.holds Tryz.pinned (OpenSpec.ofChange bookStepsSpec)

/-- ITS FALSE NEIGHBOUR: 'it returns false'. Refute it at one input. -/
def bookStepsWrong : ChangeSpec := { name := "bookSteps", fn := fun _ => fun
  | [d] => { results := [.lit (.bool false)], args := [d] }
  | _ => none }
def BookStepsWrongFalsely : Prop := bookStepsRow.holds Tryz.pinned (OpenSpec.ofChange bookStepsWrong)

/-- 'herbariumlaw20.BookSaves': WHATEVER THE INPUT: true; the input reads as it did. -/
def bookSavesSpec : ChangeSpec := { name := "bookSaves", fn := fun _ => fun
  | [d] => { results := [.lit (.bool true)], args := [d] }
  | _ => none }
def bookSavesRow : OpenClaim := { program := "ytocbppcndoeicaagreatdoor", sum := "e73b98da8971b01c72e8e2d44676b0e4d506c7bbcd59c90e98fd751adec38d84", func := "herbarium/herbariumlaw20.BookSaves", spec := "bookSaves", inPlace := ["internal/abi.NoEscape", "internal/bytealg.MakeNoZero", "internal/bytealg.IndexByteString", "internal/bytealg.IndexString"], unfollowed := true, recurses := true, named := ["unicode/utf8.first", "unicode/utf8.acceptRanges", "internal/bytealg.MaxLen"], apart := false, laid := [("unicode/utf8.acceptRanges", laid_unicode_utf8_acceptRanges), ("unicode/utf8.first", laid_unicode_utf8_first)] }
def BookSavesSaid : Prop := bookSavesRow.holds Tryz.pinned (OpenSpec.ofChange bookSavesSpec)

/-- ITS FALSE NEIGHBOUR: 'it returns false'. Refute it at one input. -/
def bookSavesWrong : ChangeSpec := { name := "bookSaves", fn := fun _ => fun
  | [d] => { results := [.lit (.bool false)], args := [d] }
  | _ => none }
def BookSavesWrongFalsely : Prop := bookSavesRow.holds Tryz.pinned (OpenSpec.ofChange bookSavesWrong)

/-- 'herbariumlaw20.BookPower': WHATEVER THE INPUT: true; the input reads as it did. -/
def bookPowerSpec : ChangeSpec := { name := "bookPower", fn := fun _ => fun
  | [d] => { results := [.lit (.bool true)], args := [d] }
  | _ => none }
def bookPowerRow : OpenClaim := { program := "ytocbppcndoeicaagreatdoor", sum := "e73b98da8971b01c72e8e2d44676b0e4d506c7bbcd59c90e98fd751adec38d84", func := "herbarium/herbariumlaw20.BookPower", spec := "bookPower", inPlace := ["internal/abi.NoEscape", "internal/bytealg.MakeNoZero", "internal/bytealg.IndexByteString", "internal/bytealg.IndexString"], unfollowed := true, recurses := true, named := ["unicode/utf8.first", "unicode/utf8.acceptRanges", "internal/bytealg.MaxLen"], apart := false, laid := [("unicode/utf8.acceptRanges", laid_unicode_utf8_acceptRanges), ("unicode/utf8.first", laid_unicode_utf8_first)] }
def BookPowerSaid : Prop := bookPowerRow.holds Tryz.pinned (OpenSpec.ofChange bookPowerSpec)

/-- ITS FALSE NEIGHBOUR: 'it returns false'. Refute it at one input. -/
def bookPowerWrong : ChangeSpec := { name := "bookPower", fn := fun _ => fun
  | [d] => { results := [.lit (.bool false)], args := [d] }
  | _ => none }
def BookPowerWrongFalsely : Prop := bookPowerRow.holds Tryz.pinned (OpenSpec.ofChange bookPowerWrong)

/- THE SECOND FORM. 'bulk': how many values and letters a reading holds, each counted each time it is reached (what is shared counts as often as it is met; a slice's spare places count too). A statement '..UptoSaid' is the law's where the arguments, and the package variables that the reading takes, are together of bulk at most 1048576: NARROWER than '..Said'. Prove '..Said' where nothing that the law and all that it calls make is longer than what came in: it says more and counts as full. Else prove '..UptoSaid'. A law counts once. -/
mutual
def uptoBulk {H : Type} : DataW H → Nat
  | .lit (.string bytes) => bytes.length + 1
  | .lit _ => 1
  | .nil => 1
  | .ptr d => uptoBulk d + 1
  | .slice elems spare => uptoBulkAll elems + uptoBulkAll spare + 1
  | .agg parts => uptoBulkAll parts + 1
  | .iface _ d => uptoBulk d + 1
  | .map entries => uptoBulkEntries entries + 1
  | .held _ => 1
def uptoBulkAll {H : Type} : List (DataW H) → Nat
  | [] => 0
  | d :: r => uptoBulk d + uptoBulkAll r
def uptoBulkEntries {H : Type} : List (Lit × DataW H) → Nat
  | [] => 0
  | x :: r => uptoBulkEntry x + uptoBulkEntries r
def uptoBulkEntry {H : Type} : Lit × DataW H → Nat
  | (.string bytes, d) => bytes.length + uptoBulk d + 1
  | (_, d) => uptoBulk d + 1
 end
def uptoSmall : (H : Type) → List (DataW H) → Bool := fun _ ds => decide (uptoBulkAll ds ≤ 1048576)
def OpenSpec.upto (s : _root_.Go.ChangeSpec) : _root_.Go.OpenSpec := { _root_.Go.OpenSpec.ofChange s with cond := some uptoSmall }

/-- 'herbariumlaw18.ImageParts', WHERE WHAT IT READS IS OF BULK AT MOST 1048576: true; the input reads as it did. -/
def imagePartsUptoRow : OpenClaim := { program := "ytocbppcndoeicaagreatdoor", sum := "e73b98da8971b01c72e8e2d44676b0e4d506c7bbcd59c90e98fd751adec38d84", func := "herbarium/herbariumlaw18.ImageParts", spec := "imageParts", inPlace := ["internal/abi.NoEscape", "internal/bytealg.MakeNoZero", "internal/bytealg.IndexByteString", "internal/bytealg.IndexString"], unfollowed := true, recurses := true, named := ["unicode/utf8.first", "unicode/utf8.acceptRanges", "internal/bytealg.MaxLen"], apart := false, laid := [("unicode/utf8.acceptRanges", laid_unicode_utf8_acceptRanges), ("unicode/utf8.first", laid_unicode_utf8_first)], narrowed := true }
def ImagePartsUptoSaid : Prop := imagePartsUptoRow.holds Tryz.pinned (OpenSpec.upto imagePartsSpec)

/-- 'herbariumlaw18.ImageBack', WHERE WHAT IT READS IS OF BULK AT MOST 1048576: true; the input reads as it did. -/
def imageBackUptoRow : OpenClaim := { program := "ytocbppcndoeicaagreatdoor", sum := "e73b98da8971b01c72e8e2d44676b0e4d506c7bbcd59c90e98fd751adec38d84", func := "herbarium/herbariumlaw18.ImageBack", spec := "imageBack", inPlace := ["internal/abi.NoEscape", "internal/bytealg.MakeNoZero", "internal/bytealg.IndexByteString", "internal/bytealg.IndexString"], unfollowed := true, recurses := true, named := ["unicode/utf8.first", "unicode/utf8.acceptRanges", "internal/bytealg.MaxLen"], apart := false, laid := [("unicode/utf8.acceptRanges", laid_unicode_utf8_acceptRanges), ("unicode/utf8.first", laid_unicode_utf8_first)], narrowed := true }
def ImageBackUptoSaid : Prop := imageBackUptoRow.holds Tryz.pinned (OpenSpec.upto imageBackSpec)

/-- 'herbariumlaw18.ImageObjects', WHERE WHAT IT READS IS OF BULK AT MOST 1048576: true; the input reads as it did. -/
def imageObjectsUptoRow : OpenClaim := { program := "ytocbppcndoeicaagreatdoor", sum := "e73b98da8971b01c72e8e2d44676b0e4d506c7bbcd59c90e98fd751adec38d84", func := "herbarium/herbariumlaw18.ImageObjects", spec := "imageObjects", inPlace := ["internal/abi.NoEscape", "internal/bytealg.MakeNoZero", "internal/bytealg.IndexByteString", "internal/bytealg.IndexString"], unfollowed := true, recurses := true, named := ["unicode/utf8.first", "unicode/utf8.acceptRanges", "internal/bytealg.MaxLen"], apart := false, laid := [("unicode/utf8.acceptRanges", laid_unicode_utf8_acceptRanges), ("unicode/utf8.first", laid_unicode_utf8_first)], narrowed := true }
def ImageObjectsUptoSaid : Prop := imageObjectsUptoRow.holds Tryz.pinned (OpenSpec.upto imageObjectsSpec)

/-- 'herbariumlaw20.BookOpens', WHERE WHAT IT READS IS OF BULK AT MOST 1048576: true; the input reads as it did. -/
def bookOpensUptoRow : OpenClaim := { program := "ytocbppcndoeicaagreatdoor", sum := "e73b98da8971b01c72e8e2d44676b0e4d506c7bbcd59c90e98fd751adec38d84", func := "herbarium/herbariumlaw20.BookOpens", spec := "bookOpens", inPlace := ["internal/abi.NoEscape", "internal/bytealg.MakeNoZero", "internal/bytealg.IndexByteString", "internal/bytealg.IndexString"], unfollowed := true, recurses := true, named := ["unicode/utf8.first", "unicode/utf8.acceptRanges", "internal/bytealg.MaxLen"], apart := false, laid := [("unicode/utf8.acceptRanges", laid_unicode_utf8_acceptRanges), ("unicode/utf8.first", laid_unicode_utf8_first)], narrowed := true }
def BookOpensUptoSaid : Prop := bookOpensUptoRow.holds Tryz.pinned (OpenSpec.upto bookOpensSpec)

/-- 'herbariumlaw20.BookRot', WHERE WHAT IT READS IS OF BULK AT MOST 1048576: true; the input reads as it did. -/
def bookRotUptoRow : OpenClaim := { program := "ytocbppcndoeicaagreatdoor", sum := "e73b98da8971b01c72e8e2d44676b0e4d506c7bbcd59c90e98fd751adec38d84", func := "herbarium/herbariumlaw20.BookRot", spec := "bookRot", inPlace := ["internal/abi.NoEscape", "internal/bytealg.MakeNoZero", "internal/bytealg.IndexByteString", "internal/bytealg.IndexString"], unfollowed := true, recurses := true, named := ["unicode/utf8.first", "unicode/utf8.acceptRanges", "internal/bytealg.MaxLen"], apart := false, laid := [("unicode/utf8.acceptRanges", laid_unicode_utf8_acceptRanges), ("unicode/utf8.first", laid_unicode_utf8_first)], narrowed := true }
def BookRotUptoSaid : Prop := bookRotUptoRow.holds Tryz.pinned (OpenSpec.upto bookRotSpec)

/-- 'herbariumlaw20.BookSteps', WHERE WHAT IT READS IS OF BULK AT MOST 1048576: true; the input reads as it did. -/
def bookStepsUptoRow : OpenClaim := { program := "ytocbppcndoeicaagreatdoor", sum := "e73b98da8971b01c72e8e2d44676b0e4d506c7bbcd59c90e98fd751adec38d84", func := "herbarium/herbariumlaw20.BookSteps", spec := "bookSteps", inPlace := ["internal/abi.NoEscape", "internal/bytealg.MakeNoZero", "internal/bytealg.IndexByteString", "internal/bytealg.IndexString"], unfollowed := true, recurses := true, named := ["unicode/utf8.first", "unicode/utf8.acceptRanges", "internal/bytealg.MaxLen"], apart := false, laid := [("unicode/utf8.acceptRanges", laid_unicode_utf8_acceptRanges), ("unicode/utf8.first", laid_unicode_utf8_first)], narrowed := true }
def BookStepsUptoSaid : Prop := bookStepsUptoRow.holds Tryz.pinned (OpenSpec.upto bookStepsSpec)

/-- 'herbariumlaw20.BookSaves', WHERE WHAT IT READS IS OF BULK AT MOST 1048576: true; the input reads as it did. -/
def bookSavesUptoRow : OpenClaim := { program := "ytocbppcndoeicaagreatdoor", sum := "e73b98da8971b01c72e8e2d44676b0e4d506c7bbcd59c90e98fd751adec38d84", func := "herbarium/herbariumlaw20.BookSaves", spec := "bookSaves", inPlace := ["internal/abi.NoEscape", "internal/bytealg.MakeNoZero", "internal/bytealg.IndexByteString", "internal/bytealg.IndexString"], unfollowed := true, recurses := true, named := ["unicode/utf8.first", "unicode/utf8.acceptRanges", "internal/bytealg.MaxLen"], apart := false, laid := [("unicode/utf8.acceptRanges", laid_unicode_utf8_acceptRanges), ("unicode/utf8.first", laid_unicode_utf8_first)], narrowed := true }
def BookSavesUptoSaid : Prop := bookSavesUptoRow.holds Tryz.pinned (OpenSpec.upto bookSavesSpec)

/-- 'herbariumlaw20.BookPower', WHERE WHAT IT READS IS OF BULK AT MOST 1048576: true; the input reads as it did. -/
def bookPowerUptoRow : OpenClaim := { program := "ytocbppcndoeicaagreatdoor", sum := "e73b98da8971b01c72e8e2d44676b0e4d506c7bbcd59c90e98fd751adec38d84", func := "herbarium/herbariumlaw20.BookPower", spec := "bookPower", inPlace := ["internal/abi.NoEscape", "internal/bytealg.MakeNoZero", "internal/bytealg.IndexByteString", "internal/bytealg.IndexString"], unfollowed := true, recurses := true, named := ["unicode/utf8.first", "unicode/utf8.acceptRanges", "internal/bytealg.MaxLen"], apart := false, laid := [("unicode/utf8.acceptRanges", laid_unicode_utf8_acceptRanges), ("unicode/utf8.first", laid_unicode_utf8_first)], narrowed := true }
def BookPowerUptoSaid : Prop := bookPowerUptoRow.holds Tryz.pinned (OpenSpec.upto bookPowerSpec)

end Rows
end Go.Proofs.YtocbppcndoeicaaGreatDoor
