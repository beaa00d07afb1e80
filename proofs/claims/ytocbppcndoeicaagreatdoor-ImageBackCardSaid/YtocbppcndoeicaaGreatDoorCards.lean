/-
  DERIVED. GIVEN WITH THE SEED: THE CARDS: each row of YtocbppcndoeicaaGreatDoorRows.lean that lists a variable, with what it lists TIED to the program's text (the seventh form; the later family's looks); each row that meets fmt, with fmt's text TOLD by the authors' own Lean function (tested against real Go, not proved from fmt's source: count such statements apart). THE CARD IS WHAT COUNTS. Prove the row's statement (the work); the ties are given (YtocbppcndoeicaaGreatDoorTie.lean); close each card by the builder's one call (the guide's Derived/Test/ToyasCard.lean, 'card_holds'). Laid BY PROGRAM, IN A SANDBOX (cutbox-door.mjs). By AI agents, Wed Nov 11 2026. No macro, syntax, notation, axiom, sorry.
-/
import Derived.Test.YtocbppcndoeicaaGreatDoorRows
import GoSem.ClaimSeven
namespace Go.Proofs.YtocbppcndoeicaaGreatDoor
namespace Rows

/-- THE TIED CARD OF 'herbariumlaw18.ImageParts'. -/
def imagePartsCard : Claim7 := { stood := { row := imagePartsRow, standIns := [], harness := (true, "4c950d668b5ae28b96f8fde2ff5a90282b6df3a786e5cbed40625414c6f8146c"), looks := false }, kinds := [], alts := [], laidByText := true, laidKinds := [.data, .pinned], laidTests := true, laidLooks := .later }
def ImagePartsCardSaid : Prop := Claim7.holds Tryz.pinned (.plain (OpenSpec.ofChange imagePartsSpec)) imagePartsCard

/-- THE TIED CARD OF 'herbariumlaw18.ImageBack'. -/
def imageBackCard : Claim7 := { stood := { row := imageBackRow, standIns := [], harness := (true, "4c950d668b5ae28b96f8fde2ff5a90282b6df3a786e5cbed40625414c6f8146c"), looks := false }, kinds := [], alts := [], laidByText := true, laidKinds := [.data, .pinned], laidTests := true, laidLooks := .later }
def ImageBackCardSaid : Prop := Claim7.holds Tryz.pinned (.plain (OpenSpec.ofChange imageBackSpec)) imageBackCard

/-- THE TIED CARD OF 'herbariumlaw18.ImageObjects'. -/
def imageObjectsCard : Claim7 := { stood := { row := imageObjectsRow, standIns := [], harness := (true, "4c950d668b5ae28b96f8fde2ff5a90282b6df3a786e5cbed40625414c6f8146c"), looks := false }, kinds := [], alts := [], laidByText := true, laidKinds := [.data, .pinned], laidTests := true, laidLooks := .later }
def ImageObjectsCardSaid : Prop := Claim7.holds Tryz.pinned (.plain (OpenSpec.ofChange imageObjectsSpec)) imageObjectsCard

/-- THE TIED CARD OF 'herbariumlaw20.BookOpens'. -/
def bookOpensCard : Claim7 := { stood := { row := bookOpensRow, standIns := [], harness := (true, "4c950d668b5ae28b96f8fde2ff5a90282b6df3a786e5cbed40625414c6f8146c"), looks := false }, kinds := [], alts := [], laidByText := true, laidKinds := [.data, .pinned], laidTests := true, laidLooks := .later }
def BookOpensCardSaid : Prop := Claim7.holds Tryz.pinned (.plain (OpenSpec.ofChange bookOpensSpec)) bookOpensCard

/-- THE TIED CARD OF 'herbariumlaw20.BookRot'. -/
def bookRotCard : Claim7 := { stood := { row := bookRotRow, standIns := [], harness := (true, "4c950d668b5ae28b96f8fde2ff5a90282b6df3a786e5cbed40625414c6f8146c"), looks := false }, kinds := [], alts := [], laidByText := true, laidKinds := [.data, .pinned], laidTests := true, laidLooks := .later }
def BookRotCardSaid : Prop := Claim7.holds Tryz.pinned (.plain (OpenSpec.ofChange bookRotSpec)) bookRotCard

/-- THE TIED CARD OF 'herbariumlaw20.BookSteps'. -/
def bookStepsCard : Claim7 := { stood := { row := bookStepsRow, standIns := [], harness := (true, "4c950d668b5ae28b96f8fde2ff5a90282b6df3a786e5cbed40625414c6f8146c"), looks := false }, kinds := [], alts := [], laidByText := true, laidKinds := [.data, .pinned], laidTests := true, laidLooks := .later }
def BookStepsCardSaid : Prop := Claim7.holds Tryz.pinned (.plain (OpenSpec.ofChange bookStepsSpec)) bookStepsCard

/-- THE TIED CARD OF 'herbariumlaw20.BookSaves'. -/
def bookSavesCard : Claim7 := { stood := { row := bookSavesRow, standIns := [], harness := (true, "4c950d668b5ae28b96f8fde2ff5a90282b6df3a786e5cbed40625414c6f8146c"), looks := false }, kinds := [], alts := [], laidByText := true, laidKinds := [.data, .pinned], laidTests := true, laidLooks := .later }
def BookSavesCardSaid : Prop := Claim7.holds Tryz.pinned (.plain (OpenSpec.ofChange bookSavesSpec)) bookSavesCard

/-- THE TIED CARD OF 'herbariumlaw20.BookPower'. -/
def bookPowerCard : Claim7 := { stood := { row := bookPowerRow, standIns := [], harness := (true, "4c950d668b5ae28b96f8fde2ff5a90282b6df3a786e5cbed40625414c6f8146c"), looks := false }, kinds := [], alts := [], laidByText := true, laidKinds := [.data, .pinned], laidTests := true, laidLooks := .later }
def BookPowerCardSaid : Prop := Claim7.holds Tryz.pinned (.plain (OpenSpec.ofChange bookPowerSpec)) bookPowerCard

/-- THE SECOND FORM's CARD OF 'herbariumlaw18.ImageParts'. -/
def imagePartsUptoCard : Claim7 := { stood := { row := imagePartsUptoRow, standIns := [], harness := (true, "4c950d668b5ae28b96f8fde2ff5a90282b6df3a786e5cbed40625414c6f8146c"), looks := false }, kinds := [], alts := [], laidByText := true, laidKinds := [.data, .pinned], laidTests := true, laidLooks := .later }
def ImagePartsUptoCardSaid : Prop := Claim7.holds Tryz.pinned (.plain (OpenSpec.upto imagePartsSpec)) imagePartsUptoCard

/-- THE SECOND FORM's CARD OF 'herbariumlaw18.ImageBack'. -/
def imageBackUptoCard : Claim7 := { stood := { row := imageBackUptoRow, standIns := [], harness := (true, "4c950d668b5ae28b96f8fde2ff5a90282b6df3a786e5cbed40625414c6f8146c"), looks := false }, kinds := [], alts := [], laidByText := true, laidKinds := [.data, .pinned], laidTests := true, laidLooks := .later }
def ImageBackUptoCardSaid : Prop := Claim7.holds Tryz.pinned (.plain (OpenSpec.upto imageBackSpec)) imageBackUptoCard

/-- THE SECOND FORM's CARD OF 'herbariumlaw18.ImageObjects'. -/
def imageObjectsUptoCard : Claim7 := { stood := { row := imageObjectsUptoRow, standIns := [], harness := (true, "4c950d668b5ae28b96f8fde2ff5a90282b6df3a786e5cbed40625414c6f8146c"), looks := false }, kinds := [], alts := [], laidByText := true, laidKinds := [.data, .pinned], laidTests := true, laidLooks := .later }
def ImageObjectsUptoCardSaid : Prop := Claim7.holds Tryz.pinned (.plain (OpenSpec.upto imageObjectsSpec)) imageObjectsUptoCard

/-- THE SECOND FORM's CARD OF 'herbariumlaw20.BookOpens'. -/
def bookOpensUptoCard : Claim7 := { stood := { row := bookOpensUptoRow, standIns := [], harness := (true, "4c950d668b5ae28b96f8fde2ff5a90282b6df3a786e5cbed40625414c6f8146c"), looks := false }, kinds := [], alts := [], laidByText := true, laidKinds := [.data, .pinned], laidTests := true, laidLooks := .later }
def BookOpensUptoCardSaid : Prop := Claim7.holds Tryz.pinned (.plain (OpenSpec.upto bookOpensSpec)) bookOpensUptoCard

/-- THE SECOND FORM's CARD OF 'herbariumlaw20.BookRot'. -/
def bookRotUptoCard : Claim7 := { stood := { row := bookRotUptoRow, standIns := [], harness := (true, "4c950d668b5ae28b96f8fde2ff5a90282b6df3a786e5cbed40625414c6f8146c"), looks := false }, kinds := [], alts := [], laidByText := true, laidKinds := [.data, .pinned], laidTests := true, laidLooks := .later }
def BookRotUptoCardSaid : Prop := Claim7.holds Tryz.pinned (.plain (OpenSpec.upto bookRotSpec)) bookRotUptoCard

/-- THE SECOND FORM's CARD OF 'herbariumlaw20.BookSteps'. -/
def bookStepsUptoCard : Claim7 := { stood := { row := bookStepsUptoRow, standIns := [], harness := (true, "4c950d668b5ae28b96f8fde2ff5a90282b6df3a786e5cbed40625414c6f8146c"), looks := false }, kinds := [], alts := [], laidByText := true, laidKinds := [.data, .pinned], laidTests := true, laidLooks := .later }
def BookStepsUptoCardSaid : Prop := Claim7.holds Tryz.pinned (.plain (OpenSpec.upto bookStepsSpec)) bookStepsUptoCard

/-- THE SECOND FORM's CARD OF 'herbariumlaw20.BookSaves'. -/
def bookSavesUptoCard : Claim7 := { stood := { row := bookSavesUptoRow, standIns := [], harness := (true, "4c950d668b5ae28b96f8fde2ff5a90282b6df3a786e5cbed40625414c6f8146c"), looks := false }, kinds := [], alts := [], laidByText := true, laidKinds := [.data, .pinned], laidTests := true, laidLooks := .later }
def BookSavesUptoCardSaid : Prop := Claim7.holds Tryz.pinned (.plain (OpenSpec.upto bookSavesSpec)) bookSavesUptoCard

/-- THE SECOND FORM's CARD OF 'herbariumlaw20.BookPower'. -/
def bookPowerUptoCard : Claim7 := { stood := { row := bookPowerUptoRow, standIns := [], harness := (true, "4c950d668b5ae28b96f8fde2ff5a90282b6df3a786e5cbed40625414c6f8146c"), looks := false }, kinds := [], alts := [], laidByText := true, laidKinds := [.data, .pinned], laidTests := true, laidLooks := .later }
def BookPowerUptoCardSaid : Prop := Claim7.holds Tryz.pinned (.plain (OpenSpec.upto bookPowerSpec)) bookPowerUptoCard
end Rows
end Go.Proofs.YtocbppcndoeicaaGreatDoor
