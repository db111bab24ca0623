/-
  DERIVED. GIVEN WITH THE SEED: THE CARDS: each row of YtnghjojddhdlkaaDoorRows.lean that lists a variable, with what it lists TIED to the program's text (the seventh form; the later family's looks); each row that meets fmt, with fmt's text TOLD by the authors' own Lean function (tested against real Go, not proved from fmt's source: count such statements apart). THE CARD IS WHAT COUNTS. Prove the row's statement (the work); the ties are given (YtnghjojddhdlkaaDoorTie.lean); close each card by the builder's one call (the guide's Derived/Test/ToyasCard.lean, 'card_holds'). Laid BY PROGRAM, IN A SANDBOX (cutbox-door.mjs). By AI agents, Wed Nov 11 2026. No macro, syntax, notation, axiom, sorry.
-/
import Derived.Test.YtnghjojddhdlkaaDoorRows
import GoSem.ClaimSeven
namespace Go.Proofs.YtnghjojddhdlkaaDoor
namespace Rows

/-- THE TIED CARD OF 'vivariumlaw01.WholeTexts'. -/
def wholeTextsCard : Claim7 := { stood := { row := wholeTextsRow, standIns := [], harness := (true, "140cad13514dfe4084a14cdb8d2ea9aaedf88a3585618748bcc38695e431a0fc"), looks := false }, kinds := [], alts := [], laidByText := true, laidKinds := [.data, .data, .data], laidTests := true, laidLooks := .later }
def WholeTextsCardSaid : Prop := Claim7.holds Tryd.pinned (.plain (OpenSpec.ofChange wholeTextsSpec)) wholeTextsCard

/-- THE TIED CARD OF 'vivariumlaw01.WholeParts'. -/
def wholePartsCard : Claim7 := { stood := { row := wholePartsRow, standIns := [], harness := (true, "140cad13514dfe4084a14cdb8d2ea9aaedf88a3585618748bcc38695e431a0fc"), looks := false }, kinds := [], alts := [], laidByText := true, laidKinds := [.data, .data, .data], laidTests := true, laidLooks := .later }
def WholePartsCardSaid : Prop := Claim7.holds Tryd.pinned (.plain (OpenSpec.ofChange wholePartsSpec)) wholePartsCard

/-- THE TIED CARD OF 'vivariumlaw01.WholeSteps'. -/
def wholeStepsCard : Claim7 := { stood := { row := wholeStepsRow, standIns := [], harness := (true, "140cad13514dfe4084a14cdb8d2ea9aaedf88a3585618748bcc38695e431a0fc"), looks := false }, kinds := [], alts := [], laidByText := true, laidKinds := [.data, .data, .data], laidTests := true, laidLooks := .later }
def WholeStepsCardSaid : Prop := Claim7.holds Tryd.pinned (.plain (OpenSpec.ofChange wholeStepsSpec)) wholeStepsCard

/-- THE TIED CARD OF 'vivariumlaw01.WholeCommon'. -/
def wholeCommonCard : Claim7 := { stood := { row := wholeCommonRow, standIns := [], harness := (true, "140cad13514dfe4084a14cdb8d2ea9aaedf88a3585618748bcc38695e431a0fc"), looks := false }, kinds := [], alts := [], laidByText := true, laidKinds := [.data, .data, .data], laidTests := true, laidLooks := .later }
def WholeCommonCardSaid : Prop := Claim7.holds Tryd.pinned (.plain (OpenSpec.ofChange wholeCommonSpec)) wholeCommonCard

/-- THE TIED CARD OF 'vivariumlaw01.WholeBack'. -/
def wholeBackCard : Claim7 := { stood := { row := wholeBackRow, standIns := [], harness := (true, "140cad13514dfe4084a14cdb8d2ea9aaedf88a3585618748bcc38695e431a0fc"), looks := false }, kinds := [], alts := [], laidByText := true, laidKinds := [.data, .data, .data], laidTests := true, laidLooks := .later }
def WholeBackCardSaid : Prop := Claim7.holds Tryd.pinned (.plain (OpenSpec.ofChange wholeBackSpec)) wholeBackCard

/-- THE TIED CARD OF 'vivariumlaw01.WholeNames'. -/
def wholeNamesCard : Claim7 := { stood := { row := wholeNamesRow, standIns := [], harness := (true, "140cad13514dfe4084a14cdb8d2ea9aaedf88a3585618748bcc38695e431a0fc"), looks := false }, kinds := [], alts := [], laidByText := true, laidKinds := [.data, .data, .data], laidTests := true, laidLooks := .later }
def WholeNamesCardSaid : Prop := Claim7.holds Tryd.pinned (.plain (OpenSpec.ofChange wholeNamesSpec)) wholeNamesCard

/-- THE TIED CARD OF 'vivariumlaw01.WholeWidths'. -/
def wholeWidthsCard : Claim7 := { stood := { row := wholeWidthsRow, standIns := [], harness := (true, "140cad13514dfe4084a14cdb8d2ea9aaedf88a3585618748bcc38695e431a0fc"), looks := false }, kinds := [], alts := [], laidByText := true, laidKinds := [.data, .data, .data], laidTests := true, laidLooks := .later }
def WholeWidthsCardSaid : Prop := Claim7.holds Tryd.pinned (.plain (OpenSpec.ofChange wholeWidthsSpec)) wholeWidthsCard

/-- THE SECOND FORM's CARD OF 'vivariumlaw01.WholeTexts'. -/
def wholeTextsUptoCard : Claim7 := { stood := { row := wholeTextsUptoRow, standIns := [], harness := (true, "140cad13514dfe4084a14cdb8d2ea9aaedf88a3585618748bcc38695e431a0fc"), looks := false }, kinds := [], alts := [], laidByText := true, laidKinds := [.data, .data, .data], laidTests := true, laidLooks := .later }
def WholeTextsUptoCardSaid : Prop := Claim7.holds Tryd.pinned (.plain (OpenSpec.upto wholeTextsSpec)) wholeTextsUptoCard

/-- THE SECOND FORM's CARD OF 'vivariumlaw01.WholeParts'. -/
def wholePartsUptoCard : Claim7 := { stood := { row := wholePartsUptoRow, standIns := [], harness := (true, "140cad13514dfe4084a14cdb8d2ea9aaedf88a3585618748bcc38695e431a0fc"), looks := false }, kinds := [], alts := [], laidByText := true, laidKinds := [.data, .data, .data], laidTests := true, laidLooks := .later }
def WholePartsUptoCardSaid : Prop := Claim7.holds Tryd.pinned (.plain (OpenSpec.upto wholePartsSpec)) wholePartsUptoCard

/-- THE SECOND FORM's CARD OF 'vivariumlaw01.WholeSteps'. -/
def wholeStepsUptoCard : Claim7 := { stood := { row := wholeStepsUptoRow, standIns := [], harness := (true, "140cad13514dfe4084a14cdb8d2ea9aaedf88a3585618748bcc38695e431a0fc"), looks := false }, kinds := [], alts := [], laidByText := true, laidKinds := [.data, .data, .data], laidTests := true, laidLooks := .later }
def WholeStepsUptoCardSaid : Prop := Claim7.holds Tryd.pinned (.plain (OpenSpec.upto wholeStepsSpec)) wholeStepsUptoCard

/-- THE SECOND FORM's CARD OF 'vivariumlaw01.WholeCommon'. -/
def wholeCommonUptoCard : Claim7 := { stood := { row := wholeCommonUptoRow, standIns := [], harness := (true, "140cad13514dfe4084a14cdb8d2ea9aaedf88a3585618748bcc38695e431a0fc"), looks := false }, kinds := [], alts := [], laidByText := true, laidKinds := [.data, .data, .data], laidTests := true, laidLooks := .later }
def WholeCommonUptoCardSaid : Prop := Claim7.holds Tryd.pinned (.plain (OpenSpec.upto wholeCommonSpec)) wholeCommonUptoCard

/-- THE SECOND FORM's CARD OF 'vivariumlaw01.WholeBack'. -/
def wholeBackUptoCard : Claim7 := { stood := { row := wholeBackUptoRow, standIns := [], harness := (true, "140cad13514dfe4084a14cdb8d2ea9aaedf88a3585618748bcc38695e431a0fc"), looks := false }, kinds := [], alts := [], laidByText := true, laidKinds := [.data, .data, .data], laidTests := true, laidLooks := .later }
def WholeBackUptoCardSaid : Prop := Claim7.holds Tryd.pinned (.plain (OpenSpec.upto wholeBackSpec)) wholeBackUptoCard

/-- THE SECOND FORM's CARD OF 'vivariumlaw01.WholeNames'. -/
def wholeNamesUptoCard : Claim7 := { stood := { row := wholeNamesUptoRow, standIns := [], harness := (true, "140cad13514dfe4084a14cdb8d2ea9aaedf88a3585618748bcc38695e431a0fc"), looks := false }, kinds := [], alts := [], laidByText := true, laidKinds := [.data, .data, .data], laidTests := true, laidLooks := .later }
def WholeNamesUptoCardSaid : Prop := Claim7.holds Tryd.pinned (.plain (OpenSpec.upto wholeNamesSpec)) wholeNamesUptoCard

/-- THE SECOND FORM's CARD OF 'vivariumlaw01.WholeWidths'. -/
def wholeWidthsUptoCard : Claim7 := { stood := { row := wholeWidthsUptoRow, standIns := [], harness := (true, "140cad13514dfe4084a14cdb8d2ea9aaedf88a3585618748bcc38695e431a0fc"), looks := false }, kinds := [], alts := [], laidByText := true, laidKinds := [.data, .data, .data], laidTests := true, laidLooks := .later }
def WholeWidthsUptoCardSaid : Prop := Claim7.holds Tryd.pinned (.plain (OpenSpec.upto wholeWidthsSpec)) wholeWidthsUptoCard
end Rows
end Go.Proofs.YtnghjojddhdlkaaDoor
