/-
  DERIVED. GIVEN WITH THE SEED: THE CARDS: each row of YtlghmadoogblcaaDoorRows.lean that lists a variable, with what it lists TIED to the program's text (the seventh form; the later family's looks); each row that meets fmt, with fmt's text TOLD by the authors' own Lean function (tested against real Go, not proved from fmt's source: count such statements apart). THE CARD IS WHAT COUNTS. Prove the row's statement (the work); the ties are given (YtlghmadoogblcaaDoorTie.lean); close each card by the builder's one call (the guide's Derived/Test/ToyasCard.lean, 'card_holds'). Laid BY PROGRAM, IN A SANDBOX (cutbox-door.mjs). By AI agents, Wed Nov 11 2026. No macro, syntax, notation, axiom, sorry.
-/
import Derived.Test.YtlghmadoogblcaaDoorRows
import GoSem.ClaimSeven
namespace Go.Proofs.YtlghmadoogblcaaDoor
namespace Rows

/-- THE TIED CARD OF 'vivariumlaw02.WordsOnes'. -/
def wordsOnesCard : Claim7 := { stood := { row := wordsOnesRow, standIns := [], harness := (true, "fa375448c6be12e1a980c5796ec360211e13bef4e474b714af25c2fdbbd457e4"), looks := false }, kinds := [], alts := [], laidByText := true, laidKinds := [.data], laidTests := true, laidLooks := .later }
def WordsOnesCardSaid : Prop := Claim7.holds Tryd.pinned (.plain (OpenSpec.ofChange wordsOnesSpec)) wordsOnesCard

/-- THE TIED CARD OF 'vivariumlaw02.WordsMoves'. -/
def wordsMovesCard : Claim7 := { stood := { row := wordsMovesRow, standIns := [], harness := (true, "fa375448c6be12e1a980c5796ec360211e13bef4e474b714af25c2fdbbd457e4"), looks := false }, kinds := [], alts := [], laidByText := true, laidKinds := [.data], laidTests := true, laidLooks := .later }
def WordsMovesCardSaid : Prop := Claim7.holds Tryd.pinned (.plain (OpenSpec.ofChange wordsMovesSpec)) wordsMovesCard

/-- THE TIED CARD OF 'vivariumlaw02.WordsThere'. -/
def wordsThereCard : Claim7 := { stood := { row := wordsThereRow, standIns := [], harness := (true, "fa375448c6be12e1a980c5796ec360211e13bef4e474b714af25c2fdbbd457e4"), looks := false }, kinds := [], alts := [], laidByText := true, laidKinds := [.data], laidTests := true, laidLooks := .later }
def WordsThereCardSaid : Prop := Claim7.holds Tryd.pinned (.plain (OpenSpec.ofChange wordsThereSpec)) wordsThereCard

/-- THE TIED CARD OF 'vivariumlaw02.WordsAdds'. -/
def wordsAddsCard : Claim7 := { stood := { row := wordsAddsRow, standIns := [], harness := (true, "fa375448c6be12e1a980c5796ec360211e13bef4e474b714af25c2fdbbd457e4"), looks := false }, kinds := [], alts := [], laidByText := true, laidKinds := [.data], laidTests := true, laidLooks := .later }
def WordsAddsCardSaid : Prop := Claim7.holds Tryd.pinned (.plain (OpenSpec.ofChange wordsAddsSpec)) wordsAddsCard

/-- THE SECOND FORM's CARD OF 'vivariumlaw02.WordsOnes'. -/
def wordsOnesUptoCard : Claim7 := { stood := { row := wordsOnesUptoRow, standIns := [], harness := (true, "fa375448c6be12e1a980c5796ec360211e13bef4e474b714af25c2fdbbd457e4"), looks := false }, kinds := [], alts := [], laidByText := true, laidKinds := [.data], laidTests := true, laidLooks := .later }
def WordsOnesUptoCardSaid : Prop := Claim7.holds Tryd.pinned (.plain (OpenSpec.upto wordsOnesSpec)) wordsOnesUptoCard

/-- THE SECOND FORM's CARD OF 'vivariumlaw02.WordsMoves'. -/
def wordsMovesUptoCard : Claim7 := { stood := { row := wordsMovesUptoRow, standIns := [], harness := (true, "fa375448c6be12e1a980c5796ec360211e13bef4e474b714af25c2fdbbd457e4"), looks := false }, kinds := [], alts := [], laidByText := true, laidKinds := [.data], laidTests := true, laidLooks := .later }
def WordsMovesUptoCardSaid : Prop := Claim7.holds Tryd.pinned (.plain (OpenSpec.upto wordsMovesSpec)) wordsMovesUptoCard

/-- THE SECOND FORM's CARD OF 'vivariumlaw02.WordsThere'. -/
def wordsThereUptoCard : Claim7 := { stood := { row := wordsThereUptoRow, standIns := [], harness := (true, "fa375448c6be12e1a980c5796ec360211e13bef4e474b714af25c2fdbbd457e4"), looks := false }, kinds := [], alts := [], laidByText := true, laidKinds := [.data], laidTests := true, laidLooks := .later }
def WordsThereUptoCardSaid : Prop := Claim7.holds Tryd.pinned (.plain (OpenSpec.upto wordsThereSpec)) wordsThereUptoCard

/-- THE SECOND FORM's CARD OF 'vivariumlaw02.WordsAdds'. -/
def wordsAddsUptoCard : Claim7 := { stood := { row := wordsAddsUptoRow, standIns := [], harness := (true, "fa375448c6be12e1a980c5796ec360211e13bef4e474b714af25c2fdbbd457e4"), looks := false }, kinds := [], alts := [], laidByText := true, laidKinds := [.data], laidTests := true, laidLooks := .later }
def WordsAddsUptoCardSaid : Prop := Claim7.holds Tryd.pinned (.plain (OpenSpec.upto wordsAddsSpec)) wordsAddsUptoCard
end Rows
end Go.Proofs.YtlghmadoogblcaaDoor
