/-
  DERIVED. GIVEN WITH THE SEED: THE CARDS: each row of YtmcidodpnhkdfaaDoorRows.lean that lists a variable, with what it lists TIED to the program's text (the seventh form; the later family's looks); each row that meets fmt, with fmt's text TOLD by the authors' own Lean function (tested against real Go, not proved from fmt's source: count such statements apart). THE CARD IS WHAT COUNTS. Prove the row's statement (the work); the ties are given (YtmcidodpnhkdfaaDoorTie.lean); close each card by the builder's one call (the guide's Derived/Test/ToyasCard.lean, 'card_holds'). Laid BY PROGRAM, IN A SANDBOX (cutbox-door.mjs). By AI agents, Wed Nov 11 2026. No macro, syntax, notation, axiom, sorry.
-/
import Derived.Test.YtmcidodpnhkdfaaDoorRows
import GoSem.ClaimSeven
namespace Go.Proofs.YtmcidodpnhkdfaaDoor
namespace Rows

/-- THE TIED CARD OF 'vivariumlaw04.TopoPrints'. -/
def topoPrintsCard : Claim7 := { stood := { row := topoPrintsRow, standIns := [], harness := (true, "1910b08e7f2a4358a28cbd6d66ca77f57ad7c07a45000c6c34665883946b59f0"), looks := false }, kinds := [], alts := [], laidByText := true, laidKinds := [.data, .data, .data], laidTests := true, laidLooks := .later }
def TopoPrintsCardSaid : Prop := Claim7.holds Tryd.pinned (.plain (OpenSpec.ofChange topoPrintsSpec)) topoPrintsCard

/-- THE TIED CARD OF 'vivariumlaw04.TopoNames'. -/
def topoNamesCard : Claim7 := { stood := { row := topoNamesRow, standIns := [], harness := (true, "1910b08e7f2a4358a28cbd6d66ca77f57ad7c07a45000c6c34665883946b59f0"), looks := false }, kinds := [], alts := [], laidByText := true, laidKinds := [.data, .data, .data], laidTests := true, laidLooks := .later }
def TopoNamesCardSaid : Prop := Claim7.holds Tryd.pinned (.plain (OpenSpec.ofChange topoNamesSpec)) topoNamesCard

/-- THE TIED CARD OF 'vivariumlaw04.TopoBack'. -/
def topoBackCard : Claim7 := { stood := { row := topoBackRow, standIns := [], harness := (true, "1910b08e7f2a4358a28cbd6d66ca77f57ad7c07a45000c6c34665883946b59f0"), looks := false }, kinds := [], alts := [], laidByText := true, laidKinds := [.data, .data, .data], laidTests := true, laidLooks := .later }
def TopoBackCardSaid : Prop := Claim7.holds Tryd.pinned (.plain (OpenSpec.ofChange topoBackSpec)) topoBackCard

/-- THE TIED CARD OF 'vivariumlaw04.TopoHome'. -/
def topoHomeCard : Claim7 := { stood := { row := topoHomeRow, standIns := [], harness := (true, "1910b08e7f2a4358a28cbd6d66ca77f57ad7c07a45000c6c34665883946b59f0"), looks := false }, kinds := [], alts := [], laidByText := true, laidKinds := [.data, .data, .data], laidTests := true, laidLooks := .later }
def TopoHomeCardSaid : Prop := Claim7.holds Tryd.pinned (.plain (OpenSpec.ofChange topoHomeSpec)) topoHomeCard

/-- THE TIED CARD OF 'vivariumlaw04.TopoFirst'. -/
def topoFirstCard : Claim7 := { stood := { row := topoFirstRow, standIns := [], harness := (true, "1910b08e7f2a4358a28cbd6d66ca77f57ad7c07a45000c6c34665883946b59f0"), looks := false }, kinds := [], alts := [], laidByText := true, laidKinds := [.data, .data, .data], laidTests := true, laidLooks := .later }
def TopoFirstCardSaid : Prop := Claim7.holds Tryd.pinned (.plain (OpenSpec.ofChange topoFirstSpec)) topoFirstCard

/-- THE TIED CARD OF 'vivariumlaw04.TopoAcross'. -/
def topoAcrossCard : Claim7 := { stood := { row := topoAcrossRow, standIns := [], harness := (true, "1910b08e7f2a4358a28cbd6d66ca77f57ad7c07a45000c6c34665883946b59f0"), looks := false }, kinds := [], alts := [], laidByText := true, laidKinds := [.data, .data, .data], laidTests := true, laidLooks := .later }
def TopoAcrossCardSaid : Prop := Claim7.holds Tryd.pinned (.plain (OpenSpec.ofChange topoAcrossSpec)) topoAcrossCard

/-- THE TIED CARD OF 'vivariumlaw04.TopoCanon'. -/
def topoCanonCard : Claim7 := { stood := { row := topoCanonRow, standIns := [], harness := (true, "1910b08e7f2a4358a28cbd6d66ca77f57ad7c07a45000c6c34665883946b59f0"), looks := false }, kinds := [], alts := [], laidByText := true, laidKinds := [.data, .data, .data], laidTests := true, laidLooks := .later }
def TopoCanonCardSaid : Prop := Claim7.holds Tryd.pinned (.plain (OpenSpec.ofChange topoCanonSpec)) topoCanonCard

/-- THE SECOND FORM's CARD OF 'vivariumlaw04.TopoPrints'. -/
def topoPrintsUptoCard : Claim7 := { stood := { row := topoPrintsUptoRow, standIns := [], harness := (true, "1910b08e7f2a4358a28cbd6d66ca77f57ad7c07a45000c6c34665883946b59f0"), looks := false }, kinds := [], alts := [], laidByText := true, laidKinds := [.data, .data, .data], laidTests := true, laidLooks := .later }
def TopoPrintsUptoCardSaid : Prop := Claim7.holds Tryd.pinned (.plain (OpenSpec.upto topoPrintsSpec)) topoPrintsUptoCard

/-- THE SECOND FORM's CARD OF 'vivariumlaw04.TopoNames'. -/
def topoNamesUptoCard : Claim7 := { stood := { row := topoNamesUptoRow, standIns := [], harness := (true, "1910b08e7f2a4358a28cbd6d66ca77f57ad7c07a45000c6c34665883946b59f0"), looks := false }, kinds := [], alts := [], laidByText := true, laidKinds := [.data, .data, .data], laidTests := true, laidLooks := .later }
def TopoNamesUptoCardSaid : Prop := Claim7.holds Tryd.pinned (.plain (OpenSpec.upto topoNamesSpec)) topoNamesUptoCard

/-- THE SECOND FORM's CARD OF 'vivariumlaw04.TopoBack'. -/
def topoBackUptoCard : Claim7 := { stood := { row := topoBackUptoRow, standIns := [], harness := (true, "1910b08e7f2a4358a28cbd6d66ca77f57ad7c07a45000c6c34665883946b59f0"), looks := false }, kinds := [], alts := [], laidByText := true, laidKinds := [.data, .data, .data], laidTests := true, laidLooks := .later }
def TopoBackUptoCardSaid : Prop := Claim7.holds Tryd.pinned (.plain (OpenSpec.upto topoBackSpec)) topoBackUptoCard

/-- THE SECOND FORM's CARD OF 'vivariumlaw04.TopoHome'. -/
def topoHomeUptoCard : Claim7 := { stood := { row := topoHomeUptoRow, standIns := [], harness := (true, "1910b08e7f2a4358a28cbd6d66ca77f57ad7c07a45000c6c34665883946b59f0"), looks := false }, kinds := [], alts := [], laidByText := true, laidKinds := [.data, .data, .data], laidTests := true, laidLooks := .later }
def TopoHomeUptoCardSaid : Prop := Claim7.holds Tryd.pinned (.plain (OpenSpec.upto topoHomeSpec)) topoHomeUptoCard

/-- THE SECOND FORM's CARD OF 'vivariumlaw04.TopoFirst'. -/
def topoFirstUptoCard : Claim7 := { stood := { row := topoFirstUptoRow, standIns := [], harness := (true, "1910b08e7f2a4358a28cbd6d66ca77f57ad7c07a45000c6c34665883946b59f0"), looks := false }, kinds := [], alts := [], laidByText := true, laidKinds := [.data, .data, .data], laidTests := true, laidLooks := .later }
def TopoFirstUptoCardSaid : Prop := Claim7.holds Tryd.pinned (.plain (OpenSpec.upto topoFirstSpec)) topoFirstUptoCard

/-- THE SECOND FORM's CARD OF 'vivariumlaw04.TopoAcross'. -/
def topoAcrossUptoCard : Claim7 := { stood := { row := topoAcrossUptoRow, standIns := [], harness := (true, "1910b08e7f2a4358a28cbd6d66ca77f57ad7c07a45000c6c34665883946b59f0"), looks := false }, kinds := [], alts := [], laidByText := true, laidKinds := [.data, .data, .data], laidTests := true, laidLooks := .later }
def TopoAcrossUptoCardSaid : Prop := Claim7.holds Tryd.pinned (.plain (OpenSpec.upto topoAcrossSpec)) topoAcrossUptoCard

/-- THE SECOND FORM's CARD OF 'vivariumlaw04.TopoCanon'. -/
def topoCanonUptoCard : Claim7 := { stood := { row := topoCanonUptoRow, standIns := [], harness := (true, "1910b08e7f2a4358a28cbd6d66ca77f57ad7c07a45000c6c34665883946b59f0"), looks := false }, kinds := [], alts := [], laidByText := true, laidKinds := [.data, .data, .data], laidTests := true, laidLooks := .later }
def TopoCanonUptoCardSaid : Prop := Claim7.holds Tryd.pinned (.plain (OpenSpec.upto topoCanonSpec)) topoCanonUptoCard
end Rows
end Go.Proofs.YtmcidodpnhkdfaaDoor
