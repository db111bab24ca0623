/-
  DERIVED. GIVEN WITH THE SEED: THE CARDS: each row of YtbnonnogkgbpiaaDoorRows.lean that lists a variable, with what it lists TIED to the program's text (the seventh form; the later family's looks); each row that meets fmt, with fmt's text TOLD by the authors' own Lean function (tested against real Go, not proved from fmt's source: count such statements apart). THE CARD IS WHAT COUNTS. Prove the row's statement (the work); the ties are given (YtbnonnogkgbpiaaDoorTie.lean); close each card by the builder's one call (the guide's Derived/Test/ToyasCard.lean, 'card_holds'). Laid BY PROGRAM, IN A SANDBOX (cutbox-door.mjs). By AI agents, Wed Nov 11 2026. No macro, syntax, notation, axiom, sorry.
-/
import Derived.Test.YtbnonnogkgbpiaaDoorRows
import GoSem.ClaimSeven
namespace Go.Proofs.YtbnonnogkgbpiaaDoor
namespace Rows

/-- THE TIED CARD OF 'vivariumlaw11.TreeBack'. -/
def treeBackCard : Claim7 := { stood := { row := treeBackRow, standIns := [], harness := (true, "b5e6443656013402888abecde0234c2c3cb11d82caed52011ca877c91195144e"), looks := false }, kinds := [], alts := [], laidByText := true, laidKinds := [.data, .data, .data], laidTests := true, laidLooks := .later }
def TreeBackCardSaid : Prop := Claim7.holds Tryd.pinned (.plain (OpenSpec.ofChange treeBackSpec)) treeBackCard

/-- THE TIED CARD OF 'vivariumlaw11.TreeSays'. -/
def treeSaysCard : Claim7 := { stood := { row := treeSaysRow, standIns := [], harness := (true, "b5e6443656013402888abecde0234c2c3cb11d82caed52011ca877c91195144e"), looks := false }, kinds := [], alts := [], laidByText := true, laidKinds := [.data, .data, .data], laidTests := true, laidLooks := .later }
def TreeSaysCardSaid : Prop := Claim7.holds Tryd.pinned (.plain (OpenSpec.ofChange treeSaysSpec)) treeSaysCard

/-- THE TIED CARD OF 'vivariumlaw11.TreeNames'. -/
def treeNamesCard : Claim7 := { stood := { row := treeNamesRow, standIns := [], harness := (true, "b5e6443656013402888abecde0234c2c3cb11d82caed52011ca877c91195144e"), looks := false }, kinds := [], alts := [], laidByText := true, laidKinds := [.data, .data, .data], laidTests := true, laidLooks := .later }
def TreeNamesCardSaid : Prop := Claim7.holds Tryd.pinned (.plain (OpenSpec.ofChange treeNamesSpec)) treeNamesCard

/-- THE TIED CARD OF 'vivariumlaw11.TreeOfs'. -/
def treeOfsCard : Claim7 := { stood := { row := treeOfsRow, standIns := [], harness := (true, "b5e6443656013402888abecde0234c2c3cb11d82caed52011ca877c91195144e"), looks := false }, kinds := [], alts := [], laidByText := true, laidKinds := [.data, .data, .data], laidTests := true, laidLooks := .later }
def TreeOfsCardSaid : Prop := Claim7.holds Tryd.pinned (.plain (OpenSpec.ofChange treeOfsSpec)) treeOfsCard

/-- THE TIED CARD OF 'vivariumlaw11.TreeNone'. -/
def treeNoneCard : Claim7 := { stood := { row := treeNoneRow, standIns := [], harness := (true, "b5e6443656013402888abecde0234c2c3cb11d82caed52011ca877c91195144e"), looks := false }, kinds := [], alts := [], laidByText := true, laidKinds := [.data, .data, .data], laidTests := true, laidLooks := .later }
def TreeNoneCardSaid : Prop := Claim7.holds Tryd.pinned (.plain (OpenSpec.ofChange treeNoneSpec)) treeNoneCard

/-- THE TIED CARD OF 'vivariumlaw11.TreeAts'. -/
def treeAtsCard : Claim7 := { stood := { row := treeAtsRow, standIns := [], harness := (true, "b5e6443656013402888abecde0234c2c3cb11d82caed52011ca877c91195144e"), looks := false }, kinds := [], alts := [], laidByText := true, laidKinds := [.data, .data, .data], laidTests := true, laidLooks := .later }
def TreeAtsCardSaid : Prop := Claim7.holds Tryd.pinned (.plain (OpenSpec.ofChange treeAtsSpec)) treeAtsCard

/-- THE TIED CARD OF 'vivariumlaw11.TreeKeepses'. -/
def treeKeepsesCard : Claim7 := { stood := { row := treeKeepsesRow, standIns := [], harness := (true, "b5e6443656013402888abecde0234c2c3cb11d82caed52011ca877c91195144e"), looks := false }, kinds := [], alts := [], laidByText := true, laidKinds := [.data, .data, .data], laidTests := true, laidLooks := .later }
def TreeKeepsesCardSaid : Prop := Claim7.holds Tryd.pinned (.plain (OpenSpec.ofChange treeKeepsesSpec)) treeKeepsesCard

/-- THE TIED CARD OF 'vivariumlaw11.TreePrints'. -/
def treePrintsCard : Claim7 := { stood := { row := treePrintsRow, standIns := [], harness := (true, "b5e6443656013402888abecde0234c2c3cb11d82caed52011ca877c91195144e"), looks := false }, kinds := [], alts := [], laidByText := true, laidKinds := [.data, .data, .data], laidTests := true, laidLooks := .later }
def TreePrintsCardSaid : Prop := Claim7.holds Tryd.pinned (.plain (OpenSpec.ofChange treePrintsSpec)) treePrintsCard

/-- THE TIED CARD OF 'vivariumlaw11.TreeForm'. -/
def treeFormCard : Claim7 := { stood := { row := treeFormRow, standIns := [], harness := (true, "b5e6443656013402888abecde0234c2c3cb11d82caed52011ca877c91195144e"), looks := false }, kinds := [], alts := [], laidByText := true, laidKinds := [.data, .data, .data], laidTests := true, laidLooks := .later }
def TreeFormCardSaid : Prop := Claim7.holds Tryd.pinned (.plain (OpenSpec.ofChange treeFormSpec)) treeFormCard

/-- THE TIED CARD OF 'vivariumlaw11.TreeSames'. -/
def treeSamesCard : Claim7 := { stood := { row := treeSamesRow, standIns := [], harness := (true, "b5e6443656013402888abecde0234c2c3cb11d82caed52011ca877c91195144e"), looks := false }, kinds := [], alts := [], laidByText := true, laidKinds := [.data, .data, .data], laidTests := true, laidLooks := .later }
def TreeSamesCardSaid : Prop := Claim7.holds Tryd.pinned (.plain (OpenSpec.ofChange treeSamesSpec)) treeSamesCard

/-- THE TIED CARD OF 'vivariumlaw11.TreeOne'. -/
def treeOneCard : Claim7 := { stood := { row := treeOneRow, standIns := [], harness := (true, "b5e6443656013402888abecde0234c2c3cb11d82caed52011ca877c91195144e"), looks := false }, kinds := [], alts := [], laidByText := true, laidKinds := [.data, .data, .data], laidTests := true, laidLooks := .later }
def TreeOneCardSaid : Prop := Claim7.holds Tryd.pinned (.plain (OpenSpec.ofChange treeOneSpec)) treeOneCard

/-- THE TIED CARD OF 'vivariumlaw11.TreePerms'. -/
def treePermsCard : Claim7 := { stood := { row := treePermsRow, standIns := [], harness := (true, "b5e6443656013402888abecde0234c2c3cb11d82caed52011ca877c91195144e"), looks := false }, kinds := [], alts := [], laidByText := true, laidKinds := [.data, .data, .data], laidTests := true, laidLooks := .later }
def TreePermsCardSaid : Prop := Claim7.holds Tryd.pinned (.plain (OpenSpec.ofChange treePermsSpec)) treePermsCard

/-- THE TIED CARD OF 'vivariumlaw11.TreeParses'. -/
def treeParsesCard : Claim7 := { stood := { row := treeParsesRow, standIns := [], harness := (true, "b5e6443656013402888abecde0234c2c3cb11d82caed52011ca877c91195144e"), looks := false }, kinds := [], alts := [], laidByText := true, laidKinds := [.data, .data, .data], laidTests := true, laidLooks := .later }
def TreeParsesCardSaid : Prop := Claim7.holds Tryd.pinned (.plain (OpenSpec.ofChange treeParsesSpec)) treeParsesCard

/-- THE SECOND FORM's CARD OF 'vivariumlaw11.TreeBack'. -/
def treeBackUptoCard : Claim7 := { stood := { row := treeBackUptoRow, standIns := [], harness := (true, "b5e6443656013402888abecde0234c2c3cb11d82caed52011ca877c91195144e"), looks := false }, kinds := [], alts := [], laidByText := true, laidKinds := [.data, .data, .data], laidTests := true, laidLooks := .later }
def TreeBackUptoCardSaid : Prop := Claim7.holds Tryd.pinned (.plain (OpenSpec.upto treeBackSpec)) treeBackUptoCard

/-- THE SECOND FORM's CARD OF 'vivariumlaw11.TreeSays'. -/
def treeSaysUptoCard : Claim7 := { stood := { row := treeSaysUptoRow, standIns := [], harness := (true, "b5e6443656013402888abecde0234c2c3cb11d82caed52011ca877c91195144e"), looks := false }, kinds := [], alts := [], laidByText := true, laidKinds := [.data, .data, .data], laidTests := true, laidLooks := .later }
def TreeSaysUptoCardSaid : Prop := Claim7.holds Tryd.pinned (.plain (OpenSpec.upto treeSaysSpec)) treeSaysUptoCard

/-- THE SECOND FORM's CARD OF 'vivariumlaw11.TreeNames'. -/
def treeNamesUptoCard : Claim7 := { stood := { row := treeNamesUptoRow, standIns := [], harness := (true, "b5e6443656013402888abecde0234c2c3cb11d82caed52011ca877c91195144e"), looks := false }, kinds := [], alts := [], laidByText := true, laidKinds := [.data, .data, .data], laidTests := true, laidLooks := .later }
def TreeNamesUptoCardSaid : Prop := Claim7.holds Tryd.pinned (.plain (OpenSpec.upto treeNamesSpec)) treeNamesUptoCard

/-- THE SECOND FORM's CARD OF 'vivariumlaw11.TreeOfs'. -/
def treeOfsUptoCard : Claim7 := { stood := { row := treeOfsUptoRow, standIns := [], harness := (true, "b5e6443656013402888abecde0234c2c3cb11d82caed52011ca877c91195144e"), looks := false }, kinds := [], alts := [], laidByText := true, laidKinds := [.data, .data, .data], laidTests := true, laidLooks := .later }
def TreeOfsUptoCardSaid : Prop := Claim7.holds Tryd.pinned (.plain (OpenSpec.upto treeOfsSpec)) treeOfsUptoCard

/-- THE SECOND FORM's CARD OF 'vivariumlaw11.TreeNone'. -/
def treeNoneUptoCard : Claim7 := { stood := { row := treeNoneUptoRow, standIns := [], harness := (true, "b5e6443656013402888abecde0234c2c3cb11d82caed52011ca877c91195144e"), looks := false }, kinds := [], alts := [], laidByText := true, laidKinds := [.data, .data, .data], laidTests := true, laidLooks := .later }
def TreeNoneUptoCardSaid : Prop := Claim7.holds Tryd.pinned (.plain (OpenSpec.upto treeNoneSpec)) treeNoneUptoCard

/-- THE SECOND FORM's CARD OF 'vivariumlaw11.TreeAts'. -/
def treeAtsUptoCard : Claim7 := { stood := { row := treeAtsUptoRow, standIns := [], harness := (true, "b5e6443656013402888abecde0234c2c3cb11d82caed52011ca877c91195144e"), looks := false }, kinds := [], alts := [], laidByText := true, laidKinds := [.data, .data, .data], laidTests := true, laidLooks := .later }
def TreeAtsUptoCardSaid : Prop := Claim7.holds Tryd.pinned (.plain (OpenSpec.upto treeAtsSpec)) treeAtsUptoCard

/-- THE SECOND FORM's CARD OF 'vivariumlaw11.TreeKeepses'. -/
def treeKeepsesUptoCard : Claim7 := { stood := { row := treeKeepsesUptoRow, standIns := [], harness := (true, "b5e6443656013402888abecde0234c2c3cb11d82caed52011ca877c91195144e"), looks := false }, kinds := [], alts := [], laidByText := true, laidKinds := [.data, .data, .data], laidTests := true, laidLooks := .later }
def TreeKeepsesUptoCardSaid : Prop := Claim7.holds Tryd.pinned (.plain (OpenSpec.upto treeKeepsesSpec)) treeKeepsesUptoCard

/-- THE SECOND FORM's CARD OF 'vivariumlaw11.TreePrints'. -/
def treePrintsUptoCard : Claim7 := { stood := { row := treePrintsUptoRow, standIns := [], harness := (true, "b5e6443656013402888abecde0234c2c3cb11d82caed52011ca877c91195144e"), looks := false }, kinds := [], alts := [], laidByText := true, laidKinds := [.data, .data, .data], laidTests := true, laidLooks := .later }
def TreePrintsUptoCardSaid : Prop := Claim7.holds Tryd.pinned (.plain (OpenSpec.upto treePrintsSpec)) treePrintsUptoCard

/-- THE SECOND FORM's CARD OF 'vivariumlaw11.TreeForm'. -/
def treeFormUptoCard : Claim7 := { stood := { row := treeFormUptoRow, standIns := [], harness := (true, "b5e6443656013402888abecde0234c2c3cb11d82caed52011ca877c91195144e"), looks := false }, kinds := [], alts := [], laidByText := true, laidKinds := [.data, .data, .data], laidTests := true, laidLooks := .later }
def TreeFormUptoCardSaid : Prop := Claim7.holds Tryd.pinned (.plain (OpenSpec.upto treeFormSpec)) treeFormUptoCard

/-- THE SECOND FORM's CARD OF 'vivariumlaw11.TreeSames'. -/
def treeSamesUptoCard : Claim7 := { stood := { row := treeSamesUptoRow, standIns := [], harness := (true, "b5e6443656013402888abecde0234c2c3cb11d82caed52011ca877c91195144e"), looks := false }, kinds := [], alts := [], laidByText := true, laidKinds := [.data, .data, .data], laidTests := true, laidLooks := .later }
def TreeSamesUptoCardSaid : Prop := Claim7.holds Tryd.pinned (.plain (OpenSpec.upto treeSamesSpec)) treeSamesUptoCard

/-- THE SECOND FORM's CARD OF 'vivariumlaw11.TreeOne'. -/
def treeOneUptoCard : Claim7 := { stood := { row := treeOneUptoRow, standIns := [], harness := (true, "b5e6443656013402888abecde0234c2c3cb11d82caed52011ca877c91195144e"), looks := false }, kinds := [], alts := [], laidByText := true, laidKinds := [.data, .data, .data], laidTests := true, laidLooks := .later }
def TreeOneUptoCardSaid : Prop := Claim7.holds Tryd.pinned (.plain (OpenSpec.upto treeOneSpec)) treeOneUptoCard

/-- THE SECOND FORM's CARD OF 'vivariumlaw11.TreePerms'. -/
def treePermsUptoCard : Claim7 := { stood := { row := treePermsUptoRow, standIns := [], harness := (true, "b5e6443656013402888abecde0234c2c3cb11d82caed52011ca877c91195144e"), looks := false }, kinds := [], alts := [], laidByText := true, laidKinds := [.data, .data, .data], laidTests := true, laidLooks := .later }
def TreePermsUptoCardSaid : Prop := Claim7.holds Tryd.pinned (.plain (OpenSpec.upto treePermsSpec)) treePermsUptoCard

/-- THE SECOND FORM's CARD OF 'vivariumlaw11.TreeParses'. -/
def treeParsesUptoCard : Claim7 := { stood := { row := treeParsesUptoRow, standIns := [], harness := (true, "b5e6443656013402888abecde0234c2c3cb11d82caed52011ca877c91195144e"), looks := false }, kinds := [], alts := [], laidByText := true, laidKinds := [.data, .data, .data], laidTests := true, laidLooks := .later }
def TreeParsesUptoCardSaid : Prop := Claim7.holds Tryd.pinned (.plain (OpenSpec.upto treeParsesSpec)) treeParsesUptoCard
end Rows
end Go.Proofs.YtbnonnogkgbpiaaDoor
