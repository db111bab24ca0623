/-
  No cell of these rows narrows 'for every input' (looked for: loops, veiled, ifaces, maps, wideKeys, modest, calm, conditions, laid).
  DERIVED. THE GIVEN ROWS OF THIS SEAT. 4 by the template 'for every input the law returns true; each argument reads behind the call as it read before'; 0 by the template 'total and deterministic' (their statements: YtnghjojddhdlkaaTotals.lean).
  GIVEN WITH THE SEED: the statements are not yours to turn. If you find one false, say at which input.
  Laid BY PROGRAM, IN A SANDBOX (cutbox-rows.mjs): the forced cells as the released guide's own fill.sh prints them over the translation 7ae7ebcee157bfb3… (all of the seat's roots in one cut). By AI agents, Wed Nov 11 2026. No macro, syntax, notation, axiom, sorry.
-/
import Derived.Test.YtnghjojddhdlkaaChecked
import GoSem.Claim
import GoSem.ClaimJoined
import GoSem.ClaimMapViews
import Derived.JoinedTies
import Derived.KernelRfl
namespace Go.Proofs.Ytnghjojddhdlkaa
/- THE CELL 'sum', in the pinned program and in every row, IS THE sha256 OF THE DUMP (.gsa) THAT YtnghjojddhdlkaaProg.lean LOADS. Nothing in Lean hashes anything: it is a label: what it is worth is what the hold of that sum in a sandbox is worth. -/
noncomputable def Try.pinned : Pinned := { name := "ytnghjojddhdlkaa", sum := "7ae7ebcee157bfb37ecf602644475b061e1dff85f17aa8e98f326a0b66b17985", checked := Try.checked }
namespace Rows
def none {H : Type} : Left H := { results := [], args := [] }

/-- 'vivariumlaw01.WholeGcds': WHATEVER THE INPUT: true; the input reads as it did. -/
def wholeGcdsSpec : ChangeSpec := { name := "wholeGcds", fn := fun _ => fun
  | [d] => { results := [.lit (.bool true)], args := [d] }
  | _ => none }
def wholeGcdsRow : OpenClaim := { program := "ytnghjojddhdlkaa", sum := "7ae7ebcee157bfb37ecf602644475b061e1dff85f17aa8e98f326a0b66b17985", func := "vivarium/vivariumlaw01.WholeGcds", spec := "wholeGcds", apart := false }
def WholeGcdsSaid : Prop := wholeGcdsRow.holds Try.pinned (OpenSpec.ofChange wholeGcdsSpec)

/-- ITS FALSE NEIGHBOUR: 'it returns false'. Refute it at one input. -/
def wholeGcdsWrong : ChangeSpec := { name := "wholeGcds", fn := fun _ => fun
  | [d] => { results := [.lit (.bool false)], args := [d] }
  | _ => none }
def WholeGcdsWrongFalsely : Prop := wholeGcdsRow.holds Try.pinned (OpenSpec.ofChange wholeGcdsWrong)

/-- 'vivariumlaw01.WholeNears': WHATEVER THE INPUT: true; the input reads as it did. -/
def wholeNearsSpec : ChangeSpec := { name := "wholeNears", fn := fun _ => fun
  | [d1, d2] => { results := [.lit (.bool true)], args := [d1, d2] }
  | _ => none }
def wholeNearsRow : OpenClaim := { program := "ytnghjojddhdlkaa", sum := "7ae7ebcee157bfb37ecf602644475b061e1dff85f17aa8e98f326a0b66b17985", func := "vivarium/vivariumlaw01.WholeNears", spec := "wholeNears", apart := false }
def WholeNearsSaid : Prop := wholeNearsRow.holds Try.pinned (OpenSpec.ofChange wholeNearsSpec)

/-- ITS FALSE NEIGHBOUR: 'it returns false'. Refute it at one input. -/
def wholeNearsWrong : ChangeSpec := { name := "wholeNears", fn := fun _ => fun
  | [d1, d2] => { results := [.lit (.bool false)], args := [d1, d2] }
  | _ => none }
def WholeNearsWrongFalsely : Prop := wholeNearsRow.holds Try.pinned (OpenSpec.ofChange wholeNearsWrong)

/-- 'vivariumlaw01.WholeSums': WHATEVER THE INPUT: true; the input reads as it did. -/
def wholeSumsSpec : ChangeSpec := { name := "wholeSums", fn := fun _ => fun
  | [d] => { results := [.lit (.bool true)], args := [d] }
  | _ => none }
def wholeSumsRow : OpenClaim := { program := "ytnghjojddhdlkaa", sum := "7ae7ebcee157bfb37ecf602644475b061e1dff85f17aa8e98f326a0b66b17985", func := "vivarium/vivariumlaw01.WholeSums", spec := "wholeSums", apart := false }
def WholeSumsSaid : Prop := wholeSumsRow.holds Try.pinned (OpenSpec.ofChange wholeSumsSpec)

/-- ITS FALSE NEIGHBOUR: 'it returns false'. Refute it at one input. -/
def wholeSumsWrong : ChangeSpec := { name := "wholeSums", fn := fun _ => fun
  | [d] => { results := [.lit (.bool false)], args := [d] }
  | _ => none }
def WholeSumsWrongFalsely : Prop := wholeSumsRow.holds Try.pinned (OpenSpec.ofChange wholeSumsWrong)

/-- 'vivariumlaw01.WholeDivides': WHATEVER THE INPUT: true; the input reads as it did. -/
def wholeDividesSpec : ChangeSpec := { name := "wholeDivides", fn := fun _ => fun
  | [d] => { results := [.lit (.bool true)], args := [d] }
  | _ => none }
def wholeDividesRow : OpenClaim := { program := "ytnghjojddhdlkaa", sum := "7ae7ebcee157bfb37ecf602644475b061e1dff85f17aa8e98f326a0b66b17985", func := "vivarium/vivariumlaw01.WholeDivides", spec := "wholeDivides", apart := false }
def WholeDividesSaid : Prop := wholeDividesRow.holds Try.pinned (OpenSpec.ofChange wholeDividesSpec)

/-- ITS FALSE NEIGHBOUR: 'it returns false'. Refute it at one input. -/
def wholeDividesWrong : ChangeSpec := { name := "wholeDivides", fn := fun _ => fun
  | [d] => { results := [.lit (.bool false)], args := [d] }
  | _ => none }
def WholeDividesWrongFalsely : Prop := wholeDividesRow.holds Try.pinned (OpenSpec.ofChange wholeDividesWrong)

/- THE SECOND FORM. 'bulk': how many values and letters a reading holds, each counted each time it is reached (what is shared counts as often as it is met; a slice's spare places count too). A statement '..UptoSaid' is the law's where the arguments, and the package variables that the reading takes, are together of bulk at most 1048576: NARROWER than '..Said'. Prove '..Said' where nothing that the law and all that it calls make is longer than what came in: it says more and counts as full. Else prove '..UptoSaid'. A law counts once. -/
mutual
def uptoBulk {H : Type} : DataW H → Nat
  | .lit (.string bytes) => bytes.length + 1
  | .lit _ => 1
  | .nil => 1
  | .ptr d => uptoBulk d + 1
  | .slice elems spare => uptoBulkAll elems + uptoBulkAll spare + 1
  | .agg parts => uptoBulkAll parts + 1
  | .iface _ d => uptoBulk d + 1
  | .map entries => uptoBulkEntries entries + 1
  | .held _ => 1
def uptoBulkAll {H : Type} : List (DataW H) → Nat
  | [] => 0
  | d :: r => uptoBulk d + uptoBulkAll r
def uptoBulkEntries {H : Type} : List (Lit × DataW H) → Nat
  | [] => 0
  | x :: r => uptoBulkEntry x + uptoBulkEntries r
def uptoBulkEntry {H : Type} : Lit × DataW H → Nat
  | (.string bytes, d) => bytes.length + uptoBulk d + 1
  | (_, d) => uptoBulk d + 1
 end
def uptoSmall : (H : Type) → List (DataW H) → Bool := fun _ ds => decide (uptoBulkAll ds ≤ 1048576)
def OpenSpec.upto (s : _root_.Go.ChangeSpec) : _root_.Go.OpenSpec := { _root_.Go.OpenSpec.ofChange s with cond := some uptoSmall }

/-- 'vivariumlaw01.WholeGcds', WHERE WHAT IT READS IS OF BULK AT MOST 1048576: true; the input reads as it did. -/
def wholeGcdsUptoRow : OpenClaim := { program := "ytnghjojddhdlkaa", sum := "7ae7ebcee157bfb37ecf602644475b061e1dff85f17aa8e98f326a0b66b17985", func := "vivarium/vivariumlaw01.WholeGcds", spec := "wholeGcds", apart := false, narrowed := true }
def WholeGcdsUptoSaid : Prop := wholeGcdsUptoRow.holds Try.pinned (OpenSpec.upto wholeGcdsSpec)

/-- 'vivariumlaw01.WholeNears', WHERE WHAT IT READS IS OF BULK AT MOST 1048576: true; the input reads as it did. -/
def wholeNearsUptoRow : OpenClaim := { program := "ytnghjojddhdlkaa", sum := "7ae7ebcee157bfb37ecf602644475b061e1dff85f17aa8e98f326a0b66b17985", func := "vivarium/vivariumlaw01.WholeNears", spec := "wholeNears", apart := false, narrowed := true }
def WholeNearsUptoSaid : Prop := wholeNearsUptoRow.holds Try.pinned (OpenSpec.upto wholeNearsSpec)

/-- 'vivariumlaw01.WholeSums', WHERE WHAT IT READS IS OF BULK AT MOST 1048576: true; the input reads as it did. -/
def wholeSumsUptoRow : OpenClaim := { program := "ytnghjojddhdlkaa", sum := "7ae7ebcee157bfb37ecf602644475b061e1dff85f17aa8e98f326a0b66b17985", func := "vivarium/vivariumlaw01.WholeSums", spec := "wholeSums", apart := false, narrowed := true }
def WholeSumsUptoSaid : Prop := wholeSumsUptoRow.holds Try.pinned (OpenSpec.upto wholeSumsSpec)

/-- 'vivariumlaw01.WholeDivides', WHERE WHAT IT READS IS OF BULK AT MOST 1048576: true; the input reads as it did. -/
def wholeDividesUptoRow : OpenClaim := { program := "ytnghjojddhdlkaa", sum := "7ae7ebcee157bfb37ecf602644475b061e1dff85f17aa8e98f326a0b66b17985", func := "vivarium/vivariumlaw01.WholeDivides", spec := "wholeDivides", apart := false, narrowed := true }
def WholeDividesUptoSaid : Prop := wholeDividesUptoRow.holds Try.pinned (OpenSpec.upto wholeDividesSpec)

end Rows
end Go.Proofs.Ytnghjojddhdlkaa
