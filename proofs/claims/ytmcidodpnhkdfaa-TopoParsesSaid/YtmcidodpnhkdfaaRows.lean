/-
  No cell of these rows narrows 'for every input' (looked for: loops, veiled, ifaces, maps, wideKeys, modest, calm, conditions, laid).
  DERIVED. THE GIVEN ROWS OF THIS SEAT. 3 by the template 'for every input the law returns true; each argument reads behind the call as it read before'; 0 by the template 'total and deterministic' (their statements: YtmcidodpnhkdfaaTotals.lean).
  GIVEN WITH THE SEED: the statements are not yours to turn. If you find one false, say at which input.
  Laid BY PROGRAM, IN A SANDBOX (cutbox-rows.mjs): the forced cells as the released guide's own fill.sh prints them over the translation ec7088f075d28338… (all of the seat's roots in one cut). By AI agents, Wed Nov 11 2026. No macro, syntax, notation, axiom, sorry.
-/
import Derived.Test.YtmcidodpnhkdfaaChecked
import GoSem.Claim
import GoSem.ClaimJoined
import GoSem.ClaimMapViews
import Derived.JoinedTies
import Derived.KernelRfl
namespace Go.Proofs.Ytmcidodpnhkdfaa
/- THE CELL 'sum', in the pinned program and in every row, IS THE sha256 OF THE DUMP (.gsa) THAT YtmcidodpnhkdfaaProg.lean LOADS. Nothing in Lean hashes anything: it is a label: what it is worth is what the hold of that sum in a sandbox is worth. -/
noncomputable def Try.pinned : Pinned := { name := "ytmcidodpnhkdfaa", sum := "ec7088f075d283384e4e9cb6e7a00b2edb0fb6057353387ad69fdc1ffcfe91e2", checked := Try.checked }
namespace Rows
def none {H : Type} : Left H := { results := [], args := [] }

/-- 'vivariumlaw04.TopoHas': WHATEVER THE INPUT: true; the input reads as it did. -/
def topoHasSpec : ChangeSpec := { name := "topoHas", fn := fun _ => fun
  | [d1, d2] => { results := [.lit (.bool true)], args := [d1, d2] }
  | _ => none }
def topoHasRow : OpenClaim := { program := "ytmcidodpnhkdfaa", sum := "ec7088f075d283384e4e9cb6e7a00b2edb0fb6057353387ad69fdc1ffcfe91e2", func := "vivarium/vivariumlaw04.TopoHas", spec := "topoHas", unfollowed := true, recurses := true, apart := false }
def TopoHasSaid : Prop := topoHasRow.holds Try.pinned (OpenSpec.ofChange topoHasSpec)

/-- ITS FALSE NEIGHBOUR: 'it returns false'. Refute it at one input. -/
def topoHasWrong : ChangeSpec := { name := "topoHas", fn := fun _ => fun
  | [d1, d2] => { results := [.lit (.bool false)], args := [d1, d2] }
  | _ => none }
def TopoHasWrongFalsely : Prop := topoHasRow.holds Try.pinned (OpenSpec.ofChange topoHasWrong)

/-- 'vivariumlaw04.TopoTurns': WHATEVER THE INPUT: true; the input reads as it did. -/
def topoTurnsSpec : ChangeSpec := { name := "topoTurns", fn := fun _ => fun
  | [d] => { results := [.lit (.bool true)], args := [d] }
  | _ => none }
def topoTurnsRow : OpenClaim := { program := "ytmcidodpnhkdfaa", sum := "ec7088f075d283384e4e9cb6e7a00b2edb0fb6057353387ad69fdc1ffcfe91e2", func := "vivarium/vivariumlaw04.TopoTurns", spec := "topoTurns", apart := false }
def TopoTurnsSaid : Prop := topoTurnsRow.holds Try.pinned (OpenSpec.ofChange topoTurnsSpec)

/-- ITS FALSE NEIGHBOUR: 'it returns false'. Refute it at one input. -/
def topoTurnsWrong : ChangeSpec := { name := "topoTurns", fn := fun _ => fun
  | [d] => { results := [.lit (.bool false)], args := [d] }
  | _ => none }
def TopoTurnsWrongFalsely : Prop := topoTurnsRow.holds Try.pinned (OpenSpec.ofChange topoTurnsWrong)

/-- 'vivariumlaw04.TopoParses': WHATEVER THE INPUT: true; the input reads as it did. -/
def topoParsesSpec : ChangeSpec := { name := "topoParses", fn := fun _ => fun
  | [d] => { results := [.lit (.bool true)], args := [d] }
  | _ => none }
def topoParsesRow : OpenClaim := { program := "ytmcidodpnhkdfaa", sum := "ec7088f075d283384e4e9cb6e7a00b2edb0fb6057353387ad69fdc1ffcfe91e2", func := "vivarium/vivariumlaw04.TopoParses", spec := "topoParses", inPlace := ["internal/bytealg.IndexByteString"], apart := false }
def TopoParsesSaid : Prop := topoParsesRow.holds Try.pinned (OpenSpec.ofChange topoParsesSpec)

/-- ITS FALSE NEIGHBOUR: 'it returns false'. Refute it at one input. -/
def topoParsesWrong : ChangeSpec := { name := "topoParses", fn := fun _ => fun
  | [d] => { results := [.lit (.bool false)], args := [d] }
  | _ => none }
def TopoParsesWrongFalsely : Prop := topoParsesRow.holds Try.pinned (OpenSpec.ofChange topoParsesWrong)

/- THE SECOND FORM. 'bulk': how many values and letters a reading holds, each counted each time it is reached (what is shared counts as often as it is met; a slice's spare places count too). A statement '..UptoSaid' is the law's where the arguments, and the package variables that the reading takes, are together of bulk at most 1048576: NARROWER than '..Said'. Prove '..Said' where nothing that the law and all that it calls make is longer than what came in: it says more and counts as full. Else prove '..UptoSaid'. A law counts once. -/
mutual
def uptoBulk {H : Type} : DataW H → Nat
  | .lit (.string bytes) => bytes.length + 1
  | .lit _ => 1
  | .nil => 1
  | .ptr d => uptoBulk d + 1
  | .slice elems spare => uptoBulkAll elems + uptoBulkAll spare + 1
  | .agg parts => uptoBulkAll parts + 1
  | .iface _ d => uptoBulk d + 1
  | .map entries => uptoBulkEntries entries + 1
  | .held _ => 1
def uptoBulkAll {H : Type} : List (DataW H) → Nat
  | [] => 0
  | d :: r => uptoBulk d + uptoBulkAll r
def uptoBulkEntries {H : Type} : List (Lit × DataW H) → Nat
  | [] => 0
  | x :: r => uptoBulkEntry x + uptoBulkEntries r
def uptoBulkEntry {H : Type} : Lit × DataW H → Nat
  | (.string bytes, d) => bytes.length + uptoBulk d + 1
  | (_, d) => uptoBulk d + 1
 end
def uptoSmall : (H : Type) → List (DataW H) → Bool := fun _ ds => decide (uptoBulkAll ds ≤ 1048576)
def OpenSpec.upto (s : _root_.Go.ChangeSpec) : _root_.Go.OpenSpec := { _root_.Go.OpenSpec.ofChange s with cond := some uptoSmall }

/-- 'vivariumlaw04.TopoHas', WHERE WHAT IT READS IS OF BULK AT MOST 1048576: true; the input reads as it did. -/
def topoHasUptoRow : OpenClaim := { program := "ytmcidodpnhkdfaa", sum := "ec7088f075d283384e4e9cb6e7a00b2edb0fb6057353387ad69fdc1ffcfe91e2", func := "vivarium/vivariumlaw04.TopoHas", spec := "topoHas", unfollowed := true, recurses := true, apart := false, narrowed := true }
def TopoHasUptoSaid : Prop := topoHasUptoRow.holds Try.pinned (OpenSpec.upto topoHasSpec)

/-- 'vivariumlaw04.TopoTurns', WHERE WHAT IT READS IS OF BULK AT MOST 1048576: true; the input reads as it did. -/
def topoTurnsUptoRow : OpenClaim := { program := "ytmcidodpnhkdfaa", sum := "ec7088f075d283384e4e9cb6e7a00b2edb0fb6057353387ad69fdc1ffcfe91e2", func := "vivarium/vivariumlaw04.TopoTurns", spec := "topoTurns", apart := false, narrowed := true }
def TopoTurnsUptoSaid : Prop := topoTurnsUptoRow.holds Try.pinned (OpenSpec.upto topoTurnsSpec)

/-- 'vivariumlaw04.TopoParses', WHERE WHAT IT READS IS OF BULK AT MOST 1048576: true; the input reads as it did. -/
def topoParsesUptoRow : OpenClaim := { program := "ytmcidodpnhkdfaa", sum := "ec7088f075d283384e4e9cb6e7a00b2edb0fb6057353387ad69fdc1ffcfe91e2", func := "vivarium/vivariumlaw04.TopoParses", spec := "topoParses", inPlace := ["internal/bytealg.IndexByteString"], apart := false, narrowed := true }
def TopoParsesUptoSaid : Prop := topoParsesUptoRow.holds Try.pinned (OpenSpec.upto topoParsesSpec)

end Rows
end Go.Proofs.Ytmcidodpnhkdfaa
