/-
  No cell of these rows narrows 'for every input' (looked for: loops, veiled, ifaces, maps, wideKeys, modest, calm, conditions, laid).
  DERIVED. THE GIVEN ROWS OF THIS SEAT. 10 by the template 'for every input the law returns true; each argument reads behind the call as it read before'; 0 by the template 'total and deterministic' (their statements: YtlghmadoogblcaaTotals.lean).
  GIVEN WITH THE SEED: the statements are not yours to turn. If you find one false, say at which input.
  Laid BY PROGRAM, IN A SANDBOX (cutbox-rows.mjs): the forced cells as the released guide's own fill.sh prints them over the translation f1dceda4edd8e9eb… (all of the seat's roots in one cut). By AI agents, Wed Nov 11 2026. No macro, syntax, notation, axiom, sorry.
-/
import Derived.Test.YtlghmadoogblcaaChecked
import GoSem.Claim
import GoSem.ClaimJoined
import GoSem.ClaimMapViews
import Derived.JoinedTies
import Derived.KernelRfl
namespace Go.Proofs.Ytlghmadoogblcaa
/- THE CELL 'sum', in the pinned program and in every row, IS THE sha256 OF THE DUMP (.gsa) THAT YtlghmadoogblcaaProg.lean LOADS. Nothing in Lean hashes anything: it is a label: what it is worth is what the hold of that sum in a sandbox is worth. -/
noncomputable def Try.pinned : Pinned := { name := "ytlghmadoogblcaa", sum := "f1dceda4edd8e9ebcd155de8d5b382903d3dbf6bf2643302bbce84f612d904bd", checked := Try.checked }
namespace Rows
def none {H : Type} : Left H := { results := [], args := [] }

/-- 'vivariumlaw02.WordsSums': WHATEVER THE INPUT: true; the input reads as it did. -/
def wordsSumsSpec : ChangeSpec := { name := "wordsSums", fn := fun _ => fun
  | [d1, d2, d3] => { results := [.lit (.bool true)], args := [d1, d2, d3] }
  | _ => none }
def wordsSumsRow : OpenClaim := { program := "ytlghmadoogblcaa", sum := "f1dceda4edd8e9ebcd155de8d5b382903d3dbf6bf2643302bbce84f612d904bd", func := "vivarium/vivariumlaw02.WordsSums", spec := "wordsSums", apart := false }
def WordsSumsSaid : Prop := wordsSumsRow.holds Try.pinned (OpenSpec.ofChange wordsSumsSpec)

/-- ITS FALSE NEIGHBOUR: 'it returns false'. Refute it at one input. -/
def wordsSumsWrong : ChangeSpec := { name := "wordsSums", fn := fun _ => fun
  | [d1, d2, d3] => { results := [.lit (.bool false)], args := [d1, d2, d3] }
  | _ => none }
def WordsSumsWrongFalsely : Prop := wordsSumsRow.holds Try.pinned (OpenSpec.ofChange wordsSumsWrong)

/-- 'vivariumlaw02.WordsPlaces': WHATEVER THE INPUT: true; the input reads as it did. -/
def wordsPlacesSpec : ChangeSpec := { name := "wordsPlaces", fn := fun _ => fun
  | [d1, d2, d3] => { results := [.lit (.bool true)], args := [d1, d2, d3] }
  | _ => none }
def wordsPlacesRow : OpenClaim := { program := "ytlghmadoogblcaa", sum := "f1dceda4edd8e9ebcd155de8d5b382903d3dbf6bf2643302bbce84f612d904bd", func := "vivarium/vivariumlaw02.WordsPlaces", spec := "wordsPlaces", apart := false }
def WordsPlacesSaid : Prop := wordsPlacesRow.holds Try.pinned (OpenSpec.ofChange wordsPlacesSpec)

/-- ITS FALSE NEIGHBOUR: 'it returns false'. Refute it at one input. -/
def wordsPlacesWrong : ChangeSpec := { name := "wordsPlaces", fn := fun _ => fun
  | [d1, d2, d3] => { results := [.lit (.bool false)], args := [d1, d2, d3] }
  | _ => none }
def WordsPlacesWrongFalsely : Prop := wordsPlacesRow.holds Try.pinned (OpenSpec.ofChange wordsPlacesWrong)

/-- 'vivariumlaw02.WordsNames': WHATEVER THE INPUT: true; the input reads as it did. -/
def wordsNamesSpec : ChangeSpec := { name := "wordsNames", fn := fun _ => fun
  | [] => { results := [.lit (.bool true)], args := [] }
  | _ => none }
def wordsNamesRow : OpenClaim := { program := "ytlghmadoogblcaa", sum := "f1dceda4edd8e9ebcd155de8d5b382903d3dbf6bf2643302bbce84f612d904bd", func := "vivarium/vivariumlaw02.WordsNames", spec := "wordsNames", apart := false }
def WordsNamesSaid : Prop := wordsNamesRow.holds Try.pinned (OpenSpec.ofChange wordsNamesSpec)

/-- ITS FALSE NEIGHBOUR: 'it returns false'. Refute it at one input. -/
def wordsNamesWrong : ChangeSpec := { name := "wordsNames", fn := fun _ => fun
  | [] => { results := [.lit (.bool false)], args := [] }
  | _ => none }
def WordsNamesWrongFalsely : Prop := wordsNamesRow.holds Try.pinned (OpenSpec.ofChange wordsNamesWrong)

/-- 'vivariumlaw02.WordsMakes': WHATEVER THE INPUT: true; the input reads as it did. -/
def wordsMakesSpec : ChangeSpec := { name := "wordsMakes", fn := fun _ => fun
  | [d1, d2] => { results := [.lit (.bool true)], args := [d1, d2] }
  | _ => none }
def wordsMakesRow : OpenClaim := { program := "ytlghmadoogblcaa", sum := "f1dceda4edd8e9ebcd155de8d5b382903d3dbf6bf2643302bbce84f612d904bd", func := "vivarium/vivariumlaw02.WordsMakes", spec := "wordsMakes", apart := false }
def WordsMakesSaid : Prop := wordsMakesRow.holds Try.pinned (OpenSpec.ofChange wordsMakesSpec)

/-- ITS FALSE NEIGHBOUR: 'it returns false'. Refute it at one input. -/
def wordsMakesWrong : ChangeSpec := { name := "wordsMakes", fn := fun _ => fun
  | [d1, d2] => { results := [.lit (.bool false)], args := [d1, d2] }
  | _ => none }
def WordsMakesWrongFalsely : Prop := wordsMakesRow.holds Try.pinned (OpenSpec.ofChange wordsMakesWrong)

/-- 'vivariumlaw02.WordsGets': WHATEVER THE INPUT: true; the input reads as it did. -/
def wordsGetsSpec : ChangeSpec := { name := "wordsGets", fn := fun _ => fun
  | [d1, d2, d3] => { results := [.lit (.bool true)], args := [d1, d2, d3] }
  | _ => none }
def wordsGetsRow : OpenClaim := { program := "ytlghmadoogblcaa", sum := "f1dceda4edd8e9ebcd155de8d5b382903d3dbf6bf2643302bbce84f612d904bd", func := "vivarium/vivariumlaw02.WordsGets", spec := "wordsGets", apart := false }
def WordsGetsSaid : Prop := wordsGetsRow.holds Try.pinned (OpenSpec.ofChange wordsGetsSpec)

/-- ITS FALSE NEIGHBOUR: 'it returns false'. Refute it at one input. -/
def wordsGetsWrong : ChangeSpec := { name := "wordsGets", fn := fun _ => fun
  | [d1, d2, d3] => { results := [.lit (.bool false)], args := [d1, d2, d3] }
  | _ => none }
def WordsGetsWrongFalsely : Prop := wordsGetsRow.holds Try.pinned (OpenSpec.ofChange wordsGetsWrong)

/-- 'vivariumlaw02.WordsCounts': WHATEVER THE INPUT: true; the input reads as it did. -/
def wordsCountsSpec : ChangeSpec := { name := "wordsCounts", fn := fun _ => fun
  | [d] => { results := [.lit (.bool true)], args := [d] }
  | _ => none }
def wordsCountsRow : OpenClaim := { program := "ytlghmadoogblcaa", sum := "f1dceda4edd8e9ebcd155de8d5b382903d3dbf6bf2643302bbce84f612d904bd", func := "vivarium/vivariumlaw02.WordsCounts", spec := "wordsCounts", apart := false }
def WordsCountsSaid : Prop := wordsCountsRow.holds Try.pinned (OpenSpec.ofChange wordsCountsSpec)

/-- ITS FALSE NEIGHBOUR: 'it returns false'. Refute it at one input. -/
def wordsCountsWrong : ChangeSpec := { name := "wordsCounts", fn := fun _ => fun
  | [d] => { results := [.lit (.bool false)], args := [d] }
  | _ => none }
def WordsCountsWrongFalsely : Prop := wordsCountsRow.holds Try.pinned (OpenSpec.ofChange wordsCountsWrong)

/-- 'vivariumlaw02.WordsIs': WHATEVER THE INPUT: true; the input reads as it did. -/
def wordsIsSpec : ChangeSpec := { name := "wordsIs", fn := fun _ => fun
  | [d] => { results := [.lit (.bool true)], args := [d] }
  | _ => none }
def wordsIsRow : OpenClaim := { program := "ytlghmadoogblcaa", sum := "f1dceda4edd8e9ebcd155de8d5b382903d3dbf6bf2643302bbce84f612d904bd", func := "vivarium/vivariumlaw02.WordsIs", spec := "wordsIs", apart := false }
def WordsIsSaid : Prop := wordsIsRow.holds Try.pinned (OpenSpec.ofChange wordsIsSpec)

/-- ITS FALSE NEIGHBOUR: 'it returns false'. Refute it at one input. -/
def wordsIsWrong : ChangeSpec := { name := "wordsIs", fn := fun _ => fun
  | [d] => { results := [.lit (.bool false)], args := [d] }
  | _ => none }
def WordsIsWrongFalsely : Prop := wordsIsRow.holds Try.pinned (OpenSpec.ofChange wordsIsWrong)

/-- 'vivariumlaw02.WordsJoins': WHATEVER THE INPUT: true; the input reads as it did. -/
def wordsJoinsSpec : ChangeSpec := { name := "wordsJoins", fn := fun _ => fun
  | [d1, d2] => { results := [.lit (.bool true)], args := [d1, d2] }
  | _ => none }
def wordsJoinsRow : OpenClaim := { program := "ytlghmadoogblcaa", sum := "f1dceda4edd8e9ebcd155de8d5b382903d3dbf6bf2643302bbce84f612d904bd", func := "vivarium/vivariumlaw02.WordsJoins", spec := "wordsJoins", apart := false }
def WordsJoinsSaid : Prop := wordsJoinsRow.holds Try.pinned (OpenSpec.ofChange wordsJoinsSpec)

/-- ITS FALSE NEIGHBOUR: 'it returns false'. Refute it at one input. -/
def wordsJoinsWrong : ChangeSpec := { name := "wordsJoins", fn := fun _ => fun
  | [d1, d2] => { results := [.lit (.bool false)], args := [d1, d2] }
  | _ => none }
def WordsJoinsWrongFalsely : Prop := wordsJoinsRow.holds Try.pinned (OpenSpec.ofChange wordsJoinsWrong)

/-- 'vivariumlaw02.WordsAlgebra': WHATEVER THE INPUT: true; the input reads as it did. -/
def wordsAlgebraSpec : ChangeSpec := { name := "wordsAlgebra", fn := fun _ => fun
  | [d1, d2] => { results := [.lit (.bool true)], args := [d1, d2] }
  | _ => none }
def wordsAlgebraRow : OpenClaim := { program := "ytlghmadoogblcaa", sum := "f1dceda4edd8e9ebcd155de8d5b382903d3dbf6bf2643302bbce84f612d904bd", func := "vivarium/vivariumlaw02.WordsAlgebra", spec := "wordsAlgebra", apart := false }
def WordsAlgebraSaid : Prop := wordsAlgebraRow.holds Try.pinned (OpenSpec.ofChange wordsAlgebraSpec)

/-- ITS FALSE NEIGHBOUR: 'it returns false'. Refute it at one input. -/
def wordsAlgebraWrong : ChangeSpec := { name := "wordsAlgebra", fn := fun _ => fun
  | [d1, d2] => { results := [.lit (.bool false)], args := [d1, d2] }
  | _ => none }
def WordsAlgebraWrongFalsely : Prop := wordsAlgebraRow.holds Try.pinned (OpenSpec.ofChange wordsAlgebraWrong)

/-- 'vivariumlaw02.WordsEach': WHATEVER THE INPUT: true; the input reads as it did. -/
def wordsEachSpec : ChangeSpec := { name := "wordsEach", fn := fun _ => fun
  | [d] => { results := [.lit (.bool true)], args := [d] }
  | _ => none }
def wordsEachRow : OpenClaim := { program := "ytlghmadoogblcaa", sum := "f1dceda4edd8e9ebcd155de8d5b382903d3dbf6bf2643302bbce84f612d904bd", func := "vivarium/vivariumlaw02.WordsEach", spec := "wordsEach", apart := false }
def WordsEachSaid : Prop := wordsEachRow.holds Try.pinned (OpenSpec.ofChange wordsEachSpec)

/-- ITS FALSE NEIGHBOUR: 'it returns false'. Refute it at one input. -/
def wordsEachWrong : ChangeSpec := { name := "wordsEach", fn := fun _ => fun
  | [d] => { results := [.lit (.bool false)], args := [d] }
  | _ => none }
def WordsEachWrongFalsely : Prop := wordsEachRow.holds Try.pinned (OpenSpec.ofChange wordsEachWrong)

/- THE SECOND FORM. 'bulk': how many values and letters a reading holds, each counted each time it is reached (what is shared counts as often as it is met; a slice's spare places count too). A statement '..UptoSaid' is the law's where the arguments, and the package variables that the reading takes, are together of bulk at most 1048576: NARROWER than '..Said'. Prove '..Said' where nothing that the law and all that it calls make is longer than what came in: it says more and counts as full. Else prove '..UptoSaid'. A law counts once. -/
mutual
def uptoBulk {H : Type} : DataW H → Nat
  | .lit (.string bytes) => bytes.length + 1
  | .lit _ => 1
  | .nil => 1
  | .ptr d => uptoBulk d + 1
  | .slice elems spare => uptoBulkAll elems + uptoBulkAll spare + 1
  | .agg parts => uptoBulkAll parts + 1
  | .iface _ d => uptoBulk d + 1
  | .map entries => uptoBulkEntries entries + 1
  | .held _ => 1
def uptoBulkAll {H : Type} : List (DataW H) → Nat
  | [] => 0
  | d :: r => uptoBulk d + uptoBulkAll r
def uptoBulkEntries {H : Type} : List (Lit × DataW H) → Nat
  | [] => 0
  | x :: r => uptoBulkEntry x + uptoBulkEntries r
def uptoBulkEntry {H : Type} : Lit × DataW H → Nat
  | (.string bytes, d) => bytes.length + uptoBulk d + 1
  | (_, d) => uptoBulk d + 1
 end
def uptoSmall : (H : Type) → List (DataW H) → Bool := fun _ ds => decide (uptoBulkAll ds ≤ 1048576)
def OpenSpec.upto (s : _root_.Go.ChangeSpec) : _root_.Go.OpenSpec := { _root_.Go.OpenSpec.ofChange s with cond := some uptoSmall }

/-- 'vivariumlaw02.WordsSums', WHERE WHAT IT READS IS OF BULK AT MOST 1048576: true; the input reads as it did. -/
def wordsSumsUptoRow : OpenClaim := { program := "ytlghmadoogblcaa", sum := "f1dceda4edd8e9ebcd155de8d5b382903d3dbf6bf2643302bbce84f612d904bd", func := "vivarium/vivariumlaw02.WordsSums", spec := "wordsSums", apart := false, narrowed := true }
def WordsSumsUptoSaid : Prop := wordsSumsUptoRow.holds Try.pinned (OpenSpec.upto wordsSumsSpec)

/-- 'vivariumlaw02.WordsPlaces', WHERE WHAT IT READS IS OF BULK AT MOST 1048576: true; the input reads as it did. -/
def wordsPlacesUptoRow : OpenClaim := { program := "ytlghmadoogblcaa", sum := "f1dceda4edd8e9ebcd155de8d5b382903d3dbf6bf2643302bbce84f612d904bd", func := "vivarium/vivariumlaw02.WordsPlaces", spec := "wordsPlaces", apart := false, narrowed := true }
def WordsPlacesUptoSaid : Prop := wordsPlacesUptoRow.holds Try.pinned (OpenSpec.upto wordsPlacesSpec)

/-- 'vivariumlaw02.WordsNames', WHERE WHAT IT READS IS OF BULK AT MOST 1048576: true; the input reads as it did. -/
def wordsNamesUptoRow : OpenClaim := { program := "ytlghmadoogblcaa", sum := "f1dceda4edd8e9ebcd155de8d5b382903d3dbf6bf2643302bbce84f612d904bd", func := "vivarium/vivariumlaw02.WordsNames", spec := "wordsNames", apart := false, narrowed := true }
def WordsNamesUptoSaid : Prop := wordsNamesUptoRow.holds Try.pinned (OpenSpec.upto wordsNamesSpec)

/-- 'vivariumlaw02.WordsMakes', WHERE WHAT IT READS IS OF BULK AT MOST 1048576: true; the input reads as it did. -/
def wordsMakesUptoRow : OpenClaim := { program := "ytlghmadoogblcaa", sum := "f1dceda4edd8e9ebcd155de8d5b382903d3dbf6bf2643302bbce84f612d904bd", func := "vivarium/vivariumlaw02.WordsMakes", spec := "wordsMakes", apart := false, narrowed := true }
def WordsMakesUptoSaid : Prop := wordsMakesUptoRow.holds Try.pinned (OpenSpec.upto wordsMakesSpec)

/-- 'vivariumlaw02.WordsGets', WHERE WHAT IT READS IS OF BULK AT MOST 1048576: true; the input reads as it did. -/
def wordsGetsUptoRow : OpenClaim := { program := "ytlghmadoogblcaa", sum := "f1dceda4edd8e9ebcd155de8d5b382903d3dbf6bf2643302bbce84f612d904bd", func := "vivarium/vivariumlaw02.WordsGets", spec := "wordsGets", apart := false, narrowed := true }
def WordsGetsUptoSaid : Prop := wordsGetsUptoRow.holds Try.pinned (OpenSpec.upto wordsGetsSpec)

/-- 'vivariumlaw02.WordsCounts', WHERE WHAT IT READS IS OF BULK AT MOST 1048576: true; the input reads as it did. -/
def wordsCountsUptoRow : OpenClaim := { program := "ytlghmadoogblcaa", sum := "f1dceda4edd8e9ebcd155de8d5b382903d3dbf6bf2643302bbce84f612d904bd", func := "vivarium/vivariumlaw02.WordsCounts", spec := "wordsCounts", apart := false, narrowed := true }
def WordsCountsUptoSaid : Prop := wordsCountsUptoRow.holds Try.pinned (OpenSpec.upto wordsCountsSpec)

/-- 'vivariumlaw02.WordsIs', WHERE WHAT IT READS IS OF BULK AT MOST 1048576: true; the input reads as it did. -/
def wordsIsUptoRow : OpenClaim := { program := "ytlghmadoogblcaa", sum := "f1dceda4edd8e9ebcd155de8d5b382903d3dbf6bf2643302bbce84f612d904bd", func := "vivarium/vivariumlaw02.WordsIs", spec := "wordsIs", apart := false, narrowed := true }
def WordsIsUptoSaid : Prop := wordsIsUptoRow.holds Try.pinned (OpenSpec.upto wordsIsSpec)

/-- 'vivariumlaw02.WordsJoins', WHERE WHAT IT READS IS OF BULK AT MOST 1048576: true; the input reads as it did. -/
def wordsJoinsUptoRow : OpenClaim := { program := "ytlghmadoogblcaa", sum := "f1dceda4edd8e9ebcd155de8d5b382903d3dbf6bf2643302bbce84f612d904bd", func := "vivarium/vivariumlaw02.WordsJoins", spec := "wordsJoins", apart := false, narrowed := true }
def WordsJoinsUptoSaid : Prop := wordsJoinsUptoRow.holds Try.pinned (OpenSpec.upto wordsJoinsSpec)

/-- 'vivariumlaw02.WordsAlgebra', WHERE WHAT IT READS IS OF BULK AT MOST 1048576: true; the input reads as it did. -/
def wordsAlgebraUptoRow : OpenClaim := { program := "ytlghmadoogblcaa", sum := "f1dceda4edd8e9ebcd155de8d5b382903d3dbf6bf2643302bbce84f612d904bd", func := "vivarium/vivariumlaw02.WordsAlgebra", spec := "wordsAlgebra", apart := false, narrowed := true }
def WordsAlgebraUptoSaid : Prop := wordsAlgebraUptoRow.holds Try.pinned (OpenSpec.upto wordsAlgebraSpec)

/-- 'vivariumlaw02.WordsEach', WHERE WHAT IT READS IS OF BULK AT MOST 1048576: true; the input reads as it did. -/
def wordsEachUptoRow : OpenClaim := { program := "ytlghmadoogblcaa", sum := "f1dceda4edd8e9ebcd155de8d5b382903d3dbf6bf2643302bbce84f612d904bd", func := "vivarium/vivariumlaw02.WordsEach", spec := "wordsEach", apart := false, narrowed := true }
def WordsEachUptoSaid : Prop := wordsEachUptoRow.holds Try.pinned (OpenSpec.upto wordsEachSpec)

end Rows
end Go.Proofs.Ytlghmadoogblcaa
