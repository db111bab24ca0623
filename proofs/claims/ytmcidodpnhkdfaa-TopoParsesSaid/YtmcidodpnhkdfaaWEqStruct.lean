-- The kit print's words, as its tool laid them for this seat, without the theorems that nothing here names (prune.py). Checked by Lean.
import Derived.Test.YtmcidodpnhkdfaaWWords
import Derived.Laws.StructEq
/-! ### 53. '==' of structs as_ one Bool -/
namespace Go.Proofs.YtmcidodpnhkdfaaW.PrintWords
open Go.RowKit
section
variable {P : Program} {d : Nat} {xs ys : Array Value} {f : Field} {fs : List Field} {a b : Value} {r s : Bool} {w : World}
end
end Go.Proofs.YtmcidodpnhkdfaaW.PrintWords
