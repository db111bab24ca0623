-- The kit print's words, as its tool laid them for this seat, without the theorems that nothing here names (prune.py). Checked by Lean.
import Derived.Test.YtmcidodpnhkdfaaWTab
/-! ### 56. Four, five, six operations that may come up next, in any order -/
namespace Go.Proofs.YtmcidodpnhkdfaaW.PrintLast
section
variable {P : Program} {ops : Array Oper} {Q : Exit → Act → World → Prop} {md : Region.Mode} {S : World → Prop} {ds : List Nat} {T : Bool × List (List Nat × List Nat)}
end
end Go.Proofs.YtmcidodpnhkdfaaW.PrintLast
