-- The kit print's words, as its tool laid them for this seat, without the theorems that nothing here names (prune.py). Checked by Lean.
import Derived.Test.YtmcidodpnhkdfaaWInv
import Derived.Test.YtmcidodpnhkdfaaWFootNe
namespace Go.Proofs.YtmcidodpnhkdfaaW.PrintWords
open Go.RowKit
end Go.Proofs.YtmcidodpnhkdfaaW.PrintWords
namespace Go.Proofs.YtmcidodpnhkdfaaW.PrintLast
section
variable {ops : Array Oper} {a : Act} {o og : Oper} {g : Nat} {t : Tmp} {u : Bool}
end
end Go.Proofs.YtmcidodpnhkdfaaW.PrintLast
