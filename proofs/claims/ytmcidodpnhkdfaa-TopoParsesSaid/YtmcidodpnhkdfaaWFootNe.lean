-- The kit print's words, as its tool laid them for this seat, without the theorems that nothing here names (prune.py). Checked by Lean.
import Derived.Test.YtmcidodpnhkdfaaWN
/-! ### 52. A row that stays read whatever happens to a block (a set of blocks) doesn't lie there -/
namespace Go.Proofs.YtmcidodpnhkdfaaW.PrintWords
open Go.RowKit
namespace Kd
section
variable {α : Type} {d : Kd α} {W : World} {g n : Nat} {S ok : Nat → Prop} {A : Option Addr} {ad : Addr} {xs : List α}
end
end Kd
end Go.Proofs.YtmcidodpnhkdfaaW.PrintWords
