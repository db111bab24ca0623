-- Printed out of the translation by the kit print (pr.sh). Not trusted: checked by Lean.
import Derived.Test.YtlghmadoogblcaaProg
import Derived.Below
import Derived.Deep.Draws
import Derived.Deep.AppendLies
import Derived.Maps.AppendAt
import Derived.OwnWalk
import Derived.Laws.BytesArg
import Derived.Laws.MakeOwn
import Derived.Laws.OwnMore
import Derived.Deep.OwnRows
import Derived.Tactics
import Derived.Lib.ConvBytes
import Derived.Laws.Slices
import Derived.WalkKit
import Derived.KernelRfl
import Derived.RowKit3
import Derived.Deep.LoopGhost
import Derived.Deep.QuietTactic
import Derived.BigQuiet
import Derived.WideLaws
import Derived.Deep.DeepCutAuto
import Derived.Deep.CutBlock
import Derived.Deep.RegionHeld3
import Derived.Laws.Rows
import Derived.Lib.AppendStr
import Derived.ArgAppend
import Derived.Laws.IdiomCopy
import Derived.OrdersHeld
import Derived.Laws.BitsLemmas
import Derived.RowKit
import Derived.Test.YtlghmadoogblcaaWWords
import Derived.Test.YtlghmadoogblcaaWLast
import Derived.Test.YtlghmadoogblcaaWTab
import Derived.Test.YtlghmadoogblcaaWFour
import Derived.Test.YtlghmadoogblcaaWQPut
import Derived.Test.YtlghmadoogblcaaWApart
import Derived.Test.YtlghmadoogblcaaWArr
import Derived.Test.YtlghmadoogblcaaWZeros
import Derived.Test.YtlghmadoogblcaaWFoot
import Derived.Test.YtlghmadoogblcaaWKept
import Derived.Test.YtlghmadoogblcaaWShare
import Derived.Test.YtlghmadoogblcaaWN
import Derived.Test.YtlghmadoogblcaaWFootNe
import Derived.Test.YtlghmadoogblcaaWAt
import Derived.Test.YtlghmadoogblcaaWEqStruct
import Derived.Test.YtlghmadoogblcaaWRepsOne
import Derived.Test.YtlghmadoogblcaaWInv
import Derived.Test.YtlghmadoogblcaaWInvWords
import Derived.Test.YtlghmadoogblcaaWGuard
import Derived.Test.YtlghmadoogblcaaWNEv
import Derived.Test.YtlghmadoogblcaaWMore
namespace Go.Proofs.Ytlghmadoogblcaa.PS
open Go.RowKit Go.Proofs.YtlghmadoogblcaaW.PrintWords Go.Proofs.YtlghmadoogblcaaW.PrintLast Go.Proofs.YtlghmadoogblcaaW.PrintMore
attribute [local go_sem] max2_int min2_int max_two min_two max_three min_three max_four min_four   -- for this text's walks alone
set_option linter.unusedVariables false
set_option linter.unusedSimpArgs false



def errW : Option Int → Value
  | none => .nilIface
  | some c => .iface 0 (.int .i64 c)
theorem errW_none : errW none = .nilIface := rfl
theorem errW_some (c : Int) : errW (some c) = .iface 0 (.int .i64 c) := rfl

-- the values' own types

end Go.Proofs.Ytlghmadoogblcaa.PS
