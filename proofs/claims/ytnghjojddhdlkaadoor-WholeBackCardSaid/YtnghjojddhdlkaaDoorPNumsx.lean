-- Printed out of the translation by the kit print (pr.sh). Not trusted: checked by Lean.
import Derived.Test.YtnghjojddhdlkaaDoorPNumsx0
import Derived.Test.YtnghjojddhdlkaaDoorPNumsx1
import Derived.Test.YtnghjojddhdlkaaDoorPNumsx2
namespace Go.Proofs.YtnghjojddhdlkaaDoor.PNums
open Go.RowKit Go.Proofs.YtnghjojddhdlkaaDoorW.PrintWords Go.Proofs.YtnghjojddhdlkaaDoorW.PrintLast Go.Proofs.YtnghjojddhdlkaaDoorW.PrintMore
attribute [local go_sem] max2_int min2_int max_two min_two max_three min_three max_four min_four   -- for this text's walks alone
set_option linter.unusedVariables false
set_option linter.unusedSimpArgs false

end Go.Proofs.YtnghjojddhdlkaaDoor.PNums
