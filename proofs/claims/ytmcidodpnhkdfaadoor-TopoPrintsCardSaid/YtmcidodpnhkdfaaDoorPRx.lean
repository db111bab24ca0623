-- Printed out of the translation by the kit print (pr.sh). Not trusted: checked by Lean.
import Derived.Test.YtmcidodpnhkdfaaDoorPRx0
import Derived.Test.YtmcidodpnhkdfaaDoorPRx1
import Derived.Test.YtmcidodpnhkdfaaDoorPRx2
import Derived.Test.YtmcidodpnhkdfaaDoorPRx3
import Derived.Test.YtmcidodpnhkdfaaDoorPRx4
namespace Go.Proofs.YtmcidodpnhkdfaaDoor.PR
open Go.RowKit Go.Proofs.YtmcidodpnhkdfaaDoorW.PrintWords Go.Proofs.YtmcidodpnhkdfaaDoorW.PrintLast Go.Proofs.YtmcidodpnhkdfaaDoorW.PrintMore
attribute [local go_sem] max2_int min2_int max_two min_two max_three min_three max_four min_four   -- for this text's walks alone
set_option linter.unusedVariables false
set_option linter.unusedSimpArgs false

end Go.Proofs.YtmcidodpnhkdfaaDoor.PR
