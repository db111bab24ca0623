-- Printed out of the translation by the kit print (pr.sh). Not trusted: checked by Lean.
import Derived.Test.YtmcidodpnhkdfaaPTx0
import Derived.Test.YtmcidodpnhkdfaaPTx1
import Derived.Test.YtmcidodpnhkdfaaPTx2
import Derived.Test.YtmcidodpnhkdfaaPTx3
import Derived.Test.YtmcidodpnhkdfaaPTx4
import Derived.Test.YtmcidodpnhkdfaaPTx5
import Derived.Test.YtmcidodpnhkdfaaPTx6
namespace Go.Proofs.Ytmcidodpnhkdfaa.PT
open Go.RowKit Go.Proofs.YtmcidodpnhkdfaaW.PrintWords Go.Proofs.YtmcidodpnhkdfaaW.PrintLast Go.Proofs.YtmcidodpnhkdfaaW.PrintMore
attribute [local go_sem] max2_int min2_int max_two min_two max_three min_three max_four min_four   -- for this text's walks alone
set_option linter.unusedVariables false
set_option linter.unusedSimpArgs false

end Go.Proofs.Ytmcidodpnhkdfaa.PT
