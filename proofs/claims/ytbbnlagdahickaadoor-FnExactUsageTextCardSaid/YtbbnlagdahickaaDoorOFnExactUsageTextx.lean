/- The parts of the proof of what the functions of this law compute, joined. Conditions: none. -/
import Derived.Test.YtbbnlagdahickaaDoorOFnExactUsageTextx0
import Derived.Test.YtbbnlagdahickaaDoorOFnExactUsageTextx1
import Derived.Test.YtbbnlagdahickaaDoorOFnExactUsageTextx2
import Derived.Test.YtbbnlagdahickaaDoorOFnExactUsageTextx3
import Derived.Test.YtbbnlagdahickaaDoorOFnExactUsageTextx4
namespace Go.Proofs.YtbbnlagdahickaaDoor.PFnExactUsageText
open Go.RowKit Go.Proofs.YtbbnlagdahickaaDoorW.PrintWords Go.Proofs.YtbbnlagdahickaaDoorW.PrintLast Go.Proofs.YtbbnlagdahickaaDoorW.PrintMore
attribute [local go_sem] max2_int min2_int max_two min_two max_three min_three max_four min_four   -- for this text's walks alone
set_option linter.unusedVariables false
set_option linter.unusedSimpArgs false

end Go.Proofs.YtbbnlagdahickaaDoor.PFnExactUsageText
