/- The parts of the proof of what the functions of this law compute, joined. Conditions: none. -/
import Derived.Test.YtbbnlagdahickaaDoorOFnExactParsePodx0
import Derived.Test.YtbbnlagdahickaaDoorOFnExactParsePodx1
import Derived.Test.YtbbnlagdahickaaDoorOFnExactParsePodx2
import Derived.Test.YtbbnlagdahickaaDoorOFnExactParsePodx3
import Derived.Test.YtbbnlagdahickaaDoorOFnExactParsePodx4
import Derived.Test.YtbbnlagdahickaaDoorOFnExactParsePodx5
import Derived.Test.YtbbnlagdahickaaDoorOFnExactParsePodx6
import Derived.Test.YtbbnlagdahickaaDoorOFnExactParsePodx7
namespace Go.Proofs.YtbbnlagdahickaaDoor.PFnExactParsePod
open Go.RowKit Go.Proofs.YtbbnlagdahickaaDoorW.PrintWords Go.Proofs.YtbbnlagdahickaaDoorW.PrintLast Go.Proofs.YtbbnlagdahickaaDoorW.PrintMore
attribute [local go_sem] max2_int min2_int max_two min_two max_three min_three max_four min_four   -- for this text's walks alone
set_option linter.unusedVariables false
set_option linter.unusedSimpArgs false

end Go.Proofs.YtbbnlagdahickaaDoor.PFnExactParsePod
