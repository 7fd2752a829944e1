/- The parts of the proof of what the functions of this law compute, joined. Conditions: none. -/
import Derived.Test.YtbbnlagdahickaaDoorOFnExactParseGoalx0
import Derived.Test.YtbbnlagdahickaaDoorOFnExactParseGoalx1
import Derived.Test.YtbbnlagdahickaaDoorOFnExactParseGoalx2
import Derived.Test.YtbbnlagdahickaaDoorOFnExactParseGoalx3
import Derived.Test.YtbbnlagdahickaaDoorOFnExactParseGoalx4
import Derived.Test.YtbbnlagdahickaaDoorOFnExactParseGoalx5
import Derived.Test.YtbbnlagdahickaaDoorOFnExactParseGoalx6
import Derived.Test.YtbbnlagdahickaaDoorOFnExactParseGoalx7
namespace Go.Proofs.YtbbnlagdahickaaDoor.PFnExactParseGoal
open Go.RowKit Go.Proofs.YtbbnlagdahickaaDoorW.PrintWords Go.Proofs.YtbbnlagdahickaaDoorW.PrintLast Go.Proofs.YtbbnlagdahickaaDoorW.PrintMore
attribute [local go_sem] max2_int min2_int max_two min_two max_three min_three max_four min_four   -- for this text's walks alone
set_option linter.unusedVariables false
set_option linter.unusedSimpArgs false

end Go.Proofs.YtbbnlagdahickaaDoor.PFnExactParseGoal
