/- What the Go functions all parts compute, as Lean functions, and the proof that each call comes to just that. Conditions: those at each theorem. -/
import Derived.Test.YtpoabjpglfbolaaPFnExactAliveOfx0
import Derived.Test.YtpoabjpglfbolaaPFnExactAliveOfx1
import Derived.Test.YtpoabjpglfbolaaPFnExactAliveOfx2
import Derived.Test.YtpoabjpglfbolaaPFnExactAliveOfx3
import Derived.Test.YtpoabjpglfbolaaPFnExactAliveOfx4
import Derived.Test.YtpoabjpglfbolaaOFnExactAliveOfx5
import Derived.Test.YtpoabjpglfbolaaOFnExactAliveOfx6
namespace Go.Proofs.Ytpoabjpglfbolaa.PFnExactAliveOf
open Go.RowKit Go.Proofs.YtpoabjpglfbolaaW.PrintWords Go.Proofs.YtpoabjpglfbolaaW.PrintLast Go.Proofs.YtpoabjpglfbolaaW.PrintMore
attribute [local go_sem] max2_int min2_int max_two min_two max_three min_three max_four min_four   -- for this text's walks alone
set_option linter.unusedVariables false
set_option linter.unusedSimpArgs false

end Go.Proofs.Ytpoabjpglfbolaa.PFnExactAliveOf
