/- What the Go functions all parts compute, as Lean functions, and the proof that each call comes to just that. Conditions: those at each theorem. -/
import Derived.Test.YtpoabjpglfbolaaPFnExactPodsOkx0
import Derived.Test.YtpoabjpglfbolaaPFnExactPodsOkx1
import Derived.Test.YtpoabjpglfbolaaPFnExactPodsOkx2
import Derived.Test.YtpoabjpglfbolaaPFnExactPodsOkx3
import Derived.Test.YtpoabjpglfbolaaOFnExactPodsOkx4
import Derived.Test.YtpoabjpglfbolaaOFnExactPodsOkx5
namespace Go.Proofs.Ytpoabjpglfbolaa.PFnExactPodsOk
open Go.RowKit Go.Proofs.YtpoabjpglfbolaaW.PrintWords Go.Proofs.YtpoabjpglfbolaaW.PrintLast Go.Proofs.YtpoabjpglfbolaaW.PrintMore
attribute [local go_sem] max2_int min2_int max_two min_two max_three min_three max_four min_four   -- for this text's walks alone
set_option linter.unusedVariables false
set_option linter.unusedSimpArgs false

end Go.Proofs.Ytpoabjpglfbolaa.PFnExactPodsOk
