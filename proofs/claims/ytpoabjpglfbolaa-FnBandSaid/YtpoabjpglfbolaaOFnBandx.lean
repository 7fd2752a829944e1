/- What the Go functions all parts compute, as Lean functions, and the proof that each call comes to just that. Conditions: those at each theorem. -/
import Derived.Test.YtpoabjpglfbolaaOFnBandx0
import Derived.Test.YtpoabjpglfbolaaOFnBandx1
import Derived.Test.YtpoabjpglfbolaaOFnBandx2
import Derived.Test.YtpoabjpglfbolaaOFnBandx3
import Derived.Test.YtpoabjpglfbolaaOFnBandx4
import Derived.Test.YtpoabjpglfbolaaOFnBandx5
import Derived.Test.YtpoabjpglfbolaaOFnBandx6
import Derived.Test.YtpoabjpglfbolaaOFnBandx7
import Derived.Test.YtpoabjpglfbolaaOFnBandx8
namespace Go.Proofs.Ytpoabjpglfbolaa.PFnBand
open Go.RowKit Go.Proofs.YtpoabjpglfbolaaW.PrintWords Go.Proofs.YtpoabjpglfbolaaW.PrintLast Go.Proofs.YtpoabjpglfbolaaW.PrintMore
attribute [local go_sem] max2_int min2_int max_two min_two max_three min_three max_four min_four   -- for this text's walks alone
set_option linter.unusedVariables false
set_option linter.unusedSimpArgs false

end Go.Proofs.Ytpoabjpglfbolaa.PFnBand
