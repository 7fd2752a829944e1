/- What the Go functions all parts compute, as Lean functions, and the proof that each call comes to just that. Conditions: those at each theorem. -/
import Derived.Test.YteghfiladifjpaaOFnMissingx0
import Derived.Test.YteghfiladifjpaaOFnMissingx1
import Derived.Test.YteghfiladifjpaaOFnMissingx2
import Derived.Test.YteghfiladifjpaaOFnMissingx3
import Derived.Test.YteghfiladifjpaaOFnMissingx4
import Derived.Test.YteghfiladifjpaaOFnMissingx5
import Derived.Test.YteghfiladifjpaaOFnMissingx6
import Derived.Test.YteghfiladifjpaaOFnMissingx7
import Derived.Test.YteghfiladifjpaaOFnMissingx8
namespace Go.Proofs.Yteghfiladifjpaa.PFnMissing
open Go.RowKit Go.Proofs.YteghfiladifjpaaW.PrintWords Go.Proofs.YteghfiladifjpaaW.PrintLast Go.Proofs.YteghfiladifjpaaW.PrintMore
attribute [local go_sem] max2_int min2_int max_two min_two max_three min_three max_four min_four   -- for this text's walks alone
set_option linter.unusedVariables false
set_option linter.unusedSimpArgs false

end Go.Proofs.Yteghfiladifjpaa.PFnMissing
