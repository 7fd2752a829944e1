/- What the Go functions all parts compute, as Lean functions, and the proof that each call comes to just that. Conditions: those at each theorem. -/
import Derived.Test.YteghfiladifjpaaPFnCombinedx0
import Derived.Test.YteghfiladifjpaaOFnCombinedx1
import Derived.Test.YteghfiladifjpaaOFnCombinedx2
namespace Go.Proofs.Yteghfiladifjpaa.PFnCombined
open Go.RowKit Go.Proofs.YteghfiladifjpaaW.PrintWords Go.Proofs.YteghfiladifjpaaW.PrintLast Go.Proofs.YteghfiladifjpaaW.PrintMore
attribute [local go_sem] max2_int min2_int max_two min_two max_three min_three max_four min_four   -- for this text's walks alone
set_option linter.unusedVariables false
set_option linter.unusedSimpArgs false

end Go.Proofs.Yteghfiladifjpaa.PFnCombined
