-- PRINTED BY print.sh 35421559b90ae4d0a3588c463048766b98c2df88dd9212a6774a882060cdf62d: not written by this session
import Derived.Test.YtpoabjpglfbolaaPFnExactWantOfx0
import Derived.Test.YtpoabjpglfbolaaPFnExactWantOfx1
import Derived.Test.YtpoabjpglfbolaaPFnExactWantOfx2
import Derived.Test.YtpoabjpglfbolaaPFnExactWantOfx3
import Derived.Test.YtpoabjpglfbolaaPFnExactWantOfx4
import Derived.Test.YtpoabjpglfbolaaPFnExactWantOfx5
import Derived.Test.YtpoabjpglfbolaaPFnExactWantOfx6
import Derived.Test.YtpoabjpglfbolaaPFnExactWantOfx7
namespace Go.Proofs.Ytpoabjpglfbolaa.PFnExactWantOf
open Go.RowKit Go.Proofs.YtpoabjpglfbolaaW.PrintWords Go.Proofs.YtpoabjpglfbolaaW.PrintLast Go.Proofs.YtpoabjpglfbolaaW.PrintMore
attribute [local go_sem] max2_int min2_int max_two min_two max_three min_three max_four min_four   -- for this text's walks alone
set_option linter.unusedVariables false
set_option linter.unusedSimpArgs false

end Go.Proofs.Ytpoabjpglfbolaa.PFnExactWantOf
