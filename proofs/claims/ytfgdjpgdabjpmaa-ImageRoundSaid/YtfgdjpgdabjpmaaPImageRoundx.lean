-- Written for this claim by a program of this session (wip/tools/pp.py, over the kit's print).
import Derived.Test.YtfgdjpgdabjpmaaPImageRoundx0
import Derived.Test.YtfgdjpgdabjpmaaPImageRoundx1
import Derived.Test.YtfgdjpgdabjpmaaPImageRoundx2
import Derived.Test.YtfgdjpgdabjpmaaPImageRoundx3
import Derived.Test.YtfgdjpgdabjpmaaPImageRoundx4
import Derived.Test.YtfgdjpgdabjpmaaPImageRoundx5
import Derived.Test.YtfgdjpgdabjpmaaPImageRoundx6
import Derived.Test.YtfgdjpgdabjpmaaPImageRoundx7
import Derived.Test.YtfgdjpgdabjpmaaPImageRoundx8
namespace Go.Proofs.Ytfgdjpgdabjpmaa.PImageRound
open Go.RowKit Go.Proofs.YtfgdjpgdabjpmaaW.PrintWords Go.Proofs.YtfgdjpgdabjpmaaW.PrintLast Go.Proofs.YtfgdjpgdabjpmaaW.PrintMore
attribute [local go_sem] max2_int min2_int max_two min_two max_three min_three max_four min_four   -- for this text's walks alone
set_option linter.unusedVariables false
set_option linter.unusedSimpArgs false

end Go.Proofs.Ytfgdjpgdabjpmaa.PImageRound
