-- Written for this claim by a program of this session (wip/tools/pp.py, over the kit's print).
import Derived.Test.YtfgdjpgdabjpmaaPNumberSamex0
import Derived.Test.YtfgdjpgdabjpmaaPNumberSamex1
import Derived.Test.YtfgdjpgdabjpmaaPNumberSamex2
import Derived.Test.YtfgdjpgdabjpmaaPNumberSamex3
import Derived.Test.YtfgdjpgdabjpmaaPNumberSamex4
import Derived.Test.YtfgdjpgdabjpmaaPNumberSamex5
import Derived.Test.YtfgdjpgdabjpmaaPNumberSamex6
import Derived.Test.YtfgdjpgdabjpmaaPNumberSamex7
import Derived.Test.YtfgdjpgdabjpmaaPNumberSamex8
import Derived.Test.YtfgdjpgdabjpmaaPNumberSamex9
import Derived.Test.YtfgdjpgdabjpmaaPNumberSamex10
import Derived.Test.YtfgdjpgdabjpmaaPNumberSamex11
import Derived.Test.YtfgdjpgdabjpmaaPNumberSamex12
namespace Go.Proofs.Ytfgdjpgdabjpmaa.PNumberSame
open Go.RowKit Go.Proofs.YtfgdjpgdabjpmaaW.PrintWords Go.Proofs.YtfgdjpgdabjpmaaW.PrintLast Go.Proofs.YtfgdjpgdabjpmaaW.PrintMore
attribute [local go_sem] max2_int min2_int max_two min_two max_three min_three max_four min_four   -- for this text's walks alone
set_option linter.unusedVariables false
set_option linter.unusedSimpArgs false

end Go.Proofs.Ytfgdjpgdabjpmaa.PNumberSame
