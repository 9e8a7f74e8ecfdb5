-- Written for this claim by a program of this session (wip/tools/pp.py, over the kit's print).
import Derived.Test.YtfgdjpgdabjpmaaPMachineSplitsx0
import Derived.Test.YtfgdjpgdabjpmaaPMachineSplitsx1
import Derived.Test.YtfgdjpgdabjpmaaPMachineSplitsx2
import Derived.Test.YtfgdjpgdabjpmaaPMachineSplitsx3
import Derived.Test.YtfgdjpgdabjpmaaPMachineSplitsx4
import Derived.Test.YtfgdjpgdabjpmaaPMachineSplitsx5
import Derived.Test.YtfgdjpgdabjpmaaPMachineSplitsx6
import Derived.Test.YtfgdjpgdabjpmaaPMachineSplitsx7
import Derived.Test.YtfgdjpgdabjpmaaPMachineSplitsx8
import Derived.Test.YtfgdjpgdabjpmaaPMachineSplitsx9
namespace Go.Proofs.Ytfgdjpgdabjpmaa.PMachineSplits
open Go.RowKit Go.Proofs.YtfgdjpgdabjpmaaW.PrintWords Go.Proofs.YtfgdjpgdabjpmaaW.PrintLast Go.Proofs.YtfgdjpgdabjpmaaW.PrintMore
attribute [local go_sem] max2_int min2_int max_two min_two max_three min_three max_four min_four   -- for this text's walks alone
set_option linter.unusedVariables false
set_option linter.unusedSimpArgs false

end Go.Proofs.Ytfgdjpgdabjpmaa.PMachineSplits
