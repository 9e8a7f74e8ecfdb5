-- Written for this claim by a program of this session (wip/tools/pp.py, over the kit's print).
import Derived.Test.YtfgdjpgdabjpmaaPEdgeRunsx0
import Derived.Test.YtfgdjpgdabjpmaaPEdgeRunsx1
import Derived.Test.YtfgdjpgdabjpmaaPEdgeRunsx2
import Derived.Test.YtfgdjpgdabjpmaaPEdgeRunsx3
import Derived.Test.YtfgdjpgdabjpmaaPEdgeRunsx4
import Derived.Test.YtfgdjpgdabjpmaaPEdgeRunsx5
import Derived.Test.YtfgdjpgdabjpmaaPEdgeRunsx6
import Derived.Test.YtfgdjpgdabjpmaaPEdgeRunsx7
import Derived.Test.YtfgdjpgdabjpmaaPEdgeRunsx8
import Derived.Test.YtfgdjpgdabjpmaaPEdgeRunsx9
import Derived.Test.YtfgdjpgdabjpmaaPEdgeRunsx10
import Derived.Test.YtfgdjpgdabjpmaaPEdgeRunsx11
import Derived.Test.YtfgdjpgdabjpmaaPEdgeRunsx12
import Derived.Test.YtfgdjpgdabjpmaaPEdgeRunsx13
namespace Go.Proofs.Ytfgdjpgdabjpmaa.PEdgeRuns
open Go.RowKit Go.Proofs.YtfgdjpgdabjpmaaW.PrintWords Go.Proofs.YtfgdjpgdabjpmaaW.PrintLast Go.Proofs.YtfgdjpgdabjpmaaW.PrintMore
attribute [local go_sem] max2_int min2_int max_two min_two max_three min_three max_four min_four   -- for this text's walks alone
set_option linter.unusedVariables false
set_option linter.unusedSimpArgs false

end Go.Proofs.Ytfgdjpgdabjpmaa.PEdgeRuns
