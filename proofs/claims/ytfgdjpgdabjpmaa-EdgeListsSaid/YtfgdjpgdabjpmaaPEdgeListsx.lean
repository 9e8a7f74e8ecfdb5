-- SLIM: printed, then laid small (wip/tools/slimclaim.py).
import Derived.Test.YtfgdjpgdabjpmaaPEdgeListsx0
import Derived.Test.YtfgdjpgdabjpmaaPEdgeListsx1
import Derived.Test.YtfgdjpgdabjpmaaPEdgeListsx2
import Derived.Test.YtfgdjpgdabjpmaaPEdgeListsx3
import Derived.Test.YtfgdjpgdabjpmaaPEdgeListsx4
import Derived.Test.YtfgdjpgdabjpmaaPEdgeListsx5
import Derived.Test.YtfgdjpgdabjpmaaPEdgeListsx6
import Derived.Test.YtfgdjpgdabjpmaaPEdgeListsx7
import Derived.Test.YtfgdjpgdabjpmaaPEdgeListsx8
import Derived.Test.YtfgdjpgdabjpmaaPEdgeListsx9
import Derived.Test.YtfgdjpgdabjpmaaPEdgeListsx10
import Derived.Test.YtfgdjpgdabjpmaaPEdgeListsx11
import Derived.Test.YtfgdjpgdabjpmaaPEdgeListsx12
import Derived.Test.YtfgdjpgdabjpmaaPEdgeListsx13
import Derived.Test.YtfgdjpgdabjpmaaPEdgeListsx14
import Derived.Test.YtfgdjpgdabjpmaaPEdgeListsx15
import Derived.Test.YtfgdjpgdabjpmaaPEdgeListsx16
import Derived.Test.YtfgdjpgdabjpmaaPEdgeListsx17
import Derived.Test.YtfgdjpgdabjpmaaPEdgeListsx18
import Derived.Test.YtfgdjpgdabjpmaaPEdgeListsx19
import Derived.Test.YtfgdjpgdabjpmaaPEdgeListsx20
import Derived.Test.YtfgdjpgdabjpmaaPEdgeListsx21
namespace Go.Proofs.Ytfgdjpgdabjpmaa.PEdgeLists
open Go.RowKit Go.Proofs.YtfgdjpgdabjpmaaW.PrintWords Go.Proofs.YtfgdjpgdabjpmaaW.PrintLast Go.Proofs.YtfgdjpgdabjpmaaW.PrintMore
attribute [local go_sem] max2_int min2_int max_two min_two max_three min_three max_four min_four   -- for this text's walks alone
set_option linter.unusedVariables false
set_option linter.unusedSimpArgs false
end Go.Proofs.Ytfgdjpgdabjpmaa.PEdgeLists
