-- Written for this claim by a program of this session (wip/tools/pp.py, over the kit's print).
import Derived.Test.YtfgdjpgdabjpmaaDoorPNumberOfx0
import Derived.Test.YtfgdjpgdabjpmaaDoorPNumberOfx1
import Derived.Test.YtfgdjpgdabjpmaaDoorPNumberOfx2
import Derived.Test.YtfgdjpgdabjpmaaDoorPNumberOfx3
import Derived.Test.YtfgdjpgdabjpmaaDoorPNumberOfx4
import Derived.Test.YtfgdjpgdabjpmaaDoorPNumberOfx5
import Derived.Test.YtfgdjpgdabjpmaaDoorPNumberOfx6
import Derived.Test.YtfgdjpgdabjpmaaDoorPNumberOfx7
import Derived.Test.YtfgdjpgdabjpmaaDoorPNumberOfx8
import Derived.Test.YtfgdjpgdabjpmaaDoorPNumberOfx9
import Derived.Test.YtfgdjpgdabjpmaaDoorPNumberOfx10
import Derived.Test.YtfgdjpgdabjpmaaDoorPNumberOfx11
import Derived.Test.YtfgdjpgdabjpmaaDoorPNumberOfx12
import Derived.Test.YtfgdjpgdabjpmaaDoorPNumberOfx13
namespace Go.Proofs.YtfgdjpgdabjpmaaDoor.PNumberOf
open Go.RowKit Go.Proofs.YtfgdjpgdabjpmaaDoorW.PrintWords Go.Proofs.YtfgdjpgdabjpmaaDoorW.PrintLast Go.Proofs.YtfgdjpgdabjpmaaDoorW.PrintMore
attribute [local go_sem] max2_int min2_int max_two min_two max_three min_three max_four min_four   -- for this text's walks alone
set_option linter.unusedVariables false
set_option linter.unusedSimpArgs false

end Go.Proofs.YtfgdjpgdabjpmaaDoor.PNumberOf
