-- Written for this claim by a program of this session (wip/tools/pp.py, over the kit's print).
import Derived.Test.YtfgdjpgdabjpmaaDoorPImageTellsx0
import Derived.Test.YtfgdjpgdabjpmaaDoorPImageTellsx1
import Derived.Test.YtfgdjpgdabjpmaaDoorPImageTellsx2
import Derived.Test.YtfgdjpgdabjpmaaDoorPImageTellsx3
import Derived.Test.YtfgdjpgdabjpmaaDoorPImageTellsx4
import Derived.Test.YtfgdjpgdabjpmaaDoorPImageTellsx5
import Derived.Test.YtfgdjpgdabjpmaaDoorPImageTellsx6
import Derived.Test.YtfgdjpgdabjpmaaDoorPImageTellsx7
import Derived.Test.YtfgdjpgdabjpmaaDoorPImageTellsx8
import Derived.Test.YtfgdjpgdabjpmaaDoorPImageTellsx9
import Derived.Test.YtfgdjpgdabjpmaaDoorPImageTellsx10
import Derived.Test.YtfgdjpgdabjpmaaDoorPImageTellsx11
namespace Go.Proofs.YtfgdjpgdabjpmaaDoor.PImageTells
open Go.RowKit Go.Proofs.YtfgdjpgdabjpmaaDoorW.PrintWords Go.Proofs.YtfgdjpgdabjpmaaDoorW.PrintLast Go.Proofs.YtfgdjpgdabjpmaaDoorW.PrintMore
attribute [local go_sem] max2_int min2_int max_two min_two max_three min_three max_four min_four   -- for this text's walks alone
set_option linter.unusedVariables false
set_option linter.unusedSimpArgs false

end Go.Proofs.YtfgdjpgdabjpmaaDoor.PImageTells
