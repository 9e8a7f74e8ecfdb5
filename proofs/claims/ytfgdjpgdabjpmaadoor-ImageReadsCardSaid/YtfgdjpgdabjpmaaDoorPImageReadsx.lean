-- Written for this claim by a program of this session (wip/tools/pp.py, over the kit's print).
import Derived.Test.YtfgdjpgdabjpmaaDoorPImageReadsx0
import Derived.Test.YtfgdjpgdabjpmaaDoorPImageReadsx1
import Derived.Test.YtfgdjpgdabjpmaaDoorPImageReadsx2
import Derived.Test.YtfgdjpgdabjpmaaDoorPImageReadsx3
import Derived.Test.YtfgdjpgdabjpmaaDoorPImageReadsx4
import Derived.Test.YtfgdjpgdabjpmaaDoorPImageReadsx5
import Derived.Test.YtfgdjpgdabjpmaaDoorPImageReadsx6
import Derived.Test.YtfgdjpgdabjpmaaDoorPImageReadsx7
import Derived.Test.YtfgdjpgdabjpmaaDoorPImageReadsx8
import Derived.Test.YtfgdjpgdabjpmaaDoorPImageReadsx9
import Derived.Test.YtfgdjpgdabjpmaaDoorPImageReadsx10
import Derived.Test.YtfgdjpgdabjpmaaDoorPImageReadsx11
import Derived.Test.YtfgdjpgdabjpmaaDoorPImageReadsx12
import Derived.Test.YtfgdjpgdabjpmaaDoorPImageReadsx13
namespace Go.Proofs.YtfgdjpgdabjpmaaDoor.PImageReads
open Go.RowKit Go.Proofs.YtfgdjpgdabjpmaaDoorW.PrintWords Go.Proofs.YtfgdjpgdabjpmaaDoorW.PrintLast Go.Proofs.YtfgdjpgdabjpmaaDoorW.PrintMore
attribute [local go_sem] max2_int min2_int max_two min_two max_three min_three max_four min_four   -- for this text's walks alone
set_option linter.unusedVariables false
set_option linter.unusedSimpArgs false

end Go.Proofs.YtfgdjpgdabjpmaaDoor.PImageReads
