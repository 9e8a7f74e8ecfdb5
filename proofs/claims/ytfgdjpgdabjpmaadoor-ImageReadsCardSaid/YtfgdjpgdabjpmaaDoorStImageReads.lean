-- Written for this claim by a program of this session (wip/tools/rowgen.py).
import Derived.Test.YtfgdjpgdabjpmaaDoorPImageReadsx13
namespace Go.Proofs.YtfgdjpgdabjpmaaDoor.St
open Go.RowKit Go.Proofs.YtfgdjpgdabjpmaaDoorW.PrintWords Go.Proofs.YtfgdjpgdabjpmaaDoorW.PrintLast Go.Proofs.YtfgdjpgdabjpmaaDoor.PImageReads
/-- The law as a statement over numbers and lists. -/
def ImageReads : Prop := ∀ (l0 : List (Int)), (l0.length ≤ maxLen ∧ ∀ yl0 ∈ l0, (Lit.int .u8 yl0).wf = true) → ∃ k, pleatlaw07_ImageReads.f k l0 = some true
end Go.Proofs.YtfgdjpgdabjpmaaDoor.St
