-- Written for this claim by a program of this session (wip/tools/rowgen.py).
import Derived.Test.YtfgdjpgdabjpmaaPMachineNonex8
namespace Go.Proofs.Ytfgdjpgdabjpmaa.St
open Go.RowKit Go.Proofs.YtfgdjpgdabjpmaaW.PrintWords Go.Proofs.YtfgdjpgdabjpmaaW.PrintLast Go.Proofs.Ytfgdjpgdabjpmaa.PMachineNone
/-- The law as a statement over numbers and lists. -/
def MachineNone : Prop := ∀ (a0 : Int), (Lit.int .i64 a0).wf = true → ∃ k, pleatlaw10_MachineNone.f k a0 = some true
end Go.Proofs.Ytfgdjpgdabjpmaa.St
