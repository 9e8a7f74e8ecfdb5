-- Written for this claim by a program of this session (wip/tools/rowgen.py).
import Derived.Test.YtfgdjpgdabjpmaaPNumberSamex12
namespace Go.Proofs.Ytfgdjpgdabjpmaa.St
open Go.RowKit Go.Proofs.YtfgdjpgdabjpmaaW.PrintWords Go.Proofs.YtfgdjpgdabjpmaaW.PrintLast Go.Proofs.Ytfgdjpgdabjpmaa.PNumberSame
/-- The law as a statement over numbers and lists. -/
def NumberSame : Prop := ∀ (l0_0 : List (Int)) (a0_1 : Int) (l0_2 : List (Int)), (l0_0.length ≤ maxLen ∧ ∀ y4 ∈ l0_0, (Lit.int .u32 y4).wf = true) → (Lit.int .i64 a0_1).wf = true → (l0_2.length ≤ maxLen ∧ ∀ y4 ∈ l0_2, (Lit.int .i64 y4).wf = true) → ∃ k, pleatlaw15_NumberSame.f k l0_0 a0_1 l0_2 = some true
end Go.Proofs.Ytfgdjpgdabjpmaa.St
