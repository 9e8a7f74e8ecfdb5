-- Written for this claim by a program of this session (wip/tools/rowgen.py).
import Derived.Test.YtfgdjpgdabjpmaaPEdgeRunsx13
namespace Go.Proofs.Ytfgdjpgdabjpmaa.St
open Go.RowKit Go.Proofs.YtfgdjpgdabjpmaaW.PrintWords Go.Proofs.YtfgdjpgdabjpmaaW.PrintLast Go.Proofs.Ytfgdjpgdabjpmaa.PEdgeRuns
/-- The law as a statement over numbers and lists. -/
def EdgeRuns : Prop := ∀ (l0_0 : List (Int)) (a0_1 : Int) (l0_2 : List (Int)) (l1 : List (Int)) (a2 : Int), (l0_0.length ≤ maxLen ∧ ∀ yl0_0 ∈ l0_0, (Lit.int .u32 yl0_0).wf = true) → (Lit.int .i64 a0_1).wf = true → (l0_2.length ≤ maxLen ∧ ∀ yl0_2 ∈ l0_2, (Lit.int .i64 yl0_2).wf = true) → (l1.length ≤ maxLen ∧ ∀ yl1 ∈ l1, (Lit.int .i64 yl1).wf = true) → (Lit.int .i64 a2).wf = true → ∃ k, pleatlaw12_EdgeRuns.f k l0_0 a0_1 l0_2 l1 a2 = some true
end Go.Proofs.Ytfgdjpgdabjpmaa.St
