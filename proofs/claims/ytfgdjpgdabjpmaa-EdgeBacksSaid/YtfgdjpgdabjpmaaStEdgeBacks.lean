-- Written for this claim by a program of this session (wip/tools/rowgen.py).
import Derived.Test.YtfgdjpgdabjpmaaPEdgeBacksx9
namespace Go.Proofs.Ytfgdjpgdabjpmaa.St
open Go.RowKit Go.Proofs.YtfgdjpgdabjpmaaW.PrintWords Go.Proofs.YtfgdjpgdabjpmaaW.PrintLast Go.Proofs.Ytfgdjpgdabjpmaa.PEdgeBacks
/-- The law as a statement over numbers and lists. -/
def EdgeBacks : Prop := ∀ (l0 : List (List (Int))), (l0.length ≤ maxLen ∧ ∀ yl0 ∈ l0, (yl0.length ≤ maxLen ∧ ∀ yyl0 ∈ yl0, (Lit.int .i64 yyl0).wf = true)) → ∃ k, pleatlaw12_EdgeBacks.f k l0 = some true
end Go.Proofs.Ytfgdjpgdabjpmaa.St
