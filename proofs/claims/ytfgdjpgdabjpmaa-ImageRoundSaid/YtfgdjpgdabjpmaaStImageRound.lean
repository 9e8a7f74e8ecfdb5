-- Written for this claim by a program of this session (wip/tools/rowgen.py).
import Derived.Test.YtfgdjpgdabjpmaaPImageRoundx8
namespace Go.Proofs.Ytfgdjpgdabjpmaa.St
open Go.RowKit Go.Proofs.YtfgdjpgdabjpmaaW.PrintWords Go.Proofs.YtfgdjpgdabjpmaaW.PrintLast Go.Proofs.Ytfgdjpgdabjpmaa.PImageRound
/-- The law as a statement over numbers and lists. -/
def ImageRound : Prop := ∀ (l0_0 : List (Int)) (a0_1 : Int) (l0_2 : List (Int)) (a1 : Int) (a2 : Int), (l0_0.length ≤ maxLen ∧ ∀ yl0_0 ∈ l0_0, (Lit.int .u32 yl0_0).wf = true) → (Lit.int .i64 a0_1).wf = true → (l0_2.length ≤ maxLen ∧ ∀ yl0_2 ∈ l0_2, (Lit.int .i64 yl0_2).wf = true) → (Lit.int .i64 a1).wf = true → (Lit.int .u8 a2).wf = true → ∃ k, pleatlaw07_ImageRound.f k l0_0 a0_1 l0_2 a1 a2 = some true
end Go.Proofs.Ytfgdjpgdabjpmaa.St
