-- Written for this claim by a program of this session (wip/tools/rowgen.py).
import Derived.Test.YtfgdjpgdabjpmaaPMachineSplitsx9
namespace Go.Proofs.Ytfgdjpgdabjpmaa.St
open Go.RowKit Go.Proofs.YtfgdjpgdabjpmaaW.PrintWords Go.Proofs.YtfgdjpgdabjpmaaW.PrintLast Go.Proofs.Ytfgdjpgdabjpmaa.PMachineSplits
/-- The law as a statement over numbers and lists. -/
def MachineSplits : Prop := ∀ (l0_0 : List (Int)) (a0_1 : Int) (l0_2 : List (Int)) (l1 : List (Int)) (a2_0 : Int) (a2_1 : Int), (l0_0.length ≤ maxLen ∧ ∀ yl0_0 ∈ l0_0, (Lit.int .u32 yl0_0).wf = true) → (Lit.int .i64 a0_1).wf = true → (l0_2.length ≤ maxLen ∧ ∀ yl0_2 ∈ l0_2, (Lit.int .i64 yl0_2).wf = true) → (l1.length ≤ maxLen ∧ ∀ yl1 ∈ l1, (Lit.int .i64 yl1).wf = true) → (Lit.int .i64 a2_0).wf = true → (Lit.int .i64 a2_1).wf = true → ∃ k, pleatlaw10_MachineSplits.f k l0_0 a0_1 l0_2 l1 a2_0 a2_1 = some true
end Go.Proofs.Ytfgdjpgdabjpmaa.St
