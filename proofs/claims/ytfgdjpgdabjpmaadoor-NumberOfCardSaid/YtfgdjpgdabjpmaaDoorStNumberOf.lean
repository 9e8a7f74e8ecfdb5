-- Written for this claim by a program of this session (wip/tools/rowgen.py).
import Derived.Test.YtfgdjpgdabjpmaaDoorPNumberOfx13
namespace Go.Proofs.YtfgdjpgdabjpmaaDoor.St
open Go.RowKit Go.Proofs.YtfgdjpgdabjpmaaDoorW.PrintWords Go.Proofs.YtfgdjpgdabjpmaaDoorW.PrintLast Go.Proofs.YtfgdjpgdabjpmaaDoor.PNumberOf
/-- The law as a statement over numbers and lists. -/
def NumberOf : Prop := ∀ (l0_0 : List (Int)) (a0_1 : Int) (l0_2 : List (Int)) (a1 : Int) (a2 : Int) (l3 : List (Int)), (l0_0.length ≤ maxLen ∧ ∀ yl0_0 ∈ l0_0, (Lit.int .u32 yl0_0).wf = true) → (Lit.int .i64 a0_1).wf = true → (l0_2.length ≤ maxLen ∧ ∀ yl0_2 ∈ l0_2, (Lit.int .i64 yl0_2).wf = true) → (Lit.int .u32 a1).wf = true → (Lit.int .u32 a2).wf = true → (l3.length ≤ maxLen ∧ ∀ yl3 ∈ l3, (Lit.int .i64 yl3).wf = true) → ∃ k, pleatlaw15_NumberOf.f k l0_0 a0_1 l0_2 a1 a2 l3 = some true
end Go.Proofs.YtfgdjpgdabjpmaaDoor.St
