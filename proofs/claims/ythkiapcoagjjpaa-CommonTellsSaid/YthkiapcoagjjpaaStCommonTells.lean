-- Written for this claim by a program of this session (wip/tools/rowgen.py).
import Derived.Test.YthkiapcoagjjpaaPCommonTellsx5
namespace Go.Proofs.Ythkiapcoagjjpaa.St
open Go.RowKit Go.Proofs.YthkiapcoagjjpaaW.PrintWords Go.Proofs.YthkiapcoagjjpaaW.PrintLast Go.Proofs.Ythkiapcoagjjpaa.PCommonTells
/-- The law as a statement over numbers and lists. -/
def CommonTells : Prop := ∀ (l0 : List (Int)) (a1 : Int) (a2 : Int) (a3 : Int), (l0.length ≤ maxLen ∧ ∀ yl0 ∈ l0, (Lit.int .i64 yl0).wf = true) → (Lit.int .i64 a1).wf = true → (Lit.int .i64 a2).wf = true → (Lit.int .i64 a3).wf = true → ∃ k, pleatlaw17_CommonTells.f k l0 a1 a2 a3 = some true
end Go.Proofs.Ythkiapcoagjjpaa.St
