-- Written for this claim by a program of this session (wip/tools/rowgen.py).
import Derived.Test.YthkiapcoagjjpaaPCommonRowsx5
namespace Go.Proofs.Ythkiapcoagjjpaa.St
open Go.RowKit Go.Proofs.YthkiapcoagjjpaaW.PrintWords Go.Proofs.YthkiapcoagjjpaaW.PrintLast Go.Proofs.Ythkiapcoagjjpaa.PCommonRows
/-- The law as a statement over numbers and lists. -/
def CommonRows : Prop := ∀ (l0 : List (Int)) (a1 : Int), (l0.length ≤ maxLen ∧ ∀ yl0 ∈ l0, (Lit.int .i64 yl0).wf = true) → (Lit.int .i64 a1).wf = true → ∃ k, pleatlaw17_CommonRows.f k l0 a1 = some true
end Go.Proofs.Ythkiapcoagjjpaa.St
