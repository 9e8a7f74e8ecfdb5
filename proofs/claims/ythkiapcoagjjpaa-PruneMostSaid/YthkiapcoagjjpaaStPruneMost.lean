-- Written for this claim by a program of this session (wip/tools/rowgen.py).
import Derived.Test.YthkiapcoagjjpaaPPruneMostx3
namespace Go.Proofs.Ythkiapcoagjjpaa.St
open Go.RowKit Go.Proofs.YthkiapcoagjjpaaW.PrintWords Go.Proofs.YthkiapcoagjjpaaW.PrintLast Go.Proofs.Ythkiapcoagjjpaa.PPruneMost
/-- The law as a statement over numbers and lists. -/
def PruneMost : Prop := ∀ (a0 : Int) (l1 : List (S27)) (l2 : List (Bool)), (Lit.int .i64 a0).wf = true → (l1.length ≤ maxLen ∧ ∀ yl1 ∈ l1, ((Lit.int .i64 yl1.f0).wf = true ∧ (Lit.int .i8 yl1.f1).wf = true ∧ (Lit.int .i8 yl1.f2).wf = true)) → (l2.length ≤ maxLen ∧ ∀ yl2 ∈ l2, True) → ∃ k, pleatlaw20_PruneMost.f k a0 l1 l2 = some true
end Go.Proofs.Ythkiapcoagjjpaa.St
