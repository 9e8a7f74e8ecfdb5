-- Written for this claim by a program of this session (wip/tools/rowgen.py).
import Derived.Test.YthkiapcoagjjpaaDoorPWordCalcsx6
namespace Go.Proofs.YthkiapcoagjjpaaDoor.St
open Go.RowKit Go.Proofs.YthkiapcoagjjpaaDoorW.PrintWords Go.Proofs.YthkiapcoagjjpaaDoorW.PrintLast Go.Proofs.YthkiapcoagjjpaaDoor.PWordCalcs
/-- The law as a statement over numbers and lists. -/
def WordCalcs : Prop := ∀ (a0 : Int) (a1_0 : Int) (a1_1 : Bool) (a2_0 : Int) (a2_1 : Bool), (Lit.int .i8 a0).wf = true → (Lit.int .i64 a1_0).wf = true → (Lit.int .i64 a2_0).wf = true → ∃ k, pleatlaw01_WordCalcs.f k a0 a1_0 a1_1 a2_0 a2_1 = some true
end Go.Proofs.YthkiapcoagjjpaaDoor.St
