-- Written for this claim by a program of this session (wip/tools/rowgen.py).
import Derived.Test.YthkiapcoagjjpaaDoorPWordSealsx5
namespace Go.Proofs.YthkiapcoagjjpaaDoor.St
open Go.RowKit Go.Proofs.YthkiapcoagjjpaaDoorW.PrintWords Go.Proofs.YthkiapcoagjjpaaDoorW.PrintLast Go.Proofs.YthkiapcoagjjpaaDoor.PWordSeals
/-- The law as a statement over numbers and lists. -/
def WordSeals : Prop := ∀ (a0 : Int) (a1_0 : Int) (a1_1 : Bool) (a1_2 : Int) (a1_3 : Bool) (a1_4 : Int), (Lit.int .i8 a0).wf = true → (Lit.int .i64 a1_0).wf = true → (Lit.int .i64 a1_2).wf = true → (Lit.int .i64 a1_4).wf = true → pleatlaw01_WordSeals.f a0 a1_0 a1_1 a1_2 a1_3 a1_4 = some true
end Go.Proofs.YthkiapcoagjjpaaDoor.St
