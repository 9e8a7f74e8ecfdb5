-- Written for this claim by a program of this session (wip/tools/rowgen.py).
import Derived.Test.YthkiapcoagjjpaaDoorPWordAddressesx4
namespace Go.Proofs.YthkiapcoagjjpaaDoor.St
open Go.RowKit Go.Proofs.YthkiapcoagjjpaaDoorW.PrintWords Go.Proofs.YthkiapcoagjjpaaDoorW.PrintLast Go.Proofs.YthkiapcoagjjpaaDoor.PWordAddresses
/-- The law as a statement over numbers and lists. -/
def WordAddresses : Prop := ∀ (a0_0 : Int) (a0_1 : Bool) (a1 : Int) (a2 : Int), (Lit.int .i64 a0_0).wf = true → (Lit.int .i64 a1).wf = true → (Lit.int .i64 a2).wf = true → pleatlaw01_WordAddresses.f a0_0 a0_1 a1 a2 = some true
end Go.Proofs.YthkiapcoagjjpaaDoor.St
