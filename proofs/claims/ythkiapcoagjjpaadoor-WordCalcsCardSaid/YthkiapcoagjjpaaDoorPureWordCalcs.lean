/- What each operation makes of two words is what the document says, as a statement over numbers. -/
import Derived.Test.YthkiapcoagjjpaaDoorStWordCalcs
namespace Go.Proofs.YthkiapcoagjjpaaDoor.Pure
open Go.RowKit Go.Proofs.YthkiapcoagjjpaaDoorW.PrintWords Go.Proofs.YthkiapcoagjjpaaDoorW.PrintLast Go.Proofs.YthkiapcoagjjpaaDoor.PWordCalcs
set_option linter.unusedVariables false
set_option linter.unusedSimpArgs false

theorem ref_calc (op a : Int) (ac : Bool) (b : Int) (bc : Bool) : pleatref01_Calc.f 2 op a ac b bc = word_Calc.f op a ac b bc := by
  unfold pleatref01_Calc.f word_Calc.f
  by_cases c1 : op < 3
  · have : ¬ (3 ≤ op ∧ op ≤ 10) := by omega
    simp [c1, this, pleatref01_Calc.j0]
  · by_cases c2 : op > 10
    · have : ¬ (3 ≤ op ∧ op ≤ 10) := by omega
      simp [c1, c2, this, pleatref01_Calc.j0]
    · have h : op = 3 ∨ op = 4 ∨ op = 5 ∨ op = 6 ∨ op = 7 ∨ op = 8 ∨ op = 9 ∨ op = 10 := by omega
      rcases h with rfl | rfl | rfl | rfl | rfl | rfl | rfl | rfl <;> cases ac <;> cases bc <;> simp [pleatref01_Calc.j0, pleatref01_Calc.j1, word_CalcV, pleatref01_truth.f]
      all_goals (by_cases c3 : a < b <;> by_cases c4 : a = b <;> simp [c3, c4])
theorem calc_some (op a : Int) (ac : Bool) (b : Int) (bc : Bool) : ∃ t, word_Calc.f op a ac b bc = some t := by
  unfold word_Calc.f
  split
  · split <;> exact ⟨_, rfl⟩
  · exact ⟨_, rfl⟩
theorem works_true : pleatlaw01_works.f = some true := by decide +kernel
theorem WordCalcs : St.WordCalcs := by
  intro op a ac b bc _ _ _
  obtain ⟨t, ht⟩ := calc_some op a ac b bc
  refine ⟨2, ?_⟩
  unfold pleatlaw01_WordCalcs.f
  rw [ref_calc, ht, works_true]
  simp [word_Plain.f, word_Sealed.f]
end Go.Proofs.YthkiapcoagjjpaaDoor.Pure
