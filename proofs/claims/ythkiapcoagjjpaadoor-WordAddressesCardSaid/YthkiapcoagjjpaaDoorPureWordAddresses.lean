/- Which address a word and a number are is what the document says, as a statement over numbers. -/
import Derived.Test.YthkiapcoagjjpaaDoorStWordAddresses
namespace Go.Proofs.YthkiapcoagjjpaaDoor.Pure
open Go.RowKit Go.Proofs.YthkiapcoagjjpaaDoorW.PrintWords Go.Proofs.YthkiapcoagjjpaaDoorW.PrintLast Go.Proofs.YthkiapcoagjjpaaDoor.PWordAddresses
set_option linter.unusedVariables false
set_option linter.unusedSimpArgs false

theorem ref_address (a : Int) (c : Bool) (n s : Int) : pleatref01_Address.f a c n s = word_Address.f a c n s := by
  unfold pleatref01_Address.f word_Address.f
  cases c
  · generalize wrap64 (a + n) = v
    by_cases c1 : v < 0
    · have h : ¬ v ≥ 0 := by omega
      simp [c1, h]
    · have h : v ≥ 0 := by omega
      by_cases c2 : v < s
      · have h2 : ¬ v ≥ s := by omega
        simp only [c1, h, c2, h2, if_true, if_false]
      · have h2 : v ≥ s := by omega
        simp only [c1, h, c2, h2, if_true, if_false]
  · rfl
theorem address_some (a : Int) (c : Bool) (n s : Int) : ∃ t, word_Address.f a c n s = some t := by
  unfold word_Address.f
  split
  · exact ⟨_, rfl⟩
  · split
    · split <;> exact ⟨_, rfl⟩
    · exact ⟨_, rfl⟩
theorem works_true : pleatlaw01_works.f = some true := by decide +kernel
theorem WordAddresses : St.WordAddresses := by
  intro a c n s _ _ _
  obtain ⟨t, ht⟩ := address_some a c n s
  unfold pleatlaw01_WordAddresses.f
  rw [ref_address, ht, works_true]
  simp
end Go.Proofs.YthkiapcoagjjpaaDoor.Pure
