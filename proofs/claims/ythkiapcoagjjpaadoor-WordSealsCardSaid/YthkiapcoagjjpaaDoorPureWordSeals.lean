/- Calculations do not see which places sealed words are: with its sealed words moved by a number each calculation goes alike; as a statement over numbers. -/
import Derived.Test.YthkiapcoagjjpaaDoorStWordSeals
namespace Go.Proofs.YthkiapcoagjjpaaDoor.Pure
open Go.RowKit Go.Proofs.YthkiapcoagjjpaaDoorW.PrintWords Go.Proofs.YthkiapcoagjjpaaDoorW.PrintLast Go.Proofs.YthkiapcoagjjpaaDoor.PWordSeals
set_option linter.unusedVariables false
set_option linter.unusedSimpArgs false

theorem works_true : pleatlaw01_works.f = some true := by decide +kernel
theorem i64_of_wf {n : Int} (h : (Lit.int .i64 n).wf = true) : -9223372036854775808 ≤ n ∧ n ≤ 9223372036854775807 := by
  simp [Lit.wf, IntKind.min, IntKind.max, IntKind.bits, IntKind.signed] at h
  omega
/-- Where a word goes. -/
def mv (a : Int) (c : Bool) (by_ : Int) : Int := if c = true then wrap64 (a + by_) else a
theorem moved_eq (a : Int) (c : Bool) (by_ : Int) : pleatlaw01_moved.f a c by_ = some (mv a c by_, c) := by
  unfold pleatlaw01_moved.f mv
  cases c <;> simp
theorem mv_eq {a b by_ : Int} {c : Bool} (ha : (Lit.int .i64 a).wf = true) (hb : (Lit.int .i64 b).wf = true) : mv a c by_ = mv b c by_ ↔ a = b := by
  unfold mv
  cases c
  · simp
  · have h1 := i64_of_wf ha
    have h2 := i64_of_wf hb
    simp only [if_true]
    constructor
    · intro h
      unfold wrap64 at h
      omega
    · rintro rfl; rfl
theorem calc_moved (op a : Int) (ac : Bool) (b : Int) (bc : Bool) (by_ : Int) (ha : (Lit.int .i64 a).wf = true) (hb : (Lit.int .i64 b).wf = true) :
    word_Calc.f op (mv a ac by_) ac (mv b bc by_) bc = word_Calc.f op a ac b bc := by
  unfold word_Calc.f
  by_cases c1 : 3 ≤ op ∧ op ≤ 10
  · rw [if_pos c1, if_pos c1]
    by_cases c2 : ac ≠ bc ∨ ac = true ∧ op ≠ 10
    · rw [if_pos c2, if_pos c2]
    · rw [if_neg c2, if_neg c2]
      cases hac : ac
      · have hbc : bc = false := by cases bc <;> simp_all
        subst hbc
        simp [mv]
      · have hbc : bc = true := by cases bc <;> simp_all
        have hop : op = 10 := by
          rcases Int.lt_trichotomy op 10 with h | h | h
          · exact absurd (.inr ⟨hac, by omega⟩) c2
          · exact h
          · omega
        subst hbc hop
        have := mv_eq (by_ := by_) (c := true) ha hb
        by_cases c3 : a = b
        · simp [word_CalcV, this, c3]
        · simp [word_CalcV, this, c3]
  · rw [if_neg c1, if_neg c1]
theorem calc_plain (op a : Int) (ac : Bool) (b : Int) (bc : Bool) : ∃ v f, word_Calc.f op a ac b bc = some (v, false, f) := by
  unfold word_Calc.f
  split
  · split <;> exact ⟨_, _, rfl⟩
  · exact ⟨_, _, rfl⟩
theorem WordSeals : St.WordSeals := by
  intro op a ac b bc by_ _ ha hb _
  obtain ⟨v, f, ht⟩ := calc_plain op a ac b bc
  unfold pleatlaw01_WordSeals.f
  simp only [moved_eq, Option.bind_some, calc_moved op a ac b bc by_ ha hb, ht, works_true]
  simp
end Go.Proofs.YthkiapcoagjjpaaDoor.Pure
