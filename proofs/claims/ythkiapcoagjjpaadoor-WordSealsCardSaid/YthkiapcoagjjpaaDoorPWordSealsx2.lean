-- Written for this claim by a program of this session (wip/tools/pp.py, over the kit's print).
import Derived.Test.YthkiapcoagjjpaaDoorPWordSealsx0
namespace Go.Proofs.YthkiapcoagjjpaaDoor.PWordSeals
open Go.RowKit Go.Proofs.YthkiapcoagjjpaaDoorW.PrintWords Go.Proofs.YthkiapcoagjjpaaDoorW.PrintLast Go.Proofs.YthkiapcoagjjpaaDoorW.PrintMore
attribute [local go_sem] max2_int min2_int max_two min_two max_three min_three max_four min_four   -- for this text's walks alone
set_option linter.unusedVariables false
set_option linter.unusedSimpArgs false

/-! ### word_Calc: function 10, by hand -/
def word_CalcV (op a b : Int) : Int :=
  if op = 3 then wrap64 (a + b) else if op = 4 then wrap64 (a - b) else if op = 5 then wrap64 (a * b) else if op = 6 then Go.bits .and .i64 a b else if op = 7 then Go.bits .or .i64 a b else if op = 8 then Go.bits .xor .i64 a b else if op = 9 then (if a < b then 1 else 0) else (if a = b then 1 else 0)
def word_Calc.f (a0 : Int) (a1_0 : Int) (a1_1 : Bool) (a2_0 : Int) (a2_1 : Bool) : Option (Int × Bool × Int) :=
  if 3 ≤ a0 ∧ a0 ≤ 10 then (if a1_1 ≠ a2_1 ∨ a1_1 = true ∧ a0 ≠ 10 then some (0, false, 4) else some (word_CalcV a0 a1_0 a2_0, false, 0)) else some (0, false, 3)
set_option maxRecDepth 100000 in
set_option maxHeartbeats 4000000 in
theorem word_Calc.calls (a0 a1_0 : Int) (a1_1 : Bool) (a2_0 : Int) (a2_1 : Bool) (r1 : Int) (r2 : Bool) (r3 : Int) (w : World) (h : word_Calc.f a0 a1_0 a1_1 a2_0 a2_1 = some (r1, r2, r3)) :
    Calls Tryd.prog 10 #[.int .i8 a0, .agg #[.int .i64 a1_0, .bool a1_1], .agg #[.int .i64 a2_0, .bool a2_1]] w fun e w' => e = .returned (.tuple #[.agg #[.int .i64 r1, .bool r2], .int .i8 r3]) ∧ Below w.heap.size w w' := by
  have hn1 : ∀ w : World, (binOp .eql 86 .nilFunc .nilFunc).run Tryd.prog w = .ok (.bool true) w := fun w => by rfl
  have hn2 : ∀ (f : Nat) (w : World), (binOp .eql 86 (.func (.func f) #[] #[]) .nilFunc).run Tryd.prog w = .ok (.bool false) w := fun f w => by rfl
  unfold word_Calc.f at h
  by_cases hop : 3 ≤ a0 ∧ a0 ≤ 10
  · rw [if_pos hop] at h
    have hops : a0 = 3 ∨ a0 = 4 ∨ a0 = 5 ∨ a0 = 6 ∨ a0 = 7 ∨ a0 = 8 ∨ a0 = 9 ∨ a0 = 10 := by omega
    rcases hops with rfl | rfl | rfl | rfl | rfl | rfl | rfl | rfl <;> cases a1_1 <;> cases a2_1
    · -- op 3, False, False
      obtain ⟨rfl, rfl, rfl⟩ : wrap64 (a1_0 + a2_0) = r1 ∧ false = r2 ∧ 0 = r3 := by simpa [word_CalcV] using h
      go_enter Tryd.func10, Tryd.ntmps10
      go_wp2
      have HG := heap_alloc_new (((w.alloc (.cells #[.int .i64 a1_0, .bool false] 24)).alloc (.cells #[.int .i64 a2_0, .bool false] 24)).alloc (.cells #[.int .i64 0, .bool false] 24)) (.cells #[.int .i64 (wrap64 (a1_0 + a2_0)), .bool false] 24)
      simp only [World.size_alloc] at HG
      refine bodyPost_ret (results_cell_row rfl _ _ (w.heap.size + 1 + 1 + 1) 24 _ (0, 0) _ rfl HG Tryd.underlying24 rfl (by kernel_rfl)) rfl ?_
      go_wp2
      have HG2 := blk_alloc (heap_alloc_new ((w.alloc (.cells #[.int .i64 a1_0, .bool false] 24)).alloc (.cells #[.int .i64 a2_0, .bool false] 24)) (.cells #[.int .i64 (wrap64 (a1_0 + a2_0)), .bool false] 24)) (.cells #[.int .i64 (wrap64 (a1_0 + a2_0)), .bool false] 24)
      simp only [World.size_alloc] at HG2
      refine bodyPost_ret (results_ct rfl _ _ (w.heap.size + 1 + 1) 24 _ (0, 0) _ rfl HG2 Tryd.underlying24 rfl (by kernel_rfl)) rfl ?_
      exact ⟨rfl, by repeat (first | exact Below.refl _ _ | apply below_alloc)⟩
    · -- op 3, False, True
      obtain ⟨rfl, rfl, rfl⟩ : 0 = r1 ∧ false = r2 ∧ 4 = r3 := by simpa [word_CalcV] using h
      go_enter Tryd.func10, Tryd.ntmps10
      go_wp2
      have HG := heap_alloc_new ((w.alloc (.cells #[.int .i64 a1_0, .bool false] 24)).alloc (.cells #[.int .i64 a2_0, .bool true] 24)) (.cells #[.int .i64 0, .bool false] 24)
      simp only [World.size_alloc] at HG
      refine bodyPost_ret (results_ct rfl _ _ (w.heap.size + 1 + 1) 24 #[.int .i64 0, .bool false] (0, 0) _ rfl HG Tryd.underlying24 rfl (by kernel_rfl)) rfl ?_
      exact ⟨rfl, by repeat (first | exact Below.refl _ _ | apply below_alloc)⟩
    · -- op 3, True, False
      obtain ⟨rfl, rfl, rfl⟩ : 0 = r1 ∧ false = r2 ∧ 4 = r3 := by simpa [word_CalcV] using h
      go_enter Tryd.func10, Tryd.ntmps10
      go_wp2
      have HG := heap_alloc_new ((w.alloc (.cells #[.int .i64 a1_0, .bool true] 24)).alloc (.cells #[.int .i64 a2_0, .bool false] 24)) (.cells #[.int .i64 0, .bool false] 24)
      simp only [World.size_alloc] at HG
      refine bodyPost_ret (results_ct rfl _ _ (w.heap.size + 1 + 1) 24 #[.int .i64 0, .bool false] (0, 0) _ rfl HG Tryd.underlying24 rfl (by kernel_rfl)) rfl ?_
      exact ⟨rfl, by repeat (first | exact Below.refl _ _ | apply below_alloc)⟩
    · -- op 3, True, True
      obtain ⟨rfl, rfl, rfl⟩ : 0 = r1 ∧ false = r2 ∧ 4 = r3 := by simpa [word_CalcV] using h
      go_enter Tryd.func10, Tryd.ntmps10
      go_wp2
      have HG := heap_alloc_new ((w.alloc (.cells #[.int .i64 a1_0, .bool true] 24)).alloc (.cells #[.int .i64 a2_0, .bool true] 24)) (.cells #[.int .i64 0, .bool false] 24)
      simp only [World.size_alloc] at HG
      refine bodyPost_ret (results_ct rfl _ _ (w.heap.size + 1 + 1) 24 #[.int .i64 0, .bool false] (0, 0) _ rfl HG Tryd.underlying24 rfl (by kernel_rfl)) rfl ?_
      exact ⟨rfl, by repeat (first | exact Below.refl _ _ | apply below_alloc)⟩
    · -- op 4, False, False
      obtain ⟨rfl, rfl, rfl⟩ : wrap64 (a1_0 - a2_0) = r1 ∧ false = r2 ∧ 0 = r3 := by simpa [word_CalcV] using h
      go_enter Tryd.func10, Tryd.ntmps10
      go_wp2
      have HG := heap_alloc_new (((w.alloc (.cells #[.int .i64 a1_0, .bool false] 24)).alloc (.cells #[.int .i64 a2_0, .bool false] 24)).alloc (.cells #[.int .i64 0, .bool false] 24)) (.cells #[.int .i64 (wrap64 (a1_0 - a2_0)), .bool false] 24)
      simp only [World.size_alloc] at HG
      refine bodyPost_ret (results_cell_row rfl _ _ (w.heap.size + 1 + 1 + 1) 24 _ (0, 0) _ rfl HG Tryd.underlying24 rfl (by kernel_rfl)) rfl ?_
      go_wp2
      have HG2 := blk_alloc (heap_alloc_new ((w.alloc (.cells #[.int .i64 a1_0, .bool false] 24)).alloc (.cells #[.int .i64 a2_0, .bool false] 24)) (.cells #[.int .i64 (wrap64 (a1_0 - a2_0)), .bool false] 24)) (.cells #[.int .i64 (wrap64 (a1_0 - a2_0)), .bool false] 24)
      simp only [World.size_alloc] at HG2
      refine bodyPost_ret (results_ct rfl _ _ (w.heap.size + 1 + 1) 24 _ (0, 0) _ rfl HG2 Tryd.underlying24 rfl (by kernel_rfl)) rfl ?_
      exact ⟨rfl, by repeat (first | exact Below.refl _ _ | apply below_alloc)⟩
    · -- op 4, False, True
      obtain ⟨rfl, rfl, rfl⟩ : 0 = r1 ∧ false = r2 ∧ 4 = r3 := by simpa [word_CalcV] using h
      go_enter Tryd.func10, Tryd.ntmps10
      go_wp2
      have HG := heap_alloc_new ((w.alloc (.cells #[.int .i64 a1_0, .bool false] 24)).alloc (.cells #[.int .i64 a2_0, .bool true] 24)) (.cells #[.int .i64 0, .bool false] 24)
      simp only [World.size_alloc] at HG
      refine bodyPost_ret (results_ct rfl _ _ (w.heap.size + 1 + 1) 24 #[.int .i64 0, .bool false] (0, 0) _ rfl HG Tryd.underlying24 rfl (by kernel_rfl)) rfl ?_
      exact ⟨rfl, by repeat (first | exact Below.refl _ _ | apply below_alloc)⟩
    · -- op 4, True, False
      obtain ⟨rfl, rfl, rfl⟩ : 0 = r1 ∧ false = r2 ∧ 4 = r3 := by simpa [word_CalcV] using h
      go_enter Tryd.func10, Tryd.ntmps10
      go_wp2
      have HG := heap_alloc_new ((w.alloc (.cells #[.int .i64 a1_0, .bool true] 24)).alloc (.cells #[.int .i64 a2_0, .bool false] 24)) (.cells #[.int .i64 0, .bool false] 24)
      simp only [World.size_alloc] at HG
      refine bodyPost_ret (results_ct rfl _ _ (w.heap.size + 1 + 1) 24 #[.int .i64 0, .bool false] (0, 0) _ rfl HG Tryd.underlying24 rfl (by kernel_rfl)) rfl ?_
      exact ⟨rfl, by repeat (first | exact Below.refl _ _ | apply below_alloc)⟩
    · -- op 4, True, True
      obtain ⟨rfl, rfl, rfl⟩ : 0 = r1 ∧ false = r2 ∧ 4 = r3 := by simpa [word_CalcV] using h
      go_enter Tryd.func10, Tryd.ntmps10
      go_wp2
      have HG := heap_alloc_new ((w.alloc (.cells #[.int .i64 a1_0, .bool true] 24)).alloc (.cells #[.int .i64 a2_0, .bool true] 24)) (.cells #[.int .i64 0, .bool false] 24)
      simp only [World.size_alloc] at HG
      refine bodyPost_ret (results_ct rfl _ _ (w.heap.size + 1 + 1) 24 #[.int .i64 0, .bool false] (0, 0) _ rfl HG Tryd.underlying24 rfl (by kernel_rfl)) rfl ?_
      exact ⟨rfl, by repeat (first | exact Below.refl _ _ | apply below_alloc)⟩
    · -- op 5, False, False
      obtain ⟨rfl, rfl, rfl⟩ : wrap64 (a1_0 * a2_0) = r1 ∧ false = r2 ∧ 0 = r3 := by simpa [word_CalcV] using h
      go_enter Tryd.func10, Tryd.ntmps10
      go_wp2
      have HG := heap_alloc_new (((w.alloc (.cells #[.int .i64 a1_0, .bool false] 24)).alloc (.cells #[.int .i64 a2_0, .bool false] 24)).alloc (.cells #[.int .i64 0, .bool false] 24)) (.cells #[.int .i64 (wrap64 (a1_0 * a2_0)), .bool false] 24)
      simp only [World.size_alloc] at HG
      refine bodyPost_ret (results_cell_row rfl _ _ (w.heap.size + 1 + 1 + 1) 24 _ (0, 0) _ rfl HG Tryd.underlying24 rfl (by kernel_rfl)) rfl ?_
      go_wp2
      have HG2 := blk_alloc (heap_alloc_new ((w.alloc (.cells #[.int .i64 a1_0, .bool false] 24)).alloc (.cells #[.int .i64 a2_0, .bool false] 24)) (.cells #[.int .i64 (wrap64 (a1_0 * a2_0)), .bool false] 24)) (.cells #[.int .i64 (wrap64 (a1_0 * a2_0)), .bool false] 24)
      simp only [World.size_alloc] at HG2
      refine bodyPost_ret (results_ct rfl _ _ (w.heap.size + 1 + 1) 24 _ (0, 0) _ rfl HG2 Tryd.underlying24 rfl (by kernel_rfl)) rfl ?_
      exact ⟨rfl, by repeat (first | exact Below.refl _ _ | apply below_alloc)⟩
    · -- op 5, False, True
      obtain ⟨rfl, rfl, rfl⟩ : 0 = r1 ∧ false = r2 ∧ 4 = r3 := by simpa [word_CalcV] using h
      go_enter Tryd.func10, Tryd.ntmps10
      go_wp2
      have HG := heap_alloc_new ((w.alloc (.cells #[.int .i64 a1_0, .bool false] 24)).alloc (.cells #[.int .i64 a2_0, .bool true] 24)) (.cells #[.int .i64 0, .bool false] 24)
      simp only [World.size_alloc] at HG
      refine bodyPost_ret (results_ct rfl _ _ (w.heap.size + 1 + 1) 24 #[.int .i64 0, .bool false] (0, 0) _ rfl HG Tryd.underlying24 rfl (by kernel_rfl)) rfl ?_
      exact ⟨rfl, by repeat (first | exact Below.refl _ _ | apply below_alloc)⟩
    · -- op 5, True, False
      obtain ⟨rfl, rfl, rfl⟩ : 0 = r1 ∧ false = r2 ∧ 4 = r3 := by simpa [word_CalcV] using h
      go_enter Tryd.func10, Tryd.ntmps10
      go_wp2
      have HG := heap_alloc_new ((w.alloc (.cells #[.int .i64 a1_0, .bool true] 24)).alloc (.cells #[.int .i64 a2_0, .bool false] 24)) (.cells #[.int .i64 0, .bool false] 24)
      simp only [World.size_alloc] at HG
      refine bodyPost_ret (results_ct rfl _ _ (w.heap.size + 1 + 1) 24 #[.int .i64 0, .bool false] (0, 0) _ rfl HG Tryd.underlying24 rfl (by kernel_rfl)) rfl ?_
      exact ⟨rfl, by repeat (first | exact Below.refl _ _ | apply below_alloc)⟩
    · -- op 5, True, True
      obtain ⟨rfl, rfl, rfl⟩ : 0 = r1 ∧ false = r2 ∧ 4 = r3 := by simpa [word_CalcV] using h
      go_enter Tryd.func10, Tryd.ntmps10
      go_wp2
      have HG := heap_alloc_new ((w.alloc (.cells #[.int .i64 a1_0, .bool true] 24)).alloc (.cells #[.int .i64 a2_0, .bool true] 24)) (.cells #[.int .i64 0, .bool false] 24)
      simp only [World.size_alloc] at HG
      refine bodyPost_ret (results_ct rfl _ _ (w.heap.size + 1 + 1) 24 #[.int .i64 0, .bool false] (0, 0) _ rfl HG Tryd.underlying24 rfl (by kernel_rfl)) rfl ?_
      exact ⟨rfl, by repeat (first | exact Below.refl _ _ | apply below_alloc)⟩
    · -- op 6, False, False
      obtain ⟨rfl, rfl, rfl⟩ : Go.bits .and .i64 a1_0 a2_0 = r1 ∧ false = r2 ∧ 0 = r3 := by simpa [word_CalcV] using h
      go_enter Tryd.func10, Tryd.ntmps10
      go_wp2
      have HG := heap_alloc_new (((w.alloc (.cells #[.int .i64 a1_0, .bool false] 24)).alloc (.cells #[.int .i64 a2_0, .bool false] 24)).alloc (.cells #[.int .i64 0, .bool false] 24)) (.cells #[.int .i64 (Go.bits .and .i64 a1_0 a2_0), .bool false] 24)
      simp only [World.size_alloc] at HG
      refine bodyPost_ret (results_cell_row rfl _ _ (w.heap.size + 1 + 1 + 1) 24 _ (0, 0) _ rfl HG Tryd.underlying24 rfl (by kernel_rfl)) rfl ?_
      go_wp2
      have HG2 := blk_alloc (heap_alloc_new ((w.alloc (.cells #[.int .i64 a1_0, .bool false] 24)).alloc (.cells #[.int .i64 a2_0, .bool false] 24)) (.cells #[.int .i64 (Go.bits .and .i64 a1_0 a2_0), .bool false] 24)) (.cells #[.int .i64 (Go.bits .and .i64 a1_0 a2_0), .bool false] 24)
      simp only [World.size_alloc] at HG2
      refine bodyPost_ret (results_ct rfl _ _ (w.heap.size + 1 + 1) 24 _ (0, 0) _ rfl HG2 Tryd.underlying24 rfl (by kernel_rfl)) rfl ?_
      exact ⟨rfl, by repeat (first | exact Below.refl _ _ | apply below_alloc)⟩
    · -- op 6, False, True
      obtain ⟨rfl, rfl, rfl⟩ : 0 = r1 ∧ false = r2 ∧ 4 = r3 := by simpa [word_CalcV] using h
      go_enter Tryd.func10, Tryd.ntmps10
      go_wp2
      have HG := heap_alloc_new ((w.alloc (.cells #[.int .i64 a1_0, .bool false] 24)).alloc (.cells #[.int .i64 a2_0, .bool true] 24)) (.cells #[.int .i64 0, .bool false] 24)
      simp only [World.size_alloc] at HG
      refine bodyPost_ret (results_ct rfl _ _ (w.heap.size + 1 + 1) 24 #[.int .i64 0, .bool false] (0, 0) _ rfl HG Tryd.underlying24 rfl (by kernel_rfl)) rfl ?_
      exact ⟨rfl, by repeat (first | exact Below.refl _ _ | apply below_alloc)⟩
    · -- op 6, True, False
      obtain ⟨rfl, rfl, rfl⟩ : 0 = r1 ∧ false = r2 ∧ 4 = r3 := by simpa [word_CalcV] using h
      go_enter Tryd.func10, Tryd.ntmps10
      go_wp2
      have HG := heap_alloc_new ((w.alloc (.cells #[.int .i64 a1_0, .bool true] 24)).alloc (.cells #[.int .i64 a2_0, .bool false] 24)) (.cells #[.int .i64 0, .bool false] 24)
      simp only [World.size_alloc] at HG
      refine bodyPost_ret (results_ct rfl _ _ (w.heap.size + 1 + 1) 24 #[.int .i64 0, .bool false] (0, 0) _ rfl HG Tryd.underlying24 rfl (by kernel_rfl)) rfl ?_
      exact ⟨rfl, by repeat (first | exact Below.refl _ _ | apply below_alloc)⟩
    · -- op 6, True, True
      obtain ⟨rfl, rfl, rfl⟩ : 0 = r1 ∧ false = r2 ∧ 4 = r3 := by simpa [word_CalcV] using h
      go_enter Tryd.func10, Tryd.ntmps10
      go_wp2
      have HG := heap_alloc_new ((w.alloc (.cells #[.int .i64 a1_0, .bool true] 24)).alloc (.cells #[.int .i64 a2_0, .bool true] 24)) (.cells #[.int .i64 0, .bool false] 24)
      simp only [World.size_alloc] at HG
      refine bodyPost_ret (results_ct rfl _ _ (w.heap.size + 1 + 1) 24 #[.int .i64 0, .bool false] (0, 0) _ rfl HG Tryd.underlying24 rfl (by kernel_rfl)) rfl ?_
      exact ⟨rfl, by repeat (first | exact Below.refl _ _ | apply below_alloc)⟩
    · -- op 7, False, False
      obtain ⟨rfl, rfl, rfl⟩ : Go.bits .or .i64 a1_0 a2_0 = r1 ∧ false = r2 ∧ 0 = r3 := by simpa [word_CalcV] using h
      go_enter Tryd.func10, Tryd.ntmps10
      go_wp2
      have HG := heap_alloc_new (((w.alloc (.cells #[.int .i64 a1_0, .bool false] 24)).alloc (.cells #[.int .i64 a2_0, .bool false] 24)).alloc (.cells #[.int .i64 0, .bool false] 24)) (.cells #[.int .i64 (Go.bits .or .i64 a1_0 a2_0), .bool false] 24)
      simp only [World.size_alloc] at HG
      refine bodyPost_ret (results_cell_row rfl _ _ (w.heap.size + 1 + 1 + 1) 24 _ (0, 0) _ rfl HG Tryd.underlying24 rfl (by kernel_rfl)) rfl ?_
      go_wp2
      have HG2 := blk_alloc (heap_alloc_new ((w.alloc (.cells #[.int .i64 a1_0, .bool false] 24)).alloc (.cells #[.int .i64 a2_0, .bool false] 24)) (.cells #[.int .i64 (Go.bits .or .i64 a1_0 a2_0), .bool false] 24)) (.cells #[.int .i64 (Go.bits .or .i64 a1_0 a2_0), .bool false] 24)
      simp only [World.size_alloc] at HG2
      refine bodyPost_ret (results_ct rfl _ _ (w.heap.size + 1 + 1) 24 _ (0, 0) _ rfl HG2 Tryd.underlying24 rfl (by kernel_rfl)) rfl ?_
      exact ⟨rfl, by repeat (first | exact Below.refl _ _ | apply below_alloc)⟩
    · -- op 7, False, True
      obtain ⟨rfl, rfl, rfl⟩ : 0 = r1 ∧ false = r2 ∧ 4 = r3 := by simpa [word_CalcV] using h
      go_enter Tryd.func10, Tryd.ntmps10
      go_wp2
      have HG := heap_alloc_new ((w.alloc (.cells #[.int .i64 a1_0, .bool false] 24)).alloc (.cells #[.int .i64 a2_0, .bool true] 24)) (.cells #[.int .i64 0, .bool false] 24)
      simp only [World.size_alloc] at HG
      refine bodyPost_ret (results_ct rfl _ _ (w.heap.size + 1 + 1) 24 #[.int .i64 0, .bool false] (0, 0) _ rfl HG Tryd.underlying24 rfl (by kernel_rfl)) rfl ?_
      exact ⟨rfl, by repeat (first | exact Below.refl _ _ | apply below_alloc)⟩
    · -- op 7, True, False
      obtain ⟨rfl, rfl, rfl⟩ : 0 = r1 ∧ false = r2 ∧ 4 = r3 := by simpa [word_CalcV] using h
      go_enter Tryd.func10, Tryd.ntmps10
      go_wp2
      have HG := heap_alloc_new ((w.alloc (.cells #[.int .i64 a1_0, .bool true] 24)).alloc (.cells #[.int .i64 a2_0, .bool false] 24)) (.cells #[.int .i64 0, .bool false] 24)
      simp only [World.size_alloc] at HG
      refine bodyPost_ret (results_ct rfl _ _ (w.heap.size + 1 + 1) 24 #[.int .i64 0, .bool false] (0, 0) _ rfl HG Tryd.underlying24 rfl (by kernel_rfl)) rfl ?_
      exact ⟨rfl, by repeat (first | exact Below.refl _ _ | apply below_alloc)⟩
    · -- op 7, True, True
      obtain ⟨rfl, rfl, rfl⟩ : 0 = r1 ∧ false = r2 ∧ 4 = r3 := by simpa [word_CalcV] using h
      go_enter Tryd.func10, Tryd.ntmps10
      go_wp2
      have HG := heap_alloc_new ((w.alloc (.cells #[.int .i64 a1_0, .bool true] 24)).alloc (.cells #[.int .i64 a2_0, .bool true] 24)) (.cells #[.int .i64 0, .bool false] 24)
      simp only [World.size_alloc] at HG
      refine bodyPost_ret (results_ct rfl _ _ (w.heap.size + 1 + 1) 24 #[.int .i64 0, .bool false] (0, 0) _ rfl HG Tryd.underlying24 rfl (by kernel_rfl)) rfl ?_
      exact ⟨rfl, by repeat (first | exact Below.refl _ _ | apply below_alloc)⟩
    · -- op 8, False, False
      obtain ⟨rfl, rfl, rfl⟩ : Go.bits .xor .i64 a1_0 a2_0 = r1 ∧ false = r2 ∧ 0 = r3 := by simpa [word_CalcV] using h
      go_enter Tryd.func10, Tryd.ntmps10
      go_wp2
      have HG := heap_alloc_new (((w.alloc (.cells #[.int .i64 a1_0, .bool false] 24)).alloc (.cells #[.int .i64 a2_0, .bool false] 24)).alloc (.cells #[.int .i64 0, .bool false] 24)) (.cells #[.int .i64 (Go.bits .xor .i64 a1_0 a2_0), .bool false] 24)
      simp only [World.size_alloc] at HG
      refine bodyPost_ret (results_cell_row rfl _ _ (w.heap.size + 1 + 1 + 1) 24 _ (0, 0) _ rfl HG Tryd.underlying24 rfl (by kernel_rfl)) rfl ?_
      go_wp2
      have HG2 := blk_alloc (heap_alloc_new ((w.alloc (.cells #[.int .i64 a1_0, .bool false] 24)).alloc (.cells #[.int .i64 a2_0, .bool false] 24)) (.cells #[.int .i64 (Go.bits .xor .i64 a1_0 a2_0), .bool false] 24)) (.cells #[.int .i64 (Go.bits .xor .i64 a1_0 a2_0), .bool false] 24)
      simp only [World.size_alloc] at HG2
      refine bodyPost_ret (results_ct rfl _ _ (w.heap.size + 1 + 1) 24 _ (0, 0) _ rfl HG2 Tryd.underlying24 rfl (by kernel_rfl)) rfl ?_
      exact ⟨rfl, by repeat (first | exact Below.refl _ _ | apply below_alloc)⟩
    · -- op 8, False, True
      obtain ⟨rfl, rfl, rfl⟩ : 0 = r1 ∧ false = r2 ∧ 4 = r3 := by simpa [word_CalcV] using h
      go_enter Tryd.func10, Tryd.ntmps10
      go_wp2
      have HG := heap_alloc_new ((w.alloc (.cells #[.int .i64 a1_0, .bool false] 24)).alloc (.cells #[.int .i64 a2_0, .bool true] 24)) (.cells #[.int .i64 0, .bool false] 24)
      simp only [World.size_alloc] at HG
      refine bodyPost_ret (results_ct rfl _ _ (w.heap.size + 1 + 1) 24 #[.int .i64 0, .bool false] (0, 0) _ rfl HG Tryd.underlying24 rfl (by kernel_rfl)) rfl ?_
      exact ⟨rfl, by repeat (first | exact Below.refl _ _ | apply below_alloc)⟩
    · -- op 8, True, False
      obtain ⟨rfl, rfl, rfl⟩ : 0 = r1 ∧ false = r2 ∧ 4 = r3 := by simpa [word_CalcV] using h
      go_enter Tryd.func10, Tryd.ntmps10
      go_wp2
      have HG := heap_alloc_new ((w.alloc (.cells #[.int .i64 a1_0, .bool true] 24)).alloc (.cells #[.int .i64 a2_0, .bool false] 24)) (.cells #[.int .i64 0, .bool false] 24)
      simp only [World.size_alloc] at HG
      refine bodyPost_ret (results_ct rfl _ _ (w.heap.size + 1 + 1) 24 #[.int .i64 0, .bool false] (0, 0) _ rfl HG Tryd.underlying24 rfl (by kernel_rfl)) rfl ?_
      exact ⟨rfl, by repeat (first | exact Below.refl _ _ | apply below_alloc)⟩
    · -- op 8, True, True
      obtain ⟨rfl, rfl, rfl⟩ : 0 = r1 ∧ false = r2 ∧ 4 = r3 := by simpa [word_CalcV] using h
      go_enter Tryd.func10, Tryd.ntmps10
      go_wp2
      have HG := heap_alloc_new ((w.alloc (.cells #[.int .i64 a1_0, .bool true] 24)).alloc (.cells #[.int .i64 a2_0, .bool true] 24)) (.cells #[.int .i64 0, .bool false] 24)
      simp only [World.size_alloc] at HG
      refine bodyPost_ret (results_ct rfl _ _ (w.heap.size + 1 + 1) 24 #[.int .i64 0, .bool false] (0, 0) _ rfl HG Tryd.underlying24 rfl (by kernel_rfl)) rfl ?_
      exact ⟨rfl, by repeat (first | exact Below.refl _ _ | apply below_alloc)⟩
    · -- op 9, False, False
      by_cases hc : a1_0 < a2_0
      · obtain ⟨rfl, rfl, rfl⟩ : 1 = r1 ∧ false = r2 ∧ 0 = r3 := by simpa [word_CalcV, hc] using h
        have hb : decide (a1_0 < a2_0) = true := by simp [hc]
        clear hc
        go_enter Tryd.func10, Tryd.ntmps10
        go_wp2
        have HG := heap_alloc_new (((w.alloc (.cells #[.int .i64 a1_0, .bool false] 24)).alloc (.cells #[.int .i64 a2_0, .bool false] 24)).alloc (.cells #[.int .i64 0, .bool false] 24)) (.cells #[.int .i64 (1), .bool false] 24)
        simp only [World.size_alloc] at HG
        refine bodyPost_ret (results_cell_row rfl _ _ (w.heap.size + 1 + 1 + 1) 24 _ (0, 0) _ rfl HG Tryd.underlying24 rfl (by kernel_rfl)) rfl ?_
        go_wp2
        have HG2 := blk_alloc (heap_alloc_new ((w.alloc (.cells #[.int .i64 a1_0, .bool false] 24)).alloc (.cells #[.int .i64 a2_0, .bool false] 24)) (.cells #[.int .i64 (1), .bool false] 24)) (.cells #[.int .i64 (1), .bool false] 24)
        simp only [World.size_alloc] at HG2
        refine bodyPost_ret (results_ct rfl _ _ (w.heap.size + 1 + 1) 24 _ (0, 0) _ rfl HG2 Tryd.underlying24 rfl (by kernel_rfl)) rfl ?_
        exact ⟨rfl, by repeat (first | exact Below.refl _ _ | apply below_alloc)⟩
      · obtain ⟨rfl, rfl, rfl⟩ : 0 = r1 ∧ false = r2 ∧ 0 = r3 := by simpa [word_CalcV, hc] using h
        have hb : decide (a1_0 < a2_0) = false := by simp [hc]
        clear hc
        go_enter Tryd.func10, Tryd.ntmps10
        go_wp2
        have HG := heap_alloc_new (((w.alloc (.cells #[.int .i64 a1_0, .bool false] 24)).alloc (.cells #[.int .i64 a2_0, .bool false] 24)).alloc (.cells #[.int .i64 0, .bool false] 24)) (.cells #[.int .i64 (0), .bool false] 24)
        simp only [World.size_alloc] at HG
        refine bodyPost_ret (results_cell_row rfl _ _ (w.heap.size + 1 + 1 + 1) 24 _ (0, 0) _ rfl HG Tryd.underlying24 rfl (by kernel_rfl)) rfl ?_
        go_wp2
        have HG2 := blk_alloc (heap_alloc_new ((w.alloc (.cells #[.int .i64 a1_0, .bool false] 24)).alloc (.cells #[.int .i64 a2_0, .bool false] 24)) (.cells #[.int .i64 (0), .bool false] 24)) (.cells #[.int .i64 (0), .bool false] 24)
        simp only [World.size_alloc] at HG2
        refine bodyPost_ret (results_ct rfl _ _ (w.heap.size + 1 + 1) 24 _ (0, 0) _ rfl HG2 Tryd.underlying24 rfl (by kernel_rfl)) rfl ?_
        exact ⟨rfl, by repeat (first | exact Below.refl _ _ | apply below_alloc)⟩
    · -- op 9, False, True
      obtain ⟨rfl, rfl, rfl⟩ : 0 = r1 ∧ false = r2 ∧ 4 = r3 := by simpa [word_CalcV] using h
      go_enter Tryd.func10, Tryd.ntmps10
      go_wp2
      have HG := heap_alloc_new ((w.alloc (.cells #[.int .i64 a1_0, .bool false] 24)).alloc (.cells #[.int .i64 a2_0, .bool true] 24)) (.cells #[.int .i64 0, .bool false] 24)
      simp only [World.size_alloc] at HG
      refine bodyPost_ret (results_ct rfl _ _ (w.heap.size + 1 + 1) 24 #[.int .i64 0, .bool false] (0, 0) _ rfl HG Tryd.underlying24 rfl (by kernel_rfl)) rfl ?_
      exact ⟨rfl, by repeat (first | exact Below.refl _ _ | apply below_alloc)⟩
    · -- op 9, True, False
      obtain ⟨rfl, rfl, rfl⟩ : 0 = r1 ∧ false = r2 ∧ 4 = r3 := by simpa [word_CalcV] using h
      go_enter Tryd.func10, Tryd.ntmps10
      go_wp2
      have HG := heap_alloc_new ((w.alloc (.cells #[.int .i64 a1_0, .bool true] 24)).alloc (.cells #[.int .i64 a2_0, .bool false] 24)) (.cells #[.int .i64 0, .bool false] 24)
      simp only [World.size_alloc] at HG
      refine bodyPost_ret (results_ct rfl _ _ (w.heap.size + 1 + 1) 24 #[.int .i64 0, .bool false] (0, 0) _ rfl HG Tryd.underlying24 rfl (by kernel_rfl)) rfl ?_
      exact ⟨rfl, by repeat (first | exact Below.refl _ _ | apply below_alloc)⟩
    · -- op 9, True, True
      obtain ⟨rfl, rfl, rfl⟩ : 0 = r1 ∧ false = r2 ∧ 4 = r3 := by simpa [word_CalcV] using h
      go_enter Tryd.func10, Tryd.ntmps10
      go_wp2
      have HG := heap_alloc_new ((w.alloc (.cells #[.int .i64 a1_0, .bool true] 24)).alloc (.cells #[.int .i64 a2_0, .bool true] 24)) (.cells #[.int .i64 0, .bool false] 24)
      simp only [World.size_alloc] at HG
      refine bodyPost_ret (results_ct rfl _ _ (w.heap.size + 1 + 1) 24 #[.int .i64 0, .bool false] (0, 0) _ rfl HG Tryd.underlying24 rfl (by kernel_rfl)) rfl ?_
      exact ⟨rfl, by repeat (first | exact Below.refl _ _ | apply below_alloc)⟩
    · -- op 10, False, False
      by_cases hc : a1_0 = a2_0
      · obtain ⟨rfl, rfl, rfl⟩ : 1 = r1 ∧ false = r2 ∧ 0 = r3 := by simpa [word_CalcV, hc] using h
        have hb : (a1_0 == a2_0) = true := by simp [hc]
        clear hc
        go_enter Tryd.func10, Tryd.ntmps10
        go_wp2
        have HG := heap_alloc_new (((w.alloc (.cells #[.int .i64 a1_0, .bool false] 24)).alloc (.cells #[.int .i64 a2_0, .bool false] 24)).alloc (.cells #[.int .i64 0, .bool false] 24)) (.cells #[.int .i64 (1), .bool false] 24)
        simp only [World.size_alloc] at HG
        refine bodyPost_ret (results_cell_row rfl _ _ (w.heap.size + 1 + 1 + 1) 24 _ (0, 0) _ rfl HG Tryd.underlying24 rfl (by kernel_rfl)) rfl ?_
        go_wp2
        have HG2 := blk_alloc (heap_alloc_new ((w.alloc (.cells #[.int .i64 a1_0, .bool false] 24)).alloc (.cells #[.int .i64 a2_0, .bool false] 24)) (.cells #[.int .i64 (1), .bool false] 24)) (.cells #[.int .i64 (1), .bool false] 24)
        simp only [World.size_alloc] at HG2
        refine bodyPost_ret (results_ct rfl _ _ (w.heap.size + 1 + 1) 24 _ (0, 0) _ rfl HG2 Tryd.underlying24 rfl (by kernel_rfl)) rfl ?_
        exact ⟨rfl, by repeat (first | exact Below.refl _ _ | apply below_alloc)⟩
      · obtain ⟨rfl, rfl, rfl⟩ : 0 = r1 ∧ false = r2 ∧ 0 = r3 := by simpa [word_CalcV, hc] using h
        have hb : (a1_0 == a2_0) = false := by simp [hc]
        clear hc
        go_enter Tryd.func10, Tryd.ntmps10
        go_wp2
        have HG := heap_alloc_new (((w.alloc (.cells #[.int .i64 a1_0, .bool false] 24)).alloc (.cells #[.int .i64 a2_0, .bool false] 24)).alloc (.cells #[.int .i64 0, .bool false] 24)) (.cells #[.int .i64 (0), .bool false] 24)
        simp only [World.size_alloc] at HG
        refine bodyPost_ret (results_cell_row rfl _ _ (w.heap.size + 1 + 1 + 1) 24 _ (0, 0) _ rfl HG Tryd.underlying24 rfl (by kernel_rfl)) rfl ?_
        go_wp2
        have HG2 := blk_alloc (heap_alloc_new ((w.alloc (.cells #[.int .i64 a1_0, .bool false] 24)).alloc (.cells #[.int .i64 a2_0, .bool false] 24)) (.cells #[.int .i64 (0), .bool false] 24)) (.cells #[.int .i64 (0), .bool false] 24)
        simp only [World.size_alloc] at HG2
        refine bodyPost_ret (results_ct rfl _ _ (w.heap.size + 1 + 1) 24 _ (0, 0) _ rfl HG2 Tryd.underlying24 rfl (by kernel_rfl)) rfl ?_
        exact ⟨rfl, by repeat (first | exact Below.refl _ _ | apply below_alloc)⟩
    · -- op 10, False, True
      obtain ⟨rfl, rfl, rfl⟩ : 0 = r1 ∧ false = r2 ∧ 4 = r3 := by simpa [word_CalcV] using h
      go_enter Tryd.func10, Tryd.ntmps10
      go_wp2
      have HG := heap_alloc_new ((w.alloc (.cells #[.int .i64 a1_0, .bool false] 24)).alloc (.cells #[.int .i64 a2_0, .bool true] 24)) (.cells #[.int .i64 0, .bool false] 24)
      simp only [World.size_alloc] at HG
      refine bodyPost_ret (results_ct rfl _ _ (w.heap.size + 1 + 1) 24 #[.int .i64 0, .bool false] (0, 0) _ rfl HG Tryd.underlying24 rfl (by kernel_rfl)) rfl ?_
      exact ⟨rfl, by repeat (first | exact Below.refl _ _ | apply below_alloc)⟩
    · -- op 10, True, False
      obtain ⟨rfl, rfl, rfl⟩ : 0 = r1 ∧ false = r2 ∧ 4 = r3 := by simpa [word_CalcV] using h
      go_enter Tryd.func10, Tryd.ntmps10
      go_wp2
      have HG := heap_alloc_new ((w.alloc (.cells #[.int .i64 a1_0, .bool true] 24)).alloc (.cells #[.int .i64 a2_0, .bool false] 24)) (.cells #[.int .i64 0, .bool false] 24)
      simp only [World.size_alloc] at HG
      refine bodyPost_ret (results_ct rfl _ _ (w.heap.size + 1 + 1) 24 #[.int .i64 0, .bool false] (0, 0) _ rfl HG Tryd.underlying24 rfl (by kernel_rfl)) rfl ?_
      exact ⟨rfl, by repeat (first | exact Below.refl _ _ | apply below_alloc)⟩
    · -- op 10, True, True
      by_cases hc : a1_0 = a2_0
      · obtain ⟨rfl, rfl, rfl⟩ : 1 = r1 ∧ false = r2 ∧ 0 = r3 := by simpa [word_CalcV, hc] using h
        have hb : (a1_0 == a2_0) = true := by simp [hc]
        clear hc
        go_enter Tryd.func10, Tryd.ntmps10
        go_wp2
        have HG := heap_alloc_new (((w.alloc (.cells #[.int .i64 a1_0, .bool true] 24)).alloc (.cells #[.int .i64 a2_0, .bool true] 24)).alloc (.cells #[.int .i64 0, .bool false] 24)) (.cells #[.int .i64 (1), .bool false] 24)
        simp only [World.size_alloc] at HG
        refine bodyPost_ret (results_cell_row rfl _ _ (w.heap.size + 1 + 1 + 1) 24 _ (0, 0) _ rfl HG Tryd.underlying24 rfl (by kernel_rfl)) rfl ?_
        go_wp2
        have HG2 := blk_alloc (heap_alloc_new ((w.alloc (.cells #[.int .i64 a1_0, .bool true] 24)).alloc (.cells #[.int .i64 a2_0, .bool true] 24)) (.cells #[.int .i64 (1), .bool false] 24)) (.cells #[.int .i64 (1), .bool false] 24)
        simp only [World.size_alloc] at HG2
        refine bodyPost_ret (results_ct rfl _ _ (w.heap.size + 1 + 1) 24 _ (0, 0) _ rfl HG2 Tryd.underlying24 rfl (by kernel_rfl)) rfl ?_
        exact ⟨rfl, by repeat (first | exact Below.refl _ _ | apply below_alloc)⟩
      · obtain ⟨rfl, rfl, rfl⟩ : 0 = r1 ∧ false = r2 ∧ 0 = r3 := by simpa [word_CalcV, hc] using h
        have hb : (a1_0 == a2_0) = false := by simp [hc]
        clear hc
        go_enter Tryd.func10, Tryd.ntmps10
        go_wp2
        have HG := heap_alloc_new (((w.alloc (.cells #[.int .i64 a1_0, .bool true] 24)).alloc (.cells #[.int .i64 a2_0, .bool true] 24)).alloc (.cells #[.int .i64 0, .bool false] 24)) (.cells #[.int .i64 (0), .bool false] 24)
        simp only [World.size_alloc] at HG
        refine bodyPost_ret (results_cell_row rfl _ _ (w.heap.size + 1 + 1 + 1) 24 _ (0, 0) _ rfl HG Tryd.underlying24 rfl (by kernel_rfl)) rfl ?_
        go_wp2
        have HG2 := blk_alloc (heap_alloc_new ((w.alloc (.cells #[.int .i64 a1_0, .bool true] 24)).alloc (.cells #[.int .i64 a2_0, .bool true] 24)) (.cells #[.int .i64 (0), .bool false] 24)) (.cells #[.int .i64 (0), .bool false] 24)
        simp only [World.size_alloc] at HG2
        refine bodyPost_ret (results_ct rfl _ _ (w.heap.size + 1 + 1) 24 _ (0, 0) _ rfl HG2 Tryd.underlying24 rfl (by kernel_rfl)) rfl ?_
        exact ⟨rfl, by repeat (first | exact Below.refl _ _ | apply below_alloc)⟩
  · rw [if_neg hop] at h
    cases h
    have b3 : (a0 == 3) = false := beq_eq_false_iff_ne.2 (by omega)
    have b4 : (a0 == 4) = false := beq_eq_false_iff_ne.2 (by omega)
    have b5 : (a0 == 5) = false := beq_eq_false_iff_ne.2 (by omega)
    have b6 : (a0 == 6) = false := beq_eq_false_iff_ne.2 (by omega)
    have b7 : (a0 == 7) = false := beq_eq_false_iff_ne.2 (by omega)
    have b8 : (a0 == 8) = false := beq_eq_false_iff_ne.2 (by omega)
    have b9 : (a0 == 9) = false := beq_eq_false_iff_ne.2 (by omega)
    have b10 : (a0 == 10) = false := beq_eq_false_iff_ne.2 (by omega)
    go_enter Tryd.func10, Tryd.ntmps10
    go_wp2
    have HG := heap_alloc_new ((w.alloc (.cells #[.int .i64 a1_0, .bool a1_1] 24)).alloc (.cells #[.int .i64 a2_0, .bool a2_1] 24)) (.cells #[.int .i64 0, .bool false] 24)
    simp only [World.size_alloc] at HG
    refine bodyPost_ret (results_ct rfl _ _ (w.heap.size + 1 + 1) 24 #[.int .i64 0, .bool false] (0, 0) _ rfl HG Tryd.underlying24 rfl (by kernel_rfl)) rfl ?_
    exact ⟨rfl, by repeat (first | exact Below.refl _ _ | apply below_alloc)⟩

/-! ### word_Plain: function 12 -/
def word_Plain.f (a0 : Int) : Option (Int × Bool) := some (a0, false)
set_option maxHeartbeats 8000000 in
set_option maxRecDepth 100000 in
theorem word_Plain.calls (a0 : Int) (r1 : Int) (r2 : Bool) (w : World) (h : word_Plain.f a0 = some (r1, r2)) :
    Calls Tryd.prog 12 #[.int .i64 a0] w fun e w' => e = .returned (.agg #[.int .i64 r1, .bool r2]) ∧ Below w.heap.size w w' := by
  have hu24 := Tryd.underlying24
  have HB := Aside0.mk (Below.refl w.heap.size w)
  have H : (some (a0, false)) = some (r1, r2) := h
  clear h
  simp only [Option.some.injEq, Prod.mk.injEq] at H
  obtain ⟨rfl, rfl⟩ := H
  go_enter Tryd.func12, Tryd.ntmps12
  go_wp2_with (first | ((with_reducible refine gate_dst (N := 2) rfl ?_); refine box_event ?hg (N := 2) ?hd (cs := #[.int .i64 0, .bool false]) (t := 24) ?hr ?_; (case hd => rfl); (case hg => rfl); (case hr => first | (go_simp; done) | (go_simp; rfl)); intro gb101 hg w2 hbox hb; have n0_ := Aside0.mk (below_step (by repeat (first | (with_reducible first | exact HB.out | apply below_alloc | apply pw_below_drewN | apply below_drew1) | exact HB.out)) hb); have n1_ := Aside0.mk (hbox); have n2_ := Aside0.mk ((by rw [hg]; exact (below_size (by repeat (first | (with_reducible first | exact HB.out | apply below_alloc | apply pw_below_drewN | apply below_drew1) | exact HB.out))) : w.heap.size ≤ gb101)); have n3_ := Aside0.mk ((by rw [hg]; exact (below_size (by repeat (first | (with_reducible first | exact HB.out | apply below_alloc | apply pw_below_drewN | apply below_drew1) | exact HB.out))) : w.heap.size ≤ gb101)); clear HB; have HB := n0_; have BK101 := n1_; have GW101 := n2_; have GE101 := n3_; clear n0_ n1_ n2_ n3_; clear hb hbox hg; have hcz3_0 : w2.cell? ⟨gb101, 0, none⟩ = some (.int .i64 0) := (blk_cell BK101.out 0).trans rfl; have hcz3_1 : w2.cell? ⟨gb101, 1, none⟩ = some (.bool false) := (blk_cell BK101.out 1).trans rfl; have hfz3_0 := blk_frozen BK101.out 0; have hfz3_1 := blk_frozen BK101.out 1))
  refine bodyPost_ret (results_cell_row rfl _ _ gb101 24 #[.int .i64 a0, .bool false] (0, 0) _ rfl (by (with_reducible repeat (first | refine blk_drewN ?_ _ | refine blk_drew ?_ | refine blk_alloc ?_ _)); refine blk_put (cs := #[.int .i64 a0, .bool false]) ?_ 1 _ rfl; (with_reducible repeat (first | refine blk_drewN ?_ _ | refine blk_drew ?_ | refine blk_alloc ?_ _)); refine blk_put (cs := #[.int .i64 0, .bool false]) ?_ 0 _ rfl; (with_reducible repeat (first | refine blk_drewN ?_ _ | refine blk_drew ?_ | refine blk_alloc ?_ _)); exact BK101.out) Tryd.underlying24 rfl (by kernel_rfl)) rfl ?_
  exact ⟨by first | rfl | (simp [errW_none, errW_some] <;> rfl) | (simp [*, errW_none, errW_some] <;> rfl), by repeat (first | (with_reducible first | exact HB.out | apply below_alloc | apply pw_below_drewN | apply below_drew1 | refine below_set ?_ GE101.out) | exact HB.out)⟩

/-! ### word_Sealed: function 13 -/
def word_Sealed.f (a0 : Int) : Option (Int × Bool) := some (a0, true)
set_option maxHeartbeats 8000000 in
set_option maxRecDepth 100000 in
theorem word_Sealed.calls (a0 : Int) (r1 : Int) (r2 : Bool) (w : World) (h : word_Sealed.f a0 = some (r1, r2)) :
    Calls Tryd.prog 13 #[.int .i64 a0] w fun e w' => e = .returned (.agg #[.int .i64 r1, .bool r2]) ∧ Below w.heap.size w w' := by
  have hu24 := Tryd.underlying24
  have HB := Aside0.mk (Below.refl w.heap.size w)
  have H : (some (a0, true)) = some (r1, r2) := h
  clear h
  simp only [Option.some.injEq, Prod.mk.injEq] at H
  obtain ⟨rfl, rfl⟩ := H
  go_enter Tryd.func13, Tryd.ntmps13
  go_wp2_with (first | ((with_reducible refine gate_dst (N := 2) rfl ?_); refine box_event ?hg (N := 2) ?hd (cs := #[.int .i64 0, .bool false]) (t := 24) ?hr ?_; (case hd => rfl); (case hg => rfl); (case hr => first | (go_simp; done) | (go_simp; rfl)); intro gb102 hg w2 hbox hb; have n0_ := Aside0.mk (below_step (by repeat (first | (with_reducible first | exact HB.out | apply below_alloc | apply pw_below_drewN | apply below_drew1) | exact HB.out)) hb); have n1_ := Aside0.mk (hbox); have n2_ := Aside0.mk ((by rw [hg]; exact (below_size (by repeat (first | (with_reducible first | exact HB.out | apply below_alloc | apply pw_below_drewN | apply below_drew1) | exact HB.out))) : w.heap.size ≤ gb102)); have n3_ := Aside0.mk ((by rw [hg]; exact (below_size (by repeat (first | (with_reducible first | exact HB.out | apply below_alloc | apply pw_below_drewN | apply below_drew1) | exact HB.out))) : w.heap.size ≤ gb102)); clear HB; have HB := n0_; have BK102 := n1_; have GW102 := n2_; have GE102 := n3_; clear n0_ n1_ n2_ n3_; clear hb hbox hg; have hcz3_0 : w2.cell? ⟨gb102, 0, none⟩ = some (.int .i64 0) := (blk_cell BK102.out 0).trans rfl; have hcz3_1 : w2.cell? ⟨gb102, 1, none⟩ = some (.bool false) := (blk_cell BK102.out 1).trans rfl; have hfz3_0 := blk_frozen BK102.out 0; have hfz3_1 := blk_frozen BK102.out 1))
  refine bodyPost_ret (results_cell_row rfl _ _ gb102 24 #[.int .i64 a0, .bool true] (0, 0) _ rfl (by (with_reducible repeat (first | refine blk_drewN ?_ _ | refine blk_drew ?_ | refine blk_alloc ?_ _)); refine blk_put (cs := #[.int .i64 a0, .bool false]) ?_ 1 _ rfl; (with_reducible repeat (first | refine blk_drewN ?_ _ | refine blk_drew ?_ | refine blk_alloc ?_ _)); refine blk_put (cs := #[.int .i64 0, .bool false]) ?_ 0 _ rfl; (with_reducible repeat (first | refine blk_drewN ?_ _ | refine blk_drew ?_ | refine blk_alloc ?_ _)); exact BK102.out) Tryd.underlying24 rfl (by kernel_rfl)) rfl ?_
  exact ⟨by first | rfl | (simp [errW_none, errW_some] <;> rfl) | (simp [*, errW_none, errW_some] <;> rfl), by repeat (first | (with_reducible first | exact HB.out | apply below_alloc | apply pw_below_drewN | apply below_drew1 | refine below_set ?_ GE102.out) | exact HB.out)⟩

/-! ### word_Text: function 41, by hand -/
def word_Text.f (a0_0 : Int) (a0_1 : Bool) : Option ByteArray := if a0_0 = 7 ∧ a0_1 = true then some ⟨#[64, 55]⟩ else none
set_option maxRecDepth 100000 in
set_option maxHeartbeats 4000000 in
theorem word_Text.calls (a0_0 : Int) (a0_1 : Bool) (r : ByteArray) (w : World) (h : word_Text.f a0_0 a0_1 = some r) :
    Calls Tryd.prog 41 #[.agg #[.int .i64 a0_0, .bool a0_1]] w fun e w' => e = .returned (.string r) ∧ Below w.heap.size w w' := by
  unfold word_Text.f at h
  by_cases hc : a0_0 = 7 ∧ a0_1 = true
  · rw [if_pos hc] at h
    obtain ⟨rfl, rfl⟩ := hc
    cases h
    go_enter Tryd.func41, Tryd.ntmps41
    go_wp2
    go_ret
    exact ⟨by first | rfl | decide | (congr 2; decide), by repeat (first | exact Below.refl _ _ | apply below_alloc)⟩
  · rw [if_neg hc] at h
    cases h

end Go.Proofs.YthkiapcoagjjpaaDoor.PWordSeals
