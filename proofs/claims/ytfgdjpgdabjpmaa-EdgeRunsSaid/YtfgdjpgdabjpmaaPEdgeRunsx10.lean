-- Written for this claim by a program of this session (wip/tools/pp.py, over the kit's print).
import Derived.Test.YtfgdjpgdabjpmaaPEdgeRunsx0
namespace Go.Proofs.Ytfgdjpgdabjpmaa.PEdgeRuns
open Go.RowKit Go.Proofs.YtfgdjpgdabjpmaaW.PrintWords Go.Proofs.YtfgdjpgdabjpmaaW.PrintLast Go.Proofs.YtfgdjpgdabjpmaaW.PrintMore
attribute [local go_sem] max2_int min2_int max_two min_two max_three min_three max_four min_four   -- for this text's walks alone
set_option linter.unusedVariables false
set_option linter.unusedSimpArgs false

/-! ### word_Calc: function 140, by hand -/
def word_CalcV (op a b : Int) : Int :=
  if op = 3 then wrap64 (a + b) else if op = 4 then wrap64 (a - b) else if op = 5 then wrap64 (a * b) else if op = 6 then Go.bits .and .i64 a b else if op = 7 then Go.bits .or .i64 a b else if op = 8 then Go.bits .xor .i64 a b else if op = 9 then (if a < b then 1 else 0) else (if a = b then 1 else 0)
def word_Calc.f (a0 : Int) (a1_0 : Int) (a1_1 : Bool) (a2_0 : Int) (a2_1 : Bool) : Option (Int × Bool × Int) :=
  if 3 ≤ a0 ∧ a0 ≤ 10 then (if a1_1 ≠ a2_1 ∨ a1_1 = true ∧ a0 ≠ 10 then some (0, false, 4) else some (word_CalcV a0 a1_0 a2_0, false, 0)) else some (0, false, 3)
set_option maxRecDepth 100000 in
set_option maxHeartbeats 4000000 in
theorem word_Calc.calls (a0 a1_0 : Int) (a1_1 : Bool) (a2_0 : Int) (a2_1 : Bool) (r1 : Int) (r2 : Bool) (r3 : Int) (w : World) (h : word_Calc.f a0 a1_0 a1_1 a2_0 a2_1 = some (r1, r2, r3)) :
    Calls Try.prog 140 #[.int .i8 a0, .agg #[.int .i64 a1_0, .bool a1_1], .agg #[.int .i64 a2_0, .bool a2_1]] w fun e w' => e = .returned (.tuple #[.agg #[.int .i64 r1, .bool r2], .int .i8 r3]) ∧ Below w.heap.size w w' := by
  have hn1 : ∀ w : World, (binOp .eql 182 .nilFunc .nilFunc).run Try.prog w = .ok (.bool true) w := fun w => by rfl
  have hn2 : ∀ (f : Nat) (w : World), (binOp .eql 182 (.func (.func f) #[] #[]) .nilFunc).run Try.prog w = .ok (.bool false) w := fun f w => by rfl
  unfold word_Calc.f at h
  by_cases hop : 3 ≤ a0 ∧ a0 ≤ 10
  · rw [if_pos hop] at h
    have hops : a0 = 3 ∨ a0 = 4 ∨ a0 = 5 ∨ a0 = 6 ∨ a0 = 7 ∨ a0 = 8 ∨ a0 = 9 ∨ a0 = 10 := by omega
    rcases hops with rfl | rfl | rfl | rfl | rfl | rfl | rfl | rfl <;> cases a1_1 <;> cases a2_1
    · -- op 3, False, False
      obtain ⟨rfl, rfl, rfl⟩ : wrap64 (a1_0 + a2_0) = r1 ∧ false = r2 ∧ 0 = r3 := by simpa [word_CalcV] using h
      go_enter Try.func140, Try.ntmps140
      go_wp2
      have HG := heap_alloc_new (((w.alloc (.cells #[.int .i64 a1_0, .bool false] 106)).alloc (.cells #[.int .i64 a2_0, .bool false] 106)).alloc (.cells #[.int .i64 0, .bool false] 106)) (.cells #[.int .i64 (wrap64 (a1_0 + a2_0)), .bool false] 106)
      simp only [World.size_alloc] at HG
      refine bodyPost_ret (results_cell_row rfl _ _ (w.heap.size + 1 + 1 + 1) 106 _ (0, 0) _ rfl HG Try.underlying106 rfl (by kernel_rfl)) rfl ?_
      go_wp2
      have HG2 := blk_alloc (heap_alloc_new ((w.alloc (.cells #[.int .i64 a1_0, .bool false] 106)).alloc (.cells #[.int .i64 a2_0, .bool false] 106)) (.cells #[.int .i64 (wrap64 (a1_0 + a2_0)), .bool false] 106)) (.cells #[.int .i64 (wrap64 (a1_0 + a2_0)), .bool false] 106)
      simp only [World.size_alloc] at HG2
      refine bodyPost_ret (results_ct rfl _ _ (w.heap.size + 1 + 1) 106 _ (0, 0) _ rfl HG2 Try.underlying106 rfl (by kernel_rfl)) rfl ?_
      exact ⟨rfl, by repeat (first | exact Below.refl _ _ | apply below_alloc)⟩
    · -- op 3, False, True
      obtain ⟨rfl, rfl, rfl⟩ : 0 = r1 ∧ false = r2 ∧ 4 = r3 := by simpa [word_CalcV] using h
      go_enter Try.func140, Try.ntmps140
      go_wp2
      have HG := heap_alloc_new ((w.alloc (.cells #[.int .i64 a1_0, .bool false] 106)).alloc (.cells #[.int .i64 a2_0, .bool true] 106)) (.cells #[.int .i64 0, .bool false] 106)
      simp only [World.size_alloc] at HG
      refine bodyPost_ret (results_ct rfl _ _ (w.heap.size + 1 + 1) 106 #[.int .i64 0, .bool false] (0, 0) _ rfl HG Try.underlying106 rfl (by kernel_rfl)) rfl ?_
      exact ⟨rfl, by repeat (first | exact Below.refl _ _ | apply below_alloc)⟩
    · -- op 3, True, False
      obtain ⟨rfl, rfl, rfl⟩ : 0 = r1 ∧ false = r2 ∧ 4 = r3 := by simpa [word_CalcV] using h
      go_enter Try.func140, Try.ntmps140
      go_wp2
      have HG := heap_alloc_new ((w.alloc (.cells #[.int .i64 a1_0, .bool true] 106)).alloc (.cells #[.int .i64 a2_0, .bool false] 106)) (.cells #[.int .i64 0, .bool false] 106)
      simp only [World.size_alloc] at HG
      refine bodyPost_ret (results_ct rfl _ _ (w.heap.size + 1 + 1) 106 #[.int .i64 0, .bool false] (0, 0) _ rfl HG Try.underlying106 rfl (by kernel_rfl)) rfl ?_
      exact ⟨rfl, by repeat (first | exact Below.refl _ _ | apply below_alloc)⟩
    · -- op 3, True, True
      obtain ⟨rfl, rfl, rfl⟩ : 0 = r1 ∧ false = r2 ∧ 4 = r3 := by simpa [word_CalcV] using h
      go_enter Try.func140, Try.ntmps140
      go_wp2
      have HG := heap_alloc_new ((w.alloc (.cells #[.int .i64 a1_0, .bool true] 106)).alloc (.cells #[.int .i64 a2_0, .bool true] 106)) (.cells #[.int .i64 0, .bool false] 106)
      simp only [World.size_alloc] at HG
      refine bodyPost_ret (results_ct rfl _ _ (w.heap.size + 1 + 1) 106 #[.int .i64 0, .bool false] (0, 0) _ rfl HG Try.underlying106 rfl (by kernel_rfl)) rfl ?_
      exact ⟨rfl, by repeat (first | exact Below.refl _ _ | apply below_alloc)⟩
    · -- op 4, False, False
      obtain ⟨rfl, rfl, rfl⟩ : wrap64 (a1_0 - a2_0) = r1 ∧ false = r2 ∧ 0 = r3 := by simpa [word_CalcV] using h
      go_enter Try.func140, Try.ntmps140
      go_wp2
      have HG := heap_alloc_new (((w.alloc (.cells #[.int .i64 a1_0, .bool false] 106)).alloc (.cells #[.int .i64 a2_0, .bool false] 106)).alloc (.cells #[.int .i64 0, .bool false] 106)) (.cells #[.int .i64 (wrap64 (a1_0 - a2_0)), .bool false] 106)
      simp only [World.size_alloc] at HG
      refine bodyPost_ret (results_cell_row rfl _ _ (w.heap.size + 1 + 1 + 1) 106 _ (0, 0) _ rfl HG Try.underlying106 rfl (by kernel_rfl)) rfl ?_
      go_wp2
      have HG2 := blk_alloc (heap_alloc_new ((w.alloc (.cells #[.int .i64 a1_0, .bool false] 106)).alloc (.cells #[.int .i64 a2_0, .bool false] 106)) (.cells #[.int .i64 (wrap64 (a1_0 - a2_0)), .bool false] 106)) (.cells #[.int .i64 (wrap64 (a1_0 - a2_0)), .bool false] 106)
      simp only [World.size_alloc] at HG2
      refine bodyPost_ret (results_ct rfl _ _ (w.heap.size + 1 + 1) 106 _ (0, 0) _ rfl HG2 Try.underlying106 rfl (by kernel_rfl)) rfl ?_
      exact ⟨rfl, by repeat (first | exact Below.refl _ _ | apply below_alloc)⟩
    · -- op 4, False, True
      obtain ⟨rfl, rfl, rfl⟩ : 0 = r1 ∧ false = r2 ∧ 4 = r3 := by simpa [word_CalcV] using h
      go_enter Try.func140, Try.ntmps140
      go_wp2
      have HG := heap_alloc_new ((w.alloc (.cells #[.int .i64 a1_0, .bool false] 106)).alloc (.cells #[.int .i64 a2_0, .bool true] 106)) (.cells #[.int .i64 0, .bool false] 106)
      simp only [World.size_alloc] at HG
      refine bodyPost_ret (results_ct rfl _ _ (w.heap.size + 1 + 1) 106 #[.int .i64 0, .bool false] (0, 0) _ rfl HG Try.underlying106 rfl (by kernel_rfl)) rfl ?_
      exact ⟨rfl, by repeat (first | exact Below.refl _ _ | apply below_alloc)⟩
    · -- op 4, True, False
      obtain ⟨rfl, rfl, rfl⟩ : 0 = r1 ∧ false = r2 ∧ 4 = r3 := by simpa [word_CalcV] using h
      go_enter Try.func140, Try.ntmps140
      go_wp2
      have HG := heap_alloc_new ((w.alloc (.cells #[.int .i64 a1_0, .bool true] 106)).alloc (.cells #[.int .i64 a2_0, .bool false] 106)) (.cells #[.int .i64 0, .bool false] 106)
      simp only [World.size_alloc] at HG
      refine bodyPost_ret (results_ct rfl _ _ (w.heap.size + 1 + 1) 106 #[.int .i64 0, .bool false] (0, 0) _ rfl HG Try.underlying106 rfl (by kernel_rfl)) rfl ?_
      exact ⟨rfl, by repeat (first | exact Below.refl _ _ | apply below_alloc)⟩
    · -- op 4, True, True
      obtain ⟨rfl, rfl, rfl⟩ : 0 = r1 ∧ false = r2 ∧ 4 = r3 := by simpa [word_CalcV] using h
      go_enter Try.func140, Try.ntmps140
      go_wp2
      have HG := heap_alloc_new ((w.alloc (.cells #[.int .i64 a1_0, .bool true] 106)).alloc (.cells #[.int .i64 a2_0, .bool true] 106)) (.cells #[.int .i64 0, .bool false] 106)
      simp only [World.size_alloc] at HG
      refine bodyPost_ret (results_ct rfl _ _ (w.heap.size + 1 + 1) 106 #[.int .i64 0, .bool false] (0, 0) _ rfl HG Try.underlying106 rfl (by kernel_rfl)) rfl ?_
      exact ⟨rfl, by repeat (first | exact Below.refl _ _ | apply below_alloc)⟩
    · -- op 5, False, False
      obtain ⟨rfl, rfl, rfl⟩ : wrap64 (a1_0 * a2_0) = r1 ∧ false = r2 ∧ 0 = r3 := by simpa [word_CalcV] using h
      go_enter Try.func140, Try.ntmps140
      go_wp2
      have HG := heap_alloc_new (((w.alloc (.cells #[.int .i64 a1_0, .bool false] 106)).alloc (.cells #[.int .i64 a2_0, .bool false] 106)).alloc (.cells #[.int .i64 0, .bool false] 106)) (.cells #[.int .i64 (wrap64 (a1_0 * a2_0)), .bool false] 106)
      simp only [World.size_alloc] at HG
      refine bodyPost_ret (results_cell_row rfl _ _ (w.heap.size + 1 + 1 + 1) 106 _ (0, 0) _ rfl HG Try.underlying106 rfl (by kernel_rfl)) rfl ?_
      go_wp2
      have HG2 := blk_alloc (heap_alloc_new ((w.alloc (.cells #[.int .i64 a1_0, .bool false] 106)).alloc (.cells #[.int .i64 a2_0, .bool false] 106)) (.cells #[.int .i64 (wrap64 (a1_0 * a2_0)), .bool false] 106)) (.cells #[.int .i64 (wrap64 (a1_0 * a2_0)), .bool false] 106)
      simp only [World.size_alloc] at HG2
      refine bodyPost_ret (results_ct rfl _ _ (w.heap.size + 1 + 1) 106 _ (0, 0) _ rfl HG2 Try.underlying106 rfl (by kernel_rfl)) rfl ?_
      exact ⟨rfl, by repeat (first | exact Below.refl _ _ | apply below_alloc)⟩
    · -- op 5, False, True
      obtain ⟨rfl, rfl, rfl⟩ : 0 = r1 ∧ false = r2 ∧ 4 = r3 := by simpa [word_CalcV] using h
      go_enter Try.func140, Try.ntmps140
      go_wp2
      have HG := heap_alloc_new ((w.alloc (.cells #[.int .i64 a1_0, .bool false] 106)).alloc (.cells #[.int .i64 a2_0, .bool true] 106)) (.cells #[.int .i64 0, .bool false] 106)
      simp only [World.size_alloc] at HG
      refine bodyPost_ret (results_ct rfl _ _ (w.heap.size + 1 + 1) 106 #[.int .i64 0, .bool false] (0, 0) _ rfl HG Try.underlying106 rfl (by kernel_rfl)) rfl ?_
      exact ⟨rfl, by repeat (first | exact Below.refl _ _ | apply below_alloc)⟩
    · -- op 5, True, False
      obtain ⟨rfl, rfl, rfl⟩ : 0 = r1 ∧ false = r2 ∧ 4 = r3 := by simpa [word_CalcV] using h
      go_enter Try.func140, Try.ntmps140
      go_wp2
      have HG := heap_alloc_new ((w.alloc (.cells #[.int .i64 a1_0, .bool true] 106)).alloc (.cells #[.int .i64 a2_0, .bool false] 106)) (.cells #[.int .i64 0, .bool false] 106)
      simp only [World.size_alloc] at HG
      refine bodyPost_ret (results_ct rfl _ _ (w.heap.size + 1 + 1) 106 #[.int .i64 0, .bool false] (0, 0) _ rfl HG Try.underlying106 rfl (by kernel_rfl)) rfl ?_
      exact ⟨rfl, by repeat (first | exact Below.refl _ _ | apply below_alloc)⟩
    · -- op 5, True, True
      obtain ⟨rfl, rfl, rfl⟩ : 0 = r1 ∧ false = r2 ∧ 4 = r3 := by simpa [word_CalcV] using h
      go_enter Try.func140, Try.ntmps140
      go_wp2
      have HG := heap_alloc_new ((w.alloc (.cells #[.int .i64 a1_0, .bool true] 106)).alloc (.cells #[.int .i64 a2_0, .bool true] 106)) (.cells #[.int .i64 0, .bool false] 106)
      simp only [World.size_alloc] at HG
      refine bodyPost_ret (results_ct rfl _ _ (w.heap.size + 1 + 1) 106 #[.int .i64 0, .bool false] (0, 0) _ rfl HG Try.underlying106 rfl (by kernel_rfl)) rfl ?_
      exact ⟨rfl, by repeat (first | exact Below.refl _ _ | apply below_alloc)⟩
    · -- op 6, False, False
      obtain ⟨rfl, rfl, rfl⟩ : Go.bits .and .i64 a1_0 a2_0 = r1 ∧ false = r2 ∧ 0 = r3 := by simpa [word_CalcV] using h
      go_enter Try.func140, Try.ntmps140
      go_wp2
      have HG := heap_alloc_new (((w.alloc (.cells #[.int .i64 a1_0, .bool false] 106)).alloc (.cells #[.int .i64 a2_0, .bool false] 106)).alloc (.cells #[.int .i64 0, .bool false] 106)) (.cells #[.int .i64 (Go.bits .and .i64 a1_0 a2_0), .bool false] 106)
      simp only [World.size_alloc] at HG
      refine bodyPost_ret (results_cell_row rfl _ _ (w.heap.size + 1 + 1 + 1) 106 _ (0, 0) _ rfl HG Try.underlying106 rfl (by kernel_rfl)) rfl ?_
      go_wp2
      have HG2 := blk_alloc (heap_alloc_new ((w.alloc (.cells #[.int .i64 a1_0, .bool false] 106)).alloc (.cells #[.int .i64 a2_0, .bool false] 106)) (.cells #[.int .i64 (Go.bits .and .i64 a1_0 a2_0), .bool false] 106)) (.cells #[.int .i64 (Go.bits .and .i64 a1_0 a2_0), .bool false] 106)
      simp only [World.size_alloc] at HG2
      refine bodyPost_ret (results_ct rfl _ _ (w.heap.size + 1 + 1) 106 _ (0, 0) _ rfl HG2 Try.underlying106 rfl (by kernel_rfl)) rfl ?_
      exact ⟨rfl, by repeat (first | exact Below.refl _ _ | apply below_alloc)⟩
    · -- op 6, False, True
      obtain ⟨rfl, rfl, rfl⟩ : 0 = r1 ∧ false = r2 ∧ 4 = r3 := by simpa [word_CalcV] using h
      go_enter Try.func140, Try.ntmps140
      go_wp2
      have HG := heap_alloc_new ((w.alloc (.cells #[.int .i64 a1_0, .bool false] 106)).alloc (.cells #[.int .i64 a2_0, .bool true] 106)) (.cells #[.int .i64 0, .bool false] 106)
      simp only [World.size_alloc] at HG
      refine bodyPost_ret (results_ct rfl _ _ (w.heap.size + 1 + 1) 106 #[.int .i64 0, .bool false] (0, 0) _ rfl HG Try.underlying106 rfl (by kernel_rfl)) rfl ?_
      exact ⟨rfl, by repeat (first | exact Below.refl _ _ | apply below_alloc)⟩
    · -- op 6, True, False
      obtain ⟨rfl, rfl, rfl⟩ : 0 = r1 ∧ false = r2 ∧ 4 = r3 := by simpa [word_CalcV] using h
      go_enter Try.func140, Try.ntmps140
      go_wp2
      have HG := heap_alloc_new ((w.alloc (.cells #[.int .i64 a1_0, .bool true] 106)).alloc (.cells #[.int .i64 a2_0, .bool false] 106)) (.cells #[.int .i64 0, .bool false] 106)
      simp only [World.size_alloc] at HG
      refine bodyPost_ret (results_ct rfl _ _ (w.heap.size + 1 + 1) 106 #[.int .i64 0, .bool false] (0, 0) _ rfl HG Try.underlying106 rfl (by kernel_rfl)) rfl ?_
      exact ⟨rfl, by repeat (first | exact Below.refl _ _ | apply below_alloc)⟩
    · -- op 6, True, True
      obtain ⟨rfl, rfl, rfl⟩ : 0 = r1 ∧ false = r2 ∧ 4 = r3 := by simpa [word_CalcV] using h
      go_enter Try.func140, Try.ntmps140
      go_wp2
      have HG := heap_alloc_new ((w.alloc (.cells #[.int .i64 a1_0, .bool true] 106)).alloc (.cells #[.int .i64 a2_0, .bool true] 106)) (.cells #[.int .i64 0, .bool false] 106)
      simp only [World.size_alloc] at HG
      refine bodyPost_ret (results_ct rfl _ _ (w.heap.size + 1 + 1) 106 #[.int .i64 0, .bool false] (0, 0) _ rfl HG Try.underlying106 rfl (by kernel_rfl)) rfl ?_
      exact ⟨rfl, by repeat (first | exact Below.refl _ _ | apply below_alloc)⟩
    · -- op 7, False, False
      obtain ⟨rfl, rfl, rfl⟩ : Go.bits .or .i64 a1_0 a2_0 = r1 ∧ false = r2 ∧ 0 = r3 := by simpa [word_CalcV] using h
      go_enter Try.func140, Try.ntmps140
      go_wp2
      have HG := heap_alloc_new (((w.alloc (.cells #[.int .i64 a1_0, .bool false] 106)).alloc (.cells #[.int .i64 a2_0, .bool false] 106)).alloc (.cells #[.int .i64 0, .bool false] 106)) (.cells #[.int .i64 (Go.bits .or .i64 a1_0 a2_0), .bool false] 106)
      simp only [World.size_alloc] at HG
      refine bodyPost_ret (results_cell_row rfl _ _ (w.heap.size + 1 + 1 + 1) 106 _ (0, 0) _ rfl HG Try.underlying106 rfl (by kernel_rfl)) rfl ?_
      go_wp2
      have HG2 := blk_alloc (heap_alloc_new ((w.alloc (.cells #[.int .i64 a1_0, .bool false] 106)).alloc (.cells #[.int .i64 a2_0, .bool false] 106)) (.cells #[.int .i64 (Go.bits .or .i64 a1_0 a2_0), .bool false] 106)) (.cells #[.int .i64 (Go.bits .or .i64 a1_0 a2_0), .bool false] 106)
      simp only [World.size_alloc] at HG2
      refine bodyPost_ret (results_ct rfl _ _ (w.heap.size + 1 + 1) 106 _ (0, 0) _ rfl HG2 Try.underlying106 rfl (by kernel_rfl)) rfl ?_
      exact ⟨rfl, by repeat (first | exact Below.refl _ _ | apply below_alloc)⟩
    · -- op 7, False, True
      obtain ⟨rfl, rfl, rfl⟩ : 0 = r1 ∧ false = r2 ∧ 4 = r3 := by simpa [word_CalcV] using h
      go_enter Try.func140, Try.ntmps140
      go_wp2
      have HG := heap_alloc_new ((w.alloc (.cells #[.int .i64 a1_0, .bool false] 106)).alloc (.cells #[.int .i64 a2_0, .bool true] 106)) (.cells #[.int .i64 0, .bool false] 106)
      simp only [World.size_alloc] at HG
      refine bodyPost_ret (results_ct rfl _ _ (w.heap.size + 1 + 1) 106 #[.int .i64 0, .bool false] (0, 0) _ rfl HG Try.underlying106 rfl (by kernel_rfl)) rfl ?_
      exact ⟨rfl, by repeat (first | exact Below.refl _ _ | apply below_alloc)⟩
    · -- op 7, True, False
      obtain ⟨rfl, rfl, rfl⟩ : 0 = r1 ∧ false = r2 ∧ 4 = r3 := by simpa [word_CalcV] using h
      go_enter Try.func140, Try.ntmps140
      go_wp2
      have HG := heap_alloc_new ((w.alloc (.cells #[.int .i64 a1_0, .bool true] 106)).alloc (.cells #[.int .i64 a2_0, .bool false] 106)) (.cells #[.int .i64 0, .bool false] 106)
      simp only [World.size_alloc] at HG
      refine bodyPost_ret (results_ct rfl _ _ (w.heap.size + 1 + 1) 106 #[.int .i64 0, .bool false] (0, 0) _ rfl HG Try.underlying106 rfl (by kernel_rfl)) rfl ?_
      exact ⟨rfl, by repeat (first | exact Below.refl _ _ | apply below_alloc)⟩
    · -- op 7, True, True
      obtain ⟨rfl, rfl, rfl⟩ : 0 = r1 ∧ false = r2 ∧ 4 = r3 := by simpa [word_CalcV] using h
      go_enter Try.func140, Try.ntmps140
      go_wp2
      have HG := heap_alloc_new ((w.alloc (.cells #[.int .i64 a1_0, .bool true] 106)).alloc (.cells #[.int .i64 a2_0, .bool true] 106)) (.cells #[.int .i64 0, .bool false] 106)
      simp only [World.size_alloc] at HG
      refine bodyPost_ret (results_ct rfl _ _ (w.heap.size + 1 + 1) 106 #[.int .i64 0, .bool false] (0, 0) _ rfl HG Try.underlying106 rfl (by kernel_rfl)) rfl ?_
      exact ⟨rfl, by repeat (first | exact Below.refl _ _ | apply below_alloc)⟩
    · -- op 8, False, False
      obtain ⟨rfl, rfl, rfl⟩ : Go.bits .xor .i64 a1_0 a2_0 = r1 ∧ false = r2 ∧ 0 = r3 := by simpa [word_CalcV] using h
      go_enter Try.func140, Try.ntmps140
      go_wp2
      have HG := heap_alloc_new (((w.alloc (.cells #[.int .i64 a1_0, .bool false] 106)).alloc (.cells #[.int .i64 a2_0, .bool false] 106)).alloc (.cells #[.int .i64 0, .bool false] 106)) (.cells #[.int .i64 (Go.bits .xor .i64 a1_0 a2_0), .bool false] 106)
      simp only [World.size_alloc] at HG
      refine bodyPost_ret (results_cell_row rfl _ _ (w.heap.size + 1 + 1 + 1) 106 _ (0, 0) _ rfl HG Try.underlying106 rfl (by kernel_rfl)) rfl ?_
      go_wp2
      have HG2 := blk_alloc (heap_alloc_new ((w.alloc (.cells #[.int .i64 a1_0, .bool false] 106)).alloc (.cells #[.int .i64 a2_0, .bool false] 106)) (.cells #[.int .i64 (Go.bits .xor .i64 a1_0 a2_0), .bool false] 106)) (.cells #[.int .i64 (Go.bits .xor .i64 a1_0 a2_0), .bool false] 106)
      simp only [World.size_alloc] at HG2
      refine bodyPost_ret (results_ct rfl _ _ (w.heap.size + 1 + 1) 106 _ (0, 0) _ rfl HG2 Try.underlying106 rfl (by kernel_rfl)) rfl ?_
      exact ⟨rfl, by repeat (first | exact Below.refl _ _ | apply below_alloc)⟩
    · -- op 8, False, True
      obtain ⟨rfl, rfl, rfl⟩ : 0 = r1 ∧ false = r2 ∧ 4 = r3 := by simpa [word_CalcV] using h
      go_enter Try.func140, Try.ntmps140
      go_wp2
      have HG := heap_alloc_new ((w.alloc (.cells #[.int .i64 a1_0, .bool false] 106)).alloc (.cells #[.int .i64 a2_0, .bool true] 106)) (.cells #[.int .i64 0, .bool false] 106)
      simp only [World.size_alloc] at HG
      refine bodyPost_ret (results_ct rfl _ _ (w.heap.size + 1 + 1) 106 #[.int .i64 0, .bool false] (0, 0) _ rfl HG Try.underlying106 rfl (by kernel_rfl)) rfl ?_
      exact ⟨rfl, by repeat (first | exact Below.refl _ _ | apply below_alloc)⟩
    · -- op 8, True, False
      obtain ⟨rfl, rfl, rfl⟩ : 0 = r1 ∧ false = r2 ∧ 4 = r3 := by simpa [word_CalcV] using h
      go_enter Try.func140, Try.ntmps140
      go_wp2
      have HG := heap_alloc_new ((w.alloc (.cells #[.int .i64 a1_0, .bool true] 106)).alloc (.cells #[.int .i64 a2_0, .bool false] 106)) (.cells #[.int .i64 0, .bool false] 106)
      simp only [World.size_alloc] at HG
      refine bodyPost_ret (results_ct rfl _ _ (w.heap.size + 1 + 1) 106 #[.int .i64 0, .bool false] (0, 0) _ rfl HG Try.underlying106 rfl (by kernel_rfl)) rfl ?_
      exact ⟨rfl, by repeat (first | exact Below.refl _ _ | apply below_alloc)⟩
    · -- op 8, True, True
      obtain ⟨rfl, rfl, rfl⟩ : 0 = r1 ∧ false = r2 ∧ 4 = r3 := by simpa [word_CalcV] using h
      go_enter Try.func140, Try.ntmps140
      go_wp2
      have HG := heap_alloc_new ((w.alloc (.cells #[.int .i64 a1_0, .bool true] 106)).alloc (.cells #[.int .i64 a2_0, .bool true] 106)) (.cells #[.int .i64 0, .bool false] 106)
      simp only [World.size_alloc] at HG
      refine bodyPost_ret (results_ct rfl _ _ (w.heap.size + 1 + 1) 106 #[.int .i64 0, .bool false] (0, 0) _ rfl HG Try.underlying106 rfl (by kernel_rfl)) rfl ?_
      exact ⟨rfl, by repeat (first | exact Below.refl _ _ | apply below_alloc)⟩
    · -- op 9, False, False
      by_cases hc : a1_0 < a2_0
      · obtain ⟨rfl, rfl, rfl⟩ : 1 = r1 ∧ false = r2 ∧ 0 = r3 := by simpa [word_CalcV, hc] using h
        have hb : decide (a1_0 < a2_0) = true := by simp [hc]
        clear hc
        go_enter Try.func140, Try.ntmps140
        go_wp2
        have HG := heap_alloc_new (((w.alloc (.cells #[.int .i64 a1_0, .bool false] 106)).alloc (.cells #[.int .i64 a2_0, .bool false] 106)).alloc (.cells #[.int .i64 0, .bool false] 106)) (.cells #[.int .i64 (1), .bool false] 106)
        simp only [World.size_alloc] at HG
        refine bodyPost_ret (results_cell_row rfl _ _ (w.heap.size + 1 + 1 + 1) 106 _ (0, 0) _ rfl HG Try.underlying106 rfl (by kernel_rfl)) rfl ?_
        go_wp2
        have HG2 := blk_alloc (heap_alloc_new ((w.alloc (.cells #[.int .i64 a1_0, .bool false] 106)).alloc (.cells #[.int .i64 a2_0, .bool false] 106)) (.cells #[.int .i64 (1), .bool false] 106)) (.cells #[.int .i64 (1), .bool false] 106)
        simp only [World.size_alloc] at HG2
        refine bodyPost_ret (results_ct rfl _ _ (w.heap.size + 1 + 1) 106 _ (0, 0) _ rfl HG2 Try.underlying106 rfl (by kernel_rfl)) rfl ?_
        exact ⟨rfl, by repeat (first | exact Below.refl _ _ | apply below_alloc)⟩
      · obtain ⟨rfl, rfl, rfl⟩ : 0 = r1 ∧ false = r2 ∧ 0 = r3 := by simpa [word_CalcV, hc] using h
        have hb : decide (a1_0 < a2_0) = false := by simp [hc]
        clear hc
        go_enter Try.func140, Try.ntmps140
        go_wp2
        have HG := heap_alloc_new (((w.alloc (.cells #[.int .i64 a1_0, .bool false] 106)).alloc (.cells #[.int .i64 a2_0, .bool false] 106)).alloc (.cells #[.int .i64 0, .bool false] 106)) (.cells #[.int .i64 (0), .bool false] 106)
        simp only [World.size_alloc] at HG
        refine bodyPost_ret (results_cell_row rfl _ _ (w.heap.size + 1 + 1 + 1) 106 _ (0, 0) _ rfl HG Try.underlying106 rfl (by kernel_rfl)) rfl ?_
        go_wp2
        have HG2 := blk_alloc (heap_alloc_new ((w.alloc (.cells #[.int .i64 a1_0, .bool false] 106)).alloc (.cells #[.int .i64 a2_0, .bool false] 106)) (.cells #[.int .i64 (0), .bool false] 106)) (.cells #[.int .i64 (0), .bool false] 106)
        simp only [World.size_alloc] at HG2
        refine bodyPost_ret (results_ct rfl _ _ (w.heap.size + 1 + 1) 106 _ (0, 0) _ rfl HG2 Try.underlying106 rfl (by kernel_rfl)) rfl ?_
        exact ⟨rfl, by repeat (first | exact Below.refl _ _ | apply below_alloc)⟩
    · -- op 9, False, True
      obtain ⟨rfl, rfl, rfl⟩ : 0 = r1 ∧ false = r2 ∧ 4 = r3 := by simpa [word_CalcV] using h
      go_enter Try.func140, Try.ntmps140
      go_wp2
      have HG := heap_alloc_new ((w.alloc (.cells #[.int .i64 a1_0, .bool false] 106)).alloc (.cells #[.int .i64 a2_0, .bool true] 106)) (.cells #[.int .i64 0, .bool false] 106)
      simp only [World.size_alloc] at HG
      refine bodyPost_ret (results_ct rfl _ _ (w.heap.size + 1 + 1) 106 #[.int .i64 0, .bool false] (0, 0) _ rfl HG Try.underlying106 rfl (by kernel_rfl)) rfl ?_
      exact ⟨rfl, by repeat (first | exact Below.refl _ _ | apply below_alloc)⟩
    · -- op 9, True, False
      obtain ⟨rfl, rfl, rfl⟩ : 0 = r1 ∧ false = r2 ∧ 4 = r3 := by simpa [word_CalcV] using h
      go_enter Try.func140, Try.ntmps140
      go_wp2
      have HG := heap_alloc_new ((w.alloc (.cells #[.int .i64 a1_0, .bool true] 106)).alloc (.cells #[.int .i64 a2_0, .bool false] 106)) (.cells #[.int .i64 0, .bool false] 106)
      simp only [World.size_alloc] at HG
      refine bodyPost_ret (results_ct rfl _ _ (w.heap.size + 1 + 1) 106 #[.int .i64 0, .bool false] (0, 0) _ rfl HG Try.underlying106 rfl (by kernel_rfl)) rfl ?_
      exact ⟨rfl, by repeat (first | exact Below.refl _ _ | apply below_alloc)⟩
    · -- op 9, True, True
      obtain ⟨rfl, rfl, rfl⟩ : 0 = r1 ∧ false = r2 ∧ 4 = r3 := by simpa [word_CalcV] using h
      go_enter Try.func140, Try.ntmps140
      go_wp2
      have HG := heap_alloc_new ((w.alloc (.cells #[.int .i64 a1_0, .bool true] 106)).alloc (.cells #[.int .i64 a2_0, .bool true] 106)) (.cells #[.int .i64 0, .bool false] 106)
      simp only [World.size_alloc] at HG
      refine bodyPost_ret (results_ct rfl _ _ (w.heap.size + 1 + 1) 106 #[.int .i64 0, .bool false] (0, 0) _ rfl HG Try.underlying106 rfl (by kernel_rfl)) rfl ?_
      exact ⟨rfl, by repeat (first | exact Below.refl _ _ | apply below_alloc)⟩
    · -- op 10, False, False
      by_cases hc : a1_0 = a2_0
      · obtain ⟨rfl, rfl, rfl⟩ : 1 = r1 ∧ false = r2 ∧ 0 = r3 := by simpa [word_CalcV, hc] using h
        have hb : (a1_0 == a2_0) = true := by simp [hc]
        clear hc
        go_enter Try.func140, Try.ntmps140
        go_wp2
        have HG := heap_alloc_new (((w.alloc (.cells #[.int .i64 a1_0, .bool false] 106)).alloc (.cells #[.int .i64 a2_0, .bool false] 106)).alloc (.cells #[.int .i64 0, .bool false] 106)) (.cells #[.int .i64 (1), .bool false] 106)
        simp only [World.size_alloc] at HG
        refine bodyPost_ret (results_cell_row rfl _ _ (w.heap.size + 1 + 1 + 1) 106 _ (0, 0) _ rfl HG Try.underlying106 rfl (by kernel_rfl)) rfl ?_
        go_wp2
        have HG2 := blk_alloc (heap_alloc_new ((w.alloc (.cells #[.int .i64 a1_0, .bool false] 106)).alloc (.cells #[.int .i64 a2_0, .bool false] 106)) (.cells #[.int .i64 (1), .bool false] 106)) (.cells #[.int .i64 (1), .bool false] 106)
        simp only [World.size_alloc] at HG2
        refine bodyPost_ret (results_ct rfl _ _ (w.heap.size + 1 + 1) 106 _ (0, 0) _ rfl HG2 Try.underlying106 rfl (by kernel_rfl)) rfl ?_
        exact ⟨rfl, by repeat (first | exact Below.refl _ _ | apply below_alloc)⟩
      · obtain ⟨rfl, rfl, rfl⟩ : 0 = r1 ∧ false = r2 ∧ 0 = r3 := by simpa [word_CalcV, hc] using h
        have hb : (a1_0 == a2_0) = false := by simp [hc]
        clear hc
        go_enter Try.func140, Try.ntmps140
        go_wp2
        have HG := heap_alloc_new (((w.alloc (.cells #[.int .i64 a1_0, .bool false] 106)).alloc (.cells #[.int .i64 a2_0, .bool false] 106)).alloc (.cells #[.int .i64 0, .bool false] 106)) (.cells #[.int .i64 (0), .bool false] 106)
        simp only [World.size_alloc] at HG
        refine bodyPost_ret (results_cell_row rfl _ _ (w.heap.size + 1 + 1 + 1) 106 _ (0, 0) _ rfl HG Try.underlying106 rfl (by kernel_rfl)) rfl ?_
        go_wp2
        have HG2 := blk_alloc (heap_alloc_new ((w.alloc (.cells #[.int .i64 a1_0, .bool false] 106)).alloc (.cells #[.int .i64 a2_0, .bool false] 106)) (.cells #[.int .i64 (0), .bool false] 106)) (.cells #[.int .i64 (0), .bool false] 106)
        simp only [World.size_alloc] at HG2
        refine bodyPost_ret (results_ct rfl _ _ (w.heap.size + 1 + 1) 106 _ (0, 0) _ rfl HG2 Try.underlying106 rfl (by kernel_rfl)) rfl ?_
        exact ⟨rfl, by repeat (first | exact Below.refl _ _ | apply below_alloc)⟩
    · -- op 10, False, True
      obtain ⟨rfl, rfl, rfl⟩ : 0 = r1 ∧ false = r2 ∧ 4 = r3 := by simpa [word_CalcV] using h
      go_enter Try.func140, Try.ntmps140
      go_wp2
      have HG := heap_alloc_new ((w.alloc (.cells #[.int .i64 a1_0, .bool false] 106)).alloc (.cells #[.int .i64 a2_0, .bool true] 106)) (.cells #[.int .i64 0, .bool false] 106)
      simp only [World.size_alloc] at HG
      refine bodyPost_ret (results_ct rfl _ _ (w.heap.size + 1 + 1) 106 #[.int .i64 0, .bool false] (0, 0) _ rfl HG Try.underlying106 rfl (by kernel_rfl)) rfl ?_
      exact ⟨rfl, by repeat (first | exact Below.refl _ _ | apply below_alloc)⟩
    · -- op 10, True, False
      obtain ⟨rfl, rfl, rfl⟩ : 0 = r1 ∧ false = r2 ∧ 4 = r3 := by simpa [word_CalcV] using h
      go_enter Try.func140, Try.ntmps140
      go_wp2
      have HG := heap_alloc_new ((w.alloc (.cells #[.int .i64 a1_0, .bool true] 106)).alloc (.cells #[.int .i64 a2_0, .bool false] 106)) (.cells #[.int .i64 0, .bool false] 106)
      simp only [World.size_alloc] at HG
      refine bodyPost_ret (results_ct rfl _ _ (w.heap.size + 1 + 1) 106 #[.int .i64 0, .bool false] (0, 0) _ rfl HG Try.underlying106 rfl (by kernel_rfl)) rfl ?_
      exact ⟨rfl, by repeat (first | exact Below.refl _ _ | apply below_alloc)⟩
    · -- op 10, True, True
      by_cases hc : a1_0 = a2_0
      · obtain ⟨rfl, rfl, rfl⟩ : 1 = r1 ∧ false = r2 ∧ 0 = r3 := by simpa [word_CalcV, hc] using h
        have hb : (a1_0 == a2_0) = true := by simp [hc]
        clear hc
        go_enter Try.func140, Try.ntmps140
        go_wp2
        have HG := heap_alloc_new (((w.alloc (.cells #[.int .i64 a1_0, .bool true] 106)).alloc (.cells #[.int .i64 a2_0, .bool true] 106)).alloc (.cells #[.int .i64 0, .bool false] 106)) (.cells #[.int .i64 (1), .bool false] 106)
        simp only [World.size_alloc] at HG
        refine bodyPost_ret (results_cell_row rfl _ _ (w.heap.size + 1 + 1 + 1) 106 _ (0, 0) _ rfl HG Try.underlying106 rfl (by kernel_rfl)) rfl ?_
        go_wp2
        have HG2 := blk_alloc (heap_alloc_new ((w.alloc (.cells #[.int .i64 a1_0, .bool true] 106)).alloc (.cells #[.int .i64 a2_0, .bool true] 106)) (.cells #[.int .i64 (1), .bool false] 106)) (.cells #[.int .i64 (1), .bool false] 106)
        simp only [World.size_alloc] at HG2
        refine bodyPost_ret (results_ct rfl _ _ (w.heap.size + 1 + 1) 106 _ (0, 0) _ rfl HG2 Try.underlying106 rfl (by kernel_rfl)) rfl ?_
        exact ⟨rfl, by repeat (first | exact Below.refl _ _ | apply below_alloc)⟩
      · obtain ⟨rfl, rfl, rfl⟩ : 0 = r1 ∧ false = r2 ∧ 0 = r3 := by simpa [word_CalcV, hc] using h
        have hb : (a1_0 == a2_0) = false := by simp [hc]
        clear hc
        go_enter Try.func140, Try.ntmps140
        go_wp2
        have HG := heap_alloc_new (((w.alloc (.cells #[.int .i64 a1_0, .bool true] 106)).alloc (.cells #[.int .i64 a2_0, .bool true] 106)).alloc (.cells #[.int .i64 0, .bool false] 106)) (.cells #[.int .i64 (0), .bool false] 106)
        simp only [World.size_alloc] at HG
        refine bodyPost_ret (results_cell_row rfl _ _ (w.heap.size + 1 + 1 + 1) 106 _ (0, 0) _ rfl HG Try.underlying106 rfl (by kernel_rfl)) rfl ?_
        go_wp2
        have HG2 := blk_alloc (heap_alloc_new ((w.alloc (.cells #[.int .i64 a1_0, .bool true] 106)).alloc (.cells #[.int .i64 a2_0, .bool true] 106)) (.cells #[.int .i64 (0), .bool false] 106)) (.cells #[.int .i64 (0), .bool false] 106)
        simp only [World.size_alloc] at HG2
        refine bodyPost_ret (results_ct rfl _ _ (w.heap.size + 1 + 1) 106 _ (0, 0) _ rfl HG2 Try.underlying106 rfl (by kernel_rfl)) rfl ?_
        exact ⟨rfl, by repeat (first | exact Below.refl _ _ | apply below_alloc)⟩
  · rw [if_neg hop] at h
    cases h
    have b3 : (a0 == 3) = false := beq_eq_false_iff_ne.2 (by omega)
    have b4 : (a0 == 4) = false := beq_eq_false_iff_ne.2 (by omega)
    have b5 : (a0 == 5) = false := beq_eq_false_iff_ne.2 (by omega)
    have b6 : (a0 == 6) = false := beq_eq_false_iff_ne.2 (by omega)
    have b7 : (a0 == 7) = false := beq_eq_false_iff_ne.2 (by omega)
    have b8 : (a0 == 8) = false := beq_eq_false_iff_ne.2 (by omega)
    have b9 : (a0 == 9) = false := beq_eq_false_iff_ne.2 (by omega)
    have b10 : (a0 == 10) = false := beq_eq_false_iff_ne.2 (by omega)
    go_enter Try.func140, Try.ntmps140
    go_wp2
    have HG := heap_alloc_new ((w.alloc (.cells #[.int .i64 a1_0, .bool a1_1] 106)).alloc (.cells #[.int .i64 a2_0, .bool a2_1] 106)) (.cells #[.int .i64 0, .bool false] 106)
    simp only [World.size_alloc] at HG
    refine bodyPost_ret (results_ct rfl _ _ (w.heap.size + 1 + 1) 106 #[.int .i64 0, .bool false] (0, 0) _ rfl HG Try.underlying106 rfl (by kernel_rfl)) rfl ?_
    exact ⟨rfl, by repeat (first | exact Below.refl _ _ | apply below_alloc)⟩

end Go.Proofs.Ytfgdjpgdabjpmaa.PEdgeRuns
