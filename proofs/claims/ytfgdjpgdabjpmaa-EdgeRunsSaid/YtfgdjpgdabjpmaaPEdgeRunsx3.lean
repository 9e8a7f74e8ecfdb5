-- Written for this claim by a program of this session (wip/tools/pp.py, over the kit's print).
import Derived.Test.YtfgdjpgdabjpmaaPEdgeRunsx0
namespace Go.Proofs.Ytfgdjpgdabjpmaa.PEdgeRuns
open Go.RowKit Go.Proofs.YtfgdjpgdabjpmaaW.PrintWords Go.Proofs.YtfgdjpgdabjpmaaW.PrintLast Go.Proofs.YtfgdjpgdabjpmaaW.PrintMore
attribute [local go_sem] max2_int min2_int max_two min_two max_three min_three max_four min_four   -- for this text's walks alone
set_option linter.unusedVariables false
set_option linter.unusedSimpArgs false

/-! ### isa_has: function 72, by hand -/
def isa_fields.Rel (w : World) (v : Value) (w' : World) : Prop := (v = .int .i8 3 ∧ w' = (w.alloc (.cells #[.int .i64 0, .int .i64 0, .int .i64 0, .int .i64 0, .int .i64 0, .int .i64 0, .int .i64 0, .int .i64 0, .int .i64 0, .int .i64 0, .int .i64 0, .int .i64 0, .int .i64 0, .int .i64 0, .int .i64 0, .int .i64 0, .int .i64 0, .int .i64 0, .int .i64 0, .int .i64 0, .int .i64 0, .int .i64 0] 162)).alloc (.cells #[.int .i64 0, .int .i64 9, .int .i64 3, .int .i64 0, .int .i64 0, .int .i64 0, .int .i64 0, .int .i64 0, .int .i64 0, .int .i64 0, .int .i64 0, .int .i64 0, .int .i64 0, .int .i64 0, .int .i64 0, .int .i64 0, .int .i64 0, .int .i64 0, .int .i64 0, .int .i64 0, .int .i64 0, .int .i64 0] 162)) ∨ (v = .int .i8 4 ∧ w' = (w.alloc (.cells #[.int .i64 0, .int .i64 0, .int .i64 0, .int .i64 0, .int .i64 0, .int .i64 0, .int .i64 0, .int .i64 0, .int .i64 0, .int .i64 0, .int .i64 0, .int .i64 0, .int .i64 0, .int .i64 0, .int .i64 0, .int .i64 0, .int .i64 0, .int .i64 0, .int .i64 0, .int .i64 0, .int .i64 0, .int .i64 0] 162)).alloc (.cells #[.int .i64 0, .int .i64 9, .int .i64 3, .int .i64 7, .int .i64 0, .int .i64 0, .int .i64 0, .int .i64 0, .int .i64 0, .int .i64 0, .int .i64 0, .int .i64 0, .int .i64 0, .int .i64 0, .int .i64 0, .int .i64 0, .int .i64 0, .int .i64 0, .int .i64 0, .int .i64 0, .int .i64 0, .int .i64 0] 162)) ∨ (v = .int .i8 5 ∧ w' = (w.alloc (.cells #[.int .i64 0, .int .i64 0, .int .i64 0, .int .i64 0, .int .i64 0, .int .i64 0, .int .i64 0, .int .i64 0, .int .i64 0, .int .i64 0, .int .i64 0, .int .i64 0, .int .i64 0, .int .i64 0, .int .i64 0, .int .i64 0, .int .i64 0, .int .i64 0, .int .i64 0, .int .i64 0, .int .i64 0, .int .i64 0] 162)).alloc (.cells #[.int .i64 0, .int .i64 9, .int .i64 3, .int .i64 7, .int .i64 7, .int .i64 0, .int .i64 0, .int .i64 0, .int .i64 0, .int .i64 0, .int .i64 0, .int .i64 0, .int .i64 0, .int .i64 0, .int .i64 0, .int .i64 0, .int .i64 0, .int .i64 0, .int .i64 0, .int .i64 0, .int .i64 0, .int .i64 0] 162)) ∨ (v = .int .i8 6 ∧ w' = (w.alloc (.cells #[.int .i64 0, .int .i64 0, .int .i64 0, .int .i64 0, .int .i64 0, .int .i64 0, .int .i64 0, .int .i64 0, .int .i64 0, .int .i64 0, .int .i64 0, .int .i64 0, .int .i64 0, .int .i64 0, .int .i64 0, .int .i64 0, .int .i64 0, .int .i64 0, .int .i64 0, .int .i64 0, .int .i64 0, .int .i64 0] 162)).alloc (.cells #[.int .i64 0, .int .i64 9, .int .i64 3, .int .i64 7, .int .i64 7, .int .i64 7, .int .i64 0, .int .i64 0, .int .i64 0, .int .i64 0, .int .i64 0, .int .i64 0, .int .i64 0, .int .i64 0, .int .i64 0, .int .i64 0, .int .i64 0, .int .i64 0, .int .i64 0, .int .i64 0, .int .i64 0, .int .i64 0] 162)) ∨ (v = .int .i8 7 ∧ w' = (w.alloc (.cells #[.int .i64 0, .int .i64 0, .int .i64 0, .int .i64 0, .int .i64 0, .int .i64 0, .int .i64 0, .int .i64 0, .int .i64 0, .int .i64 0, .int .i64 0, .int .i64 0, .int .i64 0, .int .i64 0, .int .i64 0, .int .i64 0, .int .i64 0, .int .i64 0, .int .i64 0, .int .i64 0, .int .i64 0, .int .i64 0] 162)).alloc (.cells #[.int .i64 0, .int .i64 9, .int .i64 3, .int .i64 7, .int .i64 7, .int .i64 7, .int .i64 7, .int .i64 0, .int .i64 0, .int .i64 0, .int .i64 0, .int .i64 0, .int .i64 0, .int .i64 0, .int .i64 0, .int .i64 0, .int .i64 0, .int .i64 0, .int .i64 0, .int .i64 0, .int .i64 0, .int .i64 0] 162)) ∨ (v = .int .i8 8 ∧ w' = (w.alloc (.cells #[.int .i64 0, .int .i64 0, .int .i64 0, .int .i64 0, .int .i64 0, .int .i64 0, .int .i64 0, .int .i64 0, .int .i64 0, .int .i64 0, .int .i64 0, .int .i64 0, .int .i64 0, .int .i64 0, .int .i64 0, .int .i64 0, .int .i64 0, .int .i64 0, .int .i64 0, .int .i64 0, .int .i64 0, .int .i64 0] 162)).alloc (.cells #[.int .i64 0, .int .i64 9, .int .i64 3, .int .i64 7, .int .i64 7, .int .i64 7, .int .i64 7, .int .i64 7, .int .i64 0, .int .i64 0, .int .i64 0, .int .i64 0, .int .i64 0, .int .i64 0, .int .i64 0, .int .i64 0, .int .i64 0, .int .i64 0, .int .i64 0, .int .i64 0, .int .i64 0, .int .i64 0] 162)) ∨ (v = .int .i8 9 ∧ w' = (w.alloc (.cells #[.int .i64 0, .int .i64 0, .int .i64 0, .int .i64 0, .int .i64 0, .int .i64 0, .int .i64 0, .int .i64 0, .int .i64 0, .int .i64 0, .int .i64 0, .int .i64 0, .int .i64 0, .int .i64 0, .int .i64 0, .int .i64 0, .int .i64 0, .int .i64 0, .int .i64 0, .int .i64 0, .int .i64 0, .int .i64 0] 162)).alloc (.cells #[.int .i64 0, .int .i64 9, .int .i64 3, .int .i64 7, .int .i64 7, .int .i64 7, .int .i64 7, .int .i64 7, .int .i64 7, .int .i64 0, .int .i64 0, .int .i64 0, .int .i64 0, .int .i64 0, .int .i64 0, .int .i64 0, .int .i64 0, .int .i64 0, .int .i64 0, .int .i64 0, .int .i64 0, .int .i64 0] 162)) ∨ (v = .int .i8 10 ∧ w' = (w.alloc (.cells #[.int .i64 0, .int .i64 0, .int .i64 0, .int .i64 0, .int .i64 0, .int .i64 0, .int .i64 0, .int .i64 0, .int .i64 0, .int .i64 0, .int .i64 0, .int .i64 0, .int .i64 0, .int .i64 0, .int .i64 0, .int .i64 0, .int .i64 0, .int .i64 0, .int .i64 0, .int .i64 0, .int .i64 0, .int .i64 0] 162)).alloc (.cells #[.int .i64 0, .int .i64 9, .int .i64 3, .int .i64 7, .int .i64 7, .int .i64 7, .int .i64 7, .int .i64 7, .int .i64 7, .int .i64 7, .int .i64 0, .int .i64 0, .int .i64 0, .int .i64 0, .int .i64 0, .int .i64 0, .int .i64 0, .int .i64 0, .int .i64 0, .int .i64 0, .int .i64 0, .int .i64 0] 162)) ∨ (v = .int .i8 11 ∧ w' = (w.alloc (.cells #[.int .i64 0, .int .i64 0, .int .i64 0, .int .i64 0, .int .i64 0, .int .i64 0, .int .i64 0, .int .i64 0, .int .i64 0, .int .i64 0, .int .i64 0, .int .i64 0, .int .i64 0, .int .i64 0, .int .i64 0, .int .i64 0, .int .i64 0, .int .i64 0, .int .i64 0, .int .i64 0, .int .i64 0, .int .i64 0] 162)).alloc (.cells #[.int .i64 0, .int .i64 9, .int .i64 3, .int .i64 7, .int .i64 7, .int .i64 7, .int .i64 7, .int .i64 7, .int .i64 7, .int .i64 7, .int .i64 7, .int .i64 0, .int .i64 0, .int .i64 0, .int .i64 0, .int .i64 0, .int .i64 0, .int .i64 0, .int .i64 0, .int .i64 0, .int .i64 0, .int .i64 0] 162))
set_option maxRecDepth 100000 in
set_option maxHeartbeats 4000000 in
theorem isa_fields.calls (w : World) : Calls Try.prog 109 #[] w fun e w' => e = .returned (.agg #[.int .i64 0, .int .i64 9, .int .i64 3, .int .i64 7, .int .i64 7, .int .i64 7, .int .i64 7, .int .i64 7, .int .i64 7, .int .i64 7, .int .i64 7, .int .i64 11, .int .i64 14, .int .i64 1, .int .i64 10, .int .i64 24, .int .i64 26, .int .i64 24, .int .i64 2, .int .i64 2, .int .i64 25, .int .i64 0]) ∧ Below w.heap.size w w' := by
  go_enter Try.func109, Try.ntmps109
  go_wp2
  go_loopw [2] (fun v w' => isa_fields.Rel w v w') (fun v _ => 11 - (intOf v).toNat)
  case atStart => exact .inl ⟨rfl, rfl⟩
  case round =>
    rcases hrel with ⟨rfl, rfl⟩ | ⟨rfl, rfl⟩ | ⟨rfl, rfl⟩ | ⟨rfl, rfl⟩ | ⟨rfl, rfl⟩ | ⟨rfl, rfl⟩ | ⟨rfl, rfl⟩ | ⟨rfl, rfl⟩ | ⟨rfl, rfl⟩
    · go_wp2
      go_roundw
      case rel => exact .inr (.inl ⟨rfl, rfl⟩)
      case measure => simp [intOf]
    · go_wp2
      go_roundw
      case rel => exact .inr (.inr (.inl ⟨rfl, rfl⟩))
      case measure => simp [intOf]
    · go_wp2
      go_roundw
      case rel => exact .inr (.inr (.inr (.inl ⟨rfl, rfl⟩)))
      case measure => simp [intOf]
    · go_wp2
      go_roundw
      case rel => exact .inr (.inr (.inr (.inr (.inl ⟨rfl, rfl⟩))))
      case measure => simp [intOf]
    · go_wp2
      go_roundw
      case rel => exact .inr (.inr (.inr (.inr (.inr (.inl ⟨rfl, rfl⟩)))))
      case measure => simp [intOf]
    · go_wp2
      go_roundw
      case rel => exact .inr (.inr (.inr (.inr (.inr (.inr (.inl ⟨rfl, rfl⟩))))))
      case measure => simp [intOf]
    · go_wp2
      go_roundw
      case rel => exact .inr (.inr (.inr (.inr (.inr (.inr (.inr (.inl ⟨rfl, rfl⟩)))))))
      case measure => simp [intOf]
    · go_wp2
      go_roundw
      case rel => exact .inr (.inr (.inr (.inr (.inr (.inr (.inr (.inr (⟨rfl, rfl⟩))))))))
      case measure => simp [intOf]
    · have hl : ((w.alloc (.cells #[.int .i64 0, .int .i64 0, .int .i64 0, .int .i64 0, .int .i64 0, .int .i64 0, .int .i64 0, .int .i64 0, .int .i64 0, .int .i64 0, .int .i64 0, .int .i64 0, .int .i64 0, .int .i64 0, .int .i64 0, .int .i64 0, .int .i64 0, .int .i64 0, .int .i64 0, .int .i64 0, .int .i64 0, .int .i64 0] 162)).alloc (.cells #[.int .i64 0, .int .i64 9, .int .i64 3, .int .i64 7, .int .i64 7, .int .i64 7, .int .i64 7, .int .i64 7, .int .i64 7, .int .i64 7, .int .i64 7, .int .i64 11, .int .i64 14, .int .i64 1, .int .i64 10, .int .i64 24, .int .i64 26, .int .i64 24, .int .i64 2, .int .i64 2, .int .i64 25, .int .i64 0] 162)).heap[w.heap.size + 1]? = some (.cells #[.int .i64 0, .int .i64 9, .int .i64 3, .int .i64 7, .int .i64 7, .int .i64 7, .int .i64 7, .int .i64 7, .int .i64 7, .int .i64 7, .int .i64 7, .int .i64 11, .int .i64 14, .int .i64 1, .int .i64 10, .int .i64 24, .int .i64 26, .int .i64 24, .int .i64 2, .int .i64 2, .int .i64 25, .int .i64 0] 162 (0, 0)) := heap_alloc2_new _ _ _
      have hs : ((w.alloc (.cells #[.int .i64 0, .int .i64 0, .int .i64 0, .int .i64 0, .int .i64 0, .int .i64 0, .int .i64 0, .int .i64 0, .int .i64 0, .int .i64 0, .int .i64 0, .int .i64 0, .int .i64 0, .int .i64 0, .int .i64 0, .int .i64 0, .int .i64 0, .int .i64 0, .int .i64 0, .int .i64 0, .int .i64 0, .int .i64 0] 162)).alloc (.cells #[.int .i64 0, .int .i64 9, .int .i64 3, .int .i64 7, .int .i64 7, .int .i64 7, .int .i64 7, .int .i64 7, .int .i64 7, .int .i64 7, .int .i64 7, .int .i64 11, .int .i64 14, .int .i64 1, .int .i64 10, .int .i64 24, .int .i64 26, .int .i64 24, .int .i64 2, .int .i64 2, .int .i64 25, .int .i64 0] 162)).heap[w.heap.size]? = some (.cells #[.int .i64 0, .int .i64 0, .int .i64 0, .int .i64 0, .int .i64 0, .int .i64 0, .int .i64 0, .int .i64 0, .int .i64 0, .int .i64 0, .int .i64 0, .int .i64 0, .int .i64 0, .int .i64 0, .int .i64 0, .int .i64 0, .int .i64 0, .int .i64 0, .int .i64 0, .int .i64 0, .int .i64 0, .int .i64 0] 162 (0, 0)) := heap_alloc2_old _ _ _
      go_wp2_with (first | (refine wpList_load_row rfl 162 (.tmp 1) rfl (w.heap.size + 1) rfl 162 _ _ _ hl Try.underlying162 rfl (by kernel_rfl) ?_) | (refine wpList_store_row rfl 162 (.tmp 0) (.tmp 21) rfl w.heap.size _ rfl rfl 162 _ hs (by kernel_rfl) rfl (by simp [Value.oneCell']) ?_))
      exact bodyPost_ret (v := .agg #[.int .i64 0, .int .i64 9, .int .i64 3, .int .i64 7, .int .i64 7, .int .i64 7, .int .i64 7, .int .i64 7, .int .i64 7, .int .i64 7, .int .i64 7, .int .i64 11, .int .i64 14, .int .i64 1, .int .i64 10, .int .i64 24, .int .i64 26, .int .i64 24, .int .i64 2, .int .i64 2, .int .i64 25, .int .i64 0]) (results_cell_row rfl _ _ w.heap.size 162 _ _ _ rfl (setRow_heap _ _ _ _ _ _ hs) Try.underlying162 rfl (by kernel_rfl)) rfl ⟨rfl, below_setRow (((Below.refl w.heap.size w).alloc (Nat.le_refl _) _).alloc (by simp) _) (Nat.le_refl _) _⟩
def isa_hasT : List Int := [0, 9, 3, 7, 7, 7, 7, 7, 7, 7, 7, 11, 14, 1, 10, 24, 26, 24, 2, 2, 25, 0]
def isa_has.f (a0 : Int) : Option Int := some (if a0 < 0 then 0 else isa_hasT.getD a0.toNat 0)
theorem isa_has.index (n : Nat) (h : n < 22) : ∀ w : World, (Instr.index 162 (.agg #[.int .i64 0, .int .i64 9, .int .i64 3, .int .i64 7, .int .i64 7, .int .i64 7, .int .i64 7, .int .i64 7, .int .i64 7, .int .i64 7, .int .i64 7, .int .i64 11, .int .i64 14, .int .i64 1, .int .i64 10, .int .i64 24, .int .i64 26, .int .i64 24, .int .i64 2, .int .i64 2, .int .i64 25, .int .i64 0]) (.int .i8 n)).run Try.prog w = .ok (.int .i64 (isa_hasT.getD n 0)) w := by
  rcases n with _ | _ | _ | _ | _ | _ | _ | _ | _ | _ | _ | _ | _ | _ | _ | _ | _ | _ | _ | _ | _ | _ | n
  all_goals first | omega | (intro w; kernel_rfl)
set_option maxRecDepth 100000 in
set_option maxHeartbeats 4000000 in
theorem isa_has.calls (a0 r : Int) (w : World) (h : isa_has.f a0 = some r) : Calls Try.prog 72 #[.int .i8 a0] w fun e w' => e = .returned (.int .i64 r) ∧ Below w.heap.size w w' := by
  obtain rfl := Option.some.inj h
  clear h
  by_cases h0 : a0 < 0
  · rw [if_pos h0]
    go_enter Try.func72, Try.ntmps72
    go_wp2
    go_ret
    exact ⟨rfl, Below.refl _ _⟩
  · rw [if_neg h0]
    obtain ⟨n, rfl⟩ := Int.eq_ofNat_of_zero_le (Int.not_lt.1 h0)
    by_cases h1 : n < 22
    · have hi := isa_has.index n h1
      simp only [Int.toNat_natCast]
      generalize isa_hasT.getD n 0 = r at hi ⊢
      go_enter Try.func72, Try.ntmps72
      go_wp2_with (go_at_call 109; refine (isa_fields.calls _).mono ?_; rintro e w' ⟨rfl, hb⟩)
      go_ret
      exact ⟨rfl, hb⟩
    · have h2 : isa_hasT.getD n 0 = 0 := by rw [List.getD_eq_getElem?_getD, List.getElem?_eq_none (by simpa [isa_hasT] using h1)]; rfl
      rw [Int.toNat_natCast, h2]
      clear h2
      go_enter Try.func72, Try.ntmps72
      go_wp2
      go_ret
      exact ⟨rfl, Below.refl _ _⟩

/-! ### isa_Encode: function 73, by hand -/
def enc_ok (f r m : Int) : Prop := 0 ≤ r ∧ r < 16 ∧ (r = 0 ∨ (bits BinOp.and IntKind.i64 f m == 0) = false)
instance (f r m : Int) : Decidable (enc_ok f r m) := by unfold enc_ok; infer_instance
structure enc_oks (f D A B : Int) (k : Nat) : Prop where
  d : 0 < k → enc_ok f D 1
  a : 1 < k → enc_ok f A 2
  b : 2 < k → enc_ok f B 4
theorem enc_oks.next_d {f D A B : Int} (_h : enc_oks f D A B 0) (h1 : enc_ok f D 1) : enc_oks f D A B 1 := ⟨fun _ => h1, fun h => by omega, fun h => by omega⟩
theorem enc_oks.next_a {f D A B : Int} (h : enc_oks f D A B 1) (h1 : enc_ok f A 2) : enc_oks f D A B 2 := ⟨fun _ => h.d (by omega), fun _ => h1, fun h => by omega⟩
theorem enc_oks.next_b {f D A B : Int} (h : enc_oks f D A B 2) (h1 : enc_ok f B 4) : enc_oks f D A B 3 := ⟨fun _ => h.d (by omega), fun _ => h.a (by omega), fun _ => h1⟩
def enc_lo (f : Int) : Int := if (bits BinOp.and IntKind.i64 f 16 != 0) = true then 0 else if (bits BinOp.and IntKind.i64 f 8 != 0) = true then -16384 else 0
def enc_hi (f : Int) : Int := if (bits BinOp.and IntKind.i64 f 16 != 0) = true then 16383 else if (bits BinOp.and IntKind.i64 f 8 != 0) = true then 16383 else 0
theorem enc_16 {f : Int} (h : (bits BinOp.and IntKind.i64 f 16 != 0) = true) : enc_lo f = 0 ∧ enc_hi f = 16383 := by unfold enc_lo enc_hi; rw [if_pos h, if_pos h]; exact ⟨rfl, rfl⟩
theorem enc_8 {f : Int} (h : (bits BinOp.and IntKind.i64 f 16 != 0) = false) (h8 : (bits BinOp.and IntKind.i64 f 8 != 0) = true) : enc_lo f = -16384 ∧ enc_hi f = 16383 := by unfold enc_lo enc_hi; rw [h, h8]; exact ⟨rfl, rfl⟩
theorem enc_0 {f : Int} (h : (bits BinOp.and IntKind.i64 f 16 != 0) = false) (h8 : (bits BinOp.and IntKind.i64 f 8 != 0) = false) : enc_lo f = 0 ∧ enc_hi f = 0 := by unfold enc_lo enc_hi; rw [h, h8]; exact ⟨rfl, rfl⟩
def enc_pack (n D A B N : Int) : Int := n * 134217728 + D * 8388608 + A * 524288 + B * 32768 + N % 32768
def encF (f n D A B N : Int) : Int × Int := if enc_ok f D 1 ∧ enc_ok f A 2 ∧ enc_ok f B 4 then (if N < enc_lo f ∨ enc_hi f < N then (0, 11) else (enc_pack n D A B N, 0)) else (0, 11)
theorem encF_d {f n D A B N : Int} (h : ¬ enc_ok f D 1) : encF f n D A B N = (0, 11) := by unfold encF; rw [if_neg (fun h' => h h'.1)]
theorem encF_a {f n D A B N : Int} (h : ¬ enc_ok f A 2) : encF f n D A B N = (0, 11) := by unfold encF; rw [if_neg (fun h' => h h'.2.1)]
theorem encF_b {f n D A B N : Int} (h : ¬ enc_ok f B 4) : encF f n D A B N = (0, 11) := by unfold encF; rw [if_neg (fun h' => h h'.2.2)]
theorem encF_n {f n D A B N : Int} (h : N < enc_lo f ∨ enc_hi f < N) : encF f n D A B N = (0, 11) := by unfold encF; rw [if_pos h]; split <;> rfl
theorem encF_y {f n D A B N : Int} (h : enc_oks f D A B 3) (h1 : ¬ (N < enc_lo f ∨ enc_hi f < N)) : encF f n D A B N = (enc_pack n D A B N, 0) := by unfold encF; rw [if_pos ⟨h.d (by omega), h.a (by omega), h.b (by omega)⟩, if_neg h1]
def encPost (v : Int × Int) (e : Ending) : Prop := e = .returned (.tuple #[.int .u32 v.1, .int .i64 v.2])
theorem encPost_bad {v : Int × Int} (h : v = (0, 11)) : encPost v (.returned (.tuple #[.int .u32 0, .int .i64 11])) := by rw [h]; rfl
theorem u32_and32767 (n : Int) : bits .and .u32 n 32767 = n % 32768 := by
  have h127 : (BitVec.ofInt 32 32767).toNat = 2 ^ 15 - 1 := by decide
  have key : (BitVec.ofInt 32 n &&& BitVec.ofInt 32 32767).toNat = (n % ((2 ^ 32 : Nat) : Int)).toNat % 2 ^ 15 := by
    rw [BitVec.toNat_and, BitVec.toNat_ofInt, h127, Nat.and_two_pow_sub_one_eq_mod]
  show IntKind.u32.wrap ((BitVec.ofInt 32 n &&& BitVec.ofInt 32 32767).toNat : Nat) = n % 32768
  rw [key, IntKind.wrap_u32]
  omega
theorem wraps_u32 (n : Int) (h₀ : 0 ≤ n) (h₁ : n < 2 ^ 32) : IntKind.u32.wrap n = n := by rw [IntKind.wrap_u32]; omega
theorem enc_pack_bits (n D A B N : Int) (h0 : 0 ≤ n) (h1 : n < 22) (hD : 0 ≤ D) (hD' : D < 16) (hA : 0 ≤ A) (hA' : A < 16) (hB : 0 ≤ B) (hB' : B < 16) :
    bits .or .u32 (bits .or .u32 (bits .or .u32 (bits .or .u32 (n * 134217728) (D % 4294967296 * 8388608 % 4294967296)) (A % 4294967296 * 524288 % 4294967296)) (B % 4294967296 * 32768 % 4294967296)) (bits .and .u32 N 32767) = enc_pack n D A B N := by
  have e1 : D % 4294967296 * 8388608 % 4294967296 = D * 8388608 := by omega
  have e2 : A % 4294967296 * 524288 % 4294967296 = A * 524288 := by omega
  have e3 : B % 4294967296 * 32768 % 4294967296 = B * 32768 := by omega
  rw [e1, e2, e3, u32_and32767]
  rw [bits_join .u32 32 (by decide) wraps_u32 27 (n * 134217728) (D * 8388608) (by omega) (by omega) (by omega) (by omega) (by omega) (by omega)]
  rw [bits_join .u32 32 (by decide) wraps_u32 23 _ (A * 524288) (by omega) (by omega) (by omega) (by omega) (by omega) (by omega)]
  rw [bits_join .u32 32 (by decide) wraps_u32 19 _ (B * 32768) (by omega) (by omega) (by omega) (by omega) (by omega) (by omega)]
  rw [bits_join .u32 32 (by decide) wraps_u32 15 _ (N % 32768) (by omega) (by omega) (by omega) (by omega) (by omega) (by omega)]
  rfl
theorem encPost_good {f n D A B N : Int} (h0 : 0 ≤ n) (h1 : n < 22) (h : enc_oks f D A B 3) (h2 : enc_lo f ≤ N) (h3 : N ≤ enc_hi f) :
    encPost (encF f n D A B N) (.returned (.tuple #[.int .u32 (bits .or .u32 (bits .or .u32 (bits .or .u32 (bits .or .u32 (n * 134217728) (D % 4294967296 * 8388608 % 4294967296)) (A % 4294967296 * 524288 % 4294967296)) (B % 4294967296 * 32768 % 4294967296)) (bits .and .u32 N 32767)), .int .i64 0])) := by
  obtain ⟨d0, d1, _⟩ := h.d (by omega)
  obtain ⟨a0, a1, _⟩ := h.a (by omega)
  obtain ⟨b0, b1, _⟩ := h.b (by omega)
  rw [encF_y h (by omega), enc_pack_bits n D A B N h0 h1 d0 d1 a0 a1 b0 b1]
  rfl
theorem encPost_good2 {f n D A B N : Int} (h0 : 0 ≤ n) (h1 : n < 22) (h : enc_oks f D A B 3) (h2 : enc_lo f ≤ N) (h3 : N ≤ enc_hi f) :
    encPost (encF f n D A B N) (.returned (.tuple #[.int .u32 (bits .or .u32 (bits .or .u32 (bits .or .u32 (bits .or .u32 (n * 134217728) (D % 4294967296 * 8388608 % 4294967296)) (A % 4294967296 * 524288 % 4294967296)) (B % 4294967296 * 32768 % 4294967296)) (bits .and .u32 (N % 4294967296) 32767)), .int .i64 0])) := by
  obtain ⟨d0, d1, _⟩ := h.d (by omega)
  obtain ⟨a0, a1, _⟩ := h.a (by omega)
  obtain ⟨b0, b1, _⟩ := h.b (by omega)
  rw [show bits .and .u32 (N % 4294967296) 32767 = bits .and .u32 N 32767 by rw [u32_and32767, u32_and32767]; omega]
  rw [encF_y h (by omega), enc_pack_bits n D A B N h0 h1 d0 d1 a0 a1 b0 b1]
  rfl
set_option maxRecDepth 100000 in
set_option maxHeartbeats 4000000 in
theorem enc_walk (n : Nat) (hn : n < 22) (f D A B N : Int) (hf0 : 0 ≤ f) (hf1 : f ≤ 31) (w : World) (hh : ∀ w, Calls Try.prog 72 #[.int .i8 n] w fun e w' => e = .returned (.int .i64 f) ∧ Below w.heap.size w w') : Calls Try.prog 73 #[.agg #[.int .i8 n, .int .i8 D, .int .i8 A, .int .i8 B, .int .i64 N]] w fun e w' => encPost (encF f n D A B N) e ∧ Below w.heap.size w w' := by
  have H := Lib.hid hh
  clear hh
  have i0 : ∀ w, (Instr.index 164 (.agg #[.int .i8 D, .int .i8 A, .int .i8 B]) (.int .i64 0)).run Try.prog w = .ok (.int .i8 D) w := fun _ => by kernel_rfl
  have i1 : ∀ w, (Instr.index 164 (.agg #[.int .i8 D, .int .i8 A, .int .i8 B]) (.int .i64 1)).run Try.prog w = .ok (.int .i8 A) w := fun _ => by kernel_rfl
  have i2 : ∀ w, (Instr.index 164 (.agg #[.int .i8 D, .int .i8 A, .int .i8 B]) (.int .i64 2)).run Try.prog w = .ok (.int .i8 B) w := fun _ => by kernel_rfl
  go_enter Try.func73, Try.ntmps73
  go_wp2_with (go_at_call 72; refine (H.out _).mono ?_; rintro e w1 ⟨rfl, hb⟩; have hc : ∀ j, j < 5 → w1.cell? ⟨w.heap.size, j, none⟩ = _ := fun j hj => (hb.cell (p := ⟨w.heap.size, j, none⟩) (by simp)).trans rfl)
  have hz : w.heap.size + 1 ≤ w1.heap.size := by have := hb.size; simp at this; omega
  have hB1 : Below w.heap.size w w1 := ((Below.refl w.heap.size w).alloc (Nat.le_refl _) _).trans (hb.mono (by simp))
  obtain ⟨W2, hW2⟩ : ∃ W2 : World, W2 = w1.alloc (.cells #[.int .i8 D, .int .i8 A, .int .i8 B] 164) := ⟨_, rfl⟩
  have cc : ∀ j, j < 5 → W2.cell? ⟨w.heap.size, j, none⟩ = w1.cell? ⟨w.heap.size, j, none⟩ := fun j _ => by rw [hW2]; exact World.cell?_alloc_old _ _ _ (by show w.heap.size ≠ _; omega)
  have c0 : W2.cell? ⟨w.heap.size, 0, none⟩ = some (.int .i8 n) := (cc 0 (by omega)).trans ((hc 0 (by omega)).trans ((cell_of_row _ _ _ _ _ _ (heap_alloc_new _ _)).trans rfl))
  have c1 : W2.cell? ⟨w.heap.size, 1, none⟩ = some (.int .i8 D) := (cc 1 (by omega)).trans ((hc 1 (by omega)).trans ((cell_of_row _ _ _ _ _ _ (heap_alloc_new _ _)).trans rfl))
  have c2 : W2.cell? ⟨w.heap.size, 2, none⟩ = some (.int .i8 A) := (cc 2 (by omega)).trans ((hc 2 (by omega)).trans ((cell_of_row _ _ _ _ _ _ (heap_alloc_new _ _)).trans rfl))
  have c3 : W2.cell? ⟨w.heap.size, 3, none⟩ = some (.int .i8 B) := (cc 3 (by omega)).trans ((hc 3 (by omega)).trans ((cell_of_row _ _ _ _ _ _ (heap_alloc_new _ _)).trans rfl))
  have c4 : W2.cell? ⟨w.heap.size, 4, none⟩ = some (.int .i64 N) := (cc 4 (by omega)).trans ((hc 4 (by omega)).trans ((cell_of_row _ _ _ _ _ _ (heap_alloc_new _ _)).trans rfl))
  have hB : Hid (Below w.heap.size w W2) := Lib.hid (by rw [hW2]; exact hB1.alloc (by omega) _)
  rw [← hW2]
  clear hW2 cc hc hB1 hb hz
  go_loopw [29] (fun i w' => ∃ k : Nat, (k = 0 ∨ k = 1 ∨ k = 2 ∨ k = 3) ∧ i = .int .i64 k ∧ enc_oks f D A B k ∧ w' = W2) (fun i _ => 3 - (intOf i).toNat)
  case atStart => exact ⟨0, .inl rfl, rfl, ⟨fun h => by omega, fun h => by omega, fun h => by omega⟩, rfl⟩
  case round =>
    obtain ⟨k, hk, rfl, hO, rfl⟩ := hrel
    rcases hk with rfl | rfl | rfl | rfl
    · by_cases hz : D = 0
      · have hz1 : (D != 0) = false := by rw [hz]; rfl
        have Hz := Lib.hid hz
        clear hz
        go_wp2
        · exact ⟨⟨1, by omega, rfl, enc_oks.next_d hO ⟨by omega, by omega, .inl Hz.out⟩, trivial⟩, by simp [intOf]⟩
        all_goals
          go_ret2
          exact ⟨encPost_bad (encF_d (fun hq => by have := hq.1; have := hq.2.1; omega)), hB.out⟩
      · have hz1 : (D != 0) = true := by simpa using hz
        have Hz := Lib.hid hz
        clear hz
        go_wp2
        · go_ret2
          rename_i ho
          exact ⟨encPost_bad (encF_d (fun hq => by
            have h1 := hq.1
            have h2 := hq.2.1
            rcases hq.2.2 with h3 | h3
            · exact Hz.out h3
            · rcases ho with ho | ho
              · omega
              · rw [h3] at ho; cases ho)), hB.out⟩
        · rename_i ho
          exact ⟨⟨1, by omega, rfl, enc_oks.next_d hO ⟨ho.1.1, ho.1.2, .inr ho.2⟩, trivial⟩, by simp [intOf]⟩
        all_goals
          go_ret2
          exact ⟨encPost_bad (encF_d (fun hq => by have := hq.1; have := hq.2.1; omega)), hB.out⟩
    · by_cases hz : A = 0
      · have hz1 : (A != 0) = false := by rw [hz]; rfl
        have Hz := Lib.hid hz
        clear hz
        go_wp2
        · exact ⟨⟨2, by omega, rfl, enc_oks.next_a hO ⟨by omega, by omega, .inl Hz.out⟩, trivial⟩, by simp [intOf]⟩
        all_goals
          go_ret2
          exact ⟨encPost_bad (encF_a (fun hq => by have := hq.1; have := hq.2.1; omega)), hB.out⟩
      · have hz1 : (A != 0) = true := by simpa using hz
        have Hz := Lib.hid hz
        clear hz
        go_wp2
        · go_ret2
          rename_i ho
          exact ⟨encPost_bad (encF_a (fun hq => by
            have h1 := hq.1
            have h2 := hq.2.1
            rcases hq.2.2 with h3 | h3
            · exact Hz.out h3
            · rcases ho with ho | ho
              · omega
              · rw [h3] at ho; cases ho)), hB.out⟩
        · rename_i ho
          exact ⟨⟨2, by omega, rfl, enc_oks.next_a hO ⟨ho.1.1, ho.1.2, .inr ho.2⟩, trivial⟩, by simp [intOf]⟩
        all_goals
          go_ret2
          exact ⟨encPost_bad (encF_a (fun hq => by have := hq.1; have := hq.2.1; omega)), hB.out⟩
    · by_cases hz : B = 0
      · have hz1 : (B != 0) = false := by rw [hz]; rfl
        have Hz := Lib.hid hz
        clear hz
        go_wp2
        · exact ⟨⟨3, by omega, rfl, enc_oks.next_b hO ⟨by omega, by omega, .inl Hz.out⟩, trivial⟩, by simp [intOf]⟩
        all_goals
          go_ret2
          exact ⟨encPost_bad (encF_b (fun hq => by have := hq.1; have := hq.2.1; omega)), hB.out⟩
      · have hz1 : (B != 0) = true := by simpa using hz
        have Hz := Lib.hid hz
        clear hz
        go_wp2
        · go_ret2
          rename_i ho
          exact ⟨encPost_bad (encF_b (fun hq => by
            have h1 := hq.1
            have h2 := hq.2.1
            rcases hq.2.2 with h3 | h3
            · exact Hz.out h3
            · rcases ho with ho | ho
              · omega
              · rw [h3] at ho; cases ho)), hB.out⟩
        · rename_i ho
          exact ⟨⟨3, by omega, rfl, enc_oks.next_b hO ⟨ho.1.1, ho.1.2, .inr ho.2⟩, trivial⟩, by simp [intOf]⟩
        all_goals
          go_ret2
          exact ⟨encPost_bad (encF_b (fun hq => by have := hq.1; have := hq.2.1; omega)), hB.out⟩
    · go_wp2
      all_goals go_ret2
      all_goals
        first
          | (have h16 : (bits BinOp.and IntKind.i64 f 16 != 0) = true := by assumption
             obtain ⟨e1, e2⟩ := enc_16 h16
             first | exact ⟨encPost_good (by omega) (by omega) hO (by omega) (by omega), hB.out⟩ | exact ⟨encPost_bad (encF_n (by omega)), hB.out⟩)
          | (have h16 : (bits BinOp.and IntKind.i64 f 16 != 0) = false := by assumption
             have h8 : (bits BinOp.and IntKind.i64 f 8 != 0) = true := by assumption
             obtain ⟨e1, e2⟩ := enc_8 h16 h8
             first | exact ⟨encPost_good2 (by omega) (by omega) hO (by omega) (by omega), hB.out⟩ | exact ⟨encPost_good (by omega) (by omega) hO (by omega) (by omega), hB.out⟩ | exact ⟨encPost_bad (encF_n (by omega)), hB.out⟩)
          | (have h16 : (bits BinOp.and IntKind.i64 f 16 != 0) = false := by assumption
             have h8 : (bits BinOp.and IntKind.i64 f 8 != 0) = false := by assumption
             obtain ⟨e1, e2⟩ := enc_0 h16 h8
             first | exact ⟨encPost_good (by omega) (by omega) hO (by omega) (by omega), hB.out⟩ | exact ⟨encPost_bad (encF_n (by omega)), hB.out⟩)
def isa_Encode.f (a0_0 a0_1 a0_2 a0_3 a0_4 : Int) : Option (Int × Int) := some (if a0_0 < 0 ∨ 22 ≤ a0_0 then (0, 10) else encF (isa_hasT.getD a0_0.toNat 0) a0_0 a0_1 a0_2 a0_3 a0_4)
theorem isa_hasT_range : ∀ n, n < 22 → 0 ≤ isa_hasT.getD n 0 ∧ isa_hasT.getD n 0 ≤ 31 := by decide
set_option maxRecDepth 100000 in
set_option maxHeartbeats 4000000 in
theorem isa_Encode.calls (a0_0 a0_1 a0_2 a0_3 a0_4 r1 r2 : Int) (w : World) (h : isa_Encode.f a0_0 a0_1 a0_2 a0_3 a0_4 = some (r1, r2)) :
    Calls Try.prog 73 #[.agg #[.int .i8 a0_0, .int .i8 a0_1, .int .i8 a0_2, .int .i8 a0_3, .int .i64 a0_4]] w fun e w' => e = .returned (.tuple #[.int .u32 r1, .int .i64 r2]) ∧ Below w.heap.size w w' := by
  have h' := Option.some.inj h
  clear h
  by_cases h0 : a0_0 < 0 ∨ 22 ≤ a0_0
  · rw [if_pos h0] at h'
    obtain ⟨rfl, rfl⟩ := Prod.mk.inj h'
    clear h'
    rcases h0 with h0 | h0
    · go_enter Try.func73, Try.ntmps73
      go_wp2
      go_ret2
      exact ⟨rfl, (Below.refl _ _).alloc (Nat.le_refl _) _⟩
    · have h1 : ¬ a0_0 < 0 := by omega
      go_enter Try.func73, Try.ntmps73
      go_wp2
      go_ret2
      exact ⟨rfl, (Below.refl _ _).alloc (Nat.le_refl _) _⟩
  · rw [if_neg h0] at h'
    obtain ⟨n, rfl⟩ := Int.eq_ofNat_of_zero_le (show 0 ≤ a0_0 by omega)
    have hn : n < 22 := by omega
    rw [Int.toNat_natCast] at h'
    refine (enc_walk n hn (isa_hasT.getD n 0) a0_1 a0_2 a0_3 a0_4 (isa_hasT_range n hn).1 (isa_hasT_range n hn).2 w (fun w => isa_has.calls n _ w ?_)).mono ?_
    · unfold isa_has.f
      rw [if_neg (by omega), Int.toNat_natCast]
    · rintro e w' ⟨he, hb⟩
      rw [h'] at he
      exact ⟨he, hb⟩

/-! ### isa_Decode: function 16 -/
def isa_Decode.j0 : Nat → Int → Bool → Int → Int → Int → Int → Int → Option (Int × Int × Int × Int × Int)
  | 0, _, _, _, _, _, _, _ => none
  | k + 1, x0, x41, x103000, x103001, x103002, x103003, x103004 => if x41 = true then ((isa_Encode.f x103000 x103001 x103002 x103003 (wrap64 (x103004 - 32768))).bind fun bt104 => (if bt104.2 = 0 then (if bt104.1 = x0 then (some (x103000, x103001, x103002, x103003, wrap64 (x103004 - 32768))) else (some ((-1), 0, 0, 0, wrap64 (x0)))) else (some ((-1), 0, 0, 0, wrap64 (x0))))) else ((isa_Encode.f x103000 x103001 x103002 x103003 x103004).bind fun bt106 => (if bt106.2 = 0 then (if bt106.1 = x0 then (some (x103000, x103001, x103002, x103003, x103004)) else (some ((-1), 0, 0, 0, wrap64 (x0)))) else (some ((-1), 0, 0, 0, wrap64 (x0)))))
def isa_Decode.f (k : Nat) (a0 : Int) : Option (Int × Int × Int × Int × Int) := (isa_has.f (IntKind.i8.wrap (a0 / 134217728))).bind fun t103 => (if (Go.bits .and .i64 t103 8) = 0 then (isa_Decode.j0 k a0 false (IntKind.i8.wrap (a0 / 134217728)) (IntKind.i8.wrap (Go.bits .and .u32 (a0 / 8388608) 15)) (IntKind.i8.wrap (Go.bits .and .u32 (a0 / 524288) 15)) (IntKind.i8.wrap (Go.bits .and .u32 (a0 / 32768) 15)) (wrap64 (Go.bits .and .u32 a0 32767))) else (if (Go.bits .and .i64 t103 16) = 0 then (isa_Decode.j0 k a0 (decide ((wrap64 (Go.bits .and .u32 a0 32767)) ≥ 16384)) (IntKind.i8.wrap (a0 / 134217728)) (IntKind.i8.wrap (Go.bits .and .u32 (a0 / 8388608) 15)) (IntKind.i8.wrap (Go.bits .and .u32 (a0 / 524288) 15)) (IntKind.i8.wrap (Go.bits .and .u32 (a0 / 32768) 15)) (wrap64 (Go.bits .and .u32 a0 32767))) else (isa_Decode.j0 k a0 false (IntKind.i8.wrap (a0 / 134217728)) (IntKind.i8.wrap (Go.bits .and .u32 (a0 / 8388608) 15)) (IntKind.i8.wrap (Go.bits .and .u32 (a0 / 524288) 15)) (IntKind.i8.wrap (Go.bits .and .u32 (a0 / 32768) 15)) (wrap64 (Go.bits .and .u32 a0 32767)))))
theorem isa_Decode.mono_l : ∀ k, (∀ y0 y1 y2 y3 y4 y5 y6, LeO (isa_Decode.j0 k y0 y1 y2 y3 y4 y5 y6) (isa_Decode.j0 (k + 1) y0 y1 y2 y3 y4 y5 y6))
  | 0 => fun _ _ _ _ _ _ _ r h => by simp [isa_Decode.j0] at h
  | k + 1 => by
    have ih0 := isa_Decode.mono_l k
    · intro y0 y1 y2 y3 y4 y5 y6
      unfold isa_Decode.j0
      exact zMo
theorem isa_Decode.mono : ∀ a0 k, LeO (isa_Decode.f k a0) (isa_Decode.f (k + 1) a0) := by
  intro a0 k
  have ih0 := isa_Decode.mono_l k
  unfold isa_Decode.f
  exact zMo
set_option maxHeartbeats 8000000 in
set_option maxRecDepth 100000 in
theorem isa_Decode.calls (k : Nat) (a0 : Int) (r1 : Int) (r2 : Int) (r3 : Int) (r4 : Int) (r5 : Int) (w : World) (h : isa_Decode.f k a0 = some (r1, r2, r3, r4, r5)) :
    Calls Try.prog 16 #[.int .u32 a0] w fun e w' => e = .returned (.agg #[.int .i8 r1, .int .i8 r2, .int .i8 r3, .int .i8 r4, .int .i64 r5]) ∧ Below w.heap.size w w' := by
  have hu36 := Try.underlying36
  have HB := Aside0.mk (Below.refl w.heap.size w)
  have H := h
  clear h
  unfold isa_Decode.f at H
  replace H := Option.bind_eq_some_iff.mp H
  obtain ⟨t103, A20, H⟩ := H
  (try dsimp only at H)
  have A2 := Aside0.mk A20
  clear A20
  have HC3 := Aside0.mk H
  clear H
  go_enter Try.func16, Try.ntmps16
  go_upto_region 3 with (first | ((with_reducible refine gate_dst (N := 2) rfl ?_); refine zBox (N := 2) (cs := #[.int .i8 0, .int .i8 0, .int .i8 0, .int .i8 0, .int .i64 0]) (t := 36) ?_; intro gb101 hg w4 hbox hb; refine zs (below_step (zHB) hb) (zs hbox (zs (zGe hg zHB) (zs (zGe hg zHB) ?_))); clear HB; intro GE101 GW101 BK101 HB; clear hb hbox hg) | ((with_reducible refine gate_dst (N := 3) rfl ?_); refine zBox (N := 3) (cs := #[.int .i8 0, .int .i8 0, .int .i8 0, .int .i8 0, .int .i64 0]) (t := 36) ?_; intro gb102 hg w5 hbox hb; refine zs (blk_below (g := gb101) zBK hb) (zs (below_step (zHB) hb) (zs hbox (zs (zGe hg zHB) (zs (zGe hg zHB) (zs (zNl hg zBK : gb101 ≠ gb102) (zs ((zNg hg zBK : gb102 ≠ gb101)) ?_)))))); clear BK101 HB; intro NB102_101 NB101_102 GE102 GW102 BK102 HB BK101; clear hb hbox hg; have hnb6 := NB102_101.out; have hnc6 := NB101_102.out; have hcz7 := blk_cell BK102.out; have hfz7 := blk_frozen BK102.out) | ((with_reducible refine gate_callee (f := 72) rfl ?_); refine zGo (N := (some 28)) Try.func72 #[.int .i8 (IntKind.i8.wrap (a0 / 134217728))] ?_; (with_reducible refine (isa_has.calls (IntKind.i8.wrap (a0 / 134217728)) t103 _ A2.out).mono ?_); rintro e w8 ⟨rfl, hb⟩; refine ⟨_, rfl, ?_⟩; refine zs (blk_below (g := gb101) zBK hb) (zs (blk_below (g := gb102) (o := .cells #[.int .i8 (IntKind.i8.wrap (a0 / 134217728)), .int .i8 (IntKind.i8.wrap (Go.bits .and .u32 (a0 / 8388608) 15)), .int .i8 (IntKind.i8.wrap (Go.bits .and .u32 (a0 / 524288) 15)), .int .i8 (IntKind.i8.wrap (Go.bits .and .u32 (a0 / 32768) 15)), .int .i64 (wrap64 (Go.bits .and .u32 a0 32767))] 36 (0, 0)) (zBK) hb) (zs (below_step (zHB) hb) ?_)); clear BK101 BK102 HB; intro HB BK102 BK101; clear hb))
  (try simp only [Act.put, List.setIfInBounds_toArray, List.set_cons_zero, List.set_cons_succ])
  go_cut [41] (fun v41 wc => ∃ (kq : Nat) (x41_2 : Bool), v41 = .bool x41_2 ∧ Aside0 (isa_Decode.j0 kq a0 x41_2 (IntKind.i8.wrap (a0 / 134217728)) (IntKind.i8.wrap (Go.bits .and .u32 (a0 / 8388608) 15)) (IntKind.i8.wrap (Go.bits .and .u32 (a0 / 524288) 15)) (IntKind.i8.wrap (Go.bits .and .u32 (a0 / 32768) 15)) (wrap64 (Go.bits .and .u32 a0 32767)) = some (r1, r2, r3, r4, r5)) ∧ Aside0 (kq ≤ k) ∧ Aside0 (wc.heap[gb101]? = some (.cells #[.int .i8 0, .int .i8 0, .int .i8 0, .int .i8 0, .int .i64 0] 36 (0, 0))) ∧ Aside0 (wc.heap[gb102]? = some (.cells #[.int .i8 (IntKind.i8.wrap (a0 / 134217728)), .int .i8 (IntKind.i8.wrap (Go.bits .and .u32 (a0 / 8388608) 15)), .int .i8 (IntKind.i8.wrap (Go.bits .and .u32 (a0 / 524288) 15)), .int .i8 (IntKind.i8.wrap (Go.bits .and .u32 (a0 / 32768) 15)), .int .i64 (wrap64 (Go.bits .and .u32 a0 32767))] 36 (0, 0))) ∧ Aside0 (Below w.heap.size w wc))
  case first =>
    have H := HC3.out
    clear HC3
    by_cases c9 : (Go.bits .and .i64 t103 8) = 0
    · rw [if_pos c9] at H
      have c9b0 := beq_iff_eq.mpr c9
      have c9b1 := bne_eq_false_iff_eq.mpr c9
      clear c9
      (first | rw [c9b0] | (simp only [i64_w, i32_w]; rw [c9b0]) | skip)
      have H' := Aside0.mk H
      clear H
      go_wp2
      go_meet
      case rel => exact ⟨_, (false), zF', H', ⟨zL⟩, ⟨zBK⟩, ⟨zBK⟩, ⟨zHB⟩⟩
    · rw [if_neg c9] at H
      have c9b0 := beq_eq_false_iff_ne.mpr c9
      have c9b1 := bne_iff_ne.mpr c9
      (first | rw [c9b0] | (simp only [i64_w, i32_w]; rw [c9b0]) | skip)
      by_cases c10 : (Go.bits .and .i64 t103 16) = 0
      · rw [if_pos c10] at H
        have c10b0 := beq_iff_eq.mpr c10
        have c10b1 := bne_eq_false_iff_eq.mpr c10
        clear c10
        have H' := Aside0.mk H
        clear H
        have hnb11 := NB102_101.out
        have hnc11 := NB101_102.out
        have hcz12 := blk_cell BK102.out
        have hfz12 := blk_frozen BK102.out
        go_wp2
        go_meet
        case rel => exact ⟨_, (decide ((wrap64 (Go.bits .and .u32 a0 32767)) ≥ 16384)), zF', H', ⟨zL⟩, ⟨zBK⟩, ⟨zBK⟩, ⟨zHB⟩⟩
      · rw [if_neg c10] at H
        have c10b0 := beq_eq_false_iff_ne.mpr c10
        have c10b1 := bne_iff_ne.mpr c10
        have H' := Aside0.mk H
        clear H
        go_wp2
        go_meet
        case rel => exact ⟨_, (false), zF', H', ⟨zL⟩, ⟨zBK⟩, ⟨zBK⟩, ⟨zHB⟩⟩
  case rest =>
    clear HC3
    try clear hcz7
    try clear hfz7
    obtain ⟨kq, x41_2, rfl, HA, HJ2, BK101, BK102, HB⟩ := hcut
    cases kq with
    | zero => exact absurd HA.out (by simp [isa_Decode.j0])
    | succ kj2 =>
      have H := HA.out
      clear HA
      simp only [isa_Decode.j0] at H
      by_cases c13 : x41_2 = true
      · subst c13
        rw [if_pos rfl] at H
        replace H := Option.bind_eq_some_iff.mp H
        obtain ⟨⟨t104, t105⟩, A140, H⟩ := H
        (try dsimp only at H)
        have A14 := Aside0.mk A140
        clear A140
        by_cases c15 : t105 = 0
        · rw [if_pos c15] at H
          have c15b0 := beq_iff_eq.mpr c15
          have c15b1 := bne_eq_false_iff_eq.mpr c15
          clear c15
          by_cases c16 : t104 = a0
          · rw [if_pos c16] at H
            have c16b0 := beq_iff_eq.mpr c16
            have c16b1 := bne_eq_false_iff_eq.mpr c16
            clear c16
            simp only [Option.some.injEq, Prod.mk.injEq] at H
            obtain ⟨rfl, rfl, rfl, rfl, rfl⟩ := H
            have hnb17 := NB102_101.out
            have hnc17 := NB101_102.out
            have hcz18 := blk_cell BK102.out
            have hfz18 := blk_frozen BK102.out
            go_wp2_with (first | ((with_reducible refine gate_callee (f := 73) rfl ?_); refine zGo (N := (some 48)) Try.func73 #[.agg #[.int .i8 (IntKind.i8.wrap (a0 / 134217728)), .int .i8 (IntKind.i8.wrap (Go.bits .and .u32 (a0 / 8388608) 15)), .int .i8 (IntKind.i8.wrap (Go.bits .and .u32 (a0 / 524288) 15)), .int .i8 (IntKind.i8.wrap (Go.bits .and .u32 (a0 / 32768) 15)), .int .i64 (wrap64 ((wrap64 (Go.bits .and .u32 a0 32767)) - 32768))]] ?_; (with_reducible refine (isa_Encode.calls (IntKind.i8.wrap (a0 / 134217728)) (IntKind.i8.wrap (Go.bits .and .u32 (a0 / 8388608) 15)) (IntKind.i8.wrap (Go.bits .and .u32 (a0 / 524288) 15)) (IntKind.i8.wrap (Go.bits .and .u32 (a0 / 32768) 15)) (wrap64 ((wrap64 (Go.bits .and .u32 a0 32767)) - 32768)) t104 t105 _ A14.out).mono ?_); rintro e w19 ⟨rfl, hb⟩; refine ⟨_, rfl, ?_⟩; refine zs (blk_below (g := gb101) zBK hb) (zs (blk_below (g := gb102) (o := .cells #[.int .i8 (IntKind.i8.wrap (a0 / 134217728)), .int .i8 (IntKind.i8.wrap (Go.bits .and .u32 (a0 / 8388608) 15)), .int .i8 (IntKind.i8.wrap (Go.bits .and .u32 (a0 / 524288) 15)), .int .i8 (IntKind.i8.wrap (Go.bits .and .u32 (a0 / 32768) 15)), .int .i64 (wrap64 ((wrap64 (Go.bits .and .u32 a0 32767)) - 32768))] 36 (0, 0)) (zBK) hb) (zs (below_step (zHB) hb) ?_)); clear BK101 BK102 HB; intro HB BK102 BK101; clear hb; have hcz20 := blk_cell BK102.out; have hfz20 := blk_frozen BK102.out; have hcz21 := blk_cell BK101.out; have hfz21 := blk_frozen BK101.out))
            refine zRet gb101 36 #[.int .i8 (IntKind.i8.wrap (a0 / 134217728)), .int .i8 (IntKind.i8.wrap (Go.bits .and .u32 (a0 / 8388608) 15)), .int .i8 (IntKind.i8.wrap (Go.bits .and .u32 (a0 / 524288) 15)), .int .i8 (IntKind.i8.wrap (Go.bits .and .u32 (a0 / 32768) 15)), .int .i64 (wrap64 ((wrap64 (Go.bits .and .u32 a0 32767)) - 32768))] Try.underlying36 ?_
            exact ⟨zE, zHB⟩
          · rw [if_neg c16] at H
            have c16b0 := beq_eq_false_iff_ne.mpr c16
            have c16b1 := bne_iff_ne.mpr c16
            simp only [Option.some.injEq, Prod.mk.injEq] at H
            obtain ⟨rfl, rfl, rfl, rfl, rfl⟩ := H
            have hnb22 := NB102_101.out
            have hnc22 := NB101_102.out
            have hcz23 := blk_cell BK102.out
            have hfz23 := blk_frozen BK102.out
            go_wp2_with (first | ((with_reducible refine gate_callee (f := 73) rfl ?_); refine zGo (N := (some 48)) Try.func73 #[.agg #[.int .i8 (IntKind.i8.wrap (a0 / 134217728)), .int .i8 (IntKind.i8.wrap (Go.bits .and .u32 (a0 / 8388608) 15)), .int .i8 (IntKind.i8.wrap (Go.bits .and .u32 (a0 / 524288) 15)), .int .i8 (IntKind.i8.wrap (Go.bits .and .u32 (a0 / 32768) 15)), .int .i64 (wrap64 ((wrap64 (Go.bits .and .u32 a0 32767)) - 32768))]] ?_; (with_reducible refine (isa_Encode.calls (IntKind.i8.wrap (a0 / 134217728)) (IntKind.i8.wrap (Go.bits .and .u32 (a0 / 8388608) 15)) (IntKind.i8.wrap (Go.bits .and .u32 (a0 / 524288) 15)) (IntKind.i8.wrap (Go.bits .and .u32 (a0 / 32768) 15)) (wrap64 ((wrap64 (Go.bits .and .u32 a0 32767)) - 32768)) t104 t105 _ A14.out).mono ?_); rintro e w24 ⟨rfl, hb⟩; refine ⟨_, rfl, ?_⟩; refine zs (blk_below (g := gb101) zBK hb) (zs (blk_below (g := gb102) (o := .cells #[.int .i8 (IntKind.i8.wrap (a0 / 134217728)), .int .i8 (IntKind.i8.wrap (Go.bits .and .u32 (a0 / 8388608) 15)), .int .i8 (IntKind.i8.wrap (Go.bits .and .u32 (a0 / 524288) 15)), .int .i8 (IntKind.i8.wrap (Go.bits .and .u32 (a0 / 32768) 15)), .int .i64 (wrap64 ((wrap64 (Go.bits .and .u32 a0 32767)) - 32768))] 36 (0, 0)) (zBK) hb) (zs (below_step (zHB) hb) ?_)); clear BK101 BK102 HB; intro HB BK102 BK101; clear hb; have hcz25 := blk_cell BK101.out; have hfz25 := blk_frozen BK101.out))
            refine zRet gb101 36 #[.int .i8 (-1), .int .i8 0, .int .i8 0, .int .i8 0, .int .i64 (wrap64 (a0))] Try.underlying36 ?_
            exact ⟨zE, zHB⟩
        · rw [if_neg c15] at H
          have c15b0 := beq_eq_false_iff_ne.mpr c15
          have c15b1 := bne_iff_ne.mpr c15
          simp only [Option.some.injEq, Prod.mk.injEq] at H
          obtain ⟨rfl, rfl, rfl, rfl, rfl⟩ := H
          have hnb26 := NB102_101.out
          have hnc26 := NB101_102.out
          have hcz27 := blk_cell BK102.out
          have hfz27 := blk_frozen BK102.out
          go_wp2_with (first | ((with_reducible refine gate_callee (f := 73) rfl ?_); refine zGo (N := (some 48)) Try.func73 #[.agg #[.int .i8 (IntKind.i8.wrap (a0 / 134217728)), .int .i8 (IntKind.i8.wrap (Go.bits .and .u32 (a0 / 8388608) 15)), .int .i8 (IntKind.i8.wrap (Go.bits .and .u32 (a0 / 524288) 15)), .int .i8 (IntKind.i8.wrap (Go.bits .and .u32 (a0 / 32768) 15)), .int .i64 (wrap64 ((wrap64 (Go.bits .and .u32 a0 32767)) - 32768))]] ?_; (with_reducible refine (isa_Encode.calls (IntKind.i8.wrap (a0 / 134217728)) (IntKind.i8.wrap (Go.bits .and .u32 (a0 / 8388608) 15)) (IntKind.i8.wrap (Go.bits .and .u32 (a0 / 524288) 15)) (IntKind.i8.wrap (Go.bits .and .u32 (a0 / 32768) 15)) (wrap64 ((wrap64 (Go.bits .and .u32 a0 32767)) - 32768)) t104 t105 _ A14.out).mono ?_); rintro e w28 ⟨rfl, hb⟩; refine ⟨_, rfl, ?_⟩; refine zs (blk_below (g := gb101) zBK hb) (zs (blk_below (g := gb102) (o := .cells #[.int .i8 (IntKind.i8.wrap (a0 / 134217728)), .int .i8 (IntKind.i8.wrap (Go.bits .and .u32 (a0 / 8388608) 15)), .int .i8 (IntKind.i8.wrap (Go.bits .and .u32 (a0 / 524288) 15)), .int .i8 (IntKind.i8.wrap (Go.bits .and .u32 (a0 / 32768) 15)), .int .i64 (wrap64 ((wrap64 (Go.bits .and .u32 a0 32767)) - 32768))] 36 (0, 0)) (zBK) hb) (zs (below_step (zHB) hb) ?_)); clear BK101 BK102 HB; intro HB BK102 BK101; clear hb; have hcz29 := blk_cell BK101.out; have hfz29 := blk_frozen BK101.out))
          refine zRet gb101 36 #[.int .i8 (-1), .int .i8 0, .int .i8 0, .int .i8 0, .int .i64 (wrap64 (a0))] Try.underlying36 ?_
          exact ⟨zE, zHB⟩
      · replace c13 := Bool.eq_false_iff.mpr c13
        subst c13
        rw [if_neg (show ¬ (false = true) by decide)] at H
        replace H := Option.bind_eq_some_iff.mp H
        obtain ⟨⟨t106, t107⟩, A300, H⟩ := H
        (try dsimp only at H)
        have A30 := Aside0.mk A300
        clear A300
        by_cases c31 : t107 = 0
        · rw [if_pos c31] at H
          have c31b0 := beq_iff_eq.mpr c31
          have c31b1 := bne_eq_false_iff_eq.mpr c31
          clear c31
          by_cases c32 : t106 = a0
          · rw [if_pos c32] at H
            have c32b0 := beq_iff_eq.mpr c32
            have c32b1 := bne_eq_false_iff_eq.mpr c32
            clear c32
            simp only [Option.some.injEq, Prod.mk.injEq] at H
            obtain ⟨rfl, rfl, rfl, rfl, rfl⟩ := H
            have hnb33 := NB102_101.out
            have hnc33 := NB101_102.out
            have hcz34 := blk_cell BK102.out
            have hfz34 := blk_frozen BK102.out
            go_wp2_with (first | ((with_reducible refine gate_callee (f := 73) rfl ?_); refine zGo (N := (some 48)) Try.func73 #[.agg #[.int .i8 (IntKind.i8.wrap (a0 / 134217728)), .int .i8 (IntKind.i8.wrap (Go.bits .and .u32 (a0 / 8388608) 15)), .int .i8 (IntKind.i8.wrap (Go.bits .and .u32 (a0 / 524288) 15)), .int .i8 (IntKind.i8.wrap (Go.bits .and .u32 (a0 / 32768) 15)), .int .i64 (wrap64 (Go.bits .and .u32 a0 32767))]] ?_; (with_reducible refine (isa_Encode.calls (IntKind.i8.wrap (a0 / 134217728)) (IntKind.i8.wrap (Go.bits .and .u32 (a0 / 8388608) 15)) (IntKind.i8.wrap (Go.bits .and .u32 (a0 / 524288) 15)) (IntKind.i8.wrap (Go.bits .and .u32 (a0 / 32768) 15)) (wrap64 (Go.bits .and .u32 a0 32767)) t106 t107 _ A30.out).mono ?_); rintro e w35 ⟨rfl, hb⟩; refine ⟨_, rfl, ?_⟩; refine zs (blk_below (g := gb101) zBK hb) (zs (blk_below (g := gb102) zBK hb) (zs (below_step (zHB) hb) ?_)); clear BK101 BK102 HB; intro HB BK102 BK101; clear hb; have hcz36 := blk_cell BK102.out; have hfz36 := blk_frozen BK102.out; have hcz37 := blk_cell BK101.out; have hfz37 := blk_frozen BK101.out))
            refine zRet gb101 36 #[.int .i8 (IntKind.i8.wrap (a0 / 134217728)), .int .i8 (IntKind.i8.wrap (Go.bits .and .u32 (a0 / 8388608) 15)), .int .i8 (IntKind.i8.wrap (Go.bits .and .u32 (a0 / 524288) 15)), .int .i8 (IntKind.i8.wrap (Go.bits .and .u32 (a0 / 32768) 15)), .int .i64 (wrap64 (Go.bits .and .u32 a0 32767))] Try.underlying36 ?_
            exact ⟨zE, zHB⟩
          · rw [if_neg c32] at H
            have c32b0 := beq_eq_false_iff_ne.mpr c32
            have c32b1 := bne_iff_ne.mpr c32
            simp only [Option.some.injEq, Prod.mk.injEq] at H
            obtain ⟨rfl, rfl, rfl, rfl, rfl⟩ := H
            have hnb38 := NB102_101.out
            have hnc38 := NB101_102.out
            have hcz39 := blk_cell BK102.out
            have hfz39 := blk_frozen BK102.out
            go_wp2_with (first | ((with_reducible refine gate_callee (f := 73) rfl ?_); refine zGo (N := (some 48)) Try.func73 #[.agg #[.int .i8 (IntKind.i8.wrap (a0 / 134217728)), .int .i8 (IntKind.i8.wrap (Go.bits .and .u32 (a0 / 8388608) 15)), .int .i8 (IntKind.i8.wrap (Go.bits .and .u32 (a0 / 524288) 15)), .int .i8 (IntKind.i8.wrap (Go.bits .and .u32 (a0 / 32768) 15)), .int .i64 (wrap64 (Go.bits .and .u32 a0 32767))]] ?_; (with_reducible refine (isa_Encode.calls (IntKind.i8.wrap (a0 / 134217728)) (IntKind.i8.wrap (Go.bits .and .u32 (a0 / 8388608) 15)) (IntKind.i8.wrap (Go.bits .and .u32 (a0 / 524288) 15)) (IntKind.i8.wrap (Go.bits .and .u32 (a0 / 32768) 15)) (wrap64 (Go.bits .and .u32 a0 32767)) t106 t107 _ A30.out).mono ?_); rintro e w40 ⟨rfl, hb⟩; refine ⟨_, rfl, ?_⟩; refine zs (blk_below (g := gb101) zBK hb) (zs (blk_below (g := gb102) zBK hb) (zs (below_step (zHB) hb) ?_)); clear BK101 BK102 HB; intro HB BK102 BK101; clear hb; have hcz41 := blk_cell BK101.out; have hfz41 := blk_frozen BK101.out))
            refine zRet gb101 36 #[.int .i8 (-1), .int .i8 0, .int .i8 0, .int .i8 0, .int .i64 (wrap64 (a0))] Try.underlying36 ?_
            exact ⟨zE, zHB⟩
        · rw [if_neg c31] at H
          have c31b0 := beq_eq_false_iff_ne.mpr c31
          have c31b1 := bne_iff_ne.mpr c31
          simp only [Option.some.injEq, Prod.mk.injEq] at H
          obtain ⟨rfl, rfl, rfl, rfl, rfl⟩ := H
          have hnb42 := NB102_101.out
          have hnc42 := NB101_102.out
          have hcz43 := blk_cell BK102.out
          have hfz43 := blk_frozen BK102.out
          go_wp2_with (first | ((with_reducible refine gate_callee (f := 73) rfl ?_); refine zGo (N := (some 48)) Try.func73 #[.agg #[.int .i8 (IntKind.i8.wrap (a0 / 134217728)), .int .i8 (IntKind.i8.wrap (Go.bits .and .u32 (a0 / 8388608) 15)), .int .i8 (IntKind.i8.wrap (Go.bits .and .u32 (a0 / 524288) 15)), .int .i8 (IntKind.i8.wrap (Go.bits .and .u32 (a0 / 32768) 15)), .int .i64 (wrap64 (Go.bits .and .u32 a0 32767))]] ?_; (with_reducible refine (isa_Encode.calls (IntKind.i8.wrap (a0 / 134217728)) (IntKind.i8.wrap (Go.bits .and .u32 (a0 / 8388608) 15)) (IntKind.i8.wrap (Go.bits .and .u32 (a0 / 524288) 15)) (IntKind.i8.wrap (Go.bits .and .u32 (a0 / 32768) 15)) (wrap64 (Go.bits .and .u32 a0 32767)) t106 t107 _ A30.out).mono ?_); rintro e w44 ⟨rfl, hb⟩; refine ⟨_, rfl, ?_⟩; refine zs (blk_below (g := gb101) zBK hb) (zs (blk_below (g := gb102) zBK hb) (zs (below_step (zHB) hb) ?_)); clear BK101 BK102 HB; intro HB BK102 BK101; clear hb; have hcz45 := blk_cell BK101.out; have hfz45 := blk_frozen BK101.out))
          refine zRet gb101 36 #[.int .i8 (-1), .int .i8 0, .int .i8 0, .int .i8 0, .int .i64 (wrap64 (a0))] Try.underlying36 ?_
          exact ⟨zE, zHB⟩

end Go.Proofs.Ytfgdjpgdabjpmaa.PEdgeRuns
