-- Written for this claim by a program of this session (wip/tools/pp.py, over the kit's print).
import Derived.Test.YthkiapcoagjjpaaPSuffixOrderx0
namespace Go.Proofs.Ythkiapcoagjjpaa.PSuffixOrder
open Go.RowKit Go.Proofs.YthkiapcoagjjpaaW.PrintWords Go.Proofs.YthkiapcoagjjpaaW.PrintLast Go.Proofs.YthkiapcoagjjpaaW.PrintMore
attribute [local go_sem] max2_int min2_int max_two min_two max_three min_three max_four min_four   -- for this text's walks alone
set_option linter.unusedVariables false
set_option linter.unusedSimpArgs false

/-! ### pleatlaw16_less: function 28 -/
def pleatlaw16_less.l0 : Nat → List Int → Int → Int → Int → Option (Bool)
  | 0, _, _, _, _ => none
  | k + 1, x0, x1, x2, x7 => if (wrap64 (x1 + x7)) < (x0.length : Int) then (if (wrap64 (x2 + x7)) < (x0.length : Int) then (if 0 ≤ (wrap64 (x1 + x7)) then (if 0 ≤ (wrap64 (x2 + x7)) then (if (rd x0 (wrap64 (x1 + x7))) = (rd x0 (wrap64 (x2 + x7))) then (pleatlaw16_less.l0 k x0 x1 x2 (wrap64 (x7 + 1))) else (if (wrap64 (x1 + x7)) = (x0.length : Int) then (some (decide ((wrap64 (x2 + x7)) < (x0.length : Int)))) else (some (decide ((rd x0 (wrap64 (x1 + x7))) < (rd x0 (wrap64 (x2 + x7)))))))) else (none)) else (none)) else (if (wrap64 (x1 + x7)) = (x0.length : Int) then (some (decide ((wrap64 (x2 + x7)) < (x0.length : Int)))) else (some false))) else (if (wrap64 (x1 + x7)) = (x0.length : Int) then (some (decide ((wrap64 (x2 + x7)) < (x0.length : Int)))) else (if (wrap64 (x2 + x7)) < (x0.length : Int) then (if 0 ≤ (wrap64 (x1 + x7)) then (none) else (none)) else (some false)))
def pleatlaw16_less.f (k : Nat) (l0 : List Int) (a1 : Int) (a2 : Int) : Option (Bool) := pleatlaw16_less.l0 k l0 a1 a2 0
theorem pleatlaw16_less.mono_l : ∀ k, (∀ y0 y1 y2 y3, LeO (pleatlaw16_less.l0 k y0 y1 y2 y3) (pleatlaw16_less.l0 (k + 1) y0 y1 y2 y3))
  | 0 => fun _ _ _ _ r h => by simp [pleatlaw16_less.l0] at h
  | k + 1 => by
    have ih0 := pleatlaw16_less.mono_l k
    · intro y0 y1 y2 y3
      unfold pleatlaw16_less.l0
      exact zMo
theorem pleatlaw16_less.mono : ∀ a0 a1 a2 k, LeO (pleatlaw16_less.f k a0 a1 a2) (pleatlaw16_less.f (k + 1) a0 a1 a2) := by
  intro a0 a1 a2 k
  have ih0 := pleatlaw16_less.mono_l k
  unfold pleatlaw16_less.f
  exact zMo
set_option maxHeartbeats 8000000 in
set_option maxRecDepth 100000 in
theorem pleatlaw16_less.calls (k : Nat) (A0 : Option Addr) (c0 : Nat) (l0 : List Int) (a1 : Int) (a2 : Int) (r : Bool) (w : World) (hr0 : Kd.C (Kd.int .i64) w A0 l0.length l0) (hc0 : l0.length ≤ c0) (h : pleatlaw16_less.f k l0 a1 a2 = some r) :
    Calls Try.prog 28 #[.slice A0 l0.length c0, .int .i64 a1, .int .i64 a2] w fun e w' => e = .returned (.bool r) ∧ Drawn0 w w' := by
  have HR0 := Aside0.mk hr0
  have HC0 := Aside0.mk hc0
  clear hr0 hc0
  have H := h
  clear h
  unfold pleatlaw16_less.f at H
  have H' := Aside0.mk H
  clear H
  go_enter Try.func28, Try.ntmps28
  go_wp2
  repeat (go_quiet (fail); try go_wp2)
  go_loopg [7] k (fun kq v7 w' => ∃ (x7_1 : Int), v7 = .int .i64 x7_1 ∧ Aside0 (pleatlaw16_less.l0 kq l0 a1 a2 x7_1 = some r) ∧ Aside0 (kq ≤ k) ∧ Drawn0 w w')
  case atStart => exact ⟨(0), zF', H', ⟨Nat.le_refl _⟩, zDr⟩
  case round =>
    clear H'
    obtain ⟨x7_1, rfl, HA, HK1, ⟨m1, rfl⟩⟩ := hrel
    cases gk with
    | zero => exact absurd HA.out (by simp [pleatlaw16_less.l0])
    | succ k1 =>
      have H := HA.out
      clear HA
      simp only [pleatlaw16_less.l0] at H
      by_cases c4 : (wrap64 (a1 + x7_1)) < (l0.length : Int)
      · rw [if_pos c4] at H
        have c4b0 := decide_eq_true c4
        clear c4
        by_cases c5 : (wrap64 (a2 + x7_1)) < (l0.length : Int)
        · rw [if_pos c5] at H
          have c5b0 := decide_eq_true c5
          clear c5
          obtain ⟨ji6, hji6⟩ : ∃ j_ : Int, (wrap64 (a1 + x7_1)) = j_ := ⟨_, rfl⟩
          (first | rw [hji6] at H | simp only [hji6] at H)
          (try rw [hji6] at c4b0)
          have hji6w : (IntKind.i64.wrap (a1 + x7_1)) = ji6 := (i64_w _).trans hji6
          obtain ⟨c7, H⟩ := zG H
          have c7b0 := decide_eq_true c7
          clear c7
          obtain ⟨ji8, hji8⟩ : ∃ j_ : Int, (wrap64 (a2 + x7_1)) = j_ := ⟨_, rfl⟩
          (first | rw [hji8] at H | simp only [hji8] at H)
          (try rw [hji8] at c5b0)
          have hji8w : (IntKind.i64.wrap (a2 + x7_1)) = ji8 := (i64_w _).trans hji8
          obtain ⟨c9, H⟩ := zG H
          have c9b0 := decide_eq_true c9
          clear c9
          by_cases c10 : (rd l0 (ji6)) = (rd l0 (ji8))
          · rw [if_pos c10] at H
            have c10b0 := beq_iff_eq.mpr c10
            have c10b1 := bne_eq_false_iff_eq.mpr c10
            clear c10
            have H' := Aside0.mk H
            clear H
            have p137 : 0 ≤ ((ji6) : Int) := zOD
            have q137 : (ji6) < (l0.length : Int) := zOD
            obtain ⟨ad137, e137, hx137_0⟩ := Kd.at_int HR0.out (ji6) p137 q137
            cases e137
            replace p137 := eq_true p137
            replace q137 := eq_true q137
            have p138 : 0 ≤ ((ji8) : Int) := zOD
            have q138 : (ji8) < (l0.length : Int) := zOD
            obtain ⟨ad138, e138, hx138_0⟩ := Kd.at_int HR0.out (ji8) p138 q138
            obtain rfl : ad137 = ad138 := (by injection e138)
            replace p138 := eq_true p138
            replace q138 := eq_true q138
            go_wp2
            repeat (go_quiet (fail); try go_wp2)
            go_roundg k1
            case measure => have := HK1.out; omega
            case rel => exact ⟨(wrap64 (x7_1 + 1)), zF', H', ⟨by have := HK1.out; omega⟩, zDr⟩
          · rw [if_neg c10] at H
            have c10b0 := beq_eq_false_iff_ne.mpr c10
            have c10b1 := bne_iff_ne.mpr c10
            by_cases c11 : (ji6) = (l0.length : Int)
            · rw [if_pos c11] at H
              exact absurd (show (ji6 : Int) < (l0.length : Int) from zOD) (by rw [c11]; exact Int.lt_irrefl _)
            · rw [if_neg c11] at H
              have c11b0 := beq_eq_false_iff_ne.mpr c11
              have c11b1 := bne_iff_ne.mpr c11
              obtain rfl := Option.some.inj H
              have p137 : 0 ≤ ((ji6) : Int) := zOD
              have q137 : (ji6) < (l0.length : Int) := zOD
              obtain ⟨ad137, e137, hx137_0⟩ := Kd.at_int HR0.out (ji6) p137 q137
              cases e137
              replace p137 := eq_true p137
              replace q137 := eq_true q137
              have p138 : 0 ≤ ((ji8) : Int) := zOD
              have q138 : (ji8) < (l0.length : Int) := zOD
              obtain ⟨ad138, e138, hx138_0⟩ := Kd.at_int HR0.out (ji8) p138 q138
              obtain rfl : ad137 = ad138 := (by injection e138)
              replace p138 := eq_true p138
              replace q138 := eq_true q138
              have p139 : 0 ≤ ((ji6) : Int) := zOD
              have q139 : (ji6) < (l0.length : Int) := zOD
              obtain ⟨ad139, e139, hx139_0⟩ := Kd.at_int HR0.out (ji6) p139 q139
              obtain rfl : ad137 = ad139 := (by injection e139)
              replace p139 := eq_true p139
              replace q139 := eq_true q139
              have p140 : 0 ≤ ((ji8) : Int) := zOD
              have q140 : (ji8) < (l0.length : Int) := zOD
              obtain ⟨ad140, e140, hx140_0⟩ := Kd.at_int HR0.out (ji8) p140 q140
              obtain rfl : ad137 = ad140 := (by injection e140)
              replace p140 := eq_true p140
              replace q140 := eq_true q140
              go_wp2
              repeat (go_quiet (fail); try go_wp2)
              go_ret
              exact ⟨by first | rfl | (simp; done) | (simp only [← hji6, ← hji8] <;> (first | rfl | simp)) | (simp [*]; done), zDr⟩
        · rw [if_neg c5] at H
          have c5b0 := decide_eq_false c5
          clear c5
          by_cases c12 : (wrap64 (a1 + x7_1)) = (l0.length : Int)
          · rw [if_pos c12] at H
            have c12b0 := beq_iff_eq.mpr c12
            have c12b1 := bne_eq_false_iff_eq.mpr c12
            clear c12
            obtain rfl := Option.some.inj H
            go_wp2
            repeat (go_quiet (fail); try go_wp2)
            go_ret
            exact ⟨zF', zDr⟩
          · rw [if_neg c12] at H
            have c12b0 := beq_eq_false_iff_ne.mpr c12
            have c12b1 := bne_iff_ne.mpr c12
            obtain rfl := Option.some.inj H
            go_wp2
            repeat (go_quiet (fail); try go_wp2)
            go_ret
            exact ⟨zF', zDr⟩
      · rw [if_neg c4] at H
        have c4b0 := decide_eq_false c4
        clear c4
        by_cases c13 : (wrap64 (a1 + x7_1)) = (l0.length : Int)
        · rw [if_pos c13] at H
          have c13b0 := beq_iff_eq.mpr c13
          have c13b1 := bne_eq_false_iff_eq.mpr c13
          clear c13
          obtain rfl := Option.some.inj H
          go_wp2
          repeat (go_quiet (fail); try go_wp2)
          go_ret
          exact ⟨zF', zDr⟩
        · rw [if_neg c13] at H
          have c13b0 := beq_eq_false_iff_ne.mpr c13
          have c13b1 := bne_iff_ne.mpr c13
          by_cases c14 : (wrap64 (a2 + x7_1)) < (l0.length : Int)
          · rw [if_pos c14] at H
            have c14b0 := decide_eq_true c14
            clear c14
            obtain ⟨ji15, hji15⟩ : ∃ j_ : Int, (wrap64 (a1 + x7_1)) = j_ := ⟨_, rfl⟩
            (first | rw [hji15] at H | simp only [hji15] at H)
            (try rw [hji15] at c4b0)
            (try rw [hji15] at c13b0)
            (try rw [hji15] at c13b1)
            have hji15w : (IntKind.i64.wrap (a1 + x7_1)) = ji15 := (i64_w _).trans hji15
            by_cases c16 : 0 ≤ (ji15)
            · rw [if_pos c16] at H
              exact absurd H (by simp)
            · rw [if_neg c16] at H
              exact absurd H (by simp)
          · rw [if_neg c14] at H
            have c14b0 := decide_eq_false c14
            clear c14
            obtain rfl := Option.some.inj H
            go_wp2
            repeat (go_quiet (fail); try go_wp2)
            go_ret
            exact ⟨zF', zDr⟩

end Go.Proofs.Ythkiapcoagjjpaa.PSuffixOrder
