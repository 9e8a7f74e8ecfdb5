-- Written for this claim by a program of this session (wip/tools/pp.py, over the kit's print).
import Derived.Test.YthkiapcoagjjpaaPSuffixTellsx0
import Derived.Test.YthkiapcoagjjpaaPSuffixTellsx1
import Derived.Test.YthkiapcoagjjpaaPSuffixTellsx2
import Derived.Test.YthkiapcoagjjpaaPSuffixTellsx3
namespace Go.Proofs.Ythkiapcoagjjpaa.PSuffixTells
open Go.RowKit Go.Proofs.YthkiapcoagjjpaaW.PrintWords Go.Proofs.YthkiapcoagjjpaaW.PrintLast Go.Proofs.YthkiapcoagjjpaaW.PrintMore
attribute [local go_sem] max2_int min2_int max_two min_two max_three min_three max_four min_four   -- for this text's walks alone
set_option linter.unusedVariables false
set_option linter.unusedSimpArgs false

/-! ### pleatref16_Less: function 45 -/
mutual
def pleatref16_Less.l0 : Nat → List Int → Int → Int → Option (Bool)
  | 0, _, _, _ => none
  | k + 1, x0, x1, x2 => if x1 < (x0.length : Int) then (pleatref16_Less.j1 k x0 x1 x2 (decide (x2 < (x0.length : Int)))) else (pleatref16_Less.j1 k x0 x1 x2 false)
def pleatref16_Less.j1 : Nat → List Int → Int → Int → Bool → Option (Bool)
  | 0, _, _, _, _ => none
  | k + 1, x0, x1, x2, x16 => if x16 = true then (if 0 ≤ x1 then (if x1 < (x0.length : Int) then (if 0 ≤ x2 then (if x2 < (x0.length : Int) then (if (rd x0 x1) = (rd x0 x2) then (pleatref16_Less.l0 k x0 (wrap64 (x1 + 1)) (wrap64 (x2 + 1))) else (some (decide ((rd x0 x1) < (rd x0 x2))))) else (none)) else (none)) else (none)) else (none)) else (if x1 = (x0.length : Int) then (some (decide (x2 < (x0.length : Int)))) else (some false))
end
def pleatref16_Less.f (k : Nat) (l0 : List Int) (a1 : Int) (a2 : Int) : Option (Bool) := pleatref16_Less.l0 k l0 a1 a2
theorem pleatref16_Less.mono_l : ∀ k, (∀ y0 y1 y2, LeO (pleatref16_Less.l0 k y0 y1 y2) (pleatref16_Less.l0 (k + 1) y0 y1 y2)) ∧ (∀ y0 y1 y2 y3, LeO (pleatref16_Less.j1 k y0 y1 y2 y3) (pleatref16_Less.j1 (k + 1) y0 y1 y2 y3))
  | 0 => ⟨fun _ _ _ r h => by simp [pleatref16_Less.l0] at h, fun _ _ _ _ r h => by simp [pleatref16_Less.j1] at h⟩
  | k + 1 => by
    obtain ⟨ih0, ih1⟩ := pleatref16_Less.mono_l k
    refine ⟨?_, ?_⟩
    · intro y0 y1 y2
      unfold pleatref16_Less.l0
      exact zMo
    · intro y0 y1 y2 y3
      unfold pleatref16_Less.j1
      exact zMo
theorem pleatref16_Less.mono : ∀ a0 a1 a2 k, LeO (pleatref16_Less.f k a0 a1 a2) (pleatref16_Less.f (k + 1) a0 a1 a2) := by
  intro a0 a1 a2 k
  obtain ⟨ih0, ih1⟩ := pleatref16_Less.mono_l k
  unfold pleatref16_Less.f
  exact zMo
set_option maxHeartbeats 8000000 in
set_option maxRecDepth 100000 in
theorem pleatref16_Less.calls (k : Nat) (A0 : Option Addr) (c0 : Nat) (l0 : List Int) (a1 : Int) (a2 : Int) (r : Bool) (w : World) (hr0 : Kd.C (Kd.int .i64) w A0 l0.length l0) (hc0 : l0.length ≤ c0) (h : pleatref16_Less.f k l0 a1 a2 = some r) :
    Calls Try.prog 45 #[.slice A0 l0.length c0, .int .i64 a1, .int .i64 a2] w fun e w' => e = .returned (.bool r) ∧ Drawn0 w w' := by
  have HR0 := Aside0.mk hr0
  have HC0 := Aside0.mk hc0
  clear hr0 hc0
  have H := h
  clear h
  unfold pleatref16_Less.f at H
  have H' := Aside0.mk H
  clear H
  go_enter Try.func45, Try.ntmps45
  go_wp2
  repeat (go_quiet (fail); try go_wp2)
  go_loopg [1, 2] k (fun kq v1 v2 w' => ∃ (x1_1 : Int) (x2_1 : Int), v1 = .int .i64 x1_1 ∧ v2 = .int .i64 x2_1 ∧ Aside0 (pleatref16_Less.l0 kq l0 x1_1 x2_1 = some r) ∧ Aside0 (kq ≤ k) ∧ Drawn0 w w')
  case atStart => exact ⟨(a1), (a2), zF', zF', H', ⟨Nat.le_refl _⟩, zDr⟩
  case round =>
    clear H'
    obtain ⟨x1_1, x2_1, rfl, rfl, HA, HK1, ⟨m1, rfl⟩⟩ := hrel
    cases gk with
    | zero => exact absurd HA.out (by simp [pleatref16_Less.l0])
    | succ k1 =>
      have H := HA.out
      clear HA
      simp only [pleatref16_Less.l0] at H
      have HC4 := Aside0.mk H
      clear H
      go_upto_region 1 with (fail)
      repeat (go_quiet (fail); go_upto_region 1 with (fail))
      go_cut [16] (fun v16 wc => ∃ (kq : Nat) (x16_3 : Bool), v16 = .bool x16_3 ∧ Aside0 (pleatref16_Less.j1 kq l0 x1_1 x2_1 x16_3 = some r) ∧ Aside0 (kq ≤ k1) ∧ Drawn0 w wc)
      case first =>
        have H := HC4.out
        clear HC4
        by_cases c5 : x1_1 < (l0.length : Int)
        · rw [if_pos c5] at H
          have c5b0 := decide_eq_true c5
          clear c5
          (first | rw [c5b0] | (simp only [i64_w, i32_w]; rw [c5b0]) | skip)
          have H' := Aside0.mk H
          clear H
          go_wp2
          repeat (go_quiet (fail); try go_wp2)
          go_meet
          case rel => exact ⟨_, (decide (x2_1 < (l0.length : Int))), zF', H', ⟨by have := HK1.out; first | omega | exact Nat.le_refl _⟩, zDr⟩
        · rw [if_neg c5] at H
          have c5b0 := decide_eq_false c5
          clear c5
          (first | rw [c5b0] | (simp only [i64_w, i32_w]; rw [c5b0]) | skip)
          have H' := Aside0.mk H
          clear H
          go_wp2
          repeat (go_quiet (fail); try go_wp2)
          go_meet
          case rel => exact ⟨_, (false), zF', H', ⟨by have := HK1.out; first | omega | exact Nat.le_refl _⟩, zDr⟩
      case rest =>
        clear HC4
        obtain ⟨kq, x16_3, rfl, HA, HJ3, ⟨mc3, rfl⟩⟩ := hcut
        cases kq with
        | zero => exact absurd HA.out (by simp [pleatref16_Less.j1])
        | succ kj3 =>
          have H := HA.out
          clear HA
          simp only [pleatref16_Less.j1] at H
          by_cases c6 : x16_3 = true
          · subst c6
            rw [if_pos rfl] at H
            obtain ⟨c7, H⟩ := zG H
            have c7b0 := decide_eq_true c7
            clear c7
            obtain ⟨c8, H⟩ := zG H
            have c8b0 := decide_eq_true c8
            clear c8
            obtain ⟨c9, H⟩ := zG H
            have c9b0 := decide_eq_true c9
            clear c9
            obtain ⟨c10, H⟩ := zG H
            have c10b0 := decide_eq_true c10
            clear c10
            by_cases c11 : (rd l0 x1_1) = (rd l0 x2_1)
            · rw [if_pos c11] at H
              have c11b0 := beq_iff_eq.mpr c11
              have c11b1 := bne_eq_false_iff_eq.mpr c11
              clear c11
              have H' := Aside0.mk H
              clear H
              have p134 : 0 ≤ (x1_1 : Int) := zOD
              have q134 : x1_1 < (l0.length : Int) := zOD
              obtain ⟨ad134, e134, hx134_0⟩ := Kd.at_int HR0.out x1_1 p134 q134
              cases e134
              replace p134 := eq_true p134
              replace q134 := eq_true q134
              have p135 : 0 ≤ (x2_1 : Int) := zOD
              have q135 : x2_1 < (l0.length : Int) := zOD
              obtain ⟨ad135, e135, hx135_0⟩ := Kd.at_int HR0.out x2_1 p135 q135
              obtain rfl : ad134 = ad135 := (by injection e135)
              replace p135 := eq_true p135
              replace q135 := eq_true q135
              go_wp2
              repeat (go_quiet (fail); try go_wp2)
              go_roundg kj3
              case measure => have := HK1.out; have := HJ3.out; omega
              case rel => exact ⟨(wrap64 (x1_1 + 1)), (wrap64 (x2_1 + 1)), zF', zF', H', ⟨by have := HK1.out; have := HJ3.out; omega⟩, zDr⟩
            · rw [if_neg c11] at H
              have c11b0 := beq_eq_false_iff_ne.mpr c11
              have c11b1 := bne_iff_ne.mpr c11
              obtain rfl := Option.some.inj H
              have p134 : 0 ≤ (x1_1 : Int) := zOD
              have q134 : x1_1 < (l0.length : Int) := zOD
              obtain ⟨ad134, e134, hx134_0⟩ := Kd.at_int HR0.out x1_1 p134 q134
              cases e134
              replace p134 := eq_true p134
              replace q134 := eq_true q134
              have p135 : 0 ≤ (x2_1 : Int) := zOD
              have q135 : x2_1 < (l0.length : Int) := zOD
              obtain ⟨ad135, e135, hx135_0⟩ := Kd.at_int HR0.out x2_1 p135 q135
              obtain rfl : ad134 = ad135 := (by injection e135)
              replace p135 := eq_true p135
              replace q135 := eq_true q135
              have p136 : 0 ≤ (x1_1 : Int) := zOD
              have q136 : x1_1 < (l0.length : Int) := zOD
              obtain ⟨ad136, e136, hx136_0⟩ := Kd.at_int HR0.out x1_1 p136 q136
              obtain rfl : ad134 = ad136 := (by injection e136)
              replace p136 := eq_true p136
              replace q136 := eq_true q136
              have p137 : 0 ≤ (x2_1 : Int) := zOD
              have q137 : x2_1 < (l0.length : Int) := zOD
              obtain ⟨ad137, e137, hx137_0⟩ := Kd.at_int HR0.out x2_1 p137 q137
              obtain rfl : ad134 = ad137 := (by injection e137)
              replace p137 := eq_true p137
              replace q137 := eq_true q137
              go_wp2
              repeat (go_quiet (fail); try go_wp2)
              go_ret
              exact ⟨zF', zDr⟩
          · replace c6 := Bool.eq_false_iff.mpr c6
            subst c6
            rw [if_neg (show ¬ (false = true) by decide)] at H
            by_cases c12 : x1_1 = (l0.length : Int)
            · rw [if_pos c12] at H
              have c12b0 := beq_iff_eq.mpr c12
              have c12b1 := bne_eq_false_iff_eq.mpr c12
              clear c12
              obtain rfl := Option.some.inj H
              go_wp2
              repeat (go_quiet (fail); try go_wp2)
              go_ret
              exact ⟨zF', zDr⟩
            · rw [if_neg c12] at H
              have c12b0 := beq_eq_false_iff_ne.mpr c12
              have c12b1 := bne_iff_ne.mpr c12
              obtain rfl := Option.some.inj H
              go_wp2
              repeat (go_quiet (fail); try go_wp2)
              go_ret
              exact ⟨zF', zDr⟩

/-! ### pleatref16_Compare: function 25 -/
def pleatref16_Compare.j0 : Nat → List Int → Int → Int → Bool → Option (Int)
  | 0, _, _, _, _ => none
  | k + 1, x0, x1, x2, x29 => if x29 = true then (some 0) else ((pleatref16_Less.f k x0 x1 x2).bind fun t138 => (if t138 = true then (some (-1)) else (some 1)))
def pleatref16_Compare.f (k : Nat) (l0 : List Int) (a1 : Int) (a2 : Int) : Option (Int) := if a1 < 0 then (pleatref16_Compare.j0 k l0 a1 a2 true) else (if a2 < 0 then (pleatref16_Compare.j0 k l0 a1 a2 true) else (if a1 ≥ (l0.length : Int) then (pleatref16_Compare.j0 k l0 a1 a2 true) else (if a2 ≥ (l0.length : Int) then (pleatref16_Compare.j0 k l0 a1 a2 true) else (pleatref16_Compare.j0 k l0 a1 a2 (a1 == a2)))))
theorem pleatref16_Compare.mono_l : ∀ k, (∀ y0 y1 y2 y3, LeO (pleatref16_Compare.j0 k y0 y1 y2 y3) (pleatref16_Compare.j0 (k + 1) y0 y1 y2 y3))
  | 0 => fun _ _ _ _ r h => by simp [pleatref16_Compare.j0] at h
  | k + 1 => by
    have ih0 := pleatref16_Compare.mono_l k
    · intro y0 y1 y2 y3
      unfold pleatref16_Compare.j0
      have m0 := @pleatref16_Less.mono
      exact zMo
theorem pleatref16_Compare.mono : ∀ a0 a1 a2 k, LeO (pleatref16_Compare.f k a0 a1 a2) (pleatref16_Compare.f (k + 1) a0 a1 a2) := by
  intro a0 a1 a2 k
  have ih0 := pleatref16_Compare.mono_l k
  unfold pleatref16_Compare.f
  have m0 := @pleatref16_Less.mono
  exact zMo
set_option maxHeartbeats 8000000 in
set_option maxRecDepth 100000 in
theorem pleatref16_Compare.calls (k : Nat) (A0 : Option Addr) (c0 : Nat) (l0 : List Int) (a1 : Int) (a2 : Int) (r : Int) (w : World) (hr0 : Kd.C (Kd.int .i64) w A0 l0.length l0) (hc0 : l0.length ≤ c0) (h : pleatref16_Compare.f k l0 a1 a2 = some r) :
    Calls Try.prog 25 #[.slice A0 l0.length c0, .int .i64 a1, .int .i64 a2] w fun e w' => e = .returned (.int .i64 r) ∧ Drawn0 w w' := by
  have HR0 := Aside0.mk hr0
  have HC0 := Aside0.mk hc0
  clear hr0 hc0
  have H := h
  clear h
  unfold pleatref16_Compare.f at H
  have HC4 := Aside0.mk H
  clear H
  go_enter Try.func25, Try.ntmps25
  go_upto_region 1 with (fail)
  go_cut [29] (fun v29 wc => ∃ (kq : Nat) (x29_3 : Bool), v29 = .bool x29_3 ∧ Aside0 (pleatref16_Compare.j0 kq l0 a1 a2 x29_3 = some r) ∧ Aside0 (kq ≤ k) ∧ Drawn0 w wc)
  case first =>
    have H := HC4.out
    clear HC4
    by_cases c5 : a1 < 0
    · rw [if_pos c5] at H
      have c5b0 := decide_eq_true c5
      clear c5
      (first | rw [c5b0] | (simp only [i64_w, i32_w]; rw [c5b0]) | skip)
      have H' := Aside0.mk H
      clear H
      go_wp2
      go_meet
      case rel => exact ⟨_, (true), zF', H', ⟨zL⟩, zDr⟩
    · rw [if_neg c5] at H
      have c5b0 := decide_eq_false c5
      clear c5
      (first | rw [c5b0] | (simp only [i64_w, i32_w]; rw [c5b0]) | skip)
      by_cases c6 : a2 < 0
      · rw [if_pos c6] at H
        have c6b0 := decide_eq_true c6
        clear c6
        have H' := Aside0.mk H
        clear H
        go_wp2
        go_meet
        case rel => exact ⟨_, (true), zF', H', ⟨zL⟩, zDr⟩
      · rw [if_neg c6] at H
        have c6b0 := decide_eq_false c6
        clear c6
        by_cases c7 : a1 ≥ (l0.length : Int)
        · rw [if_pos c7] at H
          have c7b0 : decide ((l0.length : Int) ≤ a1) = true := decide_eq_true c7
          clear c7
          have H' := Aside0.mk H
          clear H
          go_wp2
          go_meet
          case rel => exact ⟨_, (true), zF', H', ⟨zL⟩, zDr⟩
        · rw [if_neg c7] at H
          have c7b0 : decide ((l0.length : Int) ≤ a1) = false := decide_eq_false c7
          clear c7
          by_cases c8 : a2 ≥ (l0.length : Int)
          · rw [if_pos c8] at H
            have c8b0 : decide ((l0.length : Int) ≤ a2) = true := decide_eq_true c8
            clear c8
            have H' := Aside0.mk H
            clear H
            go_wp2
            go_meet
            case rel => exact ⟨_, (true), zF', H', ⟨zL⟩, zDr⟩
          · rw [if_neg c8] at H
            have c8b0 : decide ((l0.length : Int) ≤ a2) = false := decide_eq_false c8
            clear c8
            have H' := Aside0.mk H
            clear H
            go_wp2
            go_meet
            case rel => exact ⟨_, ((a1 == a2)), zF', H', ⟨zL⟩, zDr⟩
  case rest =>
    clear HC4
    obtain ⟨kq, x29_3, rfl, HA, HJ3, ⟨mc3, rfl⟩⟩ := hcut
    cases kq with
    | zero => exact absurd HA.out (by simp [pleatref16_Compare.j0])
    | succ kj3 =>
      have H := HA.out
      clear HA
      simp only [pleatref16_Compare.j0] at H
      by_cases c9 : x29_3 = true
      · subst c9
        rw [if_pos rfl] at H
        obtain rfl := Option.some.inj H
        go_wp2
        go_ret
        exact ⟨zF', zDr⟩
      · replace c9 := Bool.eq_false_iff.mpr c9
        subst c9
        rw [if_neg (show ¬ (false = true) by decide)] at H
        replace H := Option.bind_eq_some_iff.mp H
        obtain ⟨t138, A100, H⟩ := H
        (try dsimp only at H)
        have A10 := Aside0.mk A100
        clear A100
        by_cases c11 : t138 = true
        · subst c11
          rw [if_pos rfl] at H
          obtain rfl := Option.some.inj H
          go_wp2_with (first | ((with_reducible refine gate_callee (f := 45) rfl ?_); refine zGo (N := (some 33)) Try.func45 #[.slice A0 l0.length c0, .int .i64 a1, .int .i64 a2] ?_; (with_reducible refine (pleatref16_Less.calls kj3 _ _ l0 a1 a2 true _ ?side1 ?side2 A10.out).mono ?_); (case side1 => exact zS); (case side2 => exact zS); rintro e w' ⟨rfl, ⟨nd, rfl⟩⟩; refine ⟨_, rfl, ?_⟩))
          go_ret
          exact ⟨zF', zDr⟩
        · replace c11 := Bool.eq_false_iff.mpr c11
          subst c11
          rw [if_neg (show ¬ (false = true) by decide)] at H
          obtain rfl := Option.some.inj H
          go_wp2_with (first | ((with_reducible refine gate_callee (f := 45) rfl ?_); refine zGo (N := (some 33)) Try.func45 #[.slice A0 l0.length c0, .int .i64 a1, .int .i64 a2] ?_; (with_reducible refine (pleatref16_Less.calls kj3 _ _ l0 a1 a2 false _ ?side1 ?side2 A10.out).mono ?_); (case side1 => exact zS); (case side2 => exact zS); rintro e w' ⟨rfl, ⟨nd, rfl⟩⟩; refine ⟨_, rfl, ?_⟩))
          go_ret
          exact ⟨zF', zDr⟩

/-! ### pleatref16_Bits: function 22 -/
def pleatref16_Bits.l0 : Nat → Int → Int → Option (Int)
  | 0, _, _ => none
  | k + 1, x0, x3 => if x0 > 0 then (pleatref16_Bits.l0 k (wrap64 (Int.tdiv x0 2)) (wrap64 (x3 + 1))) else (some x3)
def pleatref16_Bits.f (k : Nat) (a0 : Int) : Option (Int) := pleatref16_Bits.l0 k a0 0
theorem pleatref16_Bits.mono_l : ∀ k, (∀ y0 y1, LeO (pleatref16_Bits.l0 k y0 y1) (pleatref16_Bits.l0 (k + 1) y0 y1))
  | 0 => fun _ _ r h => by simp [pleatref16_Bits.l0] at h
  | k + 1 => by
    have ih0 := pleatref16_Bits.mono_l k
    · intro y0 y1
      unfold pleatref16_Bits.l0
      exact zMo
theorem pleatref16_Bits.mono : ∀ a0 k, LeO (pleatref16_Bits.f k a0) (pleatref16_Bits.f (k + 1) a0) := by
  intro a0 k
  have ih0 := pleatref16_Bits.mono_l k
  unfold pleatref16_Bits.f
  exact zMo
set_option maxHeartbeats 8000000 in
set_option maxRecDepth 100000 in
theorem pleatref16_Bits.calls (k : Nat) (a0 : Int) (r : Int) (w : World) (h : pleatref16_Bits.f k a0 = some r) :
    Calls Try.prog 22 #[.int .i64 a0] w fun e w' => e = .returned (.int .i64 r) ∧ Drawn0 w w' := by
  have H := h
  clear h
  unfold pleatref16_Bits.f at H
  have H' := Aside0.mk H
  clear H
  go_enter Try.func22, Try.ntmps22
  go_wp2
  go_loopg [0, 3] k (fun kq v0 v3 w' => ∃ (x0_1 : Int) (x3_1 : Int), v0 = .int .i64 x0_1 ∧ v3 = .int .i64 x3_1 ∧ Aside0 (pleatref16_Bits.l0 kq x0_1 x3_1 = some r) ∧ Aside0 (kq ≤ k) ∧ Drawn0 w w')
  case atStart => exact ⟨(a0), (0), zF', zF', H', ⟨Nat.le_refl _⟩, zDr⟩
  case round =>
    clear H'
    obtain ⟨x0_1, x3_1, rfl, rfl, HA, HK1, ⟨m1, rfl⟩⟩ := hrel
    cases gk with
    | zero => exact absurd HA.out (by simp [pleatref16_Bits.l0])
    | succ k1 =>
      have H := HA.out
      clear HA
      simp only [pleatref16_Bits.l0] at H
      by_cases c2 : x0_1 > 0
      · rw [if_pos c2] at H
        have c2b0 : decide (0 < x0_1) = true := decide_eq_true c2
        clear c2
        have H' := Aside0.mk H
        clear H
        go_wp2
        go_roundg k1
        case measure => have := HK1.out; omega
        case rel => exact ⟨(wrap64 (Int.tdiv x0_1 2)), (wrap64 (x3_1 + 1)), zF', zF', H', ⟨by have := HK1.out; omega⟩, zDr⟩
      · rw [if_neg c2] at H
        have c2b0 : decide (0 < x0_1) = false := decide_eq_false c2
        clear c2
        obtain rfl := Option.some.inj H
        go_wp2
        go_ret
        exact ⟨zF', zDr⟩

/-! ### pleatref16_Most: function 27 -/
def pleatref16_Most.f (k : Nat) (a0 : Int) : Option (Int) := if a0 < 1 then (some 0) else (if a0 > 16384 then (some 0) else ((pleatref16_Bits.f k a0).bind fun t139 => (some (wrap64 ((wrap64 ((wrap64 (6 * a0)) * (wrap64 (t139 + 1)))) * (wrap64 (t139 + 1)))))))
theorem pleatref16_Most.mono : ∀ a0 k, LeO (pleatref16_Most.f k a0) (pleatref16_Most.f (k + 1) a0) := by
  intro a0 k
  unfold pleatref16_Most.f
  have m0 := @pleatref16_Bits.mono
  exact zMo
set_option maxHeartbeats 8000000 in
set_option maxRecDepth 100000 in
theorem pleatref16_Most.calls (k : Nat) (a0 : Int) (r : Int) (w : World) (h : pleatref16_Most.f k a0 = some r) :
    Calls Try.prog 27 #[.int .i64 a0] w fun e w' => e = .returned (.int .i64 r) ∧ Drawn0 w w' := by
  have H := h
  clear h
  unfold pleatref16_Most.f at H
  by_cases c2 : a0 < 1
  · rw [if_pos c2] at H
    have c2b0 := decide_eq_true c2
    clear c2
    obtain rfl := Option.some.inj H
    go_enter Try.func27, Try.ntmps27
    go_wp2
    go_ret
    exact ⟨zF', zDr⟩
  · rw [if_neg c2] at H
    have c2b0 := decide_eq_false c2
    clear c2
    by_cases c3 : a0 > 16384
    · rw [if_pos c3] at H
      have c3b0 : decide (16384 < a0) = true := decide_eq_true c3
      clear c3
      obtain rfl := Option.some.inj H
      go_enter Try.func27, Try.ntmps27
      go_wp2
      go_ret
      exact ⟨zF', zDr⟩
    · rw [if_neg c3] at H
      have c3b0 : decide (16384 < a0) = false := decide_eq_false c3
      clear c3
      replace H := Option.bind_eq_some_iff.mp H
      obtain ⟨t139, A40, H⟩ := H
      (try dsimp only at H)
      have A4 := Aside0.mk A40
      clear A40
      obtain rfl := Option.some.inj H
      go_enter Try.func27, Try.ntmps27
      go_wp2_with (first | ((with_reducible refine gate_callee (f := 22) rfl ?_); refine zGo (N := (some 11)) Try.func22 #[.int .i64 a0] ?_; (with_reducible refine (pleatref16_Bits.calls k a0 t139 _ A4.out).mono ?_); rintro e w' ⟨rfl, ⟨nd, rfl⟩⟩; refine ⟨_, rfl, ?_⟩))
      go_ret
      exact ⟨zF', zDr⟩

/-! ### pleatlaw16_SuffixTells: function 6, by hand -/
section
open Go.Proofs.Ythkiapcoagjjpaa.Bag
def pleatlaw16_SuffixTells.f (k : Nat) (l0 : List Int) (a1 : Int) (a2 : Int) (a3 : Int) : Option Bool :=
  if 65536 < l0.length then pleatlaw16_lives.f k else
  (suffix_Compare.f k l0 a1 a2).bind fun c => (pleatref16_Compare.f k l0 a1 a2).bind fun v => (suffix_Most.f a3).bind fun m => (pleatref16_Most.f k a3).bind fun n => (pleatref00_EqInts.f k l0 l0).bind fun q =>
  if c = v ∧ m = n ∧ q = true then pleatlaw16_lives.f k else none
set_option maxHeartbeats 8000000 in
set_option maxRecDepth 100000 in
theorem pleatlaw16_SuffixTells.calls (k : Nat) (A0 : Option Addr) (c0 : Nat) (l0 : List Int) (a1 : Int) (a2 : Int) (a3 : Int) (r : Bool) (w : World) (hr0 : Kd.C (Kd.int .i64) w A0 l0.length l0) (hc0 : l0.length ≤ c0) (h : pleatlaw16_SuffixTells.f k l0 a1 a2 a3 = some r) :
    Calls Try.prog 6 #[.slice A0 l0.length c0, .int .i64 a1, .int .i64 a2, .int .i64 a3] w fun e w' => e = .returned (.bool r) ∧ Below w.heap.size w w' := by
  have HC0 := Aside0.mk hr0; have HL0 := Aside0.mk hc0
  unfold pleatlaw16_SuffixTells.f at h
  have HB := Aside0.mk (Below.refl w.heap.size w)
  clear hr0 hc0
  by_cases hv : 65536 < l0.length
  · rw [if_pos hv] at h
    have HH := Lib.hid h
    have d1 : decide ((65536 : Int) < (l0.length : Int)) = true := decide_eq_true (by omega)
    clear h hv
    go_enter Try.func6, Try.ntmps6
    go_wp2_with (go_at_call 23; refine (pleatlaw16_lives.calls k _ _ HH.out).mono ?_; rintro e w1 ⟨rfl, hb⟩; replace HB := Aside0.mk (below_then HB.out HB.out.size hb); clear hb)
    go_ret
    exact ⟨rfl, HB.out⟩
  · rw [if_neg hv] at h
    obtain ⟨c, hc, h1⟩ := Option.bind_eq_some_iff.1 h
    clear h
    obtain ⟨v, hv2, h2⟩ := Option.bind_eq_some_iff.1 h1
    clear h1
    obtain ⟨m, hm, h3⟩ := Option.bind_eq_some_iff.1 h2
    clear h2
    obtain ⟨n, hn, h4⟩ := Option.bind_eq_some_iff.1 h3
    clear h3
    obtain ⟨q, hq, h5⟩ := Option.bind_eq_some_iff.1 h4
    clear h4
    by_cases hg : c = v ∧ m = n ∧ q = true
    · rw [if_pos hg] at h5
      obtain ⟨rfl, rfl, rfl⟩ := hg
      have HH := Lib.hid h5; have H1 := Lib.hid hc; have H2 := Lib.hid hv2; have H3 := Lib.hid hm; have H4 := Lib.hid hn; have HQ := Lib.hid hq
      have HN := Lib.hid (show l0.length ≤ 1000000 from by omega)
      clear h5 hc hv2 hm hn hq
      have d1 : decide ((65536 : Int) < (l0.length : Int)) = false := decide_eq_false (by omega)
      have e1 : (c == c) = true := by simp
      have e2 : (m == m) = true := by simp
      clear hv
      have tok0 : True := trivial
      have tok1 : True := trivial
      have tok2 : True := trivial
      have tok3 : True := trivial
      have tok4 : True := trivial
      have tok5 : True := trivial
      have tok6 : True := trivial
      go_enter Try.func6, Try.ntmps6
      go_wp2_with (first | (go_at_call 12; have _ := tok0; refine (wideInts_made _ _ l0 _ (Kd.C_below HC0.out HB.out) HL0.out HN.out).mono ?_; rintro e w1 ⟨g, rfl, hgl, hg, hb⟩; clear tok0; replace HB := Aside0.mk (below_then HB.out HB.out.size hb); have BG := Aside0.mk (hg); clear hg hgl; clear hb) | (go_at_call 24; have _ := tok1; refine (suffix_Compare.calls k _ _ l0 a1 a2 c _ (wide_reads HN.out BG.out) (Nat.le_add_right _ _) H1.out).mono ?_; rintro e w1 ⟨rfl, hd⟩; have hb := hd.below; clear hd; clear tok1; replace BG := Aside0.mk (blk_below BG.out hb); replace HB := Aside0.mk (below_then HB.out HB.out.size hb); clear hb) | (go_at_call 25; have _ := tok2; refine (pleatref16_Compare.calls k _ _ l0 a1 a2 c _ (Kd.C_below HC0.out HB.out) HL0.out H2.out).mono ?_; rintro e w1 ⟨rfl, hd⟩; have hb := hd.below; clear hd; clear tok2; replace BG := Aside0.mk (blk_below BG.out hb); replace HB := Aside0.mk (below_then HB.out HB.out.size hb); clear hb) | (go_at_call 26; have _ := tok3; refine (suffix_Most.calls a3 m _ H3.out).mono ?_; rintro e w1 ⟨rfl, hd⟩; have hb := hd.below; clear hd; clear tok3; replace BG := Aside0.mk (blk_below BG.out hb); replace HB := Aside0.mk (below_then HB.out HB.out.size hb); clear hb) | (go_at_call 27; have _ := tok4; refine (pleatref16_Most.calls k a3 m _ H4.out).mono ?_; rintro e w1 ⟨rfl, hd⟩; have hb := hd.below; clear hd; clear tok4; replace BG := Aside0.mk (blk_below BG.out hb); replace HB := Aside0.mk (below_then HB.out HB.out.size hb); clear hb) | (go_at_call 17; have _ := tok5; refine (pleatref00_EqInts.calls k _ _ l0 _ _ l0 true _ (wide_reads HN.out BG.out) (Nat.le_add_right _ _) (Kd.C_below HC0.out HB.out) HL0.out HQ.out).mono ?_; rintro e w1 ⟨rfl, hd⟩; have hb := hd.below; clear hd; clear tok5; replace BG := Aside0.mk (blk_below BG.out hb); replace HB := Aside0.mk (below_then HB.out HB.out.size hb); clear hb) | (go_at_call 18; have _ := tok6; refine (spareInts_true _ l0.length _ _ BG.out HN.out (fun i h1 h2 => wcs_mark _ _ _ _ h1 h2)).mono ?_; rintro e w1 ⟨rfl, hw⟩; clear tok6; subst hw; have hb := Below.refl w1.heap.size w1; replace BG := Aside0.mk (blk_below BG.out hb); replace HB := Aside0.mk (below_then HB.out HB.out.size hb); clear hb) | (go_at_call 23; refine (pleatlaw16_lives.calls k _ _ HH.out).mono ?_; rintro e w1 ⟨rfl, hb⟩; replace HB := Aside0.mk (below_then HB.out HB.out.size hb); clear hb))
      go_ret
      exact ⟨rfl, HB.out⟩
    · rw [if_neg hg] at h5; cases h5
end

end Go.Proofs.Ythkiapcoagjjpaa.PSuffixTells
