-- Written for this claim by a program of this session (wip/tools/pp.py, over the kit's print).
import Derived.Test.YthkiapcoagjjpaaPCommonTellsx0
import Derived.Test.YthkiapcoagjjpaaPCommonTellsx1
import Derived.Test.YthkiapcoagjjpaaPCommonTellsx2
import Derived.Test.YthkiapcoagjjpaaPCommonTellsx4
namespace Go.Proofs.Ythkiapcoagjjpaa.PCommonTells
open Go.RowKit Go.Proofs.YthkiapcoagjjpaaW.PrintWords Go.Proofs.YthkiapcoagjjpaaW.PrintLast Go.Proofs.YthkiapcoagjjpaaW.PrintMore
attribute [local go_sem] max2_int min2_int max_two min_two max_three min_three max_four min_four   -- for this text's walks alone
set_option linter.unusedVariables false
set_option linter.unusedSimpArgs false

/-! ### pleatref17_Group: function 16 -/
mutual
def pleatref17_Group.j0 : Nat → List Int → Int → Int → Bool → Option (Int × Int × Int)
  | 0, _, _, _, _ => none
  | k + 1, x0, x1, x2, x22 => if x22 = true then (some (0, 0, 1)) else (pleatref17_Group.l0 k x0 x1 x2 x1)
def pleatref17_Group.j2 : Nat → List Int → Int → Int → Int → Option (Int × Int × Int)
  | 0, _, _, _, _ => none
  | k + 1, x0, x1, x2, x9 => pleatref17_Group.l1 k x0 x2 x9 (wrap64 (x1 + 1))
def pleatref17_Group.l1 : Nat → List Int → Int → Int → Int → Option (Int × Int × Int)
  | 0, _, _, _, _ => none
  | k + 1, x0, x2, x9, x10 => if x10 < (x0.length : Int) then (if 0 ≤ x10 then (if (rd x0 x10) ≥ x2 then (pleatref17_Group.l1 k x0 x2 x9 (wrap64 (x10 + 1))) else (some (x9, x10, 0))) else (none)) else (some (x9, x10, 0))
def pleatref17_Group.l0 : Nat → List Int → Int → Int → Int → Option (Int × Int × Int)
  | 0, _, _, _, _ => none
  | k + 1, x0, x1, x2, x9 => if x9 > 0 then (if 0 ≤ x9 then (if x9 < (x0.length : Int) then (if (rd x0 x9) ≥ x2 then (pleatref17_Group.l0 k x0 x1 x2 (wrap64 (x9 - 1))) else (pleatref17_Group.j2 k x0 x1 x2 x9)) else (none)) else (none)) else (pleatref17_Group.j2 k x0 x1 x2 x9)
end
def pleatref17_Group.f (k : Nat) (l0 : List Int) (a1 : Int) (a2 : Int) : Option (Int × Int × Int) := if a1 < 0 then (pleatref17_Group.j0 k l0 a1 a2 true) else (if a1 ≥ (l0.length : Int) then (pleatref17_Group.j0 k l0 a1 a2 true) else (pleatref17_Group.j0 k l0 a1 a2 (decide (a2 < 0))))
theorem pleatref17_Group.mono_l : ∀ k, (∀ y0 y1 y2 y3, LeO (pleatref17_Group.j0 k y0 y1 y2 y3) (pleatref17_Group.j0 (k + 1) y0 y1 y2 y3)) ∧ (∀ y0 y1 y2 y3, LeO (pleatref17_Group.j2 k y0 y1 y2 y3) (pleatref17_Group.j2 (k + 1) y0 y1 y2 y3)) ∧ (∀ y0 y1 y2 y3, LeO (pleatref17_Group.l1 k y0 y1 y2 y3) (pleatref17_Group.l1 (k + 1) y0 y1 y2 y3)) ∧ (∀ y0 y1 y2 y3, LeO (pleatref17_Group.l0 k y0 y1 y2 y3) (pleatref17_Group.l0 (k + 1) y0 y1 y2 y3))
  | 0 => ⟨fun _ _ _ _ r h => by simp [pleatref17_Group.j0] at h, fun _ _ _ _ r h => by simp [pleatref17_Group.j2] at h, fun _ _ _ _ r h => by simp [pleatref17_Group.l1] at h, fun _ _ _ _ r h => by simp [pleatref17_Group.l0] at h⟩
  | k + 1 => by
    obtain ⟨ih0, ih1, ih2, ih3⟩ := pleatref17_Group.mono_l k
    refine ⟨?_, ?_, ?_, ?_⟩
    · intro y0 y1 y2 y3
      unfold pleatref17_Group.j0
      exact zMo
    · intro y0 y1 y2 y3
      unfold pleatref17_Group.j2
      exact zMo
    · intro y0 y1 y2 y3
      unfold pleatref17_Group.l1
      exact zMo
    · intro y0 y1 y2 y3
      unfold pleatref17_Group.l0
      exact zMo
theorem pleatref17_Group.mono : ∀ a0 a1 a2 k, LeO (pleatref17_Group.f k a0 a1 a2) (pleatref17_Group.f (k + 1) a0 a1 a2) := by
  intro a0 a1 a2 k
  obtain ⟨ih0, ih1, ih2, ih3⟩ := pleatref17_Group.mono_l k
  unfold pleatref17_Group.f
  exact zMo
set_option maxHeartbeats 8000000 in
set_option maxRecDepth 100000 in
theorem pleatref17_Group.calls (k : Nat) (A0 : Option Addr) (c0 : Nat) (l0 : List Int) (a1 : Int) (a2 : Int) (r1 : Int) (r2 : Int) (r3 : Int) (w : World) (hr0 : Kd.C (Kd.int .i64) w A0 l0.length l0) (hc0 : l0.length ≤ c0) (h : pleatref17_Group.f k l0 a1 a2 = some (r1, r2, r3)) :
    Calls Try.prog 16 #[.slice A0 l0.length c0, .int .i64 a1, .int .i64 a2] w fun e w' => e = .returned (.tuple #[.int .i64 r1, .int .i64 r2, .int .i64 r3]) ∧ Drawn0 w w' := by
  have HR0 := Aside0.mk hr0
  have HC0 := Aside0.mk hc0
  clear hr0 hc0
  have H := h
  clear h
  unfold pleatref17_Group.f at H
  have HC4 := Aside0.mk H
  clear H
  go_enter Try.func16, Try.ntmps16
  go_upto_region 1 with (fail)
  go_cut [22] (fun v22 wc => ∃ (kq : Nat) (x22_3 : Bool), v22 = .bool x22_3 ∧ Aside0 (pleatref17_Group.j0 kq l0 a1 a2 x22_3 = some (r1, r2, r3)) ∧ Aside0 (kq ≤ k) ∧ Drawn0 w wc)
  case first =>
    have H := HC4.out
    clear HC4
    by_cases c5 : a1 < 0
    · rw [if_pos c5] at H
      have c5b0 := decide_eq_true c5
      clear c5
      (first | rw [c5b0] | (simp only [i64_w, i32_w]; rw [c5b0]) | skip)
      have H' := Aside0.mk H
      clear H
      go_wp2
      go_meet
      case rel => exact ⟨_, (true), zF', H', ⟨zL⟩, zDr⟩
    · rw [if_neg c5] at H
      have c5b0 := decide_eq_false c5
      clear c5
      (first | rw [c5b0] | (simp only [i64_w, i32_w]; rw [c5b0]) | skip)
      by_cases c6 : a1 ≥ (l0.length : Int)
      · rw [if_pos c6] at H
        have c6b0 : decide ((l0.length : Int) ≤ a1) = true := decide_eq_true c6
        clear c6
        have H' := Aside0.mk H
        clear H
        go_wp2
        go_meet
        case rel => exact ⟨_, (true), zF', H', ⟨zL⟩, zDr⟩
      · rw [if_neg c6] at H
        have c6b0 : decide ((l0.length : Int) ≤ a1) = false := decide_eq_false c6
        clear c6
        have H' := Aside0.mk H
        clear H
        go_wp2
        go_meet
        case rel => exact ⟨_, (decide (a2 < 0)), zF', H', ⟨zL⟩, zDr⟩
  case rest =>
    clear HC4
    obtain ⟨kq, x22_3, rfl, HA, HJ3, ⟨mc3, rfl⟩⟩ := hcut
    cases kq with
    | zero => exact absurd HA.out (by simp [pleatref17_Group.j0])
    | succ kj3 =>
      have H := HA.out
      clear HA
      simp only [pleatref17_Group.j0] at H
      by_cases c7 : x22_3 = true
      · subst c7
        rw [if_pos rfl] at H
        simp only [Option.some.injEq, Prod.mk.injEq] at H
        obtain ⟨rfl, rfl, rfl⟩ := H
        go_wp2
        (try rw [Exit.noGoto_ret])
        go_ret3
        exact ⟨zF', zDr⟩
      · replace c7 := Bool.eq_false_iff.mpr c7
        subst c7
        rw [if_neg (show ¬ (false = true) by decide)] at H
        have HC8 := Aside0.mk H
        clear H
        go_upto_block 0 with (fail)
        go_cut [9] (fun v9 wc => ∃ (kq : Nat) (x9_7 : Int), v9 = .int .i64 x9_7 ∧ Aside0 (pleatref17_Group.j2 kq l0 a1 a2 x9_7 = some (r1, r2, r3)) ∧ Aside0 (kq ≤ kj3) ∧ Drawn0 w wc)
        case first =>
          have H := HC8.out
          clear HC8
          have H' := Aside0.mk H
          clear H
          go_wp2
          go_loopg [9] kj3 (fun kq v9 w' => ∃ (x9_2 : Int), v9 = .int .i64 x9_2 ∧ Aside0 (pleatref17_Group.l0 kq l0 a1 a2 x9_2 = some (r1, r2, r3)) ∧ Aside0 (kq ≤ kj3) ∧ Drawn0 w w')
          case atStart => exact ⟨(a1), zF', H', ⟨Nat.le_refl _⟩, zDr⟩
          case round =>
            clear H'
            obtain ⟨x9_2, rfl, HA, HK2, ⟨m2, rfl⟩⟩ := hrel
            cases gk with
            | zero => exact absurd HA.out (by simp [pleatref17_Group.l0])
            | succ k2 =>
              have H := HA.out
              clear HA
              simp only [pleatref17_Group.l0] at H
              by_cases c9 : x9_2 > 0
              · rw [if_pos c9] at H
                have c9b0 : decide (0 < x9_2) = true := decide_eq_true c9
                clear c9
                (first | rw [c9b0] | (simp only [i64_w, i32_w]; rw [c9b0]) | skip)
                obtain ⟨c10, H⟩ := zG H
                have c10b0 := decide_eq_true c10
                clear c10
                obtain ⟨c11, H⟩ := zG H
                have c11b0 := decide_eq_true c11
                clear c11
                by_cases c12 : (rd l0 x9_2) ≥ a2
                · rw [if_pos c12] at H
                  have c12b0 : decide (a2 ≤ (rd l0 x9_2)) = true := decide_eq_true c12
                  clear c12
                  have H' := Aside0.mk H
                  clear H
                  have p164 : 0 ≤ (x9_2 : Int) := zOD
                  have q164 : x9_2 < (l0.length : Int) := zOD
                  obtain ⟨ad164, e164, hx164_0⟩ := Kd.at_int HR0.out x9_2 p164 q164
                  cases e164
                  replace p164 := eq_true p164
                  replace q164 := eq_true q164
                  go_wp2
                  go_roundg k2
                  case measure => have := HJ3.out; have := HK2.out; omega
                  case rel => exact ⟨(wrap64 (x9_2 - 1)), zF', H', ⟨by have := HJ3.out; have := HK2.out; omega⟩, zDr⟩
                · rw [if_neg c12] at H
                  have c12b0 : decide (a2 ≤ (rd l0 x9_2)) = false := decide_eq_false c12
                  clear c12
                  have H' := Aside0.mk H
                  clear H
                  have p164 : 0 ≤ (x9_2 : Int) := zOD
                  have q164 : x9_2 < (l0.length : Int) := zOD
                  obtain ⟨ad164, e164, hx164_0⟩ := Kd.at_int HR0.out x9_2 p164 q164
                  cases e164
                  replace p164 := eq_true p164
                  replace q164 := eq_true q164
                  go_wp2
                  go_meet
                  case rel => exact ⟨_, (x9_2), zF', H', ⟨by have := HJ3.out; have := HK2.out; first | omega | exact Nat.le_refl _⟩, zDr⟩
              · rw [if_neg c9] at H
                have c9b0 : decide (0 < x9_2) = false := decide_eq_false c9
                clear c9
                (first | rw [c9b0] | (simp only [i64_w, i32_w]; rw [c9b0]) | skip)
                have H' := Aside0.mk H
                clear H
                go_wp2
                go_meet
                case rel => exact ⟨_, (x9_2), zF', H', ⟨by have := HJ3.out; have := HK2.out; first | omega | exact Nat.le_refl _⟩, zDr⟩
        case rest =>
          clear HC8
          obtain ⟨kq, x9_7, rfl, HA, HJ7, ⟨mc7, rfl⟩⟩ := hcut
          cases kq with
          | zero => exact absurd HA.out (by simp [pleatref17_Group.j2])
          | succ kj7 =>
            have H := HA.out
            clear HA
            simp only [pleatref17_Group.j2] at H
            have H' := Aside0.mk H
            clear H
            go_wp2
            go_loopg [10] kj7 (fun kq v10 w' => ∃ (x10_3 : Int), v10 = .int .i64 x10_3 ∧ Aside0 (pleatref17_Group.l1 kq l0 a2 x9_7 x10_3 = some (r1, r2, r3)) ∧ Aside0 (kq ≤ kj7) ∧ Drawn0 w w')
            case atStart => exact ⟨(wrap64 (a1 + 1)), zF', H', ⟨Nat.le_refl _⟩, zDr⟩
            case round =>
              clear H'
              obtain ⟨x10_3, rfl, HA, HK3, ⟨m3, rfl⟩⟩ := hrel
              cases gk with
              | zero => exact absurd HA.out (by simp [pleatref17_Group.l1])
              | succ k3 =>
                have H := HA.out
                clear HA
                simp only [pleatref17_Group.l1] at H
                by_cases c13 : x10_3 < (l0.length : Int)
                · rw [if_pos c13] at H
                  have c13b0 := decide_eq_true c13
                  clear c13
                  obtain ⟨c14, H⟩ := zG H
                  have c14b0 := decide_eq_true c14
                  clear c14
                  by_cases c15 : (rd l0 x10_3) ≥ a2
                  · rw [if_pos c15] at H
                    have c15b0 : decide (a2 ≤ (rd l0 x10_3)) = true := decide_eq_true c15
                    clear c15
                    have H' := Aside0.mk H
                    clear H
                    have p165 : 0 ≤ (x10_3 : Int) := zOD
                    have q165 : x10_3 < (l0.length : Int) := zOD
                    obtain ⟨ad165, e165, hx165_0⟩ := Kd.at_int HR0.out x10_3 p165 q165
                    cases e165
                    replace p165 := eq_true p165
                    replace q165 := eq_true q165
                    go_wp2
                    go_roundg k3
                    case measure => have := HJ3.out; have := HJ7.out; have := HK3.out; omega
                    case rel => exact ⟨(wrap64 (x10_3 + 1)), zF', H', ⟨by have := HJ3.out; have := HJ7.out; have := HK3.out; omega⟩, zDr⟩
                  · rw [if_neg c15] at H
                    have c15b0 : decide (a2 ≤ (rd l0 x10_3)) = false := decide_eq_false c15
                    clear c15
                    simp only [Option.some.injEq, Prod.mk.injEq] at H
                    obtain ⟨rfl, rfl, rfl⟩ := H
                    have p165 : 0 ≤ (x10_3 : Int) := zOD
                    have q165 : x10_3 < (l0.length : Int) := zOD
                    obtain ⟨ad165, e165, hx165_0⟩ := Kd.at_int HR0.out x10_3 p165 q165
                    cases e165
                    replace p165 := eq_true p165
                    replace q165 := eq_true q165
                    go_wp2
                    (try rw [Exit.noGoto_ret])
                    go_ret3
                    exact ⟨zF', zDr⟩
                · rw [if_neg c13] at H
                  have c13b0 := decide_eq_false c13
                  clear c13
                  simp only [Option.some.injEq, Prod.mk.injEq] at H
                  obtain ⟨rfl, rfl, rfl⟩ := H
                  go_wp2
                  (try rw [Exit.noGoto_ret])
                  go_ret3
                  exact ⟨zF', zDr⟩

/-! ### pleatlaw17_CommonTells: function 4, by hand -/
section
open Go.Proofs.Ythkiapcoagjjpaa.Bag
def pleatlaw17_CommonTells.f (k : Nat) (l0 : List Int) (a1 : Int) (a2 : Int) (a3 : Int) : Option Bool :=
  if 16384 < l0.length then pleatlaw17_lives.f k else
  (common_Least.f k l0 a1 a2).bind fun c => (pleatref17_Least.f k l0 a1 a2).bind fun v => (common_Group.f l0 a1 a3).bind fun m => (pleatref17_Group.f k l0 a1 a3).bind fun n => (pleatref00_EqInts.f k l0 l0).bind fun q =>
  if c = v ∧ m = n ∧ q = true then pleatlaw17_lives.f k else none
set_option maxHeartbeats 8000000 in
set_option maxRecDepth 100000 in
theorem pleatlaw17_CommonTells.calls (k : Nat) (A0 : Option Addr) (c0 : Nat) (l0 : List Int) (a1 : Int) (a2 : Int) (a3 : Int) (r : Bool) (w : World) (hr0 : Kd.C (Kd.int .i64) w A0 l0.length l0) (hc0 : l0.length ≤ c0) (h : pleatlaw17_CommonTells.f k l0 a1 a2 a3 = some r) :
    Calls Try.prog 4 #[.slice A0 l0.length c0, .int .i64 a1, .int .i64 a2, .int .i64 a3] w fun e w' => e = .returned (.bool r) ∧ Below w.heap.size w w' := by
  have HC0 := Aside0.mk hr0; have HL0 := Aside0.mk hc0
  unfold pleatlaw17_CommonTells.f at h
  have HB := Aside0.mk (Below.refl w.heap.size w)
  clear hr0 hc0
  by_cases hv : 16384 < l0.length
  · rw [if_pos hv] at h
    have HH := Lib.hid h
    have d1 : decide ((16384 : Int) < (l0.length : Int)) = true := decide_eq_true (by omega)
    clear h hv
    go_enter Try.func4, Try.ntmps4
    go_wp2_with (go_at_call 11; refine (pleatlaw17_lives.calls k _ _ HH.out).mono ?_; rintro e w1 ⟨rfl, hb⟩; replace HB := Aside0.mk (below_then HB.out HB.out.size hb); clear hb)
    go_ret
    exact ⟨rfl, HB.out⟩
  · rw [if_neg hv] at h
    obtain ⟨c, hc, h1⟩ := Option.bind_eq_some_iff.1 h
    clear h
    obtain ⟨v, hv2, h2⟩ := Option.bind_eq_some_iff.1 h1
    clear h1
    obtain ⟨m, hm, h3⟩ := Option.bind_eq_some_iff.1 h2
    clear h2
    obtain ⟨n, hn, h4⟩ := Option.bind_eq_some_iff.1 h3
    clear h3
    obtain ⟨q, hq, h5⟩ := Option.bind_eq_some_iff.1 h4
    clear h4
    by_cases hg : c = v ∧ m = n ∧ q = true
    · rw [if_pos hg] at h5
      obtain ⟨rfl, rfl, rfl⟩ := hg
      obtain ⟨u1, u2⟩ := c
      obtain ⟨m1, m2, m3⟩ := m
      have HH := Lib.hid h5; have H1 := Lib.hid hc; have H2 := Lib.hid hv2; have H3 := Lib.hid hm; have H4 := Lib.hid hn; have HQ := Lib.hid hq
      have HN := Lib.hid (show l0.length ≤ 1000000 from by omega)
      clear h5 hc hv2 hm hn hq
      have d1 : decide ((16384 : Int) < (l0.length : Int)) = false := decide_eq_false (by omega)
      have e1 : (u1 == u1) = true := by simp
      have e2 : (u2 == u2) = true := by simp
      have e3 : (m1 == m1) = true := by simp
      have e4 : (m2 == m2) = true := by simp
      have e5 : (m3 == m3) = true := by simp
      clear hv
      have tok0 : True := trivial
      have tok1 : True := trivial
      have tok2 : True := trivial
      have tok3 : True := trivial
      have tok4 : True := trivial
      have tok5 : True := trivial
      have tok6 : True := trivial
      go_enter Try.func4, Try.ntmps4
      go_wp2_with (first | (go_at_call 12; have _ := tok0; refine (wideInts_made _ _ l0 _ (Kd.C_below HC0.out HB.out) HL0.out HN.out).mono ?_; rintro e w1 ⟨g, rfl, hgl, hg, hb⟩; clear tok0; replace HB := Aside0.mk (below_then HB.out HB.out.size hb); have BG := Aside0.mk (hg); clear hg hgl; clear hb) | (go_at_call 13; have _ := tok1; refine (common_Least.calls k _ _ l0 a1 a2 u1 u2 _ (wide_reads HN.out BG.out) (Nat.le_add_right _ _) H1.out).mono ?_; rintro e w1 ⟨rfl, hb⟩; clear tok1; replace BG := Aside0.mk (blk_below BG.out hb); replace HB := Aside0.mk (below_then HB.out HB.out.size hb); clear hb) | (go_at_call 14; have _ := tok2; refine (pleatref17_Least.calls k _ _ l0 a1 a2 u1 u2 _ (Kd.C_below HC0.out HB.out) HL0.out H2.out).mono ?_; rintro e w1 ⟨rfl, hb⟩; clear tok2; replace BG := Aside0.mk (blk_below BG.out hb); replace HB := Aside0.mk (below_then HB.out HB.out.size hb); clear hb) | (go_at_call 15; have _ := tok3; refine (common_Group.calls _ _ l0 a1 a3 m1 m2 m3 _ (wide_reads HN.out BG.out) (Nat.le_add_right _ _) H3.out).mono ?_; rintro e w1 ⟨rfl, hb⟩; clear tok3; replace BG := Aside0.mk (blk_below BG.out hb); replace HB := Aside0.mk (below_then HB.out HB.out.size hb); clear hb) | (go_at_call 16; have _ := tok4; refine (pleatref17_Group.calls k _ _ l0 a1 a3 m1 m2 m3 _ (Kd.C_below HC0.out HB.out) HL0.out H4.out).mono ?_; rintro e w1 ⟨rfl, hd⟩; have hb := hd.below; clear hd; clear tok4; replace BG := Aside0.mk (blk_below BG.out hb); replace HB := Aside0.mk (below_then HB.out HB.out.size hb); clear hb) | (go_at_call 17; have _ := tok5; refine (pleatref00_EqInts.calls k _ _ l0 _ _ l0 true _ (wide_reads HN.out BG.out) (Nat.le_add_right _ _) (Kd.C_below HC0.out HB.out) HL0.out HQ.out).mono ?_; rintro e w1 ⟨rfl, hd⟩; have hb := hd.below; clear hd; clear tok5; replace BG := Aside0.mk (blk_below BG.out hb); replace HB := Aside0.mk (below_then HB.out HB.out.size hb); clear hb) | (go_at_call 18; have _ := tok6; refine (spareInts_true _ l0.length _ _ BG.out HN.out (fun i h1 h2 => wcs_mark _ _ _ _ h1 h2)).mono ?_; rintro e w1 ⟨rfl, hw⟩; clear tok6; subst hw; have hb := Below.refl w1.heap.size w1; replace BG := Aside0.mk (blk_below BG.out hb); replace HB := Aside0.mk (below_then HB.out HB.out.size hb); clear hb) | (go_at_call 11; refine (pleatlaw17_lives.calls k _ _ HH.out).mono ?_; rintro e w1 ⟨rfl, hb⟩; replace HB := Aside0.mk (below_then HB.out HB.out.size hb); clear hb))
      go_ret
      exact ⟨rfl, HB.out⟩
    · rw [if_neg hg] at h5; cases h5
end

end Go.Proofs.Ythkiapcoagjjpaa.PCommonTells
