-- Written for this claim by a program of this session (wip/tools/pp.py, over the kit's print).
import Derived.Test.YthkiapcoagjjpaaPCommonRowsx0
import Derived.Test.YthkiapcoagjjpaaPCommonRowsx1
import Derived.Test.YthkiapcoagjjpaaPCommonRowsx2
import Derived.Test.YthkiapcoagjjpaaPCommonRowsx3
import Derived.Test.YthkiapcoagjjpaaPCommonRowsx4
namespace Go.Proofs.Ythkiapcoagjjpaa.PCommonRows
open Go.RowKit Go.Proofs.YthkiapcoagjjpaaW.PrintWords Go.Proofs.YthkiapcoagjjpaaW.PrintLast Go.Proofs.YthkiapcoagjjpaaW.PrintMore
attribute [local go_sem] max2_int min2_int max_two min_two max_three min_three max_four min_four   -- for this text's walks alone
set_option linter.unusedVariables false
set_option linter.unusedSimpArgs false

/-! ### pleatlaw17_CommonRows: function 5 -/
mutual
def pleatlaw17_CommonRows.j0 : Nat → List Int → Int → Bool → Option (Bool)
  | 0, _, _, _ => none
  | k + 1, x0, x1, x30 => if x30 = true then ((pleatlaw17_lives.f k).bind fun t165 => (some t165)) else ((pleatref00_CopyInts.f x0).bind fun t166 => ((suffix_Of.f t166).bind fun bt169 => ((pleatref00_CopyInts.f x0).bind fun t177 => ((pleatref00_CopyInts.f bt169.1).bind fun t180 => ((common_Prefixes.f k t177 t180).bind fun bt183 => ((pleatref16_Bits.f k (x0.length : Int)).bind fun t188 => (if bt183.2.2 = 0 then (if (bt183.1.length : Int) = (x0.length : Int) then (if (bt169.1.length : Int) = (x0.length : Int) then (pleatlaw17_CommonRows.j1 k x0 x1 bt183.1 (decide ((wrap64 (bt169.2.2 + bt183.2.1)) > (wrap64 ((wrap64 ((wrap64 (8 * (x0.length : Int))) * (wrap64 (t188 + 1)))) * (wrap64 (t188 + 1)))))) bt169.1 bt169.2.1 bt169.2.2) else (pleatlaw17_CommonRows.j1 k x0 x1 bt183.1 true bt169.1 bt169.2.1 bt169.2.2)) else (pleatlaw17_CommonRows.j1 k x0 x1 bt183.1 true bt169.1 bt169.2.1 bt169.2.2)) else (pleatlaw17_CommonRows.j1 k x0 x1 bt183.1 true bt169.1 bt169.2.1 bt169.2.2))))))))
def pleatlaw17_CommonRows.j1 : Nat → List Int → Int → List Int → Bool → List Int → List Int → Int → Option (Bool)
  | 0, _, _, _, _, _, _, _ => none
  | k + 1, x0, x1, x6, x79, x177000, x177001, x177002 => if x79 = true then (some false) else (pleatlaw17_CommonRows.l0 k x0 x1 x6 0 x177000 x177001 x177002)
def pleatlaw17_CommonRows.l0 : Nat → List Int → Int → List Int → Int → List Int → List Int → Int → Option (Bool)
  | 0, _, _, _, _, _, _, _ => none
  | k + 1, x0, x1, x6, x10, x177000, x177001, x177002 => if x10 < (x0.length : Int) then ((pleatref00_CopyInts.f x6).bind fun t190 => ((common_Group.f t190 x10 x1).bind fun bt193 => (if bt193.2.2 = 0 then (if bt193.1 > x10 then (pleatlaw17_CommonRows.j3 k x0 x1 x6 x10 bt193.1 bt193.2.1 true x177000 x177001 x177002) else (pleatlaw17_CommonRows.j3 k x0 x1 x6 x10 bt193.1 bt193.2.1 (decide (bt193.2.1 ≤ x10)) x177000 x177001 x177002)) else (pleatlaw17_CommonRows.j3 k x0 x1 x6 x10 bt193.1 bt193.2.1 true x177000 x177001 x177002)))) else ((pleatlaw17_lives.f k).bind fun t189 => (some t189))
def pleatlaw17_CommonRows.j3 : Nat → List Int → Int → List Int → Int → Int → Int → Bool → List Int → List Int → Int → Option (Bool)
  | 0, _, _, _, _, _, _, _, _, _, _ => none
  | k + 1, x0, x1, x6, x10, x11, x12, x106, x177000, x177001, x177002 => if x106 = true then (some false) else (pleatlaw17_CommonRows.l1 k x0 x1 x6 x10 x11 x12 0 x177000 x177001 x177002)
def pleatlaw17_CommonRows.l1 : Nat → List Int → Int → List Int → Int → Int → Int → Int → List Int → List Int → Int → Option (Bool)
  | 0, _, _, _, _, _, _, _, _, _, _ => none
  | k + 1, x0, x1, x6, x10, x11, x12, x14, x177000, x177001, x177002 => if x14 < (x0.length : Int) then (if 0 ≤ x10 then (if x10 < (x177000.length : Int) then (if 0 ≤ x14 then (if x14 < (x177000.length : Int) then (if (rd x177000 x10) < 0 then (pleatlaw17_CommonRows.j5 k x0 x1 x6 x10 x11 x12 x14 (rd x177000 x10) (rd x177000 x14) true x177000 x177001 x177002) else (if (rd x177000 x10) ≥ (x0.length : Int) then (pleatlaw17_CommonRows.j5 k x0 x1 x6 x10 x11 x12 x14 (rd x177000 x10) (rd x177000 x14) true x177000 x177001 x177002) else (if (rd x177000 x14) < 0 then (pleatlaw17_CommonRows.j5 k x0 x1 x6 x10 x11 x12 x14 (rd x177000 x10) (rd x177000 x14) true x177000 x177001 x177002) else (pleatlaw17_CommonRows.j5 k x0 x1 x6 x10 x11 x12 x14 (rd x177000 x10) (rd x177000 x14) (decide ((rd x177000 x14) ≥ (x0.length : Int))) x177000 x177001 x177002)))) else (none)) else (none)) else (none)) else (none)) else (pleatlaw17_CommonRows.l0 k x0 x1 x6 (wrap64 (x10 + 1)) x177000 x177001 x177002)
def pleatlaw17_CommonRows.j5 : Nat → List Int → Int → List Int → Int → Int → Int → Int → Int → Int → Bool → List Int → List Int → Int → Option (Bool)
  | 0, _, _, _, _, _, _, _, _, _, _, _, _, _ => none
  | k + 1, x0, x1, x6, x10, x11, x12, x14, x15, x16, x140, x177000, x177001, x177002 => if x140 = true then (some false) else (pleatlaw17_CommonRows.l2 k x0 x1 x6 x10 x11 x12 x14 x15 x16 0 x177000 x177001 x177002)
def pleatlaw17_CommonRows.j7 : Nat → List Int → Int → List Int → Int → Int → Int → Int → Int → List Int → List Int → Int → Option (Bool)
  | 0, _, _, _, _, _, _, _, _, _, _, _ => none
  | k + 1, x0, x1, x6, x10, x11, x12, x14, x17, x177000, x177001, x177002 => (pleatref00_CopyInts.f x6).bind fun t200 => ((common_Least.f k t200 x10 x14).bind fun bt203 => (if bt203.2 = 0 then (if x10 = x14 then (pleatlaw17_CommonRows.j8 k x0 x1 x6 x10 x11 x12 x14 x17 (bt203.1 != (-1)) x177000 x177001 x177002) else (if bt203.1 = x17 then (pleatlaw17_CommonRows.j8 k x0 x1 x6 x10 x11 x12 x14 x17 false x177000 x177001 x177002) else (pleatlaw17_CommonRows.j8 k x0 x1 x6 x10 x11 x12 x14 x17 true x177000 x177001 x177002))) else (pleatlaw17_CommonRows.j8 k x0 x1 x6 x10 x11 x12 x14 x17 true x177000 x177001 x177002)))
def pleatlaw17_CommonRows.j8 : Nat → List Int → Int → List Int → Int → Int → Int → Int → Int → Bool → List Int → List Int → Int → Option (Bool)
  | 0, _, _, _, _, _, _, _, _, _, _, _, _ => none
  | k + 1, x0, x1, x6, x10, x11, x12, x14, x17, x200, x177000, x177001, x177002 => if x200 = true then (some false) else (if x14 ≥ x11 then (if x17 ≥ x1 then (if ((decide (x14 < x12)) != true) = true then (some false) else (pleatlaw17_CommonRows.l1 k x0 x1 x6 x10 x11 x12 (wrap64 (x14 + 1)) x177000 x177001 x177002)) else (if ((decide (x14 < x12)) != (x10 == x14)) = true then (some false) else (pleatlaw17_CommonRows.l1 k x0 x1 x6 x10 x11 x12 (wrap64 (x14 + 1)) x177000 x177001 x177002))) else (if x17 ≥ x1 then (if (false != true) = true then (some false) else (pleatlaw17_CommonRows.l1 k x0 x1 x6 x10 x11 x12 (wrap64 (x14 + 1)) x177000 x177001 x177002)) else (if (false != (x10 == x14)) = true then (some false) else (pleatlaw17_CommonRows.l1 k x0 x1 x6 x10 x11 x12 (wrap64 (x14 + 1)) x177000 x177001 x177002))))
def pleatlaw17_CommonRows.l2 : Nat → List Int → Int → List Int → Int → Int → Int → Int → Int → Int → Int → List Int → List Int → Int → Option (Bool)
  | 0, _, _, _, _, _, _, _, _, _, _, _, _, _ => none
  | k + 1, x0, x1, x6, x10, x11, x12, x14, x15, x16, x17, x177000, x177001, x177002 => if (wrap64 (x15 + x17)) < (x0.length : Int) then (if (wrap64 (x16 + x17)) < (x0.length : Int) then (if 0 ≤ (wrap64 (x15 + x17)) then (if 0 ≤ (wrap64 (x16 + x17)) then (if (rd x0 (wrap64 (x15 + x17))) = (rd x0 (wrap64 (x16 + x17))) then (pleatlaw17_CommonRows.l2 k x0 x1 x6 x10 x11 x12 x14 x15 x16 (wrap64 (x17 + 1)) x177000 x177001 x177002) else (pleatlaw17_CommonRows.j7 k x0 x1 x6 x10 x11 x12 x14 x17 x177000 x177001 x177002)) else (none)) else (none)) else (pleatlaw17_CommonRows.j7 k x0 x1 x6 x10 x11 x12 x14 x17 x177000 x177001 x177002)) else (pleatlaw17_CommonRows.j7 k x0 x1 x6 x10 x11 x12 x14 x17 x177000 x177001 x177002)
end
def pleatlaw17_CommonRows.f (k : Nat) (l0 : List Int) (a1 : Int) : Option (Bool) := if (l0.length : Int) > 60 then (pleatlaw17_CommonRows.j0 k l0 a1 true) else (if a1 < 0 then (pleatlaw17_CommonRows.j0 k l0 a1 true) else (pleatlaw17_CommonRows.j0 k l0 a1 (decide (a1 > 61))))
theorem pleatlaw17_CommonRows.mono_l : ∀ k, (∀ y0 y1 y2, LeO (pleatlaw17_CommonRows.j0 k y0 y1 y2) (pleatlaw17_CommonRows.j0 (k + 1) y0 y1 y2)) ∧ (∀ y0 y1 y2 y3 y4 y5 y6, LeO (pleatlaw17_CommonRows.j1 k y0 y1 y2 y3 y4 y5 y6) (pleatlaw17_CommonRows.j1 (k + 1) y0 y1 y2 y3 y4 y5 y6)) ∧ (∀ y0 y1 y2 y3 y4 y5 y6, LeO (pleatlaw17_CommonRows.l0 k y0 y1 y2 y3 y4 y5 y6) (pleatlaw17_CommonRows.l0 (k + 1) y0 y1 y2 y3 y4 y5 y6)) ∧ (∀ y0 y1 y2 y3 y4 y5 y6 y7 y8 y9, LeO (pleatlaw17_CommonRows.j3 k y0 y1 y2 y3 y4 y5 y6 y7 y8 y9) (pleatlaw17_CommonRows.j3 (k + 1) y0 y1 y2 y3 y4 y5 y6 y7 y8 y9)) ∧ (∀ y0 y1 y2 y3 y4 y5 y6 y7 y8 y9, LeO (pleatlaw17_CommonRows.l1 k y0 y1 y2 y3 y4 y5 y6 y7 y8 y9) (pleatlaw17_CommonRows.l1 (k + 1) y0 y1 y2 y3 y4 y5 y6 y7 y8 y9)) ∧ (∀ y0 y1 y2 y3 y4 y5 y6 y7 y8 y9 y10 y11 y12, LeO (pleatlaw17_CommonRows.j5 k y0 y1 y2 y3 y4 y5 y6 y7 y8 y9 y10 y11 y12) (pleatlaw17_CommonRows.j5 (k + 1) y0 y1 y2 y3 y4 y5 y6 y7 y8 y9 y10 y11 y12)) ∧ (∀ y0 y1 y2 y3 y4 y5 y6 y7 y8 y9 y10, LeO (pleatlaw17_CommonRows.j7 k y0 y1 y2 y3 y4 y5 y6 y7 y8 y9 y10) (pleatlaw17_CommonRows.j7 (k + 1) y0 y1 y2 y3 y4 y5 y6 y7 y8 y9 y10)) ∧ (∀ y0 y1 y2 y3 y4 y5 y6 y7 y8 y9 y10 y11, LeO (pleatlaw17_CommonRows.j8 k y0 y1 y2 y3 y4 y5 y6 y7 y8 y9 y10 y11) (pleatlaw17_CommonRows.j8 (k + 1) y0 y1 y2 y3 y4 y5 y6 y7 y8 y9 y10 y11)) ∧ (∀ y0 y1 y2 y3 y4 y5 y6 y7 y8 y9 y10 y11 y12, LeO (pleatlaw17_CommonRows.l2 k y0 y1 y2 y3 y4 y5 y6 y7 y8 y9 y10 y11 y12) (pleatlaw17_CommonRows.l2 (k + 1) y0 y1 y2 y3 y4 y5 y6 y7 y8 y9 y10 y11 y12))
  | 0 => ⟨fun _ _ _ r h => by simp [pleatlaw17_CommonRows.j0] at h, fun _ _ _ _ _ _ _ r h => by simp [pleatlaw17_CommonRows.j1] at h, fun _ _ _ _ _ _ _ r h => by simp [pleatlaw17_CommonRows.l0] at h, fun _ _ _ _ _ _ _ _ _ _ r h => by simp [pleatlaw17_CommonRows.j3] at h, fun _ _ _ _ _ _ _ _ _ _ r h => by simp [pleatlaw17_CommonRows.l1] at h, fun _ _ _ _ _ _ _ _ _ _ _ _ _ r h => by simp [pleatlaw17_CommonRows.j5] at h, fun _ _ _ _ _ _ _ _ _ _ _ r h => by simp [pleatlaw17_CommonRows.j7] at h, fun _ _ _ _ _ _ _ _ _ _ _ _ r h => by simp [pleatlaw17_CommonRows.j8] at h, fun _ _ _ _ _ _ _ _ _ _ _ _ _ r h => by simp [pleatlaw17_CommonRows.l2] at h⟩
  | k + 1 => by
    obtain ⟨ih0, ih1, ih2, ih3, ih4, ih5, ih6, ih7, ih8⟩ := pleatlaw17_CommonRows.mono_l k
    refine ⟨?_, ?_, ?_, ?_, ?_, ?_, ?_, ?_, ?_⟩
    · intro y0 y1 y2
      unfold pleatlaw17_CommonRows.j0
      have m0 := @common_Least.mono
      have m1 := @common_Prefixes.mono
      have m2 := @pleatlaw17_lives.mono
      have m3 := @pleatref16_Bits.mono
      exact zMo
    · intro y0 y1 y2 y3 y4 y5 y6
      unfold pleatlaw17_CommonRows.j1
      have m0 := @common_Least.mono
      have m1 := @common_Prefixes.mono
      have m2 := @pleatlaw17_lives.mono
      have m3 := @pleatref16_Bits.mono
      exact zMo
    · intro y0 y1 y2 y3 y4 y5 y6
      unfold pleatlaw17_CommonRows.l0
      have m0 := @common_Least.mono
      have m1 := @common_Prefixes.mono
      have m2 := @pleatlaw17_lives.mono
      have m3 := @pleatref16_Bits.mono
      exact zMo
    · intro y0 y1 y2 y3 y4 y5 y6 y7 y8 y9
      unfold pleatlaw17_CommonRows.j3
      have m0 := @common_Least.mono
      have m1 := @common_Prefixes.mono
      have m2 := @pleatlaw17_lives.mono
      have m3 := @pleatref16_Bits.mono
      exact zMo
    · intro y0 y1 y2 y3 y4 y5 y6 y7 y8 y9
      unfold pleatlaw17_CommonRows.l1
      have m0 := @common_Least.mono
      have m1 := @common_Prefixes.mono
      have m2 := @pleatlaw17_lives.mono
      have m3 := @pleatref16_Bits.mono
      exact zMo
    · intro y0 y1 y2 y3 y4 y5 y6 y7 y8 y9 y10 y11 y12
      unfold pleatlaw17_CommonRows.j5
      have m0 := @common_Least.mono
      have m1 := @common_Prefixes.mono
      have m2 := @pleatlaw17_lives.mono
      have m3 := @pleatref16_Bits.mono
      exact zMo
    · intro y0 y1 y2 y3 y4 y5 y6 y7 y8 y9 y10
      unfold pleatlaw17_CommonRows.j7
      have m0 := @common_Least.mono
      have m1 := @common_Prefixes.mono
      have m2 := @pleatlaw17_lives.mono
      have m3 := @pleatref16_Bits.mono
      exact zMo
    · intro y0 y1 y2 y3 y4 y5 y6 y7 y8 y9 y10 y11
      unfold pleatlaw17_CommonRows.j8
      have m0 := @common_Least.mono
      have m1 := @common_Prefixes.mono
      have m2 := @pleatlaw17_lives.mono
      have m3 := @pleatref16_Bits.mono
      exact zMo
    · intro y0 y1 y2 y3 y4 y5 y6 y7 y8 y9 y10 y11 y12
      unfold pleatlaw17_CommonRows.l2
      have m0 := @common_Least.mono
      have m1 := @common_Prefixes.mono
      have m2 := @pleatlaw17_lives.mono
      have m3 := @pleatref16_Bits.mono
      exact zMo
theorem pleatlaw17_CommonRows.mono : ∀ a0 a1 k, LeO (pleatlaw17_CommonRows.f k a0 a1) (pleatlaw17_CommonRows.f (k + 1) a0 a1) := by
  intro a0 a1 k
  obtain ⟨ih0, ih1, ih2, ih3, ih4, ih5, ih6, ih7, ih8⟩ := pleatlaw17_CommonRows.mono_l k
  unfold pleatlaw17_CommonRows.f
  have m0 := @common_Least.mono
  have m1 := @common_Prefixes.mono
  have m2 := @pleatlaw17_lives.mono
  have m3 := @pleatref16_Bits.mono
  exact zMo
def pleatlaw17_CommonRows.T4 : Bool × List (List Nat × List Nat) := (true, [([], []), ([0], [0]), ([], []), ([2], [2]), ([3, 1], [3]), ([1, 4, 4], [1, 4]), ([5], [5]), ([6], [6]), ([6], [6]), ([6], [6]), ([7, 5, 0, 1, 2, 3, 4, 5, 6, 7], [7]), ([8, 10, 0, 1, 2, 3, 4, 5, 6, 7, 8, 10], [8]), ([9, 11, 0, 1, 2, 3, 4, 5, 6, 7, 8, 9, 10, 11], [9])])
def pleatlaw17_CommonRows.B4 : List Nat := [0, 1, 0, 4, 15, 31, 63, 127, 127, 127, 255, 1535, 4095]
theorem pleatlaw17_CommonRows.tab4 : rtab .any (opsOf Try.f5 4) = pleatlaw17_CommonRows.T4 := by kernel_rfl
theorem pleatlaw17_CommonRows.bits4 : waitsOk pleatlaw17_CommonRows.T4.2 pleatlaw17_CommonRows.B4 = true := by kernel_rfl
def pleatlaw17_CommonRows.T22 : Bool × List (List Nat × List Nat) := (true, [([], []), ([], []), ([0, 1], [0, 1]), ([], []), ([3], [3]), ([2, 4], [2, 4]), ([5], [5]), ([6], [6]), ([6], [6]), ([7, 8, 6], [6, 7, 8]), ([6], [6]), ([10, 6], [6, 10]), ([9, 11, 6], [6, 9, 11]), ([6, 12], [6, 12]), ([13, 6], [13]), ([14], [14]), ([14], [14]), ([14], [14]), ([16, 17, 14], [14, 16, 17]), ([15, 18, 14], [14, 15, 18]), ([19, 14], [14, 19]), ([14], [14]), ([14], [14]), ([14], [14]), ([22, 23, 14], [14, 22, 23]), ([21, 24, 14], [14, 21, 24]), ([25, 14], [14, 25]), ([20, 26, 14], [14, 20, 26]), ([14, 27], [14, 27])])
def pleatlaw17_CommonRows.B22 : List Nat := [0, 0, 3, 0, 8, 31, 63, 127, 127, 511, 127, 1151, 4095, 8191, 16383, 32767, 32767, 32767, 229375, 524287, 1048575, 32767, 32767, 32767, 12615679, 31490047, 65044479, 134217727, 268435455]
theorem pleatlaw17_CommonRows.tab22 : rtab .any (opsOf Try.f5 22) = pleatlaw17_CommonRows.T22 := by kernel_rfl
theorem pleatlaw17_CommonRows.bits22 : waitsOk pleatlaw17_CommonRows.T22.2 pleatlaw17_CommonRows.B22 = true := by kernel_rfl
set_option maxHeartbeats 8000000 in
set_option maxRecDepth 100000 in
theorem pleatlaw17_CommonRows.calls (k : Nat) (A0 : Option Addr) (c0 : Nat) (l0 : List Int) (a1 : Int) (r : Bool) (w : World) (hr0 : Kd.C (Kd.int .i64) w A0 l0.length l0) (hc0 : l0.length ≤ c0) (h : pleatlaw17_CommonRows.f k l0 a1 = some r) :
    Calls Try.prog 5 #[.slice A0 l0.length c0, .int .i64 a1] w fun e w' => e = .returned (.bool r) ∧ Below w.heap.size w w' := by
  have hu42 := Try.underlying42
  have HR0 := Aside0.mk hr0
  have HC0 := Aside0.mk hc0
  clear hr0 hc0
  have HB := Aside0.mk (Below.refl w.heap.size w)
  have H := h
  clear h
  unfold pleatlaw17_CommonRows.f at H
  have HC3 := Aside0.mk H
  clear H
  go_enter Try.func5, Try.ntmps5
  go_upto_region 1 with (fail)
  go_cut [30] (fun v30 wc => ∃ (kq : Nat) (x30_2 : Bool), v30 = .bool x30_2 ∧ Aside0 (pleatlaw17_CommonRows.j0 kq l0 a1 x30_2 = some r) ∧ Aside0 (kq ≤ k) ∧ Aside0 (Below w.heap.size w wc))
  case first =>
   as_aux_lemma =>
    have H := HC3.out
    clear HC3
    by_cases c4 : (l0.length : Int) > 60
    · rw [if_pos c4] at H
      have c4b0 : decide (60 < (l0.length : Int)) = true := decide_eq_true c4
      have c4b1 : decide (60 < l0.length) = true := decide_eq_true (by omega)
      clear c4
      (first | rw [c4b0] | (simp only [i64_w, i32_w]; rw [c4b0]) | skip)
      have H' := Aside0.mk H
      clear H
      go_wp2
      go_meet
      case rel => exact ⟨_, (true), zF', H', ⟨zL⟩, ⟨zHB⟩⟩
    · rw [if_neg c4] at H
      have c4b0 : decide (60 < (l0.length : Int)) = false := decide_eq_false c4
      have c4b1 : decide (60 < l0.length) = false := decide_eq_false (by omega)
      clear c4
      (first | rw [c4b0] | (simp only [i64_w, i32_w]; rw [c4b0]) | skip)
      by_cases c5 : a1 < 0
      · rw [if_pos c5] at H
        have c5b0 := decide_eq_true c5
        clear c5
        have H' := Aside0.mk H
        clear H
        go_wp2
        go_meet
        case rel => exact ⟨_, (true), zF', H', ⟨zL⟩, ⟨zHB⟩⟩
      · rw [if_neg c5] at H
        have c5b0 := decide_eq_false c5
        clear c5
        have H' := Aside0.mk H
        clear H
        go_wp2
        go_meet
        case rel => exact ⟨_, (decide (a1 > 61)), zF', H', ⟨zL⟩, ⟨zHB⟩⟩
  case rest =>
   as_aux_lemma =>
    clear HC3
    obtain ⟨kq, x30_2, rfl, HA, HJ2, HB⟩ := hcut
    cases kq with
    | zero => exact absurd HA.out (by simp [pleatlaw17_CommonRows.j0])
    | succ kj2 =>
      have H := HA.out
      clear HA
      simp only [pleatlaw17_CommonRows.j0] at H
      by_cases c6 : x30_2 = true
      · subst c6
        rw [if_pos rfl] at H
        replace H := Option.bind_eq_some_iff.mp H
        obtain ⟨t165, A70, H⟩ := H
        (try dsimp only at H)
        have A7 := Aside0.mk A70
        clear A70
        obtain rfl := Option.some.inj H
        go_wp2_with (first | ((with_reducible refine gate_callee (f := 11) rfl ?_); refine zGo (N := (some 31)) Try.func11 #[] ?_; (with_reducible refine (pleatlaw17_lives.calls kj2  t165 _ A7.out).mono ?_); rintro e w8 ⟨rfl, hb⟩; refine ⟨_, rfl, ?_⟩; refine zs (below_step (zHB) hb) ?_; clear HB; intro HB; clear hb))
        go_ret
        exact ⟨zE, zHB⟩
      · replace c6 := Bool.eq_false_iff.mpr c6
        subst c6
        rw [if_neg (show ¬ (false = true) by decide)] at H
        replace H := Option.bind_eq_some_iff.mp H
        obtain ⟨t166, A90, H⟩ := H
        (try dsimp only at H)
        have A9 := Aside0.mk A90
        clear A90
        replace H := Option.bind_eq_some_iff.mp H
        obtain ⟨⟨t169, t172, t175⟩, A100, H⟩ := H
        (try dsimp only at H)
        have A10 := Aside0.mk A100
        clear A100
        replace H := Option.bind_eq_some_iff.mp H
        obtain ⟨t177, A110, H⟩ := H
        (try dsimp only at H)
        have A11 := Aside0.mk A110
        clear A110
        replace H := Option.bind_eq_some_iff.mp H
        obtain ⟨t180, A120, H⟩ := H
        (try dsimp only at H)
        have A12 := Aside0.mk A120
        clear A120
        replace H := Option.bind_eq_some_iff.mp H
        obtain ⟨⟨t183, t184, t185⟩, A130, H⟩ := H
        (try dsimp only at H)
        have A13 := Aside0.mk A130
        clear A130
        replace H := Option.bind_eq_some_iff.mp H
        obtain ⟨t188, A140, H⟩ := H
        (try dsimp only at H)
        have A14 := Aside0.mk A140
        clear A140
        have HC15 := Aside0.mk H
        clear H
        try go_wp2_with (first | ((with_reducible refine gate_callee (f := 20) rfl ?_); refine zGo (N := (some 33)) Try.func20 #[.slice A0 l0.length c0] ?_; (with_reducible refine (pleatref00_CopyInts.calls _ _ l0 t166 _ ?side1 ?side2 A9.out).mono ?_); (case side1 => exact zS); (case side2 => exact zS); rintro e w16 ⟨v167, rfl, ho0, hb⟩; refine ⟨_, rfl, ?_⟩; refine zs (Kd.R_lower ho0 (below_size (zHB))) (zs (below_step (zHB) hb) ?_); clear HB; intro HB HO168; clear hb ho0; obtain ⟨Ao17, co17, eo17⟩ := Kd.R_slice HO168.out; subst eo17) | ((with_reducible refine gate_callee (f := 19) rfl ?_); refine zGo (N := (some 34)) Try.func19 #[.slice Ao17 t166.length co17] ?_; (with_reducible refine (suffix_Of.calls _ _ t166 t169 t172 t175 _ ?side1 ?side2 A10.out).mono ?_); (case side1 => exact zS); (case side2 => exact zS); rintro e w18 ⟨v170, v173, rfl, ho0, ho1, hb⟩; refine ⟨_, rfl, ?_⟩; refine zs (Kd.R_mono (Kd.R_told (Kd.R_told (Kd.R_old (by (with_reducible repeat (first | apply Kd.R_alloc | apply Kd.R_drewN | apply Kd.R_drew)); exact HO168.out) hb) (Kd.R_base ho0)) (Kd.R_base ho1)) (fun _ h_ => h_.1)) (zs (Kd.R_lower (Kd.R_new' ho0 (Kd.R_lt (by (with_reducible repeat (first | apply Kd.R_alloc | apply Kd.R_drewN | apply Kd.R_drew)); exact HO168.out))) (below_size (zHB))) (zs (Kd.R_lower (Kd.R_new' ho1 (Kd.R_lt (by (with_reducible repeat (first | apply Kd.R_alloc | apply Kd.R_drewN | apply Kd.R_drew)); exact HO168.out))) (below_size (zHB))) (zs (below_step (zHB) hb) ?_))); clear HO168 HB; intro HB HO174 HO171 HO168; clear hb ho0 ho1) | ((with_reducible refine gate_dst (N := 5) rfl ?_); (try (refine gate_guard (by rfl) ?_; dsimp only)); refine zBox (N := 5) (cs := #[.slice none 0 0, .slice none 0 0, .int .i64 0]) (t := 42) ?_; intro gb176 hg w19 hbox hb; refine zs (Kd.R_below (by (with_reducible repeat (first | apply Kd.R_alloc | apply Kd.R_drewN | apply Kd.R_drew)); exact HO168.out) hb) (zs (Kd.R_below (by (with_reducible repeat (first | apply Kd.R_alloc | apply Kd.R_drewN | apply Kd.R_drew)); exact HO171.out) hb) (zs (Kd.R_below (by (with_reducible repeat (first | apply Kd.R_alloc | apply Kd.R_drewN | apply Kd.R_drew)); exact HO174.out) hb) (zs (below_step (zHB) hb) (zs hbox (zs (zGe hg zHB) (zs (zGe hg zHB) ?_)))))); clear HO168 HO171 HO174 HB; intro GE176 GW176 BK176 HB HO174 HO171 HO168; clear hb hbox hg; obtain ⟨Ao20, co20, eo20⟩ := Kd.R_slice HO171.out; subst eo20; have hcz21 := blk_cell BK176.out; have hfz21 := blk_frozen BK176.out; obtain ⟨Ao22, co22, eo22⟩ := Kd.R_slice HO174.out; subst eo22))
        have n0_ : Aside0 (Kd.R (Kd.int .i64) 3 (((w19.setCell ⟨gb176, 0, none⟩ (.slice Ao20 t169.length co20)).setCell ⟨gb176, 1, none⟩ (.slice Ao22 t172.length co22)).setCell ⟨gb176, 2, none⟩ (.int .i64 t175)) w.heap.size (fun k_ => some k_ ≠ (.slice Ao20 t169.length co20 : Value).ownBlock ∧ some k_ ≠ (.slice Ao22 t172.length co22 : Value).ownBlock) (.slice Ao17 t166.length co17) t166) := ⟨by (with_reducible repeat (first | apply Kd.R_alloc | apply Kd.R_drewN | apply Kd.R_drew)); exact Kd.R_mono (Kd.R_far (p := ⟨gb176, 2, none⟩) (Kd.R_far (p := ⟨gb176, 1, none⟩) (Kd.R_far (p := ⟨gb176, 0, none⟩) (Kd.R_types HO168.out BK176.out (by decide)) (fun _ hk => hk.2) (.slice Ao20 t169.length co20)) (fun _ hk => hk.2) (.slice Ao22 t172.length co22)) (fun _ hk => hk.2) (.int .i64 t175)) (fun _ hk => ⟨hk.1.1.2, hk.1.2⟩)⟩
        have n1_ : Aside0 (Kd.R (Kd.int .i64) 3 (((w19.setCell ⟨gb176, 0, none⟩ (.slice Ao20 t169.length co20)).setCell ⟨gb176, 1, none⟩ (.slice Ao22 t172.length co22)).setCell ⟨gb176, 2, none⟩ (.int .i64 t175)) w.heap.size (fun k_ => some k_ ≠ (.slice Ao17 t166.length co17 : Value).ownBlock ∧ some k_ ≠ (.slice Ao22 t172.length co22 : Value).ownBlock) (.slice Ao20 t169.length co20) t169) := ⟨by (with_reducible repeat (first | apply Kd.R_alloc | apply Kd.R_drewN | apply Kd.R_drew)); exact Kd.R_mono (Kd.R_far (p := ⟨gb176, 2, none⟩) (Kd.R_far (p := ⟨gb176, 1, none⟩) (Kd.R_far (p := ⟨gb176, 0, none⟩) (Kd.R_types HO171.out BK176.out (by decide)) (fun _ hk => hk.2) (.slice Ao20 t169.length co20)) (fun _ hk => hk.2) (.slice Ao22 t172.length co22)) (fun _ hk => hk.2) (.int .i64 t175)) (fun _ hk => ⟨hk.1.2, hk.1.1⟩)⟩
        have n2_ : Aside0 (Kd.R (Kd.int .i64) 3 (((w19.setCell ⟨gb176, 0, none⟩ (.slice Ao20 t169.length co20)).setCell ⟨gb176, 1, none⟩ (.slice Ao22 t172.length co22)).setCell ⟨gb176, 2, none⟩ (.int .i64 t175)) w.heap.size (fun k_ => some k_ ≠ (.slice Ao17 t166.length co17 : Value).ownBlock ∧ some k_ ≠ (.slice Ao20 t169.length co20 : Value).ownBlock) (.slice Ao22 t172.length co22) t172) := ⟨by (with_reducible repeat (first | apply Kd.R_alloc | apply Kd.R_drewN | apply Kd.R_drew)); exact Kd.R_mono (Kd.R_far (p := ⟨gb176, 2, none⟩) (Kd.R_far (p := ⟨gb176, 1, none⟩) (Kd.R_far (p := ⟨gb176, 0, none⟩) (Kd.R_types HO174.out BK176.out (by decide)) (fun _ hk => hk.2) (.slice Ao20 t169.length co20)) (fun _ hk => hk.2) (.slice Ao22 t172.length co22)) (fun _ hk => hk.2) (.int .i64 t175)) (fun _ hk => ⟨hk.1.2, hk.1.1⟩)⟩
        have n3_ : Aside0 ((((w19.setCell ⟨gb176, 0, none⟩ (.slice Ao20 t169.length co20)).setCell ⟨gb176, 1, none⟩ (.slice Ao22 t172.length co22)).setCell ⟨gb176, 2, none⟩ (.int .i64 t175)).heap[gb176]? = some (.cells #[.slice Ao20 t169.length co20, .slice Ao22 t172.length co22, .int .i64 t175] 42 (0, 0))) := ⟨zBK⟩
        have n4_ : Aside0 (Below w.heap.size w (((w19.setCell ⟨gb176, 0, none⟩ (.slice Ao20 t169.length co20)).setCell ⟨gb176, 1, none⟩ (.slice Ao22 t172.length co22)).setCell ⟨gb176, 2, none⟩ (.int .i64 t175))) := ⟨zHB⟩
        (try clear HO168)
        (try clear HO171)
        (try clear HO174)
        (try clear BK176)
        (try clear HB)
        generalize (((w19.setCell ⟨gb176, 0, none⟩ (.slice Ao20 t169.length co20)).setCell ⟨gb176, 1, none⟩ (.slice Ao22 t172.length co22)).setCell ⟨gb176, 2, none⟩ (.int .i64 t175)) = w23 at n0_ n1_ n2_ n3_ n4_ ⊢
        have HO168 := n0_
        have HO171 := n1_
        have HO174 := n2_
        have BK176 := n3_
        have HB := n4_
        clear n0_ n1_ n2_ n3_ n4_
        refine zs (Kd.R_drew HO168.out) (zs (Kd.R_drew HO171.out) (zs (Kd.R_drew HO174.out) (zs (blk_drew BK176.out) (zs (below_drew1 HB.out) ?_))))
        clear HO168 HO171 HO174 BK176 HB
        intro HB BK176 HO174 HO171 HO168
        refine start_ (n := 13) (S := fun w' => w'.cell? ⟨gb176, 0, none⟩ = some (.slice Ao20 t169.length co20) ∧ w'.cell? ⟨gb176, 1, none⟩ = some (.slice Ao22 t172.length co22) ∧ w'.cell? ⟨gb176, 2, none⟩ = some (.int .i64 t175)) (ds := []) #[false, false, false, false, false, false, false, false, false, false, false, false, false] (by kernel_rfl) rfl rfl ⟨(blk_cell BK176.out 0).trans rfl, (blk_cell BK176.out 1).trans rfl, (blk_cell BK176.out 2).trans rfl⟩ (fun hHeld => ?_); refine with_tabW pleatlaw17_CommonRows.tab4 pleatlaw17_CommonRows.bits4 (fun HT_ HW_ => ?_)
        generalize w23.drew = w24 at HO168 HO171 HO174 BK176 HB hHeld ⊢
        refine pure_ (i := 0) (N := some 36) (v := ?_) (a' := ?_) #[true, false, false, false, false, false, false, false, false, false, false, false, false] rfl rfl (any_of HT_.out (by kernel_rfl)) (fun _ _ _ h => h) (Or.inl ⟨by rfl, ?_⟩) ?_ ?_
        rotate_left
        · intro w'
          go_simp
          with_reducible rfl
        rotate_left
        · simp only [Act.put, List.setIfInBounds_toArray, List.set_cons_zero, List.set_cons_succ, i64_w, i32_w]
          rfl
        refine pure_ (i := 2) (N := some 38) (v := ?_) (a' := ?_) #[true, false, true, false, false, false, false, false, false, false, false, false, false] rfl rfl (any_of HT_.out (by kernel_rfl)) (fun _ _ _ h => h) (Or.inl ⟨by rfl, ?_⟩) ?_ ?_
        rotate_left
        · intro w'
          go_simp
          with_reducible rfl
        rotate_left
        · simp only [Act.put, List.setIfInBounds_toArray, List.set_cons_zero, List.set_cons_succ, i64_w, i32_w]
          rfl
        refine take_ (i := 3) (N := some 39) (v := ?_) (a' := ?_) #[true, false, true, true, false, false, false, false, false, false, false, false, false] rfl rfl (take_ofW HT_.out HW_.out (by kernel_rfl)) (fun _ _ _ h => h) (Or.inl ⟨by rfl, ?_⟩) hHeld ?_ ?_
        rotate_left
        · rintro w' ⟨s0, s1, s2⟩
          go_simp
          with_reducible rfl
        rotate_left
        · simp only [Act.put, List.setIfInBounds_toArray, List.set_cons_zero, List.set_cons_succ, i64_w, i32_w]
          rfl
        refine one_ (i := 1) (N := some 37) #[true, true, true, true, false, false, false, false, false, false, false, false, false] rfl rfl (one_of HT_.out (by kernel_rfl)) (by decide) (fun K hK => ?_)
        refine goes_ Try.func20 (by kernel_rfl) rfl #[.slice A0 l0.length c0] (by rfl) rfl rfl (by (try simp only [List.map_toArray, List.map_cons, List.map_nil]); first | done | rfl | (simp only [List.length_drop, List.length_take]; rfl)) ?_
        with_reducible refine (pleatref00_CopyInts.calls _ _ l0 t177 _ ?side1 ?side2 A11.out).mono ?_
        (case side1 => exact zS)
        (case side2 => exact zS)
        rintro e w25 ⟨v178, rfl, ho0, hb⟩
        refine ⟨_, rfl, ?_⟩
        refine zs (Kd.R_elder' (by (with_reducible repeat (first | apply Kd.R_alloc | apply Kd.R_drewN | apply Kd.R_drew)); exact HO168.out) (Kd.R_base ho0) hb) (zs (Kd.R_elder' (by (with_reducible repeat (first | apply Kd.R_alloc | apply Kd.R_drewN | apply Kd.R_drew)); exact HO171.out) (Kd.R_base ho0) hb) (zs (Kd.R_elder' (by (with_reducible repeat (first | apply Kd.R_alloc | apply Kd.R_drewN | apply Kd.R_drew)); exact HO174.out) (Kd.R_base ho0) hb) (zs (Kd.R_lower (Kd.R_new' (Kd.R_new' (Kd.R_new' ho0 (Kd.R_lt (by (with_reducible repeat (first | apply Kd.R_alloc | apply Kd.R_drewN | apply Kd.R_drew)); exact HO168.out))) (Kd.R_lt (by (with_reducible repeat (first | apply Kd.R_alloc | apply Kd.R_drewN | apply Kd.R_drew)); exact HO171.out))) (Kd.R_lt (by (with_reducible repeat (first | apply Kd.R_alloc | apply Kd.R_drewN | apply Kd.R_drew)); exact HO174.out))) (below_size (zHB))) (zs (blk_below (g := gb176) zBK hb) (zs (below_step (zHB) hb) ?_)))))
        clear HO168 HO171 HO174 BK176 HB
        intro HB BK176 HO179 HO174 HO171 HO168
        clear hb ho0
        refine hK.out _ _ ⟨(blk_cell BK176.out 0).trans rfl, (blk_cell BK176.out 1).trans rfl, (blk_cell BK176.out 2).trans rfl⟩ (fun hHeld => ?_)
        clear hK K
        refine norm_ (a' := ?_) ?_ ?_
        rotate_left
        · show Act.put _ (some 37) _ = _
          simp only [Act.put, List.setIfInBounds_toArray, List.set_cons_zero, List.set_cons_succ, i64_w, i32_w]
          rfl
        refine one_ (i := 4) (N := some 40) #[true, true, true, true, true, false, false, false, false, false, false, false, false] rfl rfl (one_of HT_.out (by kernel_rfl)) (by decide) (fun K hK => ?_)
        refine goes_ Try.func20 (by kernel_rfl) rfl #[.slice Ao20 t169.length co20] (by rfl) rfl rfl (by (try simp only [List.map_toArray, List.map_cons, List.map_nil]); first | done | rfl | (simp only [List.length_drop, List.length_take]; rfl)) ?_
        with_reducible refine (pleatref00_CopyInts.calls _ _ t169 t180 _ ?side1 ?side2 A12.out).mono ?_
        (case side1 => exact zS)
        (case side2 => exact zS)
        rintro e w26 ⟨v181, rfl, ho0, hb⟩
        refine ⟨_, rfl, ?_⟩
        refine zs (Kd.R_elder' (by (with_reducible repeat (first | apply Kd.R_alloc | apply Kd.R_drewN | apply Kd.R_drew)); exact HO168.out) (Kd.R_base ho0) hb) (zs (Kd.R_elder' (by (with_reducible repeat (first | apply Kd.R_alloc | apply Kd.R_drewN | apply Kd.R_drew)); exact HO171.out) (Kd.R_base ho0) hb) (zs (Kd.R_elder' (by (with_reducible repeat (first | apply Kd.R_alloc | apply Kd.R_drewN | apply Kd.R_drew)); exact HO174.out) (Kd.R_base ho0) hb) (zs (Kd.R_elder' (by (with_reducible repeat (first | apply Kd.R_alloc | apply Kd.R_drewN | apply Kd.R_drew)); exact HO179.out) (Kd.R_base ho0) hb) (zs (Kd.R_lower (Kd.R_new' (Kd.R_new' (Kd.R_new' (Kd.R_new' ho0 (Kd.R_lt (by (with_reducible repeat (first | apply Kd.R_alloc | apply Kd.R_drewN | apply Kd.R_drew)); exact HO168.out))) (Kd.R_lt (by (with_reducible repeat (first | apply Kd.R_alloc | apply Kd.R_drewN | apply Kd.R_drew)); exact HO171.out))) (Kd.R_lt (by (with_reducible repeat (first | apply Kd.R_alloc | apply Kd.R_drewN | apply Kd.R_drew)); exact HO174.out))) (Kd.R_lt (by (with_reducible repeat (first | apply Kd.R_alloc | apply Kd.R_drewN | apply Kd.R_drew)); exact HO179.out))) (below_size (zHB))) (zs (blk_below (g := gb176) zBK hb) (zs (below_step (zHB) hb) ?_))))))
        clear HO168 HO171 HO174 HO179 BK176 HB
        intro HB BK176 HO182 HO179 HO174 HO171 HO168
        clear hb ho0
        obtain ⟨Ao27, co27, eo27⟩ := Kd.R_slice HO179.out
        (first | subst eo27 | (injection eo27 with f1_ f2_ f3_; have f4_ := f1_.symm; have f5_ := f3_.symm; clear f1_ f2_ f3_; subst f4_; subst f5_))
        obtain ⟨Ao28, co28, eo28⟩ := Kd.R_slice HO182.out
        (first | subst eo28 | (injection eo28 with f1_ f2_ f3_; have f4_ := f1_.symm; have f5_ := f3_.symm; clear f1_ f2_ f3_; subst f4_; subst f5_))
        refine hK.out _ _ ⟨(blk_cell BK176.out 0).trans rfl, (blk_cell BK176.out 1).trans rfl, (blk_cell BK176.out 2).trans rfl⟩ (fun hHeld => ?_)
        clear hK K
        refine norm_ (a' := ?_) ?_ ?_
        rotate_left
        · show Act.put _ (some 40) _ = _
          simp only [Act.put, List.setIfInBounds_toArray, List.set_cons_zero, List.set_cons_succ, i64_w, i32_w]
          rfl
        refine one_ (i := 5) (N := some 41) #[true, true, true, true, true, true, false, false, false, false, false, false, false] rfl rfl (one_of HT_.out (by kernel_rfl)) (by decide) (fun K hK => ?_)
        refine goes_ Try.func21 (by kernel_rfl) rfl #[.slice Ao27 t177.length co27, .slice Ao28 t180.length co28] (by rfl) rfl rfl (by (try simp only [List.map_toArray, List.map_cons, List.map_nil]); first | done | rfl | (simp only [List.length_drop, List.length_take]; rfl)) ?_
        with_reducible refine (common_Prefixes.calls kj2 _ _ t177 _ _ t180 t183 t184 t185 _ ?side1 ?side2 ?side3 ?side4 A13.out).mono ?_
        (case side1 => exact zS)
        (case side2 => exact zS)
        (case side3 => exact zS)
        (case side4 => exact zS)
        rintro e w29 ⟨v186, rfl, ho0, hb⟩
        refine ⟨_, rfl, ?_⟩
        refine zs (Kd.R_elder' (by (with_reducible repeat (first | apply Kd.R_alloc | apply Kd.R_drewN | apply Kd.R_drew)); exact HO168.out) (Kd.R_base ho0) hb) (zs (Kd.R_elder' (by (with_reducible repeat (first | apply Kd.R_alloc | apply Kd.R_drewN | apply Kd.R_drew)); exact HO171.out) (Kd.R_base ho0) hb) (zs (Kd.R_elder' (by (with_reducible repeat (first | apply Kd.R_alloc | apply Kd.R_drewN | apply Kd.R_drew)); exact HO174.out) (Kd.R_base ho0) hb) (zs (Kd.R_elder' (by (with_reducible repeat (first | apply Kd.R_alloc | apply Kd.R_drewN | apply Kd.R_drew)); exact HO179.out) (Kd.R_base ho0) hb) (zs (Kd.R_elder' (by (with_reducible repeat (first | apply Kd.R_alloc | apply Kd.R_drewN | apply Kd.R_drew)); exact HO182.out) (Kd.R_base ho0) hb) (zs (Kd.R_lower (Kd.R_new' (Kd.R_new' (Kd.R_new' (Kd.R_new' (Kd.R_new' ho0 (Kd.R_lt (by (with_reducible repeat (first | apply Kd.R_alloc | apply Kd.R_drewN | apply Kd.R_drew)); exact HO168.out))) (Kd.R_lt (by (with_reducible repeat (first | apply Kd.R_alloc | apply Kd.R_drewN | apply Kd.R_drew)); exact HO171.out))) (Kd.R_lt (by (with_reducible repeat (first | apply Kd.R_alloc | apply Kd.R_drewN | apply Kd.R_drew)); exact HO174.out))) (Kd.R_lt (by (with_reducible repeat (first | apply Kd.R_alloc | apply Kd.R_drewN | apply Kd.R_drew)); exact HO179.out))) (Kd.R_lt (by (with_reducible repeat (first | apply Kd.R_alloc | apply Kd.R_drewN | apply Kd.R_drew)); exact HO182.out))) (below_size (zHB))) (zs (blk_below (g := gb176) zBK hb) (zs (below_step (zHB) hb) ?_)))))))
        clear HO168 HO171 HO174 HO179 HO182 BK176 HB
        intro HB BK176 HO187 HO182 HO179 HO174 HO171 HO168
        clear hb ho0
        refine hK.out _ _ ⟨(blk_cell BK176.out 0).trans rfl, (blk_cell BK176.out 1).trans rfl, (blk_cell BK176.out 2).trans rfl⟩ (fun hHeld => ?_)
        clear hK K
        refine norm_ (a' := ?_) ?_ ?_
        rotate_left
        · show Act.put _ (some 41) _ = _
          simp only [Act.put, List.setIfInBounds_toArray, List.set_cons_zero, List.set_cons_succ, i64_w, i32_w]
          rfl
        refine pure_ (i := 6) (N := some 35) (v := ?_) (a' := ?_) #[true, true, true, true, true, true, true, false, false, false, false, false, false] rfl rfl (any_of HT_.out (by kernel_rfl)) (fun _ _ _ h => h) (Or.inl ⟨by rfl, ?_⟩) ?_ ?_
        rotate_left
        · intro w'
          go_simp
          with_reducible rfl
        rotate_left
        · simp only [Act.put, List.setIfInBounds_toArray, List.set_cons_zero, List.set_cons_succ, i64_w, i32_w]
          rfl
        refine pure_ (i := 7) (N := some 42) (v := ?_) (a' := ?_) #[true, true, true, true, true, true, true, true, false, false, false, false, false] rfl rfl (any_of HT_.out (by kernel_rfl)) (fun _ _ _ h => h) (Or.inl ⟨by rfl, ?_⟩) ?_ ?_
        rotate_left
        · intro w'
          go_simp
          with_reducible rfl
        rotate_left
        · simp only [Act.put, List.setIfInBounds_toArray, List.set_cons_zero, List.set_cons_succ, i64_w, i32_w]
          rfl
        refine pure_ (i := 8) (N := some 43) (v := ?_) (a' := ?_) #[true, true, true, true, true, true, true, true, true, false, false, false, false] rfl rfl (any_of HT_.out (by kernel_rfl)) (fun _ _ _ h => h) (Or.inl ⟨by rfl, ?_⟩) ?_ ?_
        rotate_left
        · intro w'
          go_simp
          with_reducible rfl
        rotate_left
        · simp only [Act.put, List.setIfInBounds_toArray, List.set_cons_zero, List.set_cons_succ, i64_w, i32_w]
          rfl
        refine pure_ (i := 9) (N := some 44) (v := ?_) (a' := ?_) #[true, true, true, true, true, true, true, true, true, true, false, false, false] rfl rfl (any_of HT_.out (by kernel_rfl)) (fun _ _ _ h => h) (Or.inl ⟨by rfl, ?_⟩) ?_ ?_
        rotate_left
        · intro w'
          go_simp
          with_reducible rfl
        rotate_left
        · simp only [Act.put, List.setIfInBounds_toArray, List.set_cons_zero, List.set_cons_succ, i64_w, i32_w]
          rfl
        refine pure_ (i := 10) (N := some 6) (v := ?_) (a' := ?_) #[true, true, true, true, true, true, true, true, true, true, true, false, false] rfl rfl (any_of HT_.out (by kernel_rfl)) (fun _ _ _ h => h) (Or.inl ⟨by rfl, ?_⟩) ?_ ?_
        rotate_left
        · intro w'
          go_simp
          with_reducible rfl
        rotate_left
        · simp only [Act.put, List.setIfInBounds_toArray, List.set_cons_zero, List.set_cons_succ, i64_w, i32_w]
          rfl
        refine pure_ (i := 11) (N := some 7) (v := ?_) (a' := ?_) #[true, true, true, true, true, true, true, true, true, true, true, true, false] rfl rfl (any_of HT_.out (by kernel_rfl)) (fun _ _ _ h => h) (Or.inl ⟨by rfl, ?_⟩) ?_ ?_
        rotate_left
        · intro w'
          go_simp
          with_reducible rfl
        rotate_left
        · simp only [Act.put, List.setIfInBounds_toArray, List.set_cons_zero, List.set_cons_succ, i64_w, i32_w]
          rfl
        refine pure_ (i := 12) (N := some 8) (v := ?_) (a' := ?_) #[true, true, true, true, true, true, true, true, true, true, true, true, true] rfl rfl (any_of HT_.out (by kernel_rfl)) (fun _ _ _ h => h) (Or.inl ⟨by rfl, ?_⟩) ?_ ?_
        rotate_left
        · intro w'
          go_simp
          with_reducible rfl
        rotate_left
        · simp only [Act.put, List.setIfInBounds_toArray, List.set_cons_zero, List.set_cons_succ, i64_w, i32_w]
          rfl
        refine done_ (done_of HT_.out (by kernel_rfl)) ?_
        go_upto_region 6 with (first | ((with_reducible refine gate_callee (f := 22) rfl ?_); refine zGo (N := (some 47)) Try.func22 #[.int .i64 (l0.length : Int)] ?_; (with_reducible refine (pleatref16_Bits.calls kj2 (l0.length : Int) t188 _ A14.out).mono ?_); rintro e w' ⟨rfl, ⟨nd, rfl⟩⟩; refine ⟨_, rfl, ?_⟩))
        (try simp only [Act.put, List.setIfInBounds_toArray, List.set_cons_zero, List.set_cons_succ])
        go_cut [79] (fun v79 wc => ∃ (kq : Nat) (x79_14 : Bool), v79 = .bool x79_14 ∧ Aside0 (pleatlaw17_CommonRows.j1 kq l0 a1 t183 x79_14 t169 t172 t175 = some r) ∧ Aside0 (kq ≤ kj2) ∧ Aside0 (Kd.R (Kd.int .i64) 3 wc w.heap.size (fun k_ => some k_ ≠ ((.slice Ao20 t169.length co20) : Value).ownBlock ∧ some k_ ≠ ((.slice Ao22 t172.length co22) : Value).ownBlock) v186 t183) ∧ Aside0 (Kd.R (Kd.int .i64) 3 wc w.heap.size (fun k_ => some k_ ≠ (v186 : Value).ownBlock ∧ some k_ ≠ ((.slice Ao22 t172.length co22) : Value).ownBlock) (.slice Ao20 t169.length co20) t169) ∧ Aside0 (Kd.R (Kd.int .i64) 3 wc w.heap.size (fun k_ => some k_ ≠ (v186 : Value).ownBlock ∧ some k_ ≠ ((.slice Ao20 t169.length co20) : Value).ownBlock) (.slice Ao22 t172.length co22) t172) ∧ Aside0 (wc.heap[gb176]? = some (.cells #[(.slice Ao20 t169.length co20), (.slice Ao22 t172.length co22), .int .i64 t175] 42 (0, 0))) ∧ Aside0 (Below w.heap.size w wc))
        case first =>
         as_aux_lemma =>
          have H := HC15.out
          clear HC15
          by_cases c30 : t185 = 0
          · rw [if_pos c30] at H
            have c30b0 := beq_iff_eq.mpr c30
            have c30b1 := bne_eq_false_iff_eq.mpr c30
            clear c30
            (first | rw [c30b0] | (simp only [i64_w, i32_w]; rw [c30b0]) | skip)
            by_cases c31 : (t183.length : Int) = (l0.length : Int)
            · rw [if_pos c31] at H
              have c31b0 := beq_iff_eq.mpr c31
              have c31b1 := bne_eq_false_iff_eq.mpr c31
              have c31b2 : (t183.length == l0.length) = true := by first | simpa using c31 | (simp at c31 ⊢; omega)
              clear c31
              by_cases c32 : (t169.length : Int) = (l0.length : Int)
              · rw [if_pos c32] at H
                have c32b0 := beq_iff_eq.mpr c32
                have c32b1 := bne_eq_false_iff_eq.mpr c32
                have c32b2 : (t169.length == l0.length) = true := by first | simpa using c32 | (simp at c32 ⊢; omega)
                clear c32
                have H' := Aside0.mk H
                clear H
                obtain ⟨Ao33, co33, eo33⟩ := Kd.R_slice HO187.out
                subst eo33
                have hcz34 := blk_cell BK176.out
                have hfz34 := blk_frozen BK176.out
                go_wp2
                go_meet
                case rel => exact ⟨_, (decide ((wrap64 (t175 + t184)) > (wrap64 ((wrap64 ((wrap64 (8 * (l0.length : Int))) * (wrap64 (t188 + 1)))) * (wrap64 (t188 + 1)))))), zF', H', ⟨by have := HJ2.out; first | omega | exact Nat.le_refl _⟩, ⟨by (with_reducible repeat (first | apply Kd.R_alloc | apply Kd.R_drewN | apply Kd.R_drew)); exact Kd.R_mono HO187.out (fun _ hk => ⟨hk.1.1.1.2, hk.1.1.2⟩)⟩, ⟨by (with_reducible repeat (first | apply Kd.R_alloc | apply Kd.R_drewN | apply Kd.R_drew)); exact Kd.R_mono HO171.out (fun _ hk => ⟨hk.2, hk.1.1.1.2⟩)⟩, ⟨by (with_reducible repeat (first | apply Kd.R_alloc | apply Kd.R_drewN | apply Kd.R_drew)); exact Kd.R_mono HO174.out (fun _ hk => ⟨hk.2, hk.1.1.1.2⟩)⟩, ⟨zBK⟩, ⟨zHB⟩⟩
              · rw [if_neg c32] at H
                have c32b0 := beq_eq_false_iff_ne.mpr c32
                have c32b1 := bne_iff_ne.mpr c32
                have c32b2 : (t169.length == l0.length) = false := by first | simpa using c32 | (simp at c32 ⊢; omega)
                have H' := Aside0.mk H
                clear H
                obtain ⟨Ao35, co35, eo35⟩ := Kd.R_slice HO187.out
                subst eo35
                have hcz36 := blk_cell BK176.out
                have hfz36 := blk_frozen BK176.out
                go_wp2
                go_meet
                case rel => exact ⟨_, (true), zF', H', ⟨by have := HJ2.out; first | omega | exact Nat.le_refl _⟩, ⟨by (with_reducible repeat (first | apply Kd.R_alloc | apply Kd.R_drewN | apply Kd.R_drew)); exact Kd.R_mono HO187.out (fun _ hk => ⟨hk.1.1.1.2, hk.1.1.2⟩)⟩, ⟨by (with_reducible repeat (first | apply Kd.R_alloc | apply Kd.R_drewN | apply Kd.R_drew)); exact Kd.R_mono HO171.out (fun _ hk => ⟨hk.2, hk.1.1.1.2⟩)⟩, ⟨by (with_reducible repeat (first | apply Kd.R_alloc | apply Kd.R_drewN | apply Kd.R_drew)); exact Kd.R_mono HO174.out (fun _ hk => ⟨hk.2, hk.1.1.1.2⟩)⟩, ⟨zBK⟩, ⟨zHB⟩⟩
            · rw [if_neg c31] at H
              have c31b0 := beq_eq_false_iff_ne.mpr c31
              have c31b1 := bne_iff_ne.mpr c31
              have c31b2 : (t183.length == l0.length) = false := by first | simpa using c31 | (simp at c31 ⊢; omega)
              have H' := Aside0.mk H
              clear H
              obtain ⟨Ao37, co37, eo37⟩ := Kd.R_slice HO187.out
              subst eo37
              go_wp2
              go_meet
              case rel => exact ⟨_, (true), zF', H', ⟨by have := HJ2.out; first | omega | exact Nat.le_refl _⟩, ⟨by (with_reducible repeat (first | apply Kd.R_alloc | apply Kd.R_drewN | apply Kd.R_drew)); exact Kd.R_mono HO187.out (fun _ hk => ⟨hk.1.1.1.2, hk.1.1.2⟩)⟩, ⟨by (with_reducible repeat (first | apply Kd.R_alloc | apply Kd.R_drewN | apply Kd.R_drew)); exact Kd.R_mono HO171.out (fun _ hk => ⟨hk.2, hk.1.1.1.2⟩)⟩, ⟨by (with_reducible repeat (first | apply Kd.R_alloc | apply Kd.R_drewN | apply Kd.R_drew)); exact Kd.R_mono HO174.out (fun _ hk => ⟨hk.2, hk.1.1.1.2⟩)⟩, ⟨zBK⟩, ⟨zHB⟩⟩
          · rw [if_neg c30] at H
            have c30b0 := beq_eq_false_iff_ne.mpr c30
            have c30b1 := bne_iff_ne.mpr c30
            (first | rw [c30b0] | (simp only [i64_w, i32_w]; rw [c30b0]) | skip)
            have H' := Aside0.mk H
            clear H
            go_wp2
            go_meet
            case rel => exact ⟨_, (true), zF', H', ⟨by have := HJ2.out; first | omega | exact Nat.le_refl _⟩, ⟨by (with_reducible repeat (first | apply Kd.R_alloc | apply Kd.R_drewN | apply Kd.R_drew)); exact Kd.R_mono HO187.out (fun _ hk => ⟨hk.1.1.1.2, hk.1.1.2⟩)⟩, ⟨by (with_reducible repeat (first | apply Kd.R_alloc | apply Kd.R_drewN | apply Kd.R_drew)); exact Kd.R_mono HO171.out (fun _ hk => ⟨hk.2, hk.1.1.1.2⟩)⟩, ⟨by (with_reducible repeat (first | apply Kd.R_alloc | apply Kd.R_drewN | apply Kd.R_drew)); exact Kd.R_mono HO174.out (fun _ hk => ⟨hk.2, hk.1.1.1.2⟩)⟩, ⟨zBK⟩, ⟨zHB⟩⟩
        case rest =>
         as_aux_lemma =>
          clear HC15
          try clear hcz21
          try clear hfz21
          obtain ⟨kq, x79_14, rfl, HA, HJ14, HO_6, HO_177000, HO_177001, BK176, HB⟩ := hcut
          cases kq with
          | zero => exact absurd HA.out (by simp [pleatlaw17_CommonRows.j1])
          | succ kj14 =>
            have H := HA.out
            clear HA
            simp only [pleatlaw17_CommonRows.j1] at H
            by_cases c38 : x79_14 = true
            · subst c38
              rw [if_pos rfl] at H
              obtain rfl := Option.some.inj H
              go_wp2
              go_ret
              exact ⟨zE, zHB⟩
            · replace c38 := Bool.eq_false_iff.mpr c38
              subst c38
              rw [if_neg (show ¬ (false = true) by decide)] at H
              have H' := Aside0.mk H
              clear H
              go_wp2
              go_loopg [10] kj14 (fun kq v10 w' => ∃ (x10_3 : Int), v10 = .int .i64 x10_3 ∧ Aside0 (pleatlaw17_CommonRows.l0 kq l0 a1 t183 x10_3 t169 t172 t175 = some r) ∧ Aside0 (kq ≤ kj14) ∧ Aside0 (Kd.R (Kd.int .i64) 3 w' w.heap.size (fun k_ => some k_ ≠ ((.slice Ao20 t169.length co20) : Value).ownBlock ∧ some k_ ≠ ((.slice Ao22 t172.length co22) : Value).ownBlock) v186 t183) ∧ Aside0 (Kd.R (Kd.int .i64) 3 w' w.heap.size (fun k_ => some k_ ≠ (v186 : Value).ownBlock ∧ some k_ ≠ ((.slice Ao22 t172.length co22) : Value).ownBlock) (.slice Ao20 t169.length co20) t169) ∧ Aside0 (Kd.R (Kd.int .i64) 3 w' w.heap.size (fun k_ => some k_ ≠ (v186 : Value).ownBlock ∧ some k_ ≠ ((.slice Ao20 t169.length co20) : Value).ownBlock) (.slice Ao22 t172.length co22) t172) ∧ Aside0 (w'.heap[gb176]? = some (.cells #[(.slice Ao20 t169.length co20), (.slice Ao22 t172.length co22), .int .i64 t175] 42 (0, 0))) ∧ Aside0 (Below w.heap.size w w'))
              case atStart => exact ⟨(0), zF', H', ⟨Nat.le_refl _⟩, ⟨by (with_reducible repeat (first | apply Kd.R_alloc | apply Kd.R_drewN | apply Kd.R_drew)); exact HO_6.out⟩, ⟨by (with_reducible repeat (first | apply Kd.R_alloc | apply Kd.R_drewN | apply Kd.R_drew)); exact HO_177000.out⟩, ⟨by (with_reducible repeat (first | apply Kd.R_alloc | apply Kd.R_drewN | apply Kd.R_drew)); exact HO_177001.out⟩, ⟨zBK⟩, ⟨zHB⟩⟩
              case round =>
               as_aux_lemma =>
                clear H'
                try clear hcz21
                try clear hfz21
                obtain ⟨x10_3, rfl, HA, HK3, HO_6, HO_177000, HO_177001, BK176, HB⟩ := hrel
                cases gk with
                | zero => exact absurd HA.out (by simp [pleatlaw17_CommonRows.l0])
                | succ k3 =>
                  have H := HA.out
                  clear HA
                  simp only [pleatlaw17_CommonRows.l0] at H
                  by_cases c39 : x10_3 < (l0.length : Int)
                  · rw [if_pos c39] at H
                    have c39b0 := decide_eq_true c39
                    clear c39
                    replace H := Option.bind_eq_some_iff.mp H
                    obtain ⟨t190, A400, H⟩ := H
                    (try dsimp only at H)
                    have A40 := Aside0.mk A400
                    clear A400
                    replace H := Option.bind_eq_some_iff.mp H
                    obtain ⟨⟨t193, t194, t195⟩, A410, H⟩ := H
                    (try dsimp only at H)
                    have A41 := Aside0.mk A410
                    clear A410
                    have HC42 := Aside0.mk H
                    clear H
                    obtain ⟨Ao43, co43, eo43⟩ := Kd.R_slice HO_6.out
                    subst eo43
                    go_upto_region 12 with (first | ((with_reducible refine gate_callee (f := 20) rfl ?_); refine zGo (N := (some 88)) Try.func20 #[.slice Ao43 t183.length co43] ?_; (with_reducible refine (pleatref00_CopyInts.calls _ _ t183 t190 _ ?side1 ?side2 A40.out).mono ?_); (case side1 => exact zS); (case side2 => exact zS); rintro e w44 ⟨v191, rfl, ho0, hb⟩; refine ⟨_, rfl, ?_⟩; refine zs (Kd.R_elder' (by (with_reducible repeat (first | apply Kd.R_alloc | apply Kd.R_drewN | apply Kd.R_drew)); exact HO_6.out) (Kd.R_base ho0) hb) (zs (Kd.R_elder' (by (with_reducible repeat (first | apply Kd.R_alloc | apply Kd.R_drewN | apply Kd.R_drew)); exact HO_177000.out) (Kd.R_base ho0) hb) (zs (Kd.R_elder' (by (with_reducible repeat (first | apply Kd.R_alloc | apply Kd.R_drewN | apply Kd.R_drew)); exact HO_177001.out) (Kd.R_base ho0) hb) (zs (Kd.R_lower (Kd.R_new' (Kd.R_new' (Kd.R_new' ho0 (Kd.R_lt (by (with_reducible repeat (first | apply Kd.R_alloc | apply Kd.R_drewN | apply Kd.R_drew)); exact HO_6.out))) (Kd.R_lt (by (with_reducible repeat (first | apply Kd.R_alloc | apply Kd.R_drewN | apply Kd.R_drew)); exact HO_177000.out))) (Kd.R_lt (by (with_reducible repeat (first | apply Kd.R_alloc | apply Kd.R_drewN | apply Kd.R_drew)); exact HO_177001.out))) (below_size (zHB))) (zs (blk_below (g := gb176) zBK hb) (zs (below_step (zHB) hb) ?_))))); clear HO_6 HO_177000 HO_177001 BK176 HB; intro HB BK176 HO192 HO_177001 HO_177000 HO_6; clear hb ho0; obtain ⟨Ao45, co45, eo45⟩ := Kd.R_slice HO192.out; subst eo45) | ((with_reducible refine gate_callee (f := 15) rfl ?_); refine zGo (N := (some 91)) Try.func15 #[.slice Ao45 t190.length co45, .int .i64 x10_3, .int .i64 a1] ?_; (with_reducible refine (common_Group.calls _ _ t190 x10_3 a1 t193 t194 t195 _ ?side1 ?side2 A41.out).mono ?_); (case side1 => exact zS); (case side2 => exact zS); rintro e w46 ⟨rfl, hb⟩; refine ⟨_, rfl, ?_⟩; refine zs (Kd.R_below (by (with_reducible repeat (first | apply Kd.R_alloc | apply Kd.R_drewN | apply Kd.R_drew)); exact HO_6.out) hb) (zs (Kd.R_below (by (with_reducible repeat (first | apply Kd.R_alloc | apply Kd.R_drewN | apply Kd.R_drew)); exact HO_177000.out) hb) (zs (Kd.R_below (by (with_reducible repeat (first | apply Kd.R_alloc | apply Kd.R_drewN | apply Kd.R_drew)); exact HO_177001.out) hb) (zs (Kd.R_below (by (with_reducible repeat (first | apply Kd.R_alloc | apply Kd.R_drewN | apply Kd.R_drew)); exact HO192.out) hb) (zs (blk_below (g := gb176) zBK hb) (zs (below_step (zHB) hb) ?_))))); clear HO_6 HO_177000 HO_177001 HO192 BK176 HB; intro HB BK176 HO192 HO_177001 HO_177000 HO_6; clear hb))
                    (try simp only [Act.put, List.setIfInBounds_toArray, List.set_cons_zero, List.set_cons_succ])
                    go_cut [106] (fun v106 wc => ∃ (kq : Nat) (x106_41 : Bool), v106 = .bool x106_41 ∧ Aside0 (pleatlaw17_CommonRows.j3 kq l0 a1 t183 x10_3 t193 t194 x106_41 t169 t172 t175 = some r) ∧ Aside0 (kq ≤ k3) ∧ Aside0 (Kd.R (Kd.int .i64) 3 wc w.heap.size (fun k_ => some k_ ≠ ((.slice Ao20 t169.length co20) : Value).ownBlock ∧ some k_ ≠ ((.slice Ao22 t172.length co22) : Value).ownBlock) (.slice Ao43 t183.length co43) t183) ∧ Aside0 (Kd.R (Kd.int .i64) 3 wc w.heap.size (fun k_ => some k_ ≠ ((.slice Ao43 t183.length co43) : Value).ownBlock ∧ some k_ ≠ ((.slice Ao22 t172.length co22) : Value).ownBlock) (.slice Ao20 t169.length co20) t169) ∧ Aside0 (Kd.R (Kd.int .i64) 3 wc w.heap.size (fun k_ => some k_ ≠ ((.slice Ao43 t183.length co43) : Value).ownBlock ∧ some k_ ≠ ((.slice Ao20 t169.length co20) : Value).ownBlock) (.slice Ao22 t172.length co22) t172) ∧ Aside0 (wc.heap[gb176]? = some (.cells #[(.slice Ao20 t169.length co20), (.slice Ao22 t172.length co22), .int .i64 t175] 42 (0, 0))) ∧ Aside0 (Below w.heap.size w wc))
                    case first =>
                     as_aux_lemma =>
                      have H := HC42.out
                      clear HC42
                      by_cases c47 : t195 = 0
                      · rw [if_pos c47] at H
                        have c47b0 := beq_iff_eq.mpr c47
                        have c47b1 := bne_eq_false_iff_eq.mpr c47
                        clear c47
                        (first | rw [c47b0] | (simp only [i64_w, i32_w]; rw [c47b0]) | skip)
                        by_cases c48 : t193 > x10_3
                        · rw [if_pos c48] at H
                          have c48b0 : decide (x10_3 < t193) = true := decide_eq_true c48
                          clear c48
                          have H' := Aside0.mk H
                          clear H
                          go_wp2
                          go_meet
                          case rel => exact ⟨_, (true), zF', H', ⟨by have := HJ2.out; have := HJ14.out; have := HK3.out; first | omega | exact Nat.le_refl _⟩, ⟨by (with_reducible repeat (first | apply Kd.R_alloc | apply Kd.R_drewN | apply Kd.R_drew)); exact Kd.R_mono HO_6.out (fun _ hk => ⟨hk.1.1, hk.1.2⟩)⟩, ⟨by (with_reducible repeat (first | apply Kd.R_alloc | apply Kd.R_drewN | apply Kd.R_drew)); exact Kd.R_mono HO_177000.out (fun _ hk => ⟨hk.1.1, hk.1.2⟩)⟩, ⟨by (with_reducible repeat (first | apply Kd.R_alloc | apply Kd.R_drewN | apply Kd.R_drew)); exact Kd.R_mono HO_177001.out (fun _ hk => ⟨hk.1.1, hk.1.2⟩)⟩, ⟨zBK⟩, ⟨zHB⟩⟩
                        · rw [if_neg c48] at H
                          have c48b0 : decide (x10_3 < t193) = false := decide_eq_false c48
                          clear c48
                          have H' := Aside0.mk H
                          clear H
                          go_wp2
                          go_meet
                          case rel => exact ⟨_, (decide (t194 ≤ x10_3)), zF', H', ⟨by have := HJ2.out; have := HJ14.out; have := HK3.out; first | omega | exact Nat.le_refl _⟩, ⟨by (with_reducible repeat (first | apply Kd.R_alloc | apply Kd.R_drewN | apply Kd.R_drew)); exact Kd.R_mono HO_6.out (fun _ hk => ⟨hk.1.1, hk.1.2⟩)⟩, ⟨by (with_reducible repeat (first | apply Kd.R_alloc | apply Kd.R_drewN | apply Kd.R_drew)); exact Kd.R_mono HO_177000.out (fun _ hk => ⟨hk.1.1, hk.1.2⟩)⟩, ⟨by (with_reducible repeat (first | apply Kd.R_alloc | apply Kd.R_drewN | apply Kd.R_drew)); exact Kd.R_mono HO_177001.out (fun _ hk => ⟨hk.1.1, hk.1.2⟩)⟩, ⟨zBK⟩, ⟨zHB⟩⟩
                      · rw [if_neg c47] at H
                        have c47b0 := beq_eq_false_iff_ne.mpr c47
                        have c47b1 := bne_iff_ne.mpr c47
                        (first | rw [c47b0] | (simp only [i64_w, i32_w]; rw [c47b0]) | skip)
                        have H' := Aside0.mk H
                        clear H
                        go_wp2
                        go_meet
                        case rel => exact ⟨_, (true), zF', H', ⟨by have := HJ2.out; have := HJ14.out; have := HK3.out; first | omega | exact Nat.le_refl _⟩, ⟨by (with_reducible repeat (first | apply Kd.R_alloc | apply Kd.R_drewN | apply Kd.R_drew)); exact Kd.R_mono HO_6.out (fun _ hk => ⟨hk.1.1, hk.1.2⟩)⟩, ⟨by (with_reducible repeat (first | apply Kd.R_alloc | apply Kd.R_drewN | apply Kd.R_drew)); exact Kd.R_mono HO_177000.out (fun _ hk => ⟨hk.1.1, hk.1.2⟩)⟩, ⟨by (with_reducible repeat (first | apply Kd.R_alloc | apply Kd.R_drewN | apply Kd.R_drew)); exact Kd.R_mono HO_177001.out (fun _ hk => ⟨hk.1.1, hk.1.2⟩)⟩, ⟨zBK⟩, ⟨zHB⟩⟩
                    case rest =>
                     as_aux_lemma =>
                      clear HC42
                      try clear c39b0
                      try clear hcz21
                      try clear hfz21
                      obtain ⟨kq, x106_41, rfl, HA, HJ41, HO_6, HO_177000, HO_177001, BK176, HB⟩ := hcut
                      cases kq with
                      | zero => exact absurd HA.out (by simp [pleatlaw17_CommonRows.j3])
                      | succ kj41 =>
                        have H := HA.out
                        clear HA
                        simp only [pleatlaw17_CommonRows.j3] at H
                        by_cases c49 : x106_41 = true
                        · subst c49
                          rw [if_pos rfl] at H
                          obtain rfl := Option.some.inj H
                          go_wp2
                          go_ret
                          exact ⟨zE, zHB⟩
                        · replace c49 := Bool.eq_false_iff.mpr c49
                          subst c49
                          rw [if_neg (show ¬ (false = true) by decide)] at H
                          have H' := Aside0.mk H
                          clear H
                          go_wp2
                          go_loopg [14] kj41 (fun kq v14 w' => ∃ (x14_5 : Int), v14 = .int .i64 x14_5 ∧ Aside0 (pleatlaw17_CommonRows.l1 kq l0 a1 t183 x10_3 t193 t194 x14_5 t169 t172 t175 = some r) ∧ Aside0 (kq ≤ kj41) ∧ Aside0 (Kd.R (Kd.int .i64) 3 w' w.heap.size (fun k_ => some k_ ≠ ((.slice Ao20 t169.length co20) : Value).ownBlock ∧ some k_ ≠ ((.slice Ao22 t172.length co22) : Value).ownBlock) (.slice Ao43 t183.length co43) t183) ∧ Aside0 (Kd.R (Kd.int .i64) 3 w' w.heap.size (fun k_ => some k_ ≠ ((.slice Ao43 t183.length co43) : Value).ownBlock ∧ some k_ ≠ ((.slice Ao22 t172.length co22) : Value).ownBlock) (.slice Ao20 t169.length co20) t169) ∧ Aside0 (Kd.R (Kd.int .i64) 3 w' w.heap.size (fun k_ => some k_ ≠ ((.slice Ao43 t183.length co43) : Value).ownBlock ∧ some k_ ≠ ((.slice Ao20 t169.length co20) : Value).ownBlock) (.slice Ao22 t172.length co22) t172) ∧ Aside0 (w'.heap[gb176]? = some (.cells #[(.slice Ao20 t169.length co20), (.slice Ao22 t172.length co22), .int .i64 t175] 42 (0, 0))) ∧ Aside0 (Below w.heap.size w w'))
                          case atStart => exact ⟨(0), zF', H', ⟨Nat.le_refl _⟩, ⟨by (with_reducible repeat (first | apply Kd.R_alloc | apply Kd.R_drewN | apply Kd.R_drew)); exact HO_6.out⟩, ⟨by (with_reducible repeat (first | apply Kd.R_alloc | apply Kd.R_drewN | apply Kd.R_drew)); exact HO_177000.out⟩, ⟨by (with_reducible repeat (first | apply Kd.R_alloc | apply Kd.R_drewN | apply Kd.R_drew)); exact HO_177001.out⟩, ⟨zBK⟩, ⟨zHB⟩⟩
                          case round =>
                           as_aux_lemma =>
                            clear H'
                            try clear c39b0
                            try clear hcz21
                            try clear hfz21
                            obtain ⟨x14_5, rfl, HA, HK5, HO_6, HO_177000, HO_177001, BK176, HB⟩ := hrel
                            cases gk with
                            | zero => exact absurd HA.out (by simp [pleatlaw17_CommonRows.l1])
                            | succ k5 =>
                              have H := HA.out
                              clear HA
                              simp only [pleatlaw17_CommonRows.l1] at H
                              by_cases c50 : x14_5 < (l0.length : Int)
                              · rw [if_pos c50] at H
                                have c50b0 := decide_eq_true c50
                                clear c50
                                obtain ⟨c51, H⟩ := zG H
                                have c51b0 := decide_eq_true c51
                                clear c51
                                obtain ⟨c52, H⟩ := zG H
                                have c52b0 := decide_eq_true c52
                                clear c52
                                obtain ⟨c53, H⟩ := zG H
                                have c53b0 := decide_eq_true c53
                                clear c53
                                obtain ⟨c54, H⟩ := zG H
                                have c54b0 := decide_eq_true c54
                                clear c54
                                have HC55 := Aside0.mk H
                                clear H
                                have hcz56 := blk_cell BK176.out
                                have hfz56 := blk_frozen BK176.out
                                have p196 : 0 ≤ (x10_3 : Int) := zOD
                                have q196 : x10_3 < (t169.length : Int) := zOD
                                obtain ⟨ad196, e196, hx196_0⟩ := Kd.at_int (Kd.R_reads' HO_177000.out).2.2 x10_3 p196 q196
                                cases e196
                                replace p196 := eq_true p196
                                replace q196 := eq_true q196
                                have p197 : 0 ≤ (x14_5 : Int) := zOD
                                have q197 : x14_5 < (t169.length : Int) := zOD
                                obtain ⟨ad197, e197, hx197_0⟩ := Kd.at_int (Kd.R_reads' HO_177000.out).2.2 x14_5 p197 q197
                                obtain rfl : ad196 = ad197 := (by injection e197)
                                replace p197 := eq_true p197
                                replace q197 := eq_true q197
                                go_upto_region 19 with (fail)
                                go_cut [140] (fun v140 wc => ∃ (kq : Nat) (x140_54 : Bool), v140 = .bool x140_54 ∧ Aside0 (pleatlaw17_CommonRows.j5 kq l0 a1 t183 x10_3 t193 t194 x14_5 (rd t169 x10_3) (rd t169 x14_5) x140_54 t169 t172 t175 = some r) ∧ Aside0 (kq ≤ k5) ∧ Aside0 (Kd.R (Kd.int .i64) 3 wc w.heap.size (fun k_ => some k_ ≠ ((.slice (some ad196) t169.length co20) : Value).ownBlock ∧ some k_ ≠ ((.slice Ao22 t172.length co22) : Value).ownBlock) (.slice Ao43 t183.length co43) t183) ∧ Aside0 (Kd.R (Kd.int .i64) 3 wc w.heap.size (fun k_ => some k_ ≠ ((.slice Ao43 t183.length co43) : Value).ownBlock ∧ some k_ ≠ ((.slice Ao22 t172.length co22) : Value).ownBlock) (.slice (some ad196) t169.length co20) t169) ∧ Aside0 (Kd.R (Kd.int .i64) 3 wc w.heap.size (fun k_ => some k_ ≠ ((.slice Ao43 t183.length co43) : Value).ownBlock ∧ some k_ ≠ ((.slice (some ad196) t169.length co20) : Value).ownBlock) (.slice Ao22 t172.length co22) t172) ∧ Aside0 (wc.heap[gb176]? = some (.cells #[(.slice (some ad196) t169.length co20), (.slice Ao22 t172.length co22), .int .i64 t175] 42 (0, 0))) ∧ Aside0 (Below w.heap.size w wc))
                                case first =>
                                 as_aux_lemma =>
                                  have H := HC55.out
                                  clear HC55
                                  by_cases c57 : (rd t169 x10_3) < 0
                                  · rw [if_pos c57] at H
                                    have c57b0 := decide_eq_true c57
                                    clear c57
                                    (first | rw [c57b0] | (simp only [i64_w, i32_w]; rw [c57b0]) | skip)
                                    have H' := Aside0.mk H
                                    clear H
                                    go_wp2
                                    go_meet
                                    case rel => exact ⟨_, (true), zF', H', ⟨by have := HJ2.out; have := HJ14.out; have := HK3.out; have := HJ41.out; have := HK5.out; first | omega | exact Nat.le_refl _⟩, ⟨by (with_reducible repeat (first | apply Kd.R_alloc | apply Kd.R_drewN | apply Kd.R_drew)); exact HO_6.out⟩, ⟨by (with_reducible repeat (first | apply Kd.R_alloc | apply Kd.R_drewN | apply Kd.R_drew)); exact HO_177000.out⟩, ⟨by (with_reducible repeat (first | apply Kd.R_alloc | apply Kd.R_drewN | apply Kd.R_drew)); exact HO_177001.out⟩, ⟨zBK⟩, ⟨zHB⟩⟩
                                  · rw [if_neg c57] at H
                                    have c57b0 := decide_eq_false c57
                                    clear c57
                                    (first | rw [c57b0] | (simp only [i64_w, i32_w]; rw [c57b0]) | skip)
                                    by_cases c58 : (rd t169 x10_3) ≥ (l0.length : Int)
                                    · rw [if_pos c58] at H
                                      have c58b0 : decide ((l0.length : Int) ≤ (rd t169 x10_3)) = true := decide_eq_true c58
                                      clear c58
                                      have H' := Aside0.mk H
                                      clear H
                                      go_wp2
                                      go_meet
                                      case rel => exact ⟨_, (true), zF', H', ⟨by have := HJ2.out; have := HJ14.out; have := HK3.out; have := HJ41.out; have := HK5.out; first | omega | exact Nat.le_refl _⟩, ⟨by (with_reducible repeat (first | apply Kd.R_alloc | apply Kd.R_drewN | apply Kd.R_drew)); exact HO_6.out⟩, ⟨by (with_reducible repeat (first | apply Kd.R_alloc | apply Kd.R_drewN | apply Kd.R_drew)); exact HO_177000.out⟩, ⟨by (with_reducible repeat (first | apply Kd.R_alloc | apply Kd.R_drewN | apply Kd.R_drew)); exact HO_177001.out⟩, ⟨zBK⟩, ⟨zHB⟩⟩
                                    · rw [if_neg c58] at H
                                      have c58b0 : decide ((l0.length : Int) ≤ (rd t169 x10_3)) = false := decide_eq_false c58
                                      clear c58
                                      by_cases c59 : (rd t169 x14_5) < 0
                                      · rw [if_pos c59] at H
                                        have c59b0 := decide_eq_true c59
                                        clear c59
                                        have H' := Aside0.mk H
                                        clear H
                                        go_wp2
                                        go_meet
                                        case rel => exact ⟨_, (true), zF', H', ⟨by have := HJ2.out; have := HJ14.out; have := HK3.out; have := HJ41.out; have := HK5.out; first | omega | exact Nat.le_refl _⟩, ⟨by (with_reducible repeat (first | apply Kd.R_alloc | apply Kd.R_drewN | apply Kd.R_drew)); exact HO_6.out⟩, ⟨by (with_reducible repeat (first | apply Kd.R_alloc | apply Kd.R_drewN | apply Kd.R_drew)); exact HO_177000.out⟩, ⟨by (with_reducible repeat (first | apply Kd.R_alloc | apply Kd.R_drewN | apply Kd.R_drew)); exact HO_177001.out⟩, ⟨zBK⟩, ⟨zHB⟩⟩
                                      · rw [if_neg c59] at H
                                        have c59b0 := decide_eq_false c59
                                        clear c59
                                        have H' := Aside0.mk H
                                        clear H
                                        go_wp2
                                        go_meet
                                        case rel => exact ⟨_, (decide ((rd t169 x14_5) ≥ (l0.length : Int))), zF', H', ⟨by have := HJ2.out; have := HJ14.out; have := HK3.out; have := HJ41.out; have := HK5.out; first | omega | exact Nat.le_refl _⟩, ⟨by (with_reducible repeat (first | apply Kd.R_alloc | apply Kd.R_drewN | apply Kd.R_drew)); exact HO_6.out⟩, ⟨by (with_reducible repeat (first | apply Kd.R_alloc | apply Kd.R_drewN | apply Kd.R_drew)); exact HO_177000.out⟩, ⟨by (with_reducible repeat (first | apply Kd.R_alloc | apply Kd.R_drewN | apply Kd.R_drew)); exact HO_177001.out⟩, ⟨zBK⟩, ⟨zHB⟩⟩
                                case rest =>
                                 as_aux_lemma =>
                                  clear HC55
                                  try clear c39b0
                                  try clear c50b0
                                  try clear c51
                                  try clear c51b0
                                  try clear c52
                                  try clear c52b0
                                  try clear c53
                                  try clear c53b0
                                  try clear c54
                                  try clear c54b0
                                  try clear hcz21
                                  try clear hcz56
                                  try clear hfz21
                                  try clear hfz56
                                  try clear hx196_0
                                  try clear hx197_0
                                  try clear p196
                                  try clear p197
                                  try clear q196
                                  try clear q197
                                  obtain ⟨kq, x140_54, rfl, HA, HJ54, HO_6, HO_177000, HO_177001, BK176, HB⟩ := hcut
                                  cases kq with
                                  | zero => exact absurd HA.out (by simp [pleatlaw17_CommonRows.j5])
                                  | succ kj54 =>
                                    have H := HA.out
                                    clear HA
                                    simp only [pleatlaw17_CommonRows.j5] at H
                                    by_cases c60 : x140_54 = true
                                    · subst c60
                                      rw [if_pos rfl] at H
                                      obtain rfl := Option.some.inj H
                                      go_wp2
                                      go_ret
                                      exact ⟨zE, zHB⟩
                                    · replace c60 := Bool.eq_false_iff.mpr c60
                                      subst c60
                                      rw [if_neg (show ¬ (false = true) by decide)] at H
                                      have HC61 := Aside0.mk H
                                      clear H
                                      go_upto_block 4 with (fail)
                                      go_cut [17] (fun v17 wc => ∃ (kq : Nat) (x17_60 : Int), v17 = .int .i64 x17_60 ∧ Aside0 (pleatlaw17_CommonRows.j7 kq l0 a1 t183 x10_3 t193 t194 x14_5 x17_60 t169 t172 t175 = some r) ∧ Aside0 (kq ≤ kj54) ∧ Aside0 (Kd.R (Kd.int .i64) 3 wc w.heap.size (fun k_ => some k_ ≠ ((.slice (some ad196) t169.length co20) : Value).ownBlock ∧ some k_ ≠ ((.slice Ao22 t172.length co22) : Value).ownBlock) (.slice Ao43 t183.length co43) t183) ∧ Aside0 (Kd.R (Kd.int .i64) 3 wc w.heap.size (fun k_ => some k_ ≠ ((.slice Ao43 t183.length co43) : Value).ownBlock ∧ some k_ ≠ ((.slice Ao22 t172.length co22) : Value).ownBlock) (.slice (some ad196) t169.length co20) t169) ∧ Aside0 (Kd.R (Kd.int .i64) 3 wc w.heap.size (fun k_ => some k_ ≠ ((.slice Ao43 t183.length co43) : Value).ownBlock ∧ some k_ ≠ ((.slice (some ad196) t169.length co20) : Value).ownBlock) (.slice Ao22 t172.length co22) t172) ∧ Aside0 (wc.heap[gb176]? = some (.cells #[(.slice (some ad196) t169.length co20), (.slice Ao22 t172.length co22), .int .i64 t175] 42 (0, 0))) ∧ Aside0 (Below w.heap.size w wc))
                                      case first =>
                                       as_aux_lemma =>
                                        have H := HC61.out
                                        clear HC61
                                        have H' := Aside0.mk H
                                        clear H
                                        go_wp2
                                        go_loopg [17] kj54 (fun kq v17 w' => ∃ (x17_7 : Int), v17 = .int .i64 x17_7 ∧ Aside0 (pleatlaw17_CommonRows.l2 kq l0 a1 t183 x10_3 t193 t194 x14_5 (rd t169 x10_3) (rd t169 x14_5) x17_7 t169 t172 t175 = some r) ∧ Aside0 (kq ≤ kj54) ∧ Aside0 (Kd.R (Kd.int .i64) 3 w' w.heap.size (fun k_ => some k_ ≠ ((.slice (some ad196) t169.length co20) : Value).ownBlock ∧ some k_ ≠ ((.slice Ao22 t172.length co22) : Value).ownBlock) (.slice Ao43 t183.length co43) t183) ∧ Aside0 (Kd.R (Kd.int .i64) 3 w' w.heap.size (fun k_ => some k_ ≠ ((.slice Ao43 t183.length co43) : Value).ownBlock ∧ some k_ ≠ ((.slice Ao22 t172.length co22) : Value).ownBlock) (.slice (some ad196) t169.length co20) t169) ∧ Aside0 (Kd.R (Kd.int .i64) 3 w' w.heap.size (fun k_ => some k_ ≠ ((.slice Ao43 t183.length co43) : Value).ownBlock ∧ some k_ ≠ ((.slice (some ad196) t169.length co20) : Value).ownBlock) (.slice Ao22 t172.length co22) t172) ∧ Aside0 (w'.heap[gb176]? = some (.cells #[(.slice (some ad196) t169.length co20), (.slice Ao22 t172.length co22), .int .i64 t175] 42 (0, 0))) ∧ Aside0 (Below w.heap.size w w'))
                                        case atStart => exact ⟨(0), zF', H', ⟨Nat.le_refl _⟩, ⟨by (with_reducible repeat (first | apply Kd.R_alloc | apply Kd.R_drewN | apply Kd.R_drew)); exact HO_6.out⟩, ⟨by (with_reducible repeat (first | apply Kd.R_alloc | apply Kd.R_drewN | apply Kd.R_drew)); exact HO_177000.out⟩, ⟨by (with_reducible repeat (first | apply Kd.R_alloc | apply Kd.R_drewN | apply Kd.R_drew)); exact HO_177001.out⟩, ⟨zBK⟩, ⟨zHB⟩⟩
                                        case round =>
                                         as_aux_lemma =>
                                          clear H'
                                          try clear c39b0
                                          try clear c50b0
                                          try clear c51
                                          try clear c51b0
                                          try clear c52
                                          try clear c52b0
                                          try clear c53
                                          try clear c53b0
                                          try clear c54
                                          try clear c54b0
                                          try clear hcz21
                                          try clear hcz56
                                          try clear hfz21
                                          try clear hfz56
                                          try clear hx196_0
                                          try clear hx197_0
                                          try clear p196
                                          try clear p197
                                          try clear q196
                                          try clear q197
                                          obtain ⟨x17_7, rfl, HA, HK7, HO_6, HO_177000, HO_177001, BK176, HB⟩ := hrel
                                          cases gk with
                                          | zero => exact absurd HA.out (by simp [pleatlaw17_CommonRows.l2])
                                          | succ k7 =>
                                            have H := HA.out
                                            clear HA
                                            simp only [pleatlaw17_CommonRows.l2] at H
                                            by_cases c62 : (wrap64 ((rd t169 x10_3) + x17_7)) < (l0.length : Int)
                                            · rw [if_pos c62] at H
                                              have c62b0 := decide_eq_true c62
                                              clear c62
                                              (first | rw [c62b0] | (simp only [i64_w, i32_w]; rw [c62b0]) | skip)
                                              by_cases c63 : (wrap64 ((rd t169 x14_5) + x17_7)) < (l0.length : Int)
                                              · rw [if_pos c63] at H
                                                have c63b0 := decide_eq_true c63
                                                clear c63
                                                obtain ⟨ji64, hji64⟩ : ∃ j_ : Int, (wrap64 ((rd t169 x10_3) + x17_7)) = j_ := ⟨_, rfl⟩
                                                (first | rw [hji64] at H | simp only [hji64] at H)
                                                (try rw [hji64] at c62b0)
                                                have hji64w : (IntKind.i64.wrap ((rd t169 x10_3) + x17_7)) = ji64 := (i64_w _).trans hji64
                                                obtain ⟨c65, H⟩ := zG H
                                                have c65b0 := decide_eq_true c65
                                                clear c65
                                                obtain ⟨ji66, hji66⟩ : ∃ j_ : Int, (wrap64 ((rd t169 x14_5) + x17_7)) = j_ := ⟨_, rfl⟩
                                                (first | rw [hji66] at H | simp only [hji66] at H)
                                                (try rw [hji66] at c63b0)
                                                have hji66w : (IntKind.i64.wrap ((rd t169 x14_5) + x17_7)) = ji66 := (i64_w _).trans hji66
                                                obtain ⟨c67, H⟩ := zG H
                                                have c67b0 := decide_eq_true c67
                                                clear c67
                                                by_cases c68 : (rd l0 (ji64)) = (rd l0 (ji66))
                                                · rw [if_pos c68] at H
                                                  have c68b0 := beq_iff_eq.mpr c68
                                                  have c68b1 := bne_eq_false_iff_eq.mpr c68
                                                  clear c68
                                                  have H' := Aside0.mk H
                                                  clear H
                                                  try go_wp2
                                                  refine zs (Kd.R_drew HO_6.out) (zs (Kd.R_drew HO_177000.out) (zs (Kd.R_drew HO_177001.out) (zs (blk_drew BK176.out) (zs (below_drew1 HB.out) ?_))))
                                                  clear HO_6 HO_177000 HO_177001 BK176 HB
                                                  intro HB BK176 HO_177001 HO_177000 HO_6
                                                  have p198 : 0 ≤ ((ji64) : Int) := zOD
                                                  have q198 : (ji64) < (l0.length : Int) := zOD
                                                  obtain ⟨ad198, e198, hx198_0⟩ := Kd.at_int HR0.out (ji64) p198 q198
                                                  have hw198_0 := hx198_0
                                                  cases e198
                                                  replace hx198_0 := (HB.out.cell (World.block_lt_of_cell? w _ hx198_0)).trans hx198_0
                                                  replace p198 := eq_true p198
                                                  replace q198 := eq_true q198
                                                  have p199 : 0 ≤ ((ji66) : Int) := zOD
                                                  have q199 : (ji66) < (l0.length : Int) := zOD
                                                  obtain ⟨ad199, e199, hx199_0⟩ := Kd.at_int HR0.out (ji66) p199 q199
                                                  have hw199_0 := hx199_0
                                                  obtain rfl : ad198 = ad199 := (by injection e199)
                                                  replace hx199_0 := (HB.out.cell (World.block_lt_of_cell? w _ hx199_0)).trans hx199_0
                                                  replace p199 := eq_true p199
                                                  replace q199 := eq_true q199
                                                  refine start_ (n := 29) (S := fun w' => w'.cell? (ad198.add ((ji64)).toNat) = some (.int .i64 (rd l0 (ji64))) ∧ w'.cell? (ad198.add ((ji66)).toNat) = some (.int .i64 (rd l0 (ji66)))) (ds := []) #[false, false, false, false, false, false, false, false, false, false, false, false, false, false, false, false, false, false, false, false, false, false, false, false, false, false, false, false, false] (by kernel_rfl) rfl rfl ⟨((HB.out.cell (World.block_lt_of_cell? w _ hw198_0)).trans hw198_0), ((HB.out.cell (World.block_lt_of_cell? w _ hw199_0)).trans hw199_0)⟩ (fun hHeld => ?_); refine with_tabW pleatlaw17_CommonRows.tab22 pleatlaw17_CommonRows.bits22 (fun HT_ HW_ => ?_)
                                                  generalize wr.drew = w69 at HO_6 HO_177000 HO_177001 BK176 HB hx198_0 hx199_0 hHeld ⊢
                                                  refine pure_ (i := 0) (N := some 141) (v := ?_) (a' := ?_) #[true, false, false, false, false, false, false, false, false, false, false, false, false, false, false, false, false, false, false, false, false, false, false, false, false, false, false, false, false] rfl rfl (any_of HT_.out (by kernel_rfl)) (fun _ _ _ h => h) (Or.inl ⟨by rfl, ?_⟩) ?_ ?_
                                                  rotate_left
                                                  · intro w'
                                                    go_simp
                                                    with_reducible rfl
                                                  rotate_left
                                                  · simp only [Act.put, List.setIfInBounds_toArray, List.set_cons_zero, List.set_cons_succ, i64_w, i32_w]
                                                    rfl
                                                  refine pure_ (i := 1) (N := some 142) (v := ?_) (a' := ?_) #[true, true, false, false, false, false, false, false, false, false, false, false, false, false, false, false, false, false, false, false, false, false, false, false, false, false, false, false, false] rfl rfl (any_of HT_.out (by kernel_rfl)) (fun _ _ _ h => h) (Or.inl ⟨by rfl, ?_⟩) ?_ ?_
                                                  rotate_left
                                                  · intro w'
                                                    go_simp
                                                    with_reducible rfl
                                                  rotate_left
                                                  · simp only [Act.put, List.setIfInBounds_toArray, List.set_cons_zero, List.set_cons_succ, i64_w, i32_w]
                                                    rfl
                                                  refine pure_ (i := 2) (N := some 143) (v := ?_) (a' := ?_) #[true, true, true, false, false, false, false, false, false, false, false, false, false, false, false, false, false, false, false, false, false, false, false, false, false, false, false, false, false] rfl rfl (any_of HT_.out (by kernel_rfl)) (fun _ _ _ h => h) (Or.inl ⟨by rfl, ?_⟩) ?_ ?_
                                                  rotate_left
                                                  · intro w'
                                                    go_simp
                                                    with_reducible rfl
                                                  rotate_left
                                                  · simp only [Act.put, List.setIfInBounds_toArray, List.set_cons_zero, List.set_cons_succ, i64_w, i32_w]
                                                    rfl
                                                  refine pure_ (i := 3) (N := some 144) (v := ?_) (a' := ?_) #[true, true, true, true, false, false, false, false, false, false, false, false, false, false, false, false, false, false, false, false, false, false, false, false, false, false, false, false, false] rfl rfl (any_of HT_.out (by kernel_rfl)) (fun _ _ _ h => h) (Or.inl ⟨by rfl, ?_⟩) ?_ ?_
                                                  rotate_left
                                                  · intro w'
                                                    go_simp
                                                    with_reducible rfl
                                                  rotate_left
                                                  · simp only [Act.put, List.setIfInBounds_toArray, List.set_cons_zero, List.set_cons_succ, i64_w, i32_w]
                                                    rfl
                                                  refine pure_ (i := 4) (N := some 145) (v := ?_) (a' := ?_) #[true, true, true, true, true, false, false, false, false, false, false, false, false, false, false, false, false, false, false, false, false, false, false, false, false, false, false, false, false] rfl rfl (any_of HT_.out (by kernel_rfl)) (fun _ _ _ h => h) (Or.inl ⟨by rfl, ?_⟩) ?_ ?_
                                                  rotate_left
                                                  · intro w'
                                                    go_simp
                                                    with_reducible rfl
                                                  rotate_left
                                                  · simp only [Act.put, List.setIfInBounds_toArray, List.set_cons_zero, List.set_cons_succ, i64_w, i32_w]
                                                    rfl
                                                  refine pure_ (i := 5) (N := some 146) (v := ?_) (a' := ?_) #[true, true, true, true, true, true, false, false, false, false, false, false, false, false, false, false, false, false, false, false, false, false, false, false, false, false, false, false, false] rfl rfl (any_of HT_.out (by kernel_rfl)) (fun _ _ _ h => h) (Or.inl ⟨by rfl, ?_⟩) ?_ ?_
                                                  rotate_left
                                                  · intro w'
                                                    go_simp
                                                    with_reducible rfl
                                                  rotate_left
                                                  · simp only [Act.put, List.setIfInBounds_toArray, List.set_cons_zero, List.set_cons_succ, i64_w, i32_w]
                                                    rfl
                                                  refine pure_ (i := 6) (N := some 147) (v := ?_) (a' := ?_) #[true, true, true, true, true, true, true, false, false, false, false, false, false, false, false, false, false, false, false, false, false, false, false, false, false, false, false, false, false] rfl rfl (any_of HT_.out (by kernel_rfl)) (fun _ _ _ h => h) (Or.inl ⟨by rfl, ?_⟩) ?_ ?_
                                                  rotate_left
                                                  · intro w'
                                                    go_simp
                                                    with_reducible rfl
                                                  rotate_left
                                                  · simp only [Act.put, List.setIfInBounds_toArray, List.set_cons_zero, List.set_cons_succ, i64_w, i32_w]
                                                    rfl
                                                  refine pure_ (i := 7) (N := some 148) (v := ?_) (a' := ?_) #[true, true, true, true, true, true, true, true, false, false, false, false, false, false, false, false, false, false, false, false, false, false, false, false, false, false, false, false, false] rfl rfl (any_of HT_.out (by kernel_rfl)) (fun _ _ _ h => h) (Or.inl ⟨by rfl, ?_⟩) ?_ ?_
                                                  rotate_left
                                                  · intro w'
                                                    go_simp
                                                    with_reducible rfl
                                                  rotate_left
                                                  · simp only [Act.put, List.setIfInBounds_toArray, List.set_cons_zero, List.set_cons_succ, i64_w, i32_w]
                                                    rfl
                                                  refine pure_ (i := 8) (N := some 149) (v := ?_) (a' := ?_) #[true, true, true, true, true, true, true, true, true, false, false, false, false, false, false, false, false, false, false, false, false, false, false, false, false, false, false, false, false] rfl rfl (any_of HT_.out (by kernel_rfl)) (fun _ _ _ h => h) (Or.inl ⟨by rfl, ?_⟩) ?_ ?_
                                                  rotate_left
                                                  · intro w'
                                                    go_simp
                                                    with_reducible rfl
                                                  rotate_left
                                                  · simp only [Act.put, List.setIfInBounds_toArray, List.set_cons_zero, List.set_cons_succ, i64_w, i32_w]
                                                    rfl
                                                  refine pure_ (i := 9) (N := some 150) (v := ?_) (a' := ?_) #[true, true, true, true, true, true, true, true, true, true, false, false, false, false, false, false, false, false, false, false, false, false, false, false, false, false, false, false, false] rfl rfl (any_of HT_.out (by kernel_rfl)) (fun _ _ _ h => h) (Or.inl ⟨by rfl, ?_⟩) ?_ ?_
                                                  rotate_left
                                                  · intro w'
                                                    go_simp
                                                    with_reducible rfl
                                                  rotate_left
                                                  · simp only [Act.put, List.setIfInBounds_toArray, List.set_cons_zero, List.set_cons_succ, i64_w, i32_w]
                                                    rfl
                                                  refine pure_ (i := 10) (N := some 151) (v := ?_) (a' := ?_) #[true, true, true, true, true, true, true, true, true, true, true, false, false, false, false, false, false, false, false, false, false, false, false, false, false, false, false, false, false] rfl rfl (any_of HT_.out (by kernel_rfl)) (fun _ _ _ h => h) (Or.inl ⟨by rfl, ?_⟩) ?_ ?_
                                                  rotate_left
                                                  · intro w'
                                                    go_simp
                                                    with_reducible rfl
                                                  rotate_left
                                                  · simp only [Act.put, List.setIfInBounds_toArray, List.set_cons_zero, List.set_cons_succ, i64_w, i32_w]
                                                    rfl
                                                  refine pure_ (i := 11) (N := some 152) (v := ?_) (a' := ?_) #[true, true, true, true, true, true, true, true, true, true, true, true, false, false, false, false, false, false, false, false, false, false, false, false, false, false, false, false, false] rfl rfl (any_of HT_.out (by kernel_rfl)) (fun _ _ _ h => h) (Or.inl ⟨by rfl, ?_⟩) ?_ ?_
                                                  rotate_left
                                                  · intro w'
                                                    go_simp
                                                    with_reducible rfl
                                                  rotate_left
                                                  · simp only [Act.put, List.setIfInBounds_toArray, List.set_cons_zero, List.set_cons_succ, i64_w, i32_w]
                                                    rfl
                                                  refine pure_ (i := 12) (N := some 153) (v := ?_) (a' := ?_) #[true, true, true, true, true, true, true, true, true, true, true, true, true, false, false, false, false, false, false, false, false, false, false, false, false, false, false, false, false] rfl rfl (any_of HT_.out (by kernel_rfl)) (fun _ _ _ h => h) (Or.inl ⟨by rfl, ?_⟩) ?_ ?_
                                                  rotate_left
                                                  · intro w'
                                                    go_simp
                                                    with_reducible rfl
                                                  rotate_left
                                                  · simp only [Act.put, List.setIfInBounds_toArray, List.set_cons_zero, List.set_cons_succ, i64_w, i32_w]
                                                    rfl
                                                  refine pure_ (i := 13) (N := some 154) (v := ?_) (a' := ?_) #[true, true, true, true, true, true, true, true, true, true, true, true, true, true, false, false, false, false, false, false, false, false, false, false, false, false, false, false, false] rfl rfl (any_of HT_.out (by kernel_rfl)) (fun _ _ _ h => h) (Or.inl ⟨by rfl, ?_⟩) ?_ ?_
                                                  rotate_left
                                                  · intro w'
                                                    go_simp
                                                    with_reducible rfl
                                                  rotate_left
                                                  · simp only [Act.put, List.setIfInBounds_toArray, List.set_cons_zero, List.set_cons_succ, i64_w, i32_w]
                                                    rfl
                                                  refine pure_ (i := 14) (N := some 155) (v := ?_) (a' := ?_) #[true, true, true, true, true, true, true, true, true, true, true, true, true, true, true, false, false, false, false, false, false, false, false, false, false, false, false, false, false] rfl rfl (any_of HT_.out (by kernel_rfl)) (fun _ _ _ h => h) (Or.inl ⟨by rfl, ?_⟩) ?_ ?_
                                                  rotate_left
                                                  · intro w'
                                                    go_simp
                                                    with_reducible rfl
                                                  rotate_left
                                                  · simp only [Act.put, List.setIfInBounds_toArray, List.set_cons_zero, List.set_cons_succ, i64_w, i32_w]
                                                    rfl
                                                  refine pure_ (i := 15) (N := some 156) (v := ?_) (a' := ?_) #[true, true, true, true, true, true, true, true, true, true, true, true, true, true, true, true, false, false, false, false, false, false, false, false, false, false, false, false, false] rfl rfl (any_of HT_.out (by kernel_rfl)) (fun _ _ _ h => h) (Or.inl ⟨by rfl, ?_⟩) ?_ ?_
                                                  rotate_left
                                                  · intro w'
                                                    go_simp
                                                    with_reducible rfl
                                                  rotate_left
                                                  · simp only [Act.put, List.setIfInBounds_toArray, List.set_cons_zero, List.set_cons_succ, i64_w, i32_w]
                                                    rfl
                                                  refine pure_ (i := 16) (N := some 157) (v := ?_) (a' := ?_) #[true, true, true, true, true, true, true, true, true, true, true, true, true, true, true, true, true, false, false, false, false, false, false, false, false, false, false, false, false] rfl rfl (any_of HT_.out (by kernel_rfl)) (fun _ _ _ h => h) (Or.inl ⟨by rfl, ?_⟩) ?_ ?_
                                                  rotate_left
                                                  · intro w'
                                                    go_simp
                                                    with_reducible rfl
                                                  rotate_left
                                                  · simp only [Act.put, List.setIfInBounds_toArray, List.set_cons_zero, List.set_cons_succ, i64_w, i32_w]
                                                    rfl
                                                  refine pure_ (i := 17) (N := some 158) (v := ?_) (a' := ?_) #[true, true, true, true, true, true, true, true, true, true, true, true, true, true, true, true, true, true, false, false, false, false, false, false, false, false, false, false, false] rfl rfl (any_of HT_.out (by kernel_rfl)) (fun _ _ _ h => h) (Or.inl ⟨by rfl, ?_⟩) ?_ ?_
                                                  rotate_left
                                                  · intro w'
                                                    go_simp
                                                    with_reducible rfl
                                                  rotate_left
                                                  · simp only [Act.put, List.setIfInBounds_toArray, List.set_cons_zero, List.set_cons_succ, i64_w, i32_w]
                                                    rfl
                                                  refine pure_ (i := 18) (N := some 159) (v := ?_) (a' := ?_) #[true, true, true, true, true, true, true, true, true, true, true, true, true, true, true, true, true, true, true, false, false, false, false, false, false, false, false, false, false] rfl rfl (any_of HT_.out (by kernel_rfl)) (fun _ _ _ h => h) (Or.inl ⟨by rfl, ?_⟩) ?_ ?_
                                                  rotate_left
                                                  · intro w'
                                                    go_simp
                                                    with_reducible rfl
                                                  rotate_left
                                                  · simp only [Act.put, List.setIfInBounds_toArray, List.set_cons_zero, List.set_cons_succ, i64_w, i32_w]
                                                    rfl
                                                  refine pure_ (i := 19) (N := some 160) (v := ?_) (a' := ?_) #[true, true, true, true, true, true, true, true, true, true, true, true, true, true, true, true, true, true, true, true, false, false, false, false, false, false, false, false, false] rfl rfl (any_of HT_.out (by kernel_rfl)) (fun _ _ _ h => h) (Or.inl ⟨by rfl, ?_⟩) ?_ ?_
                                                  rotate_left
                                                  · intro w'
                                                    go_simp
                                                    with_reducible rfl
                                                  rotate_left
                                                  · simp only [Act.put, List.setIfInBounds_toArray, List.set_cons_zero, List.set_cons_succ, i64_w, i32_w]
                                                    rfl
                                                  refine pure_ (i := 21) (N := some 162) (v := ?_) (a' := ?_) #[true, true, true, true, true, true, true, true, true, true, true, true, true, true, true, true, true, true, true, true, false, true, false, false, false, false, false, false, false] rfl rfl (any_of HT_.out (by kernel_rfl)) (fun _ _ _ h => h) (Or.inl ⟨by rfl, ?_⟩) ?_ ?_
                                                  rotate_left
                                                  · intro w'
                                                    go_simp
                                                    with_reducible rfl
                                                  rotate_left
                                                  · simp only [Act.put, List.setIfInBounds_toArray, List.set_cons_zero, List.set_cons_succ, i64_w, i32_w]
                                                    rfl
                                                  refine pure_ (i := 22) (N := some 163) (v := ?_) (a' := ?_) #[true, true, true, true, true, true, true, true, true, true, true, true, true, true, true, true, true, true, true, true, false, true, true, false, false, false, false, false, false] rfl rfl (any_of HT_.out (by kernel_rfl)) (fun _ _ _ h => h) (Or.inl ⟨by rfl, ?_⟩) ?_ ?_
                                                  rotate_left
                                                  · intro w'
                                                    go_simp
                                                    with_reducible rfl
                                                  rotate_left
                                                  · simp only [Act.put, List.setIfInBounds_toArray, List.set_cons_zero, List.set_cons_succ, i64_w, i32_w]
                                                    rfl
                                                  refine pure_ (i := 23) (N := some 164) (v := ?_) (a' := ?_) #[true, true, true, true, true, true, true, true, true, true, true, true, true, true, true, true, true, true, true, true, false, true, true, true, false, false, false, false, false] rfl rfl (any_of HT_.out (by kernel_rfl)) (fun _ _ _ h => h) (Or.inl ⟨by rfl, ?_⟩) ?_ ?_
                                                  rotate_left
                                                  · intro w'
                                                    go_simp
                                                    with_reducible rfl
                                                  rotate_left
                                                  · simp only [Act.put, List.setIfInBounds_toArray, List.set_cons_zero, List.set_cons_succ, i64_w, i32_w]
                                                    rfl
                                                  refine pure_ (i := 24) (N := some 165) (v := ?_) (a' := ?_) #[true, true, true, true, true, true, true, true, true, true, true, true, true, true, true, true, true, true, true, true, false, true, true, true, true, false, false, false, false] rfl rfl (any_of HT_.out (by kernel_rfl)) (fun _ _ _ h => h) (Or.inl ⟨by rfl, ?_⟩) ?_ ?_
                                                  rotate_left
                                                  · intro w'
                                                    go_simp
                                                    with_reducible rfl
                                                  rotate_left
                                                  · simp only [Act.put, List.setIfInBounds_toArray, List.set_cons_zero, List.set_cons_succ, i64_w, i32_w]
                                                    rfl
                                                  refine pure_ (i := 25) (N := some 166) (v := ?_) (a' := ?_) #[true, true, true, true, true, true, true, true, true, true, true, true, true, true, true, true, true, true, true, true, false, true, true, true, true, true, false, false, false] rfl rfl (any_of HT_.out (by kernel_rfl)) (fun _ _ _ h => h) (Or.inl ⟨by rfl, ?_⟩) ?_ ?_
                                                  rotate_left
                                                  · intro w'
                                                    go_simp
                                                    with_reducible rfl
                                                  rotate_left
                                                  · simp only [Act.put, List.setIfInBounds_toArray, List.set_cons_zero, List.set_cons_succ, i64_w, i32_w]
                                                    rfl
                                                  refine take_ (i := 20) (N := some 161) (v := ?_) (a' := ?_) #[true, true, true, true, true, true, true, true, true, true, true, true, true, true, true, true, true, true, true, true, true, true, true, true, true, true, false, false, false] rfl rfl (take_ofW HT_.out HW_.out (by kernel_rfl)) (fun _ _ _ h => h) (Or.inl ⟨by rfl, ?_⟩) hHeld ?_ ?_
                                                  rotate_left
                                                  · rintro w' ⟨s0, s1⟩
                                                    go_simp
                                                    with_reducible rfl
                                                  rotate_left
                                                  · simp only [Act.put, List.setIfInBounds_toArray, List.set_cons_zero, List.set_cons_succ, i64_w, i32_w]
                                                    rfl
                                                  refine take_ (i := 26) (N := some 167) (v := ?_) (a' := ?_) #[true, true, true, true, true, true, true, true, true, true, true, true, true, true, true, true, true, true, true, true, true, true, true, true, true, true, true, false, false] rfl rfl (take_ofW HT_.out HW_.out (by kernel_rfl)) (fun _ _ _ h => h) (Or.inl ⟨by rfl, ?_⟩) hHeld ?_ ?_
                                                  rotate_left
                                                  · rintro w' ⟨s0, s1⟩
                                                    go_simp
                                                    with_reducible rfl
                                                  rotate_left
                                                  · simp only [Act.put, List.setIfInBounds_toArray, List.set_cons_zero, List.set_cons_succ, i64_w, i32_w]
                                                    rfl
                                                  refine pure_ (i := 27) (N := some 168) (v := ?_) (a' := ?_) #[true, true, true, true, true, true, true, true, true, true, true, true, true, true, true, true, true, true, true, true, true, true, true, true, true, true, true, true, false] rfl rfl (any_of HT_.out (by kernel_rfl)) (fun _ _ _ h => h) (Or.inl ⟨by rfl, ?_⟩) ?_ ?_
                                                  rotate_left
                                                  · intro w'
                                                    go_simp
                                                    with_reducible rfl
                                                  rotate_left
                                                  · simp only [Act.put, List.setIfInBounds_toArray, List.set_cons_zero, List.set_cons_succ, i64_w, i32_w]
                                                    rfl
                                                  refine pure_ (i := 28) (N := some 169) (v := ?_) (a' := ?_) #[true, true, true, true, true, true, true, true, true, true, true, true, true, true, true, true, true, true, true, true, true, true, true, true, true, true, true, true, true] rfl rfl (any_of HT_.out (by kernel_rfl)) (fun _ _ _ h => h) (Or.inl ⟨by rfl, ?_⟩) ?_ ?_
                                                  rotate_left
                                                  · intro w'
                                                    go_simp
                                                    with_reducible rfl
                                                  rotate_left
                                                  · simp only [Act.put, List.setIfInBounds_toArray, List.set_cons_zero, List.set_cons_succ, i64_w, i32_w]
                                                    rfl
                                                  refine done_ (done_of HT_.out (by kernel_rfl)) ?_
                                                  try go_wp2
                                                  go_roundg k7
                                                  case measure => have := HJ2.out; have := HJ14.out; have := HK3.out; have := HJ41.out; have := HK5.out; have := HJ54.out; have := HK7.out; omega
                                                  case rel => exact ⟨(wrap64 (x17_7 + 1)), zF', H', ⟨by have := HJ2.out; have := HJ14.out; have := HK3.out; have := HJ41.out; have := HK5.out; have := HJ54.out; have := HK7.out; omega⟩, ⟨by (with_reducible repeat (first | apply Kd.R_alloc | apply Kd.R_drewN | apply Kd.R_drew)); exact HO_6.out⟩, ⟨by (with_reducible repeat (first | apply Kd.R_alloc | apply Kd.R_drewN | apply Kd.R_drew)); exact HO_177000.out⟩, ⟨by (with_reducible repeat (first | apply Kd.R_alloc | apply Kd.R_drewN | apply Kd.R_drew)); exact HO_177001.out⟩, ⟨zBK⟩, ⟨zHB⟩⟩
                                                · rw [if_neg c68] at H
                                                  have c68b0 := beq_eq_false_iff_ne.mpr c68
                                                  have c68b1 := bne_iff_ne.mpr c68
                                                  have H' := Aside0.mk H
                                                  clear H
                                                  try go_wp2
                                                  refine zs (Kd.R_drew HO_6.out) (zs (Kd.R_drew HO_177000.out) (zs (Kd.R_drew HO_177001.out) (zs (blk_drew BK176.out) (zs (below_drew1 HB.out) ?_))))
                                                  clear HO_6 HO_177000 HO_177001 BK176 HB
                                                  intro HB BK176 HO_177001 HO_177000 HO_6
                                                  have p198 : 0 ≤ ((ji64) : Int) := zOD
                                                  have q198 : (ji64) < (l0.length : Int) := zOD
                                                  obtain ⟨ad198, e198, hx198_0⟩ := Kd.at_int HR0.out (ji64) p198 q198
                                                  have hw198_0 := hx198_0
                                                  cases e198
                                                  replace hx198_0 := (HB.out.cell (World.block_lt_of_cell? w _ hx198_0)).trans hx198_0
                                                  replace p198 := eq_true p198
                                                  replace q198 := eq_true q198
                                                  have p199 : 0 ≤ ((ji66) : Int) := zOD
                                                  have q199 : (ji66) < (l0.length : Int) := zOD
                                                  obtain ⟨ad199, e199, hx199_0⟩ := Kd.at_int HR0.out (ji66) p199 q199
                                                  have hw199_0 := hx199_0
                                                  obtain rfl : ad198 = ad199 := (by injection e199)
                                                  replace hx199_0 := (HB.out.cell (World.block_lt_of_cell? w _ hx199_0)).trans hx199_0
                                                  replace p199 := eq_true p199
                                                  replace q199 := eq_true q199
                                                  refine start_ (n := 29) (S := fun w' => w'.cell? (ad198.add ((ji64)).toNat) = some (.int .i64 (rd l0 (ji64))) ∧ w'.cell? (ad198.add ((ji66)).toNat) = some (.int .i64 (rd l0 (ji66)))) (ds := []) #[false, false, false, false, false, false, false, false, false, false, false, false, false, false, false, false, false, false, false, false, false, false, false, false, false, false, false, false, false] (by kernel_rfl) rfl rfl ⟨((HB.out.cell (World.block_lt_of_cell? w _ hw198_0)).trans hw198_0), ((HB.out.cell (World.block_lt_of_cell? w _ hw199_0)).trans hw199_0)⟩ (fun hHeld => ?_); refine with_tabW pleatlaw17_CommonRows.tab22 pleatlaw17_CommonRows.bits22 (fun HT_ HW_ => ?_)
                                                  generalize wr.drew = w70 at HO_6 HO_177000 HO_177001 BK176 HB hx198_0 hx199_0 hHeld ⊢
                                                  refine pure_ (i := 0) (N := some 141) (v := ?_) (a' := ?_) #[true, false, false, false, false, false, false, false, false, false, false, false, false, false, false, false, false, false, false, false, false, false, false, false, false, false, false, false, false] rfl rfl (any_of HT_.out (by kernel_rfl)) (fun _ _ _ h => h) (Or.inl ⟨by rfl, ?_⟩) ?_ ?_
                                                  rotate_left
                                                  · intro w'
                                                    go_simp
                                                    with_reducible rfl
                                                  rotate_left
                                                  · simp only [Act.put, List.setIfInBounds_toArray, List.set_cons_zero, List.set_cons_succ, i64_w, i32_w]
                                                    rfl
                                                  refine pure_ (i := 1) (N := some 142) (v := ?_) (a' := ?_) #[true, true, false, false, false, false, false, false, false, false, false, false, false, false, false, false, false, false, false, false, false, false, false, false, false, false, false, false, false] rfl rfl (any_of HT_.out (by kernel_rfl)) (fun _ _ _ h => h) (Or.inl ⟨by rfl, ?_⟩) ?_ ?_
                                                  rotate_left
                                                  · intro w'
                                                    go_simp
                                                    with_reducible rfl
                                                  rotate_left
                                                  · simp only [Act.put, List.setIfInBounds_toArray, List.set_cons_zero, List.set_cons_succ, i64_w, i32_w]
                                                    rfl
                                                  refine pure_ (i := 2) (N := some 143) (v := ?_) (a' := ?_) #[true, true, true, false, false, false, false, false, false, false, false, false, false, false, false, false, false, false, false, false, false, false, false, false, false, false, false, false, false] rfl rfl (any_of HT_.out (by kernel_rfl)) (fun _ _ _ h => h) (Or.inl ⟨by rfl, ?_⟩) ?_ ?_
                                                  rotate_left
                                                  · intro w'
                                                    go_simp
                                                    with_reducible rfl
                                                  rotate_left
                                                  · simp only [Act.put, List.setIfInBounds_toArray, List.set_cons_zero, List.set_cons_succ, i64_w, i32_w]
                                                    rfl
                                                  refine pure_ (i := 3) (N := some 144) (v := ?_) (a' := ?_) #[true, true, true, true, false, false, false, false, false, false, false, false, false, false, false, false, false, false, false, false, false, false, false, false, false, false, false, false, false] rfl rfl (any_of HT_.out (by kernel_rfl)) (fun _ _ _ h => h) (Or.inl ⟨by rfl, ?_⟩) ?_ ?_
                                                  rotate_left
                                                  · intro w'
                                                    go_simp
                                                    with_reducible rfl
                                                  rotate_left
                                                  · simp only [Act.put, List.setIfInBounds_toArray, List.set_cons_zero, List.set_cons_succ, i64_w, i32_w]
                                                    rfl
                                                  refine pure_ (i := 4) (N := some 145) (v := ?_) (a' := ?_) #[true, true, true, true, true, false, false, false, false, false, false, false, false, false, false, false, false, false, false, false, false, false, false, false, false, false, false, false, false] rfl rfl (any_of HT_.out (by kernel_rfl)) (fun _ _ _ h => h) (Or.inl ⟨by rfl, ?_⟩) ?_ ?_
                                                  rotate_left
                                                  · intro w'
                                                    go_simp
                                                    with_reducible rfl
                                                  rotate_left
                                                  · simp only [Act.put, List.setIfInBounds_toArray, List.set_cons_zero, List.set_cons_succ, i64_w, i32_w]
                                                    rfl
                                                  refine pure_ (i := 5) (N := some 146) (v := ?_) (a' := ?_) #[true, true, true, true, true, true, false, false, false, false, false, false, false, false, false, false, false, false, false, false, false, false, false, false, false, false, false, false, false] rfl rfl (any_of HT_.out (by kernel_rfl)) (fun _ _ _ h => h) (Or.inl ⟨by rfl, ?_⟩) ?_ ?_
                                                  rotate_left
                                                  · intro w'
                                                    go_simp
                                                    with_reducible rfl
                                                  rotate_left
                                                  · simp only [Act.put, List.setIfInBounds_toArray, List.set_cons_zero, List.set_cons_succ, i64_w, i32_w]
                                                    rfl
                                                  refine pure_ (i := 6) (N := some 147) (v := ?_) (a' := ?_) #[true, true, true, true, true, true, true, false, false, false, false, false, false, false, false, false, false, false, false, false, false, false, false, false, false, false, false, false, false] rfl rfl (any_of HT_.out (by kernel_rfl)) (fun _ _ _ h => h) (Or.inl ⟨by rfl, ?_⟩) ?_ ?_
                                                  rotate_left
                                                  · intro w'
                                                    go_simp
                                                    with_reducible rfl
                                                  rotate_left
                                                  · simp only [Act.put, List.setIfInBounds_toArray, List.set_cons_zero, List.set_cons_succ, i64_w, i32_w]
                                                    rfl
                                                  refine pure_ (i := 7) (N := some 148) (v := ?_) (a' := ?_) #[true, true, true, true, true, true, true, true, false, false, false, false, false, false, false, false, false, false, false, false, false, false, false, false, false, false, false, false, false] rfl rfl (any_of HT_.out (by kernel_rfl)) (fun _ _ _ h => h) (Or.inl ⟨by rfl, ?_⟩) ?_ ?_
                                                  rotate_left
                                                  · intro w'
                                                    go_simp
                                                    with_reducible rfl
                                                  rotate_left
                                                  · simp only [Act.put, List.setIfInBounds_toArray, List.set_cons_zero, List.set_cons_succ, i64_w, i32_w]
                                                    rfl
                                                  refine pure_ (i := 8) (N := some 149) (v := ?_) (a' := ?_) #[true, true, true, true, true, true, true, true, true, false, false, false, false, false, false, false, false, false, false, false, false, false, false, false, false, false, false, false, false] rfl rfl (any_of HT_.out (by kernel_rfl)) (fun _ _ _ h => h) (Or.inl ⟨by rfl, ?_⟩) ?_ ?_
                                                  rotate_left
                                                  · intro w'
                                                    go_simp
                                                    with_reducible rfl
                                                  rotate_left
                                                  · simp only [Act.put, List.setIfInBounds_toArray, List.set_cons_zero, List.set_cons_succ, i64_w, i32_w]
                                                    rfl
                                                  refine pure_ (i := 9) (N := some 150) (v := ?_) (a' := ?_) #[true, true, true, true, true, true, true, true, true, true, false, false, false, false, false, false, false, false, false, false, false, false, false, false, false, false, false, false, false] rfl rfl (any_of HT_.out (by kernel_rfl)) (fun _ _ _ h => h) (Or.inl ⟨by rfl, ?_⟩) ?_ ?_
                                                  rotate_left
                                                  · intro w'
                                                    go_simp
                                                    with_reducible rfl
                                                  rotate_left
                                                  · simp only [Act.put, List.setIfInBounds_toArray, List.set_cons_zero, List.set_cons_succ, i64_w, i32_w]
                                                    rfl
                                                  refine pure_ (i := 10) (N := some 151) (v := ?_) (a' := ?_) #[true, true, true, true, true, true, true, true, true, true, true, false, false, false, false, false, false, false, false, false, false, false, false, false, false, false, false, false, false] rfl rfl (any_of HT_.out (by kernel_rfl)) (fun _ _ _ h => h) (Or.inl ⟨by rfl, ?_⟩) ?_ ?_
                                                  rotate_left
                                                  · intro w'
                                                    go_simp
                                                    with_reducible rfl
                                                  rotate_left
                                                  · simp only [Act.put, List.setIfInBounds_toArray, List.set_cons_zero, List.set_cons_succ, i64_w, i32_w]
                                                    rfl
                                                  refine pure_ (i := 11) (N := some 152) (v := ?_) (a' := ?_) #[true, true, true, true, true, true, true, true, true, true, true, true, false, false, false, false, false, false, false, false, false, false, false, false, false, false, false, false, false] rfl rfl (any_of HT_.out (by kernel_rfl)) (fun _ _ _ h => h) (Or.inl ⟨by rfl, ?_⟩) ?_ ?_
                                                  rotate_left
                                                  · intro w'
                                                    go_simp
                                                    with_reducible rfl
                                                  rotate_left
                                                  · simp only [Act.put, List.setIfInBounds_toArray, List.set_cons_zero, List.set_cons_succ, i64_w, i32_w]
                                                    rfl
                                                  refine pure_ (i := 12) (N := some 153) (v := ?_) (a' := ?_) #[true, true, true, true, true, true, true, true, true, true, true, true, true, false, false, false, false, false, false, false, false, false, false, false, false, false, false, false, false] rfl rfl (any_of HT_.out (by kernel_rfl)) (fun _ _ _ h => h) (Or.inl ⟨by rfl, ?_⟩) ?_ ?_
                                                  rotate_left
                                                  · intro w'
                                                    go_simp
                                                    with_reducible rfl
                                                  rotate_left
                                                  · simp only [Act.put, List.setIfInBounds_toArray, List.set_cons_zero, List.set_cons_succ, i64_w, i32_w]
                                                    rfl
                                                  refine pure_ (i := 13) (N := some 154) (v := ?_) (a' := ?_) #[true, true, true, true, true, true, true, true, true, true, true, true, true, true, false, false, false, false, false, false, false, false, false, false, false, false, false, false, false] rfl rfl (any_of HT_.out (by kernel_rfl)) (fun _ _ _ h => h) (Or.inl ⟨by rfl, ?_⟩) ?_ ?_
                                                  rotate_left
                                                  · intro w'
                                                    go_simp
                                                    with_reducible rfl
                                                  rotate_left
                                                  · simp only [Act.put, List.setIfInBounds_toArray, List.set_cons_zero, List.set_cons_succ, i64_w, i32_w]
                                                    rfl
                                                  refine pure_ (i := 14) (N := some 155) (v := ?_) (a' := ?_) #[true, true, true, true, true, true, true, true, true, true, true, true, true, true, true, false, false, false, false, false, false, false, false, false, false, false, false, false, false] rfl rfl (any_of HT_.out (by kernel_rfl)) (fun _ _ _ h => h) (Or.inl ⟨by rfl, ?_⟩) ?_ ?_
                                                  rotate_left
                                                  · intro w'
                                                    go_simp
                                                    with_reducible rfl
                                                  rotate_left
                                                  · simp only [Act.put, List.setIfInBounds_toArray, List.set_cons_zero, List.set_cons_succ, i64_w, i32_w]
                                                    rfl
                                                  refine pure_ (i := 15) (N := some 156) (v := ?_) (a' := ?_) #[true, true, true, true, true, true, true, true, true, true, true, true, true, true, true, true, false, false, false, false, false, false, false, false, false, false, false, false, false] rfl rfl (any_of HT_.out (by kernel_rfl)) (fun _ _ _ h => h) (Or.inl ⟨by rfl, ?_⟩) ?_ ?_
                                                  rotate_left
                                                  · intro w'
                                                    go_simp
                                                    with_reducible rfl
                                                  rotate_left
                                                  · simp only [Act.put, List.setIfInBounds_toArray, List.set_cons_zero, List.set_cons_succ, i64_w, i32_w]
                                                    rfl
                                                  refine pure_ (i := 16) (N := some 157) (v := ?_) (a' := ?_) #[true, true, true, true, true, true, true, true, true, true, true, true, true, true, true, true, true, false, false, false, false, false, false, false, false, false, false, false, false] rfl rfl (any_of HT_.out (by kernel_rfl)) (fun _ _ _ h => h) (Or.inl ⟨by rfl, ?_⟩) ?_ ?_
                                                  rotate_left
                                                  · intro w'
                                                    go_simp
                                                    with_reducible rfl
                                                  rotate_left
                                                  · simp only [Act.put, List.setIfInBounds_toArray, List.set_cons_zero, List.set_cons_succ, i64_w, i32_w]
                                                    rfl
                                                  refine pure_ (i := 17) (N := some 158) (v := ?_) (a' := ?_) #[true, true, true, true, true, true, true, true, true, true, true, true, true, true, true, true, true, true, false, false, false, false, false, false, false, false, false, false, false] rfl rfl (any_of HT_.out (by kernel_rfl)) (fun _ _ _ h => h) (Or.inl ⟨by rfl, ?_⟩) ?_ ?_
                                                  rotate_left
                                                  · intro w'
                                                    go_simp
                                                    with_reducible rfl
                                                  rotate_left
                                                  · simp only [Act.put, List.setIfInBounds_toArray, List.set_cons_zero, List.set_cons_succ, i64_w, i32_w]
                                                    rfl
                                                  refine pure_ (i := 18) (N := some 159) (v := ?_) (a' := ?_) #[true, true, true, true, true, true, true, true, true, true, true, true, true, true, true, true, true, true, true, false, false, false, false, false, false, false, false, false, false] rfl rfl (any_of HT_.out (by kernel_rfl)) (fun _ _ _ h => h) (Or.inl ⟨by rfl, ?_⟩) ?_ ?_
                                                  rotate_left
                                                  · intro w'
                                                    go_simp
                                                    with_reducible rfl
                                                  rotate_left
                                                  · simp only [Act.put, List.setIfInBounds_toArray, List.set_cons_zero, List.set_cons_succ, i64_w, i32_w]
                                                    rfl
                                                  refine pure_ (i := 19) (N := some 160) (v := ?_) (a' := ?_) #[true, true, true, true, true, true, true, true, true, true, true, true, true, true, true, true, true, true, true, true, false, false, false, false, false, false, false, false, false] rfl rfl (any_of HT_.out (by kernel_rfl)) (fun _ _ _ h => h) (Or.inl ⟨by rfl, ?_⟩) ?_ ?_
                                                  rotate_left
                                                  · intro w'
                                                    go_simp
                                                    with_reducible rfl
                                                  rotate_left
                                                  · simp only [Act.put, List.setIfInBounds_toArray, List.set_cons_zero, List.set_cons_succ, i64_w, i32_w]
                                                    rfl
                                                  refine pure_ (i := 21) (N := some 162) (v := ?_) (a' := ?_) #[true, true, true, true, true, true, true, true, true, true, true, true, true, true, true, true, true, true, true, true, false, true, false, false, false, false, false, false, false] rfl rfl (any_of HT_.out (by kernel_rfl)) (fun _ _ _ h => h) (Or.inl ⟨by rfl, ?_⟩) ?_ ?_
                                                  rotate_left
                                                  · intro w'
                                                    go_simp
                                                    with_reducible rfl
                                                  rotate_left
                                                  · simp only [Act.put, List.setIfInBounds_toArray, List.set_cons_zero, List.set_cons_succ, i64_w, i32_w]
                                                    rfl
                                                  refine pure_ (i := 22) (N := some 163) (v := ?_) (a' := ?_) #[true, true, true, true, true, true, true, true, true, true, true, true, true, true, true, true, true, true, true, true, false, true, true, false, false, false, false, false, false] rfl rfl (any_of HT_.out (by kernel_rfl)) (fun _ _ _ h => h) (Or.inl ⟨by rfl, ?_⟩) ?_ ?_
                                                  rotate_left
                                                  · intro w'
                                                    go_simp
                                                    with_reducible rfl
                                                  rotate_left
                                                  · simp only [Act.put, List.setIfInBounds_toArray, List.set_cons_zero, List.set_cons_succ, i64_w, i32_w]
                                                    rfl
                                                  refine pure_ (i := 23) (N := some 164) (v := ?_) (a' := ?_) #[true, true, true, true, true, true, true, true, true, true, true, true, true, true, true, true, true, true, true, true, false, true, true, true, false, false, false, false, false] rfl rfl (any_of HT_.out (by kernel_rfl)) (fun _ _ _ h => h) (Or.inl ⟨by rfl, ?_⟩) ?_ ?_
                                                  rotate_left
                                                  · intro w'
                                                    go_simp
                                                    with_reducible rfl
                                                  rotate_left
                                                  · simp only [Act.put, List.setIfInBounds_toArray, List.set_cons_zero, List.set_cons_succ, i64_w, i32_w]
                                                    rfl
                                                  refine pure_ (i := 24) (N := some 165) (v := ?_) (a' := ?_) #[true, true, true, true, true, true, true, true, true, true, true, true, true, true, true, true, true, true, true, true, false, true, true, true, true, false, false, false, false] rfl rfl (any_of HT_.out (by kernel_rfl)) (fun _ _ _ h => h) (Or.inl ⟨by rfl, ?_⟩) ?_ ?_
                                                  rotate_left
                                                  · intro w'
                                                    go_simp
                                                    with_reducible rfl
                                                  rotate_left
                                                  · simp only [Act.put, List.setIfInBounds_toArray, List.set_cons_zero, List.set_cons_succ, i64_w, i32_w]
                                                    rfl
                                                  refine pure_ (i := 25) (N := some 166) (v := ?_) (a' := ?_) #[true, true, true, true, true, true, true, true, true, true, true, true, true, true, true, true, true, true, true, true, false, true, true, true, true, true, false, false, false] rfl rfl (any_of HT_.out (by kernel_rfl)) (fun _ _ _ h => h) (Or.inl ⟨by rfl, ?_⟩) ?_ ?_
                                                  rotate_left
                                                  · intro w'
                                                    go_simp
                                                    with_reducible rfl
                                                  rotate_left
                                                  · simp only [Act.put, List.setIfInBounds_toArray, List.set_cons_zero, List.set_cons_succ, i64_w, i32_w]
                                                    rfl
                                                  refine take_ (i := 20) (N := some 161) (v := ?_) (a' := ?_) #[true, true, true, true, true, true, true, true, true, true, true, true, true, true, true, true, true, true, true, true, true, true, true, true, true, true, false, false, false] rfl rfl (take_ofW HT_.out HW_.out (by kernel_rfl)) (fun _ _ _ h => h) (Or.inl ⟨by rfl, ?_⟩) hHeld ?_ ?_
                                                  rotate_left
                                                  · rintro w' ⟨s0, s1⟩
                                                    go_simp
                                                    with_reducible rfl
                                                  rotate_left
                                                  · simp only [Act.put, List.setIfInBounds_toArray, List.set_cons_zero, List.set_cons_succ, i64_w, i32_w]
                                                    rfl
                                                  refine take_ (i := 26) (N := some 167) (v := ?_) (a' := ?_) #[true, true, true, true, true, true, true, true, true, true, true, true, true, true, true, true, true, true, true, true, true, true, true, true, true, true, true, false, false] rfl rfl (take_ofW HT_.out HW_.out (by kernel_rfl)) (fun _ _ _ h => h) (Or.inl ⟨by rfl, ?_⟩) hHeld ?_ ?_
                                                  rotate_left
                                                  · rintro w' ⟨s0, s1⟩
                                                    go_simp
                                                    with_reducible rfl
                                                  rotate_left
                                                  · simp only [Act.put, List.setIfInBounds_toArray, List.set_cons_zero, List.set_cons_succ, i64_w, i32_w]
                                                    rfl
                                                  refine pure_ (i := 27) (N := some 168) (v := ?_) (a' := ?_) #[true, true, true, true, true, true, true, true, true, true, true, true, true, true, true, true, true, true, true, true, true, true, true, true, true, true, true, true, false] rfl rfl (any_of HT_.out (by kernel_rfl)) (fun _ _ _ h => h) (Or.inl ⟨by rfl, ?_⟩) ?_ ?_
                                                  rotate_left
                                                  · intro w'
                                                    go_simp
                                                    with_reducible rfl
                                                  rotate_left
                                                  · simp only [Act.put, List.setIfInBounds_toArray, List.set_cons_zero, List.set_cons_succ, i64_w, i32_w]
                                                    rfl
                                                  refine pure_ (i := 28) (N := some 169) (v := ?_) (a' := ?_) #[true, true, true, true, true, true, true, true, true, true, true, true, true, true, true, true, true, true, true, true, true, true, true, true, true, true, true, true, true] rfl rfl (any_of HT_.out (by kernel_rfl)) (fun _ _ _ h => h) (Or.inl ⟨by rfl, ?_⟩) ?_ ?_
                                                  rotate_left
                                                  · intro w'
                                                    go_simp
                                                    with_reducible rfl
                                                  rotate_left
                                                  · simp only [Act.put, List.setIfInBounds_toArray, List.set_cons_zero, List.set_cons_succ, i64_w, i32_w]
                                                    rfl
                                                  refine done_ (done_of HT_.out (by kernel_rfl)) ?_
                                                  try go_wp2
                                                  go_meet
                                                  case rel => exact ⟨_, (x17_7), zF', H', ⟨by have := HJ2.out; have := HJ14.out; have := HK3.out; have := HJ41.out; have := HK5.out; have := HJ54.out; have := HK7.out; first | omega | exact Nat.le_refl _⟩, ⟨by (with_reducible repeat (first | apply Kd.R_alloc | apply Kd.R_drewN | apply Kd.R_drew)); exact HO_6.out⟩, ⟨by (with_reducible repeat (first | apply Kd.R_alloc | apply Kd.R_drewN | apply Kd.R_drew)); exact HO_177000.out⟩, ⟨by (with_reducible repeat (first | apply Kd.R_alloc | apply Kd.R_drewN | apply Kd.R_drew)); exact HO_177001.out⟩, ⟨zBK⟩, ⟨zHB⟩⟩
                                              · rw [if_neg c63] at H
                                                have c63b0 := decide_eq_false c63
                                                clear c63
                                                have H' := Aside0.mk H
                                                clear H
                                                try go_wp2
                                                refine zs (Kd.R_drew HO_6.out) (zs (Kd.R_drew HO_177000.out) (zs (Kd.R_drew HO_177001.out) (zs (blk_drew BK176.out) (zs (below_drew1 HB.out) ?_))))
                                                clear HO_6 HO_177000 HO_177001 BK176 HB
                                                intro HB BK176 HO_177001 HO_177000 HO_6
                                                refine start_ (n := 29) (S := fun w' => True) (ds := []) #[false, false, false, false, false, false, false, false, false, false, false, false, false, false, false, false, false, false, false, false, false, false, false, false, false, false, false, false, false] (by kernel_rfl) rfl rfl trivial (fun hHeld => ?_); refine with_tabW pleatlaw17_CommonRows.tab22 pleatlaw17_CommonRows.bits22 (fun HT_ HW_ => ?_)
                                                generalize wr.drew = w71 at HO_6 HO_177000 HO_177001 BK176 HB hHeld ⊢
                                                refine pure_ (i := 0) (N := some 141) (v := ?_) (a' := ?_) #[true, false, false, false, false, false, false, false, false, false, false, false, false, false, false, false, false, false, false, false, false, false, false, false, false, false, false, false, false] rfl rfl (any_of HT_.out (by kernel_rfl)) (fun _ _ _ h => h) (Or.inl ⟨by rfl, ?_⟩) ?_ ?_
                                                rotate_left
                                                · intro w'
                                                  go_simp
                                                  with_reducible rfl
                                                rotate_left
                                                · simp only [Act.put, List.setIfInBounds_toArray, List.set_cons_zero, List.set_cons_succ, i64_w, i32_w]
                                                  rfl
                                                refine pure_ (i := 1) (N := some 142) (v := ?_) (a' := ?_) #[true, true, false, false, false, false, false, false, false, false, false, false, false, false, false, false, false, false, false, false, false, false, false, false, false, false, false, false, false] rfl rfl (any_of HT_.out (by kernel_rfl)) (fun _ _ _ h => h) (Or.inl ⟨by rfl, ?_⟩) ?_ ?_
                                                rotate_left
                                                · intro w'
                                                  go_simp
                                                  with_reducible rfl
                                                rotate_left
                                                · simp only [Act.put, List.setIfInBounds_toArray, List.set_cons_zero, List.set_cons_succ, i64_w, i32_w]
                                                  rfl
                                                refine pure_ (i := 2) (N := some 143) (v := ?_) (a' := ?_) #[true, true, true, false, false, false, false, false, false, false, false, false, false, false, false, false, false, false, false, false, false, false, false, false, false, false, false, false, false] rfl rfl (any_of HT_.out (by kernel_rfl)) (fun _ _ _ h => h) (Or.inl ⟨by rfl, ?_⟩) ?_ ?_
                                                rotate_left
                                                · intro w'
                                                  go_simp
                                                  with_reducible rfl
                                                rotate_left
                                                · simp only [Act.put, List.setIfInBounds_toArray, List.set_cons_zero, List.set_cons_succ, i64_w, i32_w]
                                                  rfl
                                                refine pure_ (i := 3) (N := some 144) (v := ?_) (a' := ?_) #[true, true, true, true, false, false, false, false, false, false, false, false, false, false, false, false, false, false, false, false, false, false, false, false, false, false, false, false, false] rfl rfl (any_of HT_.out (by kernel_rfl)) (fun _ _ _ h => h) (Or.inl ⟨by rfl, ?_⟩) ?_ ?_
                                                rotate_left
                                                · intro w'
                                                  go_simp
                                                  with_reducible rfl
                                                rotate_left
                                                · simp only [Act.put, List.setIfInBounds_toArray, List.set_cons_zero, List.set_cons_succ, i64_w, i32_w]
                                                  rfl
                                                refine pure_ (i := 4) (N := some 145) (v := ?_) (a' := ?_) #[true, true, true, true, true, false, false, false, false, false, false, false, false, false, false, false, false, false, false, false, false, false, false, false, false, false, false, false, false] rfl rfl (any_of HT_.out (by kernel_rfl)) (fun _ _ _ h => h) (Or.inl ⟨by rfl, ?_⟩) ?_ ?_
                                                rotate_left
                                                · intro w'
                                                  go_simp
                                                  with_reducible rfl
                                                rotate_left
                                                · simp only [Act.put, List.setIfInBounds_toArray, List.set_cons_zero, List.set_cons_succ, i64_w, i32_w]
                                                  rfl
                                                refine pure_ (i := 5) (N := some 146) (v := ?_) (a' := ?_) #[true, true, true, true, true, true, false, false, false, false, false, false, false, false, false, false, false, false, false, false, false, false, false, false, false, false, false, false, false] rfl rfl (any_of HT_.out (by kernel_rfl)) (fun _ _ _ h => h) (Or.inl ⟨by rfl, ?_⟩) ?_ ?_
                                                rotate_left
                                                · intro w'
                                                  go_simp
                                                  with_reducible rfl
                                                rotate_left
                                                · simp only [Act.put, List.setIfInBounds_toArray, List.set_cons_zero, List.set_cons_succ, i64_w, i32_w]
                                                  rfl
                                                refine pure_ (i := 6) (N := some 147) (v := ?_) (a' := ?_) #[true, true, true, true, true, true, true, false, false, false, false, false, false, false, false, false, false, false, false, false, false, false, false, false, false, false, false, false, false] rfl rfl (any_of HT_.out (by kernel_rfl)) (fun _ _ _ h => h) (Or.inl ⟨by rfl, ?_⟩) ?_ ?_
                                                rotate_left
                                                · intro w'
                                                  go_simp
                                                  with_reducible rfl
                                                rotate_left
                                                · simp only [Act.put, List.setIfInBounds_toArray, List.set_cons_zero, List.set_cons_succ, i64_w, i32_w]
                                                  rfl
                                                refine pure_ (i := 7) (N := some 148) (v := ?_) (a' := ?_) #[true, true, true, true, true, true, true, true, false, false, false, false, false, false, false, false, false, false, false, false, false, false, false, false, false, false, false, false, false] rfl rfl (any_of HT_.out (by kernel_rfl)) (fun _ _ _ h => h) (Or.inl ⟨by rfl, ?_⟩) ?_ ?_
                                                rotate_left
                                                · intro w'
                                                  go_simp
                                                  with_reducible rfl
                                                rotate_left
                                                · simp only [Act.put, List.setIfInBounds_toArray, List.set_cons_zero, List.set_cons_succ, i64_w, i32_w]
                                                  rfl
                                                refine pure_ (i := 8) (N := some 149) (v := ?_) (a' := ?_) #[true, true, true, true, true, true, true, true, true, false, false, false, false, false, false, false, false, false, false, false, false, false, false, false, false, false, false, false, false] rfl rfl (any_of HT_.out (by kernel_rfl)) (fun _ _ _ h => h) (Or.inl ⟨by rfl, ?_⟩) ?_ ?_
                                                rotate_left
                                                · intro w'
                                                  go_simp
                                                  with_reducible rfl
                                                rotate_left
                                                · simp only [Act.put, List.setIfInBounds_toArray, List.set_cons_zero, List.set_cons_succ, i64_w, i32_w]
                                                  rfl
                                                refine pure_ (i := 9) (N := some 150) (v := ?_) (a' := ?_) #[true, true, true, true, true, true, true, true, true, true, false, false, false, false, false, false, false, false, false, false, false, false, false, false, false, false, false, false, false] rfl rfl (any_of HT_.out (by kernel_rfl)) (fun _ _ _ h => h) (Or.inl ⟨by rfl, ?_⟩) ?_ ?_
                                                rotate_left
                                                · intro w'
                                                  go_simp
                                                  with_reducible rfl
                                                rotate_left
                                                · simp only [Act.put, List.setIfInBounds_toArray, List.set_cons_zero, List.set_cons_succ, i64_w, i32_w]
                                                  rfl
                                                refine pure_ (i := 10) (N := some 151) (v := ?_) (a' := ?_) #[true, true, true, true, true, true, true, true, true, true, true, false, false, false, false, false, false, false, false, false, false, false, false, false, false, false, false, false, false] rfl rfl (any_of HT_.out (by kernel_rfl)) (fun _ _ _ h => h) (Or.inl ⟨by rfl, ?_⟩) ?_ ?_
                                                rotate_left
                                                · intro w'
                                                  go_simp
                                                  with_reducible rfl
                                                rotate_left
                                                · simp only [Act.put, List.setIfInBounds_toArray, List.set_cons_zero, List.set_cons_succ, i64_w, i32_w]
                                                  rfl
                                                refine pure_ (i := 11) (N := some 152) (v := ?_) (a' := ?_) #[true, true, true, true, true, true, true, true, true, true, true, true, false, false, false, false, false, false, false, false, false, false, false, false, false, false, false, false, false] rfl rfl (any_of HT_.out (by kernel_rfl)) (fun _ _ _ h => h) (Or.inl ⟨by rfl, ?_⟩) ?_ ?_
                                                rotate_left
                                                · intro w'
                                                  go_simp
                                                  with_reducible rfl
                                                rotate_left
                                                · simp only [Act.put, List.setIfInBounds_toArray, List.set_cons_zero, List.set_cons_succ, i64_w, i32_w]
                                                  rfl
                                                refine pure_ (i := 12) (N := some 153) (v := ?_) (a' := ?_) #[true, true, true, true, true, true, true, true, true, true, true, true, true, false, false, false, false, false, false, false, false, false, false, false, false, false, false, false, false] rfl rfl (any_of HT_.out (by kernel_rfl)) (fun _ _ _ h => h) (Or.inl ⟨by rfl, ?_⟩) ?_ ?_
                                                rotate_left
                                                · intro w'
                                                  go_simp
                                                  with_reducible rfl
                                                rotate_left
                                                · simp only [Act.put, List.setIfInBounds_toArray, List.set_cons_zero, List.set_cons_succ, i64_w, i32_w]
                                                  rfl
                                                refine pure_ (i := 13) (N := some 154) (v := ?_) (a' := ?_) #[true, true, true, true, true, true, true, true, true, true, true, true, true, true, false, false, false, false, false, false, false, false, false, false, false, false, false, false, false] rfl rfl (any_of HT_.out (by kernel_rfl)) (fun _ _ _ h => h) (Or.inl ⟨by rfl, ?_⟩) ?_ ?_
                                                rotate_left
                                                · intro w'
                                                  go_simp
                                                  with_reducible rfl
                                                rotate_left
                                                · simp only [Act.put, List.setIfInBounds_toArray, List.set_cons_zero, List.set_cons_succ, i64_w, i32_w]
                                                  rfl
                                                refine pure_ (i := 14) (N := some 155) (v := ?_) (a' := ?_) #[true, true, true, true, true, true, true, true, true, true, true, true, true, true, true, false, false, false, false, false, false, false, false, false, false, false, false, false, false] rfl rfl (any_of HT_.out (by kernel_rfl)) (fun _ _ _ h => h) (Or.inl ⟨by rfl, ?_⟩) ?_ ?_
                                                rotate_left
                                                · intro w'
                                                  go_simp
                                                  with_reducible rfl
                                                rotate_left
                                                · simp only [Act.put, List.setIfInBounds_toArray, List.set_cons_zero, List.set_cons_succ, i64_w, i32_w]
                                                  rfl
                                                refine pure_ (i := 15) (N := some 156) (v := undef) (a' := ?_) #[true, true, true, true, true, true, true, true, true, true, true, true, true, true, true, true, false, false, false, false, false, false, false, false, false, false, false, false, false] rfl rfl (any_of HT_.out (by kernel_rfl)) (fun _ _ _ h => h) (Or.inr ⟨by rfl, rfl⟩) ?_ ?_
                                                rotate_left
                                                · simp only [Act.put, List.setIfInBounds_toArray, List.set_cons_zero, List.set_cons_succ, i64_w, i32_w]
                                                  rfl
                                                refine pure_ (i := 16) (N := some 157) (v := undef) (a' := ?_) #[true, true, true, true, true, true, true, true, true, true, true, true, true, true, true, true, true, false, false, false, false, false, false, false, false, false, false, false, false] rfl rfl (any_of HT_.out (by kernel_rfl)) (fun _ _ _ h => h) (Or.inr ⟨by rfl, rfl⟩) ?_ ?_
                                                rotate_left
                                                · simp only [Act.put, List.setIfInBounds_toArray, List.set_cons_zero, List.set_cons_succ, i64_w, i32_w]
                                                  rfl
                                                refine pure_ (i := 17) (N := some 158) (v := undef) (a' := ?_) #[true, true, true, true, true, true, true, true, true, true, true, true, true, true, true, true, true, true, false, false, false, false, false, false, false, false, false, false, false] rfl rfl (any_of HT_.out (by kernel_rfl)) (fun _ _ _ h => h) (Or.inr ⟨by rfl, rfl⟩) ?_ ?_
                                                rotate_left
                                                · simp only [Act.put, List.setIfInBounds_toArray, List.set_cons_zero, List.set_cons_succ, i64_w, i32_w]
                                                  rfl
                                                refine pure_ (i := 18) (N := some 159) (v := undef) (a' := ?_) #[true, true, true, true, true, true, true, true, true, true, true, true, true, true, true, true, true, true, true, false, false, false, false, false, false, false, false, false, false] rfl rfl (any_of HT_.out (by kernel_rfl)) (fun _ _ _ h => h) (Or.inr ⟨by rfl, rfl⟩) ?_ ?_
                                                rotate_left
                                                · simp only [Act.put, List.setIfInBounds_toArray, List.set_cons_zero, List.set_cons_succ, i64_w, i32_w]
                                                  rfl
                                                refine pure_ (i := 19) (N := some 160) (v := undef) (a' := ?_) #[true, true, true, true, true, true, true, true, true, true, true, true, true, true, true, true, true, true, true, true, false, false, false, false, false, false, false, false, false] rfl rfl (any_of HT_.out (by kernel_rfl)) (fun _ _ _ h => h) (Or.inr ⟨by rfl, rfl⟩) ?_ ?_
                                                rotate_left
                                                · simp only [Act.put, List.setIfInBounds_toArray, List.set_cons_zero, List.set_cons_succ, i64_w, i32_w]
                                                  rfl
                                                refine pure_ (i := 20) (N := some 161) (v := undef) (a' := ?_) #[true, true, true, true, true, true, true, true, true, true, true, true, true, true, true, true, true, true, true, true, true, false, false, false, false, false, false, false, false] rfl rfl (any_of HT_.out (by kernel_rfl)) (fun _ _ _ h => h) (Or.inr ⟨by rfl, rfl⟩) ?_ ?_
                                                rotate_left
                                                · simp only [Act.put, List.setIfInBounds_toArray, List.set_cons_zero, List.set_cons_succ, i64_w, i32_w]
                                                  rfl
                                                refine pure_ (i := 21) (N := some 162) (v := undef) (a' := ?_) #[true, true, true, true, true, true, true, true, true, true, true, true, true, true, true, true, true, true, true, true, true, true, false, false, false, false, false, false, false] rfl rfl (any_of HT_.out (by kernel_rfl)) (fun _ _ _ h => h) (Or.inr ⟨by rfl, rfl⟩) ?_ ?_
                                                rotate_left
                                                · simp only [Act.put, List.setIfInBounds_toArray, List.set_cons_zero, List.set_cons_succ, i64_w, i32_w]
                                                  rfl
                                                refine pure_ (i := 22) (N := some 163) (v := undef) (a' := ?_) #[true, true, true, true, true, true, true, true, true, true, true, true, true, true, true, true, true, true, true, true, true, true, true, false, false, false, false, false, false] rfl rfl (any_of HT_.out (by kernel_rfl)) (fun _ _ _ h => h) (Or.inr ⟨by rfl, rfl⟩) ?_ ?_
                                                rotate_left
                                                · simp only [Act.put, List.setIfInBounds_toArray, List.set_cons_zero, List.set_cons_succ, i64_w, i32_w]
                                                  rfl
                                                refine pure_ (i := 23) (N := some 164) (v := undef) (a' := ?_) #[true, true, true, true, true, true, true, true, true, true, true, true, true, true, true, true, true, true, true, true, true, true, true, true, false, false, false, false, false] rfl rfl (any_of HT_.out (by kernel_rfl)) (fun _ _ _ h => h) (Or.inr ⟨by rfl, rfl⟩) ?_ ?_
                                                rotate_left
                                                · simp only [Act.put, List.setIfInBounds_toArray, List.set_cons_zero, List.set_cons_succ, i64_w, i32_w]
                                                  rfl
                                                refine pure_ (i := 24) (N := some 165) (v := undef) (a' := ?_) #[true, true, true, true, true, true, true, true, true, true, true, true, true, true, true, true, true, true, true, true, true, true, true, true, true, false, false, false, false] rfl rfl (any_of HT_.out (by kernel_rfl)) (fun _ _ _ h => h) (Or.inr ⟨by rfl, rfl⟩) ?_ ?_
                                                rotate_left
                                                · simp only [Act.put, List.setIfInBounds_toArray, List.set_cons_zero, List.set_cons_succ, i64_w, i32_w]
                                                  rfl
                                                refine pure_ (i := 25) (N := some 166) (v := undef) (a' := ?_) #[true, true, true, true, true, true, true, true, true, true, true, true, true, true, true, true, true, true, true, true, true, true, true, true, true, true, false, false, false] rfl rfl (any_of HT_.out (by kernel_rfl)) (fun _ _ _ h => h) (Or.inr ⟨by rfl, rfl⟩) ?_ ?_
                                                rotate_left
                                                · simp only [Act.put, List.setIfInBounds_toArray, List.set_cons_zero, List.set_cons_succ, i64_w, i32_w]
                                                  rfl
                                                refine pure_ (i := 26) (N := some 167) (v := undef) (a' := ?_) #[true, true, true, true, true, true, true, true, true, true, true, true, true, true, true, true, true, true, true, true, true, true, true, true, true, true, true, false, false] rfl rfl (any_of HT_.out (by kernel_rfl)) (fun _ _ _ h => h) (Or.inr ⟨by rfl, rfl⟩) ?_ ?_
                                                rotate_left
                                                · simp only [Act.put, List.setIfInBounds_toArray, List.set_cons_zero, List.set_cons_succ, i64_w, i32_w]
                                                  rfl
                                                refine pure_ (i := 27) (N := some 168) (v := undef) (a' := ?_) #[true, true, true, true, true, true, true, true, true, true, true, true, true, true, true, true, true, true, true, true, true, true, true, true, true, true, true, true, false] rfl rfl (any_of HT_.out (by kernel_rfl)) (fun _ _ _ h => h) (Or.inr ⟨by rfl, rfl⟩) ?_ ?_
                                                rotate_left
                                                · simp only [Act.put, List.setIfInBounds_toArray, List.set_cons_zero, List.set_cons_succ, i64_w, i32_w]
                                                  rfl
                                                refine pure_ (i := 28) (N := some 169) (v := ?_) (a' := ?_) #[true, true, true, true, true, true, true, true, true, true, true, true, true, true, true, true, true, true, true, true, true, true, true, true, true, true, true, true, true] rfl rfl (any_of HT_.out (by kernel_rfl)) (fun _ _ _ h => h) (Or.inl ⟨by rfl, ?_⟩) ?_ ?_
                                                rotate_left
                                                · intro w'
                                                  go_simp
                                                  with_reducible rfl
                                                rotate_left
                                                · simp only [Act.put, List.setIfInBounds_toArray, List.set_cons_zero, List.set_cons_succ, i64_w, i32_w]
                                                  rfl
                                                refine done_ (done_of HT_.out (by kernel_rfl)) ?_
                                                try go_wp2
                                                go_meet
                                                case rel => exact ⟨_, (x17_7), zF', H', ⟨by have := HJ2.out; have := HJ14.out; have := HK3.out; have := HJ41.out; have := HK5.out; have := HJ54.out; have := HK7.out; first | omega | exact Nat.le_refl _⟩, ⟨by (with_reducible repeat (first | apply Kd.R_alloc | apply Kd.R_drewN | apply Kd.R_drew)); exact HO_6.out⟩, ⟨by (with_reducible repeat (first | apply Kd.R_alloc | apply Kd.R_drewN | apply Kd.R_drew)); exact HO_177000.out⟩, ⟨by (with_reducible repeat (first | apply Kd.R_alloc | apply Kd.R_drewN | apply Kd.R_drew)); exact HO_177001.out⟩, ⟨zBK⟩, ⟨zHB⟩⟩
                                            · rw [if_neg c62] at H
                                              have c62b0 := decide_eq_false c62
                                              clear c62
                                              (first | rw [c62b0] | (simp only [i64_w, i32_w]; rw [c62b0]) | skip)
                                              have H' := Aside0.mk H
                                              clear H
                                              try go_wp2
                                              refine zs (Kd.R_drew HO_6.out) (zs (Kd.R_drew HO_177000.out) (zs (Kd.R_drew HO_177001.out) (zs (blk_drew BK176.out) (zs (below_drew1 HB.out) ?_))))
                                              clear HO_6 HO_177000 HO_177001 BK176 HB
                                              intro HB BK176 HO_177001 HO_177000 HO_6
                                              refine start_ (n := 29) (S := fun w' => True) (ds := []) #[false, false, false, false, false, false, false, false, false, false, false, false, false, false, false, false, false, false, false, false, false, false, false, false, false, false, false, false, false] (by kernel_rfl) rfl rfl trivial (fun hHeld => ?_); refine with_tabW pleatlaw17_CommonRows.tab22 pleatlaw17_CommonRows.bits22 (fun HT_ HW_ => ?_)
                                              generalize wr.drew = w72 at HO_6 HO_177000 HO_177001 BK176 HB hHeld ⊢
                                              refine pure_ (i := 0) (N := some 141) (v := ?_) (a' := ?_) #[true, false, false, false, false, false, false, false, false, false, false, false, false, false, false, false, false, false, false, false, false, false, false, false, false, false, false, false, false] rfl rfl (any_of HT_.out (by kernel_rfl)) (fun _ _ _ h => h) (Or.inl ⟨by rfl, ?_⟩) ?_ ?_
                                              rotate_left
                                              · intro w'
                                                go_simp
                                                with_reducible rfl
                                              rotate_left
                                              · simp only [Act.put, List.setIfInBounds_toArray, List.set_cons_zero, List.set_cons_succ, i64_w, i32_w]
                                                rfl
                                              refine pure_ (i := 1) (N := some 142) (v := ?_) (a' := ?_) #[true, true, false, false, false, false, false, false, false, false, false, false, false, false, false, false, false, false, false, false, false, false, false, false, false, false, false, false, false] rfl rfl (any_of HT_.out (by kernel_rfl)) (fun _ _ _ h => h) (Or.inl ⟨by rfl, ?_⟩) ?_ ?_
                                              rotate_left
                                              · intro w'
                                                go_simp
                                                with_reducible rfl
                                              rotate_left
                                              · simp only [Act.put, List.setIfInBounds_toArray, List.set_cons_zero, List.set_cons_succ, i64_w, i32_w]
                                                rfl
                                              refine pure_ (i := 2) (N := some 143) (v := ?_) (a' := ?_) #[true, true, true, false, false, false, false, false, false, false, false, false, false, false, false, false, false, false, false, false, false, false, false, false, false, false, false, false, false] rfl rfl (any_of HT_.out (by kernel_rfl)) (fun _ _ _ h => h) (Or.inl ⟨by rfl, ?_⟩) ?_ ?_
                                              rotate_left
                                              · intro w'
                                                go_simp
                                                with_reducible rfl
                                              rotate_left
                                              · simp only [Act.put, List.setIfInBounds_toArray, List.set_cons_zero, List.set_cons_succ, i64_w, i32_w]
                                                rfl
                                              refine pure_ (i := 3) (N := some 144) (v := ?_) (a' := ?_) #[true, true, true, true, false, false, false, false, false, false, false, false, false, false, false, false, false, false, false, false, false, false, false, false, false, false, false, false, false] rfl rfl (any_of HT_.out (by kernel_rfl)) (fun _ _ _ h => h) (Or.inl ⟨by rfl, ?_⟩) ?_ ?_
                                              rotate_left
                                              · intro w'
                                                go_simp
                                                with_reducible rfl
                                              rotate_left
                                              · simp only [Act.put, List.setIfInBounds_toArray, List.set_cons_zero, List.set_cons_succ, i64_w, i32_w]
                                                rfl
                                              refine pure_ (i := 4) (N := some 145) (v := ?_) (a' := ?_) #[true, true, true, true, true, false, false, false, false, false, false, false, false, false, false, false, false, false, false, false, false, false, false, false, false, false, false, false, false] rfl rfl (any_of HT_.out (by kernel_rfl)) (fun _ _ _ h => h) (Or.inl ⟨by rfl, ?_⟩) ?_ ?_
                                              rotate_left
                                              · intro w'
                                                go_simp
                                                with_reducible rfl
                                              rotate_left
                                              · simp only [Act.put, List.setIfInBounds_toArray, List.set_cons_zero, List.set_cons_succ, i64_w, i32_w]
                                                rfl
                                              refine pure_ (i := 5) (N := some 146) (v := ?_) (a' := ?_) #[true, true, true, true, true, true, false, false, false, false, false, false, false, false, false, false, false, false, false, false, false, false, false, false, false, false, false, false, false] rfl rfl (any_of HT_.out (by kernel_rfl)) (fun _ _ _ h => h) (Or.inl ⟨by rfl, ?_⟩) ?_ ?_
                                              rotate_left
                                              · intro w'
                                                go_simp
                                                with_reducible rfl
                                              rotate_left
                                              · simp only [Act.put, List.setIfInBounds_toArray, List.set_cons_zero, List.set_cons_succ, i64_w, i32_w]
                                                rfl
                                              refine pure_ (i := 6) (N := some 147) (v := ?_) (a' := ?_) #[true, true, true, true, true, true, true, false, false, false, false, false, false, false, false, false, false, false, false, false, false, false, false, false, false, false, false, false, false] rfl rfl (any_of HT_.out (by kernel_rfl)) (fun _ _ _ h => h) (Or.inl ⟨by rfl, ?_⟩) ?_ ?_
                                              rotate_left
                                              · intro w'
                                                go_simp
                                                with_reducible rfl
                                              rotate_left
                                              · simp only [Act.put, List.setIfInBounds_toArray, List.set_cons_zero, List.set_cons_succ, i64_w, i32_w]
                                                rfl
                                              refine pure_ (i := 7) (N := some 148) (v := undef) (a' := ?_) #[true, true, true, true, true, true, true, true, false, false, false, false, false, false, false, false, false, false, false, false, false, false, false, false, false, false, false, false, false] rfl rfl (any_of HT_.out (by kernel_rfl)) (fun _ _ _ h => h) (Or.inr ⟨by rfl, rfl⟩) ?_ ?_
                                              rotate_left
                                              · simp only [Act.put, List.setIfInBounds_toArray, List.set_cons_zero, List.set_cons_succ, i64_w, i32_w]
                                                rfl
                                              refine pure_ (i := 8) (N := some 149) (v := undef) (a' := ?_) #[true, true, true, true, true, true, true, true, true, false, false, false, false, false, false, false, false, false, false, false, false, false, false, false, false, false, false, false, false] rfl rfl (any_of HT_.out (by kernel_rfl)) (fun _ _ _ h => h) (Or.inr ⟨by rfl, rfl⟩) ?_ ?_
                                              rotate_left
                                              · simp only [Act.put, List.setIfInBounds_toArray, List.set_cons_zero, List.set_cons_succ, i64_w, i32_w]
                                                rfl
                                              refine pure_ (i := 9) (N := some 150) (v := undef) (a' := ?_) #[true, true, true, true, true, true, true, true, true, true, false, false, false, false, false, false, false, false, false, false, false, false, false, false, false, false, false, false, false] rfl rfl (any_of HT_.out (by kernel_rfl)) (fun _ _ _ h => h) (Or.inr ⟨by rfl, rfl⟩) ?_ ?_
                                              rotate_left
                                              · simp only [Act.put, List.setIfInBounds_toArray, List.set_cons_zero, List.set_cons_succ, i64_w, i32_w]
                                                rfl
                                              refine pure_ (i := 10) (N := some 151) (v := undef) (a' := ?_) #[true, true, true, true, true, true, true, true, true, true, true, false, false, false, false, false, false, false, false, false, false, false, false, false, false, false, false, false, false] rfl rfl (any_of HT_.out (by kernel_rfl)) (fun _ _ _ h => h) (Or.inr ⟨by rfl, rfl⟩) ?_ ?_
                                              rotate_left
                                              · simp only [Act.put, List.setIfInBounds_toArray, List.set_cons_zero, List.set_cons_succ, i64_w, i32_w]
                                                rfl
                                              refine pure_ (i := 11) (N := some 152) (v := undef) (a' := ?_) #[true, true, true, true, true, true, true, true, true, true, true, true, false, false, false, false, false, false, false, false, false, false, false, false, false, false, false, false, false] rfl rfl (any_of HT_.out (by kernel_rfl)) (fun _ _ _ h => h) (Or.inr ⟨by rfl, rfl⟩) ?_ ?_
                                              rotate_left
                                              · simp only [Act.put, List.setIfInBounds_toArray, List.set_cons_zero, List.set_cons_succ, i64_w, i32_w]
                                                rfl
                                              refine pure_ (i := 12) (N := some 153) (v := undef) (a' := ?_) #[true, true, true, true, true, true, true, true, true, true, true, true, true, false, false, false, false, false, false, false, false, false, false, false, false, false, false, false, false] rfl rfl (any_of HT_.out (by kernel_rfl)) (fun _ _ _ h => h) (Or.inr ⟨by rfl, rfl⟩) ?_ ?_
                                              rotate_left
                                              · simp only [Act.put, List.setIfInBounds_toArray, List.set_cons_zero, List.set_cons_succ, i64_w, i32_w]
                                                rfl
                                              refine pure_ (i := 13) (N := some 154) (v := ?_) (a' := ?_) #[true, true, true, true, true, true, true, true, true, true, true, true, true, true, false, false, false, false, false, false, false, false, false, false, false, false, false, false, false] rfl rfl (any_of HT_.out (by kernel_rfl)) (fun _ _ _ h => h) (Or.inl ⟨by rfl, ?_⟩) ?_ ?_
                                              rotate_left
                                              · intro w'
                                                go_simp
                                                with_reducible rfl
                                              rotate_left
                                              · simp only [Act.put, List.setIfInBounds_toArray, List.set_cons_zero, List.set_cons_succ, i64_w, i32_w]
                                                rfl
                                              refine pure_ (i := 14) (N := some 155) (v := ?_) (a' := ?_) #[true, true, true, true, true, true, true, true, true, true, true, true, true, true, true, false, false, false, false, false, false, false, false, false, false, false, false, false, false] rfl rfl (any_of HT_.out (by kernel_rfl)) (fun _ _ _ h => h) (Or.inl ⟨by rfl, ?_⟩) ?_ ?_
                                              rotate_left
                                              · intro w'
                                                go_simp
                                                with_reducible rfl
                                              rotate_left
                                              · simp only [Act.put, List.setIfInBounds_toArray, List.set_cons_zero, List.set_cons_succ, i64_w, i32_w]
                                                rfl
                                              refine pure_ (i := 15) (N := some 156) (v := undef) (a' := ?_) #[true, true, true, true, true, true, true, true, true, true, true, true, true, true, true, true, false, false, false, false, false, false, false, false, false, false, false, false, false] rfl rfl (any_of HT_.out (by kernel_rfl)) (fun _ _ _ h => h) (Or.inr ⟨by rfl, rfl⟩) ?_ ?_
                                              rotate_left
                                              · simp only [Act.put, List.setIfInBounds_toArray, List.set_cons_zero, List.set_cons_succ, i64_w, i32_w]
                                                rfl
                                              refine pure_ (i := 16) (N := some 157) (v := undef) (a' := ?_) #[true, true, true, true, true, true, true, true, true, true, true, true, true, true, true, true, true, false, false, false, false, false, false, false, false, false, false, false, false] rfl rfl (any_of HT_.out (by kernel_rfl)) (fun _ _ _ h => h) (Or.inr ⟨by rfl, rfl⟩) ?_ ?_
                                              rotate_left
                                              · simp only [Act.put, List.setIfInBounds_toArray, List.set_cons_zero, List.set_cons_succ, i64_w, i32_w]
                                                rfl
                                              refine pure_ (i := 17) (N := some 158) (v := undef) (a' := ?_) #[true, true, true, true, true, true, true, true, true, true, true, true, true, true, true, true, true, true, false, false, false, false, false, false, false, false, false, false, false] rfl rfl (any_of HT_.out (by kernel_rfl)) (fun _ _ _ h => h) (Or.inr ⟨by rfl, rfl⟩) ?_ ?_
                                              rotate_left
                                              · simp only [Act.put, List.setIfInBounds_toArray, List.set_cons_zero, List.set_cons_succ, i64_w, i32_w]
                                                rfl
                                              refine pure_ (i := 18) (N := some 159) (v := undef) (a' := ?_) #[true, true, true, true, true, true, true, true, true, true, true, true, true, true, true, true, true, true, true, false, false, false, false, false, false, false, false, false, false] rfl rfl (any_of HT_.out (by kernel_rfl)) (fun _ _ _ h => h) (Or.inr ⟨by rfl, rfl⟩) ?_ ?_
                                              rotate_left
                                              · simp only [Act.put, List.setIfInBounds_toArray, List.set_cons_zero, List.set_cons_succ, i64_w, i32_w]
                                                rfl
                                              refine pure_ (i := 19) (N := some 160) (v := undef) (a' := ?_) #[true, true, true, true, true, true, true, true, true, true, true, true, true, true, true, true, true, true, true, true, false, false, false, false, false, false, false, false, false] rfl rfl (any_of HT_.out (by kernel_rfl)) (fun _ _ _ h => h) (Or.inr ⟨by rfl, rfl⟩) ?_ ?_
                                              rotate_left
                                              · simp only [Act.put, List.setIfInBounds_toArray, List.set_cons_zero, List.set_cons_succ, i64_w, i32_w]
                                                rfl
                                              refine pure_ (i := 20) (N := some 161) (v := undef) (a' := ?_) #[true, true, true, true, true, true, true, true, true, true, true, true, true, true, true, true, true, true, true, true, true, false, false, false, false, false, false, false, false] rfl rfl (any_of HT_.out (by kernel_rfl)) (fun _ _ _ h => h) (Or.inr ⟨by rfl, rfl⟩) ?_ ?_
                                              rotate_left
                                              · simp only [Act.put, List.setIfInBounds_toArray, List.set_cons_zero, List.set_cons_succ, i64_w, i32_w]
                                                rfl
                                              refine pure_ (i := 21) (N := some 162) (v := undef) (a' := ?_) #[true, true, true, true, true, true, true, true, true, true, true, true, true, true, true, true, true, true, true, true, true, true, false, false, false, false, false, false, false] rfl rfl (any_of HT_.out (by kernel_rfl)) (fun _ _ _ h => h) (Or.inr ⟨by rfl, rfl⟩) ?_ ?_
                                              rotate_left
                                              · simp only [Act.put, List.setIfInBounds_toArray, List.set_cons_zero, List.set_cons_succ, i64_w, i32_w]
                                                rfl
                                              refine pure_ (i := 22) (N := some 163) (v := undef) (a' := ?_) #[true, true, true, true, true, true, true, true, true, true, true, true, true, true, true, true, true, true, true, true, true, true, true, false, false, false, false, false, false] rfl rfl (any_of HT_.out (by kernel_rfl)) (fun _ _ _ h => h) (Or.inr ⟨by rfl, rfl⟩) ?_ ?_
                                              rotate_left
                                              · simp only [Act.put, List.setIfInBounds_toArray, List.set_cons_zero, List.set_cons_succ, i64_w, i32_w]
                                                rfl
                                              refine pure_ (i := 23) (N := some 164) (v := undef) (a' := ?_) #[true, true, true, true, true, true, true, true, true, true, true, true, true, true, true, true, true, true, true, true, true, true, true, true, false, false, false, false, false] rfl rfl (any_of HT_.out (by kernel_rfl)) (fun _ _ _ h => h) (Or.inr ⟨by rfl, rfl⟩) ?_ ?_
                                              rotate_left
                                              · simp only [Act.put, List.setIfInBounds_toArray, List.set_cons_zero, List.set_cons_succ, i64_w, i32_w]
                                                rfl
                                              refine pure_ (i := 24) (N := some 165) (v := undef) (a' := ?_) #[true, true, true, true, true, true, true, true, true, true, true, true, true, true, true, true, true, true, true, true, true, true, true, true, true, false, false, false, false] rfl rfl (any_of HT_.out (by kernel_rfl)) (fun _ _ _ h => h) (Or.inr ⟨by rfl, rfl⟩) ?_ ?_
                                              rotate_left
                                              · simp only [Act.put, List.setIfInBounds_toArray, List.set_cons_zero, List.set_cons_succ, i64_w, i32_w]
                                                rfl
                                              refine pure_ (i := 25) (N := some 166) (v := undef) (a' := ?_) #[true, true, true, true, true, true, true, true, true, true, true, true, true, true, true, true, true, true, true, true, true, true, true, true, true, true, false, false, false] rfl rfl (any_of HT_.out (by kernel_rfl)) (fun _ _ _ h => h) (Or.inr ⟨by rfl, rfl⟩) ?_ ?_
                                              rotate_left
                                              · simp only [Act.put, List.setIfInBounds_toArray, List.set_cons_zero, List.set_cons_succ, i64_w, i32_w]
                                                rfl
                                              refine pure_ (i := 26) (N := some 167) (v := undef) (a' := ?_) #[true, true, true, true, true, true, true, true, true, true, true, true, true, true, true, true, true, true, true, true, true, true, true, true, true, true, true, false, false] rfl rfl (any_of HT_.out (by kernel_rfl)) (fun _ _ _ h => h) (Or.inr ⟨by rfl, rfl⟩) ?_ ?_
                                              rotate_left
                                              · simp only [Act.put, List.setIfInBounds_toArray, List.set_cons_zero, List.set_cons_succ, i64_w, i32_w]
                                                rfl
                                              refine pure_ (i := 27) (N := some 168) (v := undef) (a' := ?_) #[true, true, true, true, true, true, true, true, true, true, true, true, true, true, true, true, true, true, true, true, true, true, true, true, true, true, true, true, false] rfl rfl (any_of HT_.out (by kernel_rfl)) (fun _ _ _ h => h) (Or.inr ⟨by rfl, rfl⟩) ?_ ?_
                                              rotate_left
                                              · simp only [Act.put, List.setIfInBounds_toArray, List.set_cons_zero, List.set_cons_succ, i64_w, i32_w]
                                                rfl
                                              refine pure_ (i := 28) (N := some 169) (v := ?_) (a' := ?_) #[true, true, true, true, true, true, true, true, true, true, true, true, true, true, true, true, true, true, true, true, true, true, true, true, true, true, true, true, true] rfl rfl (any_of HT_.out (by kernel_rfl)) (fun _ _ _ h => h) (Or.inl ⟨by rfl, ?_⟩) ?_ ?_
                                              rotate_left
                                              · intro w'
                                                go_simp
                                                with_reducible rfl
                                              rotate_left
                                              · simp only [Act.put, List.setIfInBounds_toArray, List.set_cons_zero, List.set_cons_succ, i64_w, i32_w]
                                                rfl
                                              refine done_ (done_of HT_.out (by kernel_rfl)) ?_
                                              try go_wp2
                                              go_meet
                                              case rel => exact ⟨_, (x17_7), zF', H', ⟨by have := HJ2.out; have := HJ14.out; have := HK3.out; have := HJ41.out; have := HK5.out; have := HJ54.out; have := HK7.out; first | omega | exact Nat.le_refl _⟩, ⟨by (with_reducible repeat (first | apply Kd.R_alloc | apply Kd.R_drewN | apply Kd.R_drew)); exact HO_6.out⟩, ⟨by (with_reducible repeat (first | apply Kd.R_alloc | apply Kd.R_drewN | apply Kd.R_drew)); exact HO_177000.out⟩, ⟨by (with_reducible repeat (first | apply Kd.R_alloc | apply Kd.R_drewN | apply Kd.R_drew)); exact HO_177001.out⟩, ⟨zBK⟩, ⟨zHB⟩⟩
                                      case rest =>
                                       as_aux_lemma =>
                                        clear HC61
                                        try clear c39b0
                                        try clear c50b0
                                        try clear c51
                                        try clear c51b0
                                        try clear c52
                                        try clear c52b0
                                        try clear c53
                                        try clear c53b0
                                        try clear c54
                                        try clear c54b0
                                        try clear hcz21
                                        try clear hcz56
                                        try clear hfz21
                                        try clear hfz56
                                        try clear hx196_0
                                        try clear hx197_0
                                        try clear p196
                                        try clear p197
                                        try clear q196
                                        try clear q197
                                        obtain ⟨kq, x17_60, rfl, HA, HJ60, HO_6, HO_177000, HO_177001, BK176, HB⟩ := hcut
                                        cases kq with
                                        | zero => exact absurd HA.out (by simp [pleatlaw17_CommonRows.j7])
                                        | succ kj60 =>
                                          have H := HA.out
                                          clear HA
                                          simp only [pleatlaw17_CommonRows.j7] at H
                                          replace H := Option.bind_eq_some_iff.mp H
                                          obtain ⟨t200, A730, H⟩ := H
                                          (try dsimp only at H)
                                          have A73 := Aside0.mk A730
                                          clear A730
                                          replace H := Option.bind_eq_some_iff.mp H
                                          obtain ⟨⟨t203, t204⟩, A740, H⟩ := H
                                          (try dsimp only at H)
                                          have A74 := Aside0.mk A740
                                          clear A740
                                          have HC75 := Aside0.mk H
                                          clear H
                                          go_upto_region 25 with (first | ((with_reducible refine gate_callee (f := 20) rfl ?_); refine zGo (N := (some 174)) Try.func20 #[.slice Ao43 t183.length co43] ?_; (with_reducible refine (pleatref00_CopyInts.calls _ _ t183 t200 _ ?side1 ?side2 A73.out).mono ?_); (case side1 => exact zS); (case side2 => exact zS); rintro e w76 ⟨v201, rfl, ho0, hb⟩; refine ⟨_, rfl, ?_⟩; refine zs (Kd.R_elder' (by (with_reducible repeat (first | apply Kd.R_alloc | apply Kd.R_drewN | apply Kd.R_drew)); exact HO_6.out) (Kd.R_base ho0) hb) (zs (Kd.R_elder' (by (with_reducible repeat (first | apply Kd.R_alloc | apply Kd.R_drewN | apply Kd.R_drew)); exact HO_177000.out) (Kd.R_base ho0) hb) (zs (Kd.R_elder' (by (with_reducible repeat (first | apply Kd.R_alloc | apply Kd.R_drewN | apply Kd.R_drew)); exact HO_177001.out) (Kd.R_base ho0) hb) (zs (Kd.R_lower (Kd.R_new' (Kd.R_new' (Kd.R_new' ho0 (Kd.R_lt (by (with_reducible repeat (first | apply Kd.R_alloc | apply Kd.R_drewN | apply Kd.R_drew)); exact HO_6.out))) (Kd.R_lt (by (with_reducible repeat (first | apply Kd.R_alloc | apply Kd.R_drewN | apply Kd.R_drew)); exact HO_177000.out))) (Kd.R_lt (by (with_reducible repeat (first | apply Kd.R_alloc | apply Kd.R_drewN | apply Kd.R_drew)); exact HO_177001.out))) (below_size (zHB))) (zs (blk_below (g := gb176) zBK hb) (zs (below_step (zHB) hb) ?_))))); clear HO_6 HO_177000 HO_177001 BK176 HB; intro HB BK176 HO202 HO_177001 HO_177000 HO_6; clear hb ho0; obtain ⟨Ao77, co77, eo77⟩ := Kd.R_slice HO202.out; subst eo77) | ((with_reducible refine gate_callee (f := 13) rfl ?_); refine zGo (N := (some 177)) Try.func13 #[.slice Ao77 t200.length co77, .int .i64 x10_3, .int .i64 x14_5] ?_; (with_reducible refine (common_Least.calls kj60 _ _ t200 x10_3 x14_5 t203 t204 _ ?side1 ?side2 A74.out).mono ?_); (case side1 => exact zS); (case side2 => exact zS); rintro e w78 ⟨rfl, hb⟩; refine ⟨_, rfl, ?_⟩; refine zs (Kd.R_below (by (with_reducible repeat (first | apply Kd.R_alloc | apply Kd.R_drewN | apply Kd.R_drew)); exact HO_6.out) hb) (zs (Kd.R_below (by (with_reducible repeat (first | apply Kd.R_alloc | apply Kd.R_drewN | apply Kd.R_drew)); exact HO_177000.out) hb) (zs (Kd.R_below (by (with_reducible repeat (first | apply Kd.R_alloc | apply Kd.R_drewN | apply Kd.R_drew)); exact HO_177001.out) hb) (zs (Kd.R_below (by (with_reducible repeat (first | apply Kd.R_alloc | apply Kd.R_drewN | apply Kd.R_drew)); exact HO202.out) hb) (zs (blk_below (g := gb176) zBK hb) (zs (below_step (zHB) hb) ?_))))); clear HO_6 HO_177000 HO_177001 HO202 BK176 HB; intro HB BK176 HO202 HO_177001 HO_177000 HO_6; clear hb))
                                          (try simp only [Act.put, List.setIfInBounds_toArray, List.set_cons_zero, List.set_cons_succ])
                                          go_cut [200] (fun v200 wc => ∃ (kq : Nat) (x200_74 : Bool), v200 = .bool x200_74 ∧ Aside0 (pleatlaw17_CommonRows.j8 kq l0 a1 t183 x10_3 t193 t194 x14_5 x17_60 x200_74 t169 t172 t175 = some r) ∧ Aside0 (kq ≤ kj60) ∧ Aside0 (Kd.R (Kd.int .i64) 3 wc w.heap.size (fun k_ => some k_ ≠ ((.slice (some ad196) t169.length co20) : Value).ownBlock ∧ some k_ ≠ ((.slice Ao22 t172.length co22) : Value).ownBlock) (.slice Ao43 t183.length co43) t183) ∧ Aside0 (Kd.R (Kd.int .i64) 3 wc w.heap.size (fun k_ => some k_ ≠ ((.slice Ao43 t183.length co43) : Value).ownBlock ∧ some k_ ≠ ((.slice Ao22 t172.length co22) : Value).ownBlock) (.slice (some ad196) t169.length co20) t169) ∧ Aside0 (Kd.R (Kd.int .i64) 3 wc w.heap.size (fun k_ => some k_ ≠ ((.slice Ao43 t183.length co43) : Value).ownBlock ∧ some k_ ≠ ((.slice (some ad196) t169.length co20) : Value).ownBlock) (.slice Ao22 t172.length co22) t172) ∧ Aside0 (wc.heap[gb176]? = some (.cells #[(.slice (some ad196) t169.length co20), (.slice Ao22 t172.length co22), .int .i64 t175] 42 (0, 0))) ∧ Aside0 (Below w.heap.size w wc))
                                          case first =>
                                           as_aux_lemma =>
                                            have H := HC75.out
                                            clear HC75
                                            by_cases c79 : t204 = 0
                                            · rw [if_pos c79] at H
                                              have c79b0 := beq_iff_eq.mpr c79
                                              have c79b1 := bne_eq_false_iff_eq.mpr c79
                                              clear c79
                                              (first | rw [c79b0] | (simp only [i64_w, i32_w]; rw [c79b0]) | skip)
                                              by_cases c80 : x10_3 = x14_5
                                              · rw [if_pos c80] at H
                                                have c80b0 := beq_iff_eq.mpr c80
                                                have c80b1 := bne_eq_false_iff_eq.mpr c80
                                                clear c80
                                                have H' := Aside0.mk H
                                                clear H
                                                go_wp2
                                                go_meet
                                                case rel => exact ⟨_, ((t203 != (-1))), zF', H', ⟨by have := HJ2.out; have := HJ14.out; have := HK3.out; have := HJ41.out; have := HK5.out; have := HJ54.out; have := HJ60.out; first | omega | exact Nat.le_refl _⟩, ⟨by (with_reducible repeat (first | apply Kd.R_alloc | apply Kd.R_drewN | apply Kd.R_drew)); exact Kd.R_mono HO_6.out (fun _ hk => ⟨hk.1.1, hk.1.2⟩)⟩, ⟨by (with_reducible repeat (first | apply Kd.R_alloc | apply Kd.R_drewN | apply Kd.R_drew)); exact Kd.R_mono HO_177000.out (fun _ hk => ⟨hk.1.1, hk.1.2⟩)⟩, ⟨by (with_reducible repeat (first | apply Kd.R_alloc | apply Kd.R_drewN | apply Kd.R_drew)); exact Kd.R_mono HO_177001.out (fun _ hk => ⟨hk.1.1, hk.1.2⟩)⟩, ⟨zBK⟩, ⟨zHB⟩⟩
                                              · rw [if_neg c80] at H
                                                have c80b0 := beq_eq_false_iff_ne.mpr c80
                                                have c80b1 := bne_iff_ne.mpr c80
                                                by_cases c81 : t203 = x17_60
                                                · rw [if_pos c81] at H
                                                  have c81b0 := beq_iff_eq.mpr c81
                                                  have c81b1 := bne_eq_false_iff_eq.mpr c81
                                                  clear c81
                                                  have H' := Aside0.mk H
                                                  clear H
                                                  go_wp2
                                                  go_meet
                                                  case rel => exact ⟨_, (false), zF', H', ⟨by have := HJ2.out; have := HJ14.out; have := HK3.out; have := HJ41.out; have := HK5.out; have := HJ54.out; have := HJ60.out; first | omega | exact Nat.le_refl _⟩, ⟨by (with_reducible repeat (first | apply Kd.R_alloc | apply Kd.R_drewN | apply Kd.R_drew)); exact Kd.R_mono HO_6.out (fun _ hk => ⟨hk.1.1, hk.1.2⟩)⟩, ⟨by (with_reducible repeat (first | apply Kd.R_alloc | apply Kd.R_drewN | apply Kd.R_drew)); exact Kd.R_mono HO_177000.out (fun _ hk => ⟨hk.1.1, hk.1.2⟩)⟩, ⟨by (with_reducible repeat (first | apply Kd.R_alloc | apply Kd.R_drewN | apply Kd.R_drew)); exact Kd.R_mono HO_177001.out (fun _ hk => ⟨hk.1.1, hk.1.2⟩)⟩, ⟨zBK⟩, ⟨zHB⟩⟩
                                                · rw [if_neg c81] at H
                                                  have c81b0 := beq_eq_false_iff_ne.mpr c81
                                                  have c81b1 := bne_iff_ne.mpr c81
                                                  have H' := Aside0.mk H
                                                  clear H
                                                  go_wp2
                                                  go_meet
                                                  case rel => exact ⟨_, (true), zF', H', ⟨by have := HJ2.out; have := HJ14.out; have := HK3.out; have := HJ41.out; have := HK5.out; have := HJ54.out; have := HJ60.out; first | omega | exact Nat.le_refl _⟩, ⟨by (with_reducible repeat (first | apply Kd.R_alloc | apply Kd.R_drewN | apply Kd.R_drew)); exact Kd.R_mono HO_6.out (fun _ hk => ⟨hk.1.1, hk.1.2⟩)⟩, ⟨by (with_reducible repeat (first | apply Kd.R_alloc | apply Kd.R_drewN | apply Kd.R_drew)); exact Kd.R_mono HO_177000.out (fun _ hk => ⟨hk.1.1, hk.1.2⟩)⟩, ⟨by (with_reducible repeat (first | apply Kd.R_alloc | apply Kd.R_drewN | apply Kd.R_drew)); exact Kd.R_mono HO_177001.out (fun _ hk => ⟨hk.1.1, hk.1.2⟩)⟩, ⟨zBK⟩, ⟨zHB⟩⟩
                                            · rw [if_neg c79] at H
                                              have c79b0 := beq_eq_false_iff_ne.mpr c79
                                              have c79b1 := bne_iff_ne.mpr c79
                                              (first | rw [c79b0] | (simp only [i64_w, i32_w]; rw [c79b0]) | skip)
                                              have H' := Aside0.mk H
                                              clear H
                                              go_wp2
                                              go_meet
                                              case rel => exact ⟨_, (true), zF', H', ⟨by have := HJ2.out; have := HJ14.out; have := HK3.out; have := HJ41.out; have := HK5.out; have := HJ54.out; have := HJ60.out; first | omega | exact Nat.le_refl _⟩, ⟨by (with_reducible repeat (first | apply Kd.R_alloc | apply Kd.R_drewN | apply Kd.R_drew)); exact Kd.R_mono HO_6.out (fun _ hk => ⟨hk.1.1, hk.1.2⟩)⟩, ⟨by (with_reducible repeat (first | apply Kd.R_alloc | apply Kd.R_drewN | apply Kd.R_drew)); exact Kd.R_mono HO_177000.out (fun _ hk => ⟨hk.1.1, hk.1.2⟩)⟩, ⟨by (with_reducible repeat (first | apply Kd.R_alloc | apply Kd.R_drewN | apply Kd.R_drew)); exact Kd.R_mono HO_177001.out (fun _ hk => ⟨hk.1.1, hk.1.2⟩)⟩, ⟨zBK⟩, ⟨zHB⟩⟩
                                          case rest =>
                                           as_aux_lemma =>
                                            clear HC75
                                            try clear c39b0
                                            try clear c50b0
                                            try clear c51
                                            try clear c51b0
                                            try clear c52
                                            try clear c52b0
                                            try clear c53
                                            try clear c53b0
                                            try clear c54
                                            try clear c54b0
                                            try clear hcz21
                                            try clear hcz56
                                            try clear hfz21
                                            try clear hfz56
                                            try clear hx196_0
                                            try clear hx197_0
                                            try clear p196
                                            try clear p197
                                            try clear q196
                                            try clear q197
                                            obtain ⟨kq, x200_74, rfl, HA, HJ74, HO_6, HO_177000, HO_177001, BK176, HB⟩ := hcut
                                            cases kq with
                                            | zero => exact absurd HA.out (by simp [pleatlaw17_CommonRows.j8])
                                            | succ kj74 =>
                                              have H := HA.out
                                              clear HA
                                              simp only [pleatlaw17_CommonRows.j8] at H
                                              by_cases c82 : x200_74 = true
                                              · subst c82
                                                rw [if_pos rfl] at H
                                                obtain rfl := Option.some.inj H
                                                go_wp2
                                                go_ret
                                                exact ⟨zE, zHB⟩
                                              · replace c82 := Bool.eq_false_iff.mpr c82
                                                subst c82
                                                rw [if_neg (show ¬ (false = true) by decide)] at H
                                                by_cases c83 : x14_5 ≥ t193
                                                · rw [if_pos c83] at H
                                                  have c83b0 : decide (t193 ≤ x14_5) = true := decide_eq_true c83
                                                  clear c83
                                                  by_cases c84 : x17_60 ≥ a1
                                                  · rw [if_pos c84] at H
                                                    have c84b0 : decide (a1 ≤ x17_60) = true := decide_eq_true c84
                                                    clear c84
                                                    by_cases c85 : ((decide (x14_5 < t194)) != true) = true
                                                    · rw [if_pos c85] at H
                                                      have c85b0 : ((decide (x14_5 < t194)) != true) = true := c85
                                                      (try (have c85b1 : decide ((decide (x14_5 < t194)) = true) = false := by simpa using c85))
                                                      (try (have c85b2 : ((decide (x14_5 < t194)) == true) = false := by simpa using c85))
                                                      (try (have c85b3 : ¬ ((decide (x14_5 < t194)) = true) := by simpa using c85))
                                                      (try (have c85b4 : (!((decide (x14_5 < t194)) == true)) = true := by have h_ : ∀ P_ Q_ : Bool, (!(P_ == Q_)) = (P_ != Q_) := (by decide); first | exact (h_ _ _).trans c85 | exact (h_ _ _).trans (Bool.eq_false_iff.mpr c85) | (rw [h_]; simpa using c85)))
                                                      clear c85
                                                      obtain rfl := Option.some.inj H
                                                      go_wp2
                                                      go_ret
                                                      exact ⟨zE, zHB⟩
                                                    · rw [if_neg c85] at H
                                                      have c85b0 : ((decide (x14_5 < t194)) != true) = false := by simpa using c85
                                                      (try (have c85b1 : decide ((decide (x14_5 < t194)) = true) = true := by simpa using c85))
                                                      (try (have c85b2 : ((decide (x14_5 < t194)) == true) = true := by simpa using c85))
                                                      (try (have c85b3 : (!((decide (x14_5 < t194)) == true)) = false := by have h_ : ∀ P_ Q_ : Bool, (!(P_ == Q_)) = (P_ != Q_) := (by decide); first | exact (h_ _ _).trans c85 | exact (h_ _ _).trans (Bool.eq_false_iff.mpr c85) | (rw [h_]; simpa using c85)))
                                                      clear c85
                                                      have H' := Aside0.mk H
                                                      clear H
                                                      go_wp2
                                                      go_roundg kj74
                                                      case measure => have := HJ2.out; have := HJ14.out; have := HK3.out; have := HJ41.out; have := HK5.out; have := HJ54.out; have := HJ60.out; have := HJ74.out; omega
                                                      case rel => exact ⟨(wrap64 (x14_5 + 1)), zF', H', ⟨by have := HJ2.out; have := HJ14.out; have := HK3.out; have := HJ41.out; have := HK5.out; have := HJ54.out; have := HJ60.out; have := HJ74.out; omega⟩, ⟨by (with_reducible repeat (first | apply Kd.R_alloc | apply Kd.R_drewN | apply Kd.R_drew)); exact HO_6.out⟩, ⟨by (with_reducible repeat (first | apply Kd.R_alloc | apply Kd.R_drewN | apply Kd.R_drew)); exact HO_177000.out⟩, ⟨by (with_reducible repeat (first | apply Kd.R_alloc | apply Kd.R_drewN | apply Kd.R_drew)); exact HO_177001.out⟩, ⟨zBK⟩, ⟨zHB⟩⟩
                                                  · rw [if_neg c84] at H
                                                    have c84b0 : decide (a1 ≤ x17_60) = false := decide_eq_false c84
                                                    clear c84
                                                    by_cases c86 : ((decide (x14_5 < t194)) != (x10_3 == x14_5)) = true
                                                    · rw [if_pos c86] at H
                                                      have c86b0 : ((decide (x14_5 < t194)) != (x10_3 == x14_5)) = true := c86
                                                      (try (have c86b1 : decide ((decide (x14_5 < t194)) = (x10_3 == x14_5)) = false := by simpa using c86))
                                                      (try (have c86b2 : ((decide (x14_5 < t194)) == (x10_3 == x14_5)) = false := by simpa using c86))
                                                      (try (have c86b3 : ¬ ((decide (x14_5 < t194)) = (x10_3 == x14_5)) := by simpa using c86))
                                                      (try (have c86b4 : (!((decide (x14_5 < t194)) == (x10_3 == x14_5))) = true := by have h_ : ∀ P_ Q_ : Bool, (!(P_ == Q_)) = (P_ != Q_) := (by decide); first | exact (h_ _ _).trans c86 | exact (h_ _ _).trans (Bool.eq_false_iff.mpr c86) | (rw [h_]; simpa using c86)))
                                                      clear c86
                                                      obtain rfl := Option.some.inj H
                                                      go_wp2
                                                      go_ret
                                                      exact ⟨zE, zHB⟩
                                                    · rw [if_neg c86] at H
                                                      have c86b0 : ((decide (x14_5 < t194)) != (x10_3 == x14_5)) = false := by simpa using c86
                                                      (try (have c86b1 : decide ((decide (x14_5 < t194)) = (x10_3 == x14_5)) = true := by simpa using c86))
                                                      (try (have c86b2 : ((decide (x14_5 < t194)) == (x10_3 == x14_5)) = true := by simpa using c86))
                                                      (try (have c86b3 : (!((decide (x14_5 < t194)) == (x10_3 == x14_5))) = false := by have h_ : ∀ P_ Q_ : Bool, (!(P_ == Q_)) = (P_ != Q_) := (by decide); first | exact (h_ _ _).trans c86 | exact (h_ _ _).trans (Bool.eq_false_iff.mpr c86) | (rw [h_]; simpa using c86)))
                                                      clear c86
                                                      have H' := Aside0.mk H
                                                      clear H
                                                      go_wp2
                                                      go_roundg kj74
                                                      case measure => have := HJ2.out; have := HJ14.out; have := HK3.out; have := HJ41.out; have := HK5.out; have := HJ54.out; have := HJ60.out; have := HJ74.out; omega
                                                      case rel => exact ⟨(wrap64 (x14_5 + 1)), zF', H', ⟨by have := HJ2.out; have := HJ14.out; have := HK3.out; have := HJ41.out; have := HK5.out; have := HJ54.out; have := HJ60.out; have := HJ74.out; omega⟩, ⟨by (with_reducible repeat (first | apply Kd.R_alloc | apply Kd.R_drewN | apply Kd.R_drew)); exact HO_6.out⟩, ⟨by (with_reducible repeat (first | apply Kd.R_alloc | apply Kd.R_drewN | apply Kd.R_drew)); exact HO_177000.out⟩, ⟨by (with_reducible repeat (first | apply Kd.R_alloc | apply Kd.R_drewN | apply Kd.R_drew)); exact HO_177001.out⟩, ⟨zBK⟩, ⟨zHB⟩⟩
                                                · rw [if_neg c83] at H
                                                  have c83b0 : decide (t193 ≤ x14_5) = false := decide_eq_false c83
                                                  clear c83
                                                  by_cases c87 : x17_60 ≥ a1
                                                  · rw [if_pos c87] at H
                                                    have c87b0 : decide (a1 ≤ x17_60) = true := decide_eq_true c87
                                                    clear c87
                                                    by_cases c88 : (false != true) = true
                                                    · rw [if_pos c88] at H
                                                      have c88b0 : (false != true) = true := c88
                                                      (try (have c88b1 : decide (false = true) = false := by simp))
                                                      (try (have c88b2 : (false == true) = false := by simp))
                                                      (try (have c88b3 : ¬ (false = true) := by simp))
                                                      (try (have c88b4 : (!(false == true)) = true := by have h_ : ∀ P_ Q_ : Bool, (!(P_ == Q_)) = (P_ != Q_) := (by decide); first | exact (h_ _ _).trans c88 | exact (h_ _ _).trans (Bool.eq_false_iff.mpr c88) | (rw [h_]; simpa using c88)))
                                                      clear c88
                                                      obtain rfl := Option.some.inj H
                                                      go_wp2
                                                      go_ret
                                                      exact ⟨zE, zHB⟩
                                                    · rw [if_neg c88] at H
                                                      have c88b0 : (false != true) = false := by simp at c88
                                                      (try (have c88b1 : decide (false = true) = true := by simp at c88))
                                                      (try (have c88b2 : (false == true) = true := by simp at c88))
                                                      (try (have c88b3 : (!(false == true)) = false := by have h_ : ∀ P_ Q_ : Bool, (!(P_ == Q_)) = (P_ != Q_) := (by decide); first | exact (h_ _ _).trans c88 | exact (h_ _ _).trans (Bool.eq_false_iff.mpr c88) | (rw [h_]; simpa using c88)))
                                                      clear c88
                                                      have H' := Aside0.mk H
                                                      clear H
                                                      go_wp2
                                                      go_roundg kj74
                                                      case measure => have := HJ2.out; have := HJ14.out; have := HK3.out; have := HJ41.out; have := HK5.out; have := HJ54.out; have := HJ60.out; have := HJ74.out; omega
                                                      case rel => exact ⟨(wrap64 (x14_5 + 1)), zF', H', ⟨by have := HJ2.out; have := HJ14.out; have := HK3.out; have := HJ41.out; have := HK5.out; have := HJ54.out; have := HJ60.out; have := HJ74.out; omega⟩, ⟨by (with_reducible repeat (first | apply Kd.R_alloc | apply Kd.R_drewN | apply Kd.R_drew)); exact HO_6.out⟩, ⟨by (with_reducible repeat (first | apply Kd.R_alloc | apply Kd.R_drewN | apply Kd.R_drew)); exact HO_177000.out⟩, ⟨by (with_reducible repeat (first | apply Kd.R_alloc | apply Kd.R_drewN | apply Kd.R_drew)); exact HO_177001.out⟩, ⟨zBK⟩, ⟨zHB⟩⟩
                                                  · rw [if_neg c87] at H
                                                    have c87b0 : decide (a1 ≤ x17_60) = false := decide_eq_false c87
                                                    clear c87
                                                    by_cases c89 : (false != (x10_3 == x14_5)) = true
                                                    · rw [if_pos c89] at H
                                                      have c89b0 : (false != (x10_3 == x14_5)) = true := c89
                                                      (try (have c89b1 : decide (false = (x10_3 == x14_5)) = false := by simpa using c89))
                                                      (try (have c89b2 : (false == (x10_3 == x14_5)) = false := by simpa using c89))
                                                      (try (have c89b3 : ¬ (false = (x10_3 == x14_5)) := by simpa using c89))
                                                      (try (have c89b4 : (!(false == (x10_3 == x14_5))) = true := by have h_ : ∀ P_ Q_ : Bool, (!(P_ == Q_)) = (P_ != Q_) := (by decide); first | exact (h_ _ _).trans c89 | exact (h_ _ _).trans (Bool.eq_false_iff.mpr c89) | (rw [h_]; simpa using c89)))
                                                      clear c89
                                                      obtain rfl := Option.some.inj H
                                                      go_wp2
                                                      go_ret
                                                      exact ⟨zE, zHB⟩
                                                    · rw [if_neg c89] at H
                                                      have c89b0 : (false != (x10_3 == x14_5)) = false := by simpa using c89
                                                      (try (have c89b1 : decide (false = (x10_3 == x14_5)) = true := by simpa using c89))
                                                      (try (have c89b2 : (false == (x10_3 == x14_5)) = true := by simpa using c89))
                                                      (try (have c89b3 : (!(false == (x10_3 == x14_5))) = false := by have h_ : ∀ P_ Q_ : Bool, (!(P_ == Q_)) = (P_ != Q_) := (by decide); first | exact (h_ _ _).trans c89 | exact (h_ _ _).trans (Bool.eq_false_iff.mpr c89) | (rw [h_]; simpa using c89)))
                                                      clear c89
                                                      have H' := Aside0.mk H
                                                      clear H
                                                      go_wp2
                                                      go_roundg kj74
                                                      case measure => have := HJ2.out; have := HJ14.out; have := HK3.out; have := HJ41.out; have := HK5.out; have := HJ54.out; have := HJ60.out; have := HJ74.out; omega
                                                      case rel => exact ⟨(wrap64 (x14_5 + 1)), zF', H', ⟨by have := HJ2.out; have := HJ14.out; have := HK3.out; have := HJ41.out; have := HK5.out; have := HJ54.out; have := HJ60.out; have := HJ74.out; omega⟩, ⟨by (with_reducible repeat (first | apply Kd.R_alloc | apply Kd.R_drewN | apply Kd.R_drew)); exact HO_6.out⟩, ⟨by (with_reducible repeat (first | apply Kd.R_alloc | apply Kd.R_drewN | apply Kd.R_drew)); exact HO_177000.out⟩, ⟨by (with_reducible repeat (first | apply Kd.R_alloc | apply Kd.R_drewN | apply Kd.R_drew)); exact HO_177001.out⟩, ⟨zBK⟩, ⟨zHB⟩⟩
                              · rw [if_neg c50] at H
                                have c50b0 := decide_eq_false c50
                                clear c50
                                have H' := Aside0.mk H
                                clear H
                                go_wp2
                                go_roundg k5
                                case measure => have := HJ2.out; have := HJ14.out; have := HK3.out; have := HJ41.out; have := HK5.out; omega
                                case rel => exact ⟨(wrap64 (x10_3 + 1)), zF', H', ⟨by have := HJ2.out; have := HJ14.out; have := HK3.out; have := HJ41.out; have := HK5.out; omega⟩, ⟨by (with_reducible repeat (first | apply Kd.R_alloc | apply Kd.R_drewN | apply Kd.R_drew)); exact HO_6.out⟩, ⟨by (with_reducible repeat (first | apply Kd.R_alloc | apply Kd.R_drewN | apply Kd.R_drew)); exact HO_177000.out⟩, ⟨by (with_reducible repeat (first | apply Kd.R_alloc | apply Kd.R_drewN | apply Kd.R_drew)); exact HO_177001.out⟩, ⟨zBK⟩, ⟨zHB⟩⟩
                  · rw [if_neg c39] at H
                    have c39b0 := decide_eq_false c39
                    clear c39
                    replace H := Option.bind_eq_some_iff.mp H
                    obtain ⟨t189, A900, H⟩ := H
                    (try dsimp only at H)
                    have A90 := Aside0.mk A900
                    clear A900
                    obtain rfl := Option.some.inj H
                    go_wp2_with (first | ((with_reducible refine gate_callee (f := 11) rfl ?_); refine zGo (N := (some 218)) Try.func11 #[] ?_; (with_reducible refine (pleatlaw17_lives.calls k3  t189 _ A90.out).mono ?_); rintro e w91 ⟨rfl, hb⟩; refine ⟨_, rfl, ?_⟩; refine zs (Kd.R_below (by (with_reducible repeat (first | apply Kd.R_alloc | apply Kd.R_drewN | apply Kd.R_drew)); exact HO_6.out) hb) (zs (Kd.R_below (by (with_reducible repeat (first | apply Kd.R_alloc | apply Kd.R_drewN | apply Kd.R_drew)); exact HO_177000.out) hb) (zs (Kd.R_below (by (with_reducible repeat (first | apply Kd.R_alloc | apply Kd.R_drewN | apply Kd.R_drew)); exact HO_177001.out) hb) (zs (blk_below (g := gb176) zBK hb) (zs (below_step (zHB) hb) ?_)))); clear HO_6 HO_177000 HO_177001 BK176 HB; intro HB BK176 HO_177001 HO_177000 HO_6; clear hb))
                    go_ret
                    exact ⟨zE, zHB⟩

/-- THE ONE PURE STATEMENT of pleatlaw17_CommonRows: yours. -/
def pleatlaw17_CommonRows.Pure : Prop := ∀ (l0 : List Int) (a1 : Int), l0.length ≤ maxLen → l0.length * 8 ≤ 140737488351232 → (∀ x ∈ l0, (Lit.int .i64 x).wf = true) → (Lit.int .i64 a1).wf = true → ∃ k, pleatlaw17_CommonRows.f k l0 a1 = some true
theorem pleatlaw17_CommonRows.walk (P : pleatlaw17_CommonRows.Pure) (a0 : Option Addr) (len0 cap0 : Nat) (z0 : List Int) (a1 : Int) (w : World) (w0 : (a0 = none ∧ len0 = 0 ∧ cap0 = 0 ∧ z0 = []) ∨ ∃ x, a0 = some x ∧ len0 ≤ cap0 ∧ cap0 ≤ maxLen ∧ z0.length = cap0 ∧ (∀ i, i < z0.length → w.cell? (x.add i) = some (.int .i64 (z0.getD i 0))) ∧ ∀ n ∈ z0, (Lit.int .i64 n).wf = true) (y0 : len0 * 8 ≤ 140737488351232) (w1 : (Lit.int .i64 a1).wf = true) :
    Calls Try.prog 5 #[.slice a0 len0 cap0, .int .i64 a1] w fun e w' => e = .returned (.bool true) ∧ Below w.heap.size w w' := by
  obtain ⟨l0, rfl, hr0, hm0, hw0, hc0⟩ := ReadsInt.ofRowC w0
  obtain ⟨k, h⟩ := P l0 a1 hm0 y0 hw0 w1
  refine (pleatlaw17_CommonRows.calls k _ _ l0 a1 true w (Kd.C_of_reads (d := (0 : Int)) (h1 := fun _ => rfl) hr0) hc0 h).mono ?_
  rintro e w' ⟨rfl, hd⟩
  exact ⟨rfl, hd⟩

end Go.Proofs.Ythkiapcoagjjpaa.PCommonRows
