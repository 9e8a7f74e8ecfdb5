-- SLIM: printed, then laid small (wip/tools/slimclaim.py).
import Derived.Test.YtfgdjpgdabjpmaaPEdgeListsx0
namespace Go.Proofs.Ytfgdjpgdabjpmaa.PEdgeLists
open Go.RowKit Go.Proofs.YtfgdjpgdabjpmaaW.PrintWords Go.Proofs.YtfgdjpgdabjpmaaW.PrintLast Go.Proofs.YtfgdjpgdabjpmaaW.PrintMore
attribute [local go_sem] max2_int min2_int max_two min_two max_three min_three max_four min_four   -- for this text's walks alone
set_option linter.unusedVariables false
set_option linter.unusedSimpArgs false
def pleatref00_EqBools.l0 : Nat → List Bool → List Bool → Int → Option (Bool)
 | 0, _, _, _ => none
 | k + 1, x0, x1, x5 => if x5 < (x0.length : Int) then (if 0 ≤ x5 then (if x5 < (x1.length : Int) then (if ((rdOf false x0 x5) != (rdOf false x1 x5)) = true then (some false) else (pleatref00_EqBools.l0 k x0 x1 (wrap64 (x5 + 1)))) else (none)) else (none)) else (some true)
def pleatref00_EqBools.f (k : Nat) (l0 : List Bool) (l1 : List Bool) : Option (Bool) := if (l0.length : Int) = (l1.length : Int) then (pleatref00_EqBools.l0 k l0 l1 0) else (some false)
theorem pleatref00_EqBools.mono_l : ∀ k, (∀ y0 y1 y2, LeO (pleatref00_EqBools.l0 k y0 y1 y2) (pleatref00_EqBools.l0 (k + 1) y0 y1 y2))
 | 0 => fun _ _ _ r h => by simp [pleatref00_EqBools.l0] at h
 | k + 1 => by
  have ih0 := pleatref00_EqBools.mono_l k
  ·intro y0 y1 y2
   unfold pleatref00_EqBools.l0
   repeat' first
   | (with_reducible exact ih0 _ _ _)
   | (with_reducible exact LeO.refl _)
   | (with_reducible exact LeO.none _)
   | (with_reducible refine LeO.ite ?_ ?_)
   | (with_reducible refine LeO.bind ?_ (fun _ => ?_))
   | exact ih0 _ _ _
   | exact LeO.none _
   | refine LeO.ite ?_ ?_
   | refine LeO.bind ?_ (fun _ => ?_)
theorem pleatref00_EqBools.mono : ∀ a0 a1 k, LeO (pleatref00_EqBools.f k a0 a1) (pleatref00_EqBools.f (k + 1) a0 a1) := by
 intro a0 a1 k;have ih0 := pleatref00_EqBools.mono_l k
 unfold pleatref00_EqBools.f
 repeat' first
   | (with_reducible exact ih0 _ _ _)
   | (with_reducible exact LeO.refl _)
   | (with_reducible exact LeO.none _)
   | (with_reducible refine LeO.ite ?_ ?_)
   | (with_reducible refine LeO.bind ?_ (fun _ => ?_))
   | exact ih0 _ _ _
   | exact LeO.none _
   | refine LeO.ite ?_ ?_
   | refine LeO.bind ?_ (fun _ => ?_)
set_option maxHeartbeats 8000000 in
set_option maxRecDepth 100000 in
theorem pleatref00_EqBools.calls (k : Nat) (A0 : Option Addr) (c0 : Nat) (l0 : List Bool) (A1 : Option Addr) (c1 : Nat) (l1 : List Bool) (r : Bool) (w : World) (hr0 : Kd.C Kd.bool w A0 l0.length l0) (hc0 : l0.length ≤ c0) (hr1 : Kd.C Kd.bool w A1 l1.length l1) (hc1 : l1.length ≤ c1) (h : pleatref00_EqBools.f k l0 l1 = some r) :
  Calls Try.prog 36 #[.slice A0 l0.length c0, .slice A1 l1.length c1] w fun e w' => e = .returned (.bool r) ∧ Drawn0 w w' := by
 have HR0 := zA hr0;have HC0 := zA hc0;clear hr0 hc0;have HR1 := zA hr1;have HC1 := zA hc1;clear hr1 hc1;have H : (if (l0.length : Int) = (l1.length : Int) then (pleatref00_EqBools.l0 k l0 l1 0) else (some false)) = some r := h;clear h
 by_cases c3 : (l0.length : Int) = (l1.length : Int)
 ·rw [if_pos c3] at H;have c3b0 : ((l0.length : Int) == (l1.length : Int)) = true := beq_iff_eq.mpr c3;have c3b1 : ((l0.length : Int) != (l1.length : Int)) = false := zne c3
  have c3b2 : (l0.length == l1.length) = true := by first | simpa using c3 | (simp at c3 ⊢; omega)
  clear c3;have H' := zA H;clear H
  go_enter Try.func36, Try.ntmps36
  go_wp2
  repeat (go_quiet (fail); try go_wp2)
  go_loopg [5] k (fun kq v5 w' => ∃ (x5_1 : Int), v5 = .int .i64 x5_1 ∧ Aside0 (pleatref00_EqBools.l0 kq l0 l1 x5_1 = some r) ∧ Aside0 (kq ≤ k) ∧ Drawn0 w w')
  case atStart => exact ⟨(0), (by first | rfl | (simp; done) | (simp [*]; done)), H', ⟨Nat.le_refl _⟩, by repeat (first | exact Drawn0.refl _ | apply Drawn0.step)⟩
  case round =>
   clear H';(try clear c1);(try clear p2);(try clear c3);(try clear c3b0);(try clear c3b1);(try clear c3b2);obtain ⟨x5_1, rfl, HA, HK1, ⟨m1, rfl⟩⟩ := hrel
   cases gk with
   | zero => exact absurd HA.out (by simp [pleatref00_EqBools.l0])
   | succ k1 =>
    have H := HA.out;clear HA;simp only [pleatref00_EqBools.l0] at H
    by_cases c4 : x5_1 < (l0.length : Int)
    ·rw [if_pos c4] at H;have c4b0 : decide (x5_1 < (l0.length : Int)) = true := decide_eq_true c4;clear c4
     by_cases c5 : 0 ≤ x5_1
     ·rw [if_pos c5] at H;have c5b0 : decide (0 ≤ x5_1) = true := decide_eq_true c5;clear c5
      by_cases c6 : x5_1 < (l1.length : Int)
      ·rw [if_pos c6] at H;have c6b0 : decide (x5_1 < (l1.length : Int)) = true := decide_eq_true c6;clear c6
       by_cases c7 : ((rdOf false l0 x5_1) != (rdOf false l1 x5_1)) = true
       ·rw [if_pos c7] at H;have c7b0 : ((rdOf false l0 x5_1) != (rdOf false l1 x5_1)) = true := c7;(try (have c7b1 : decide ((rdOf false l0 x5_1) = (rdOf false l1 x5_1)) = false := by simpa using c7));(try (have c7b2 : ((rdOf false l0 x5_1) == (rdOf false l1 x5_1)) = false := by simpa using c7));(try (have c7b3 : ¬ ((rdOf false l0 x5_1) = (rdOf false l1 x5_1)) := by simpa using c7));(try (have c7b4 : (!((rdOf false l0 x5_1) == (rdOf false l1 x5_1))) = true := by have h_ : ∀ P_ Q_ : Bool, (!(P_ == Q_)) = (P_ != Q_) := (by decide); first | exact (h_ _ _).trans c7 | exact (h_ _ _).trans (Bool.eq_false_iff.mpr c7) | (rw [h_]; simpa using c7)));clear c7;obtain rfl := zj H;have p309 : 0 ≤ (x5_1 : Int) := zo (by first | (with_reducible assumption) | assumption);have q309 : x5_1 < (l0.length : Int) := zo (by first | (with_reducible assumption) | assumption);obtain ⟨ad309, e309, hx309_0⟩ := Kd.at_bool HR0.out x5_1 p309 q309
        cases e309
        replace p309 := eq_true p309;replace q309 := eq_true q309;have p310 : 0 ≤ (x5_1 : Int) := zo (by first | (with_reducible assumption) | assumption);have q310 : x5_1 < (l1.length : Int) := zo (by first | (with_reducible assumption) | assumption);obtain ⟨ad310, e310, hx310_0⟩ := Kd.at_bool HR1.out x5_1 p310 q310
        cases e310
        replace p310 := eq_true p310;replace q310 := eq_true q310
        go_wp2
        repeat (go_quiet (fail); try go_wp2)
        go_ret
        exact ⟨by first | rfl | (simp; done) | (simp [*]; done), by repeat (first | exact Drawn0.refl _ | apply Drawn0.step)⟩
       ·rw [if_neg c7] at H
        have c7b0 : ((rdOf false l0 x5_1) != (rdOf false l1 x5_1)) = false := by simpa using c7
        (try (have c7b1 : decide ((rdOf false l0 x5_1) = (rdOf false l1 x5_1)) = true := by simpa using c7));(try (have c7b2 : ((rdOf false l0 x5_1) == (rdOf false l1 x5_1)) = true := by simpa using c7));(try (have c7b3 : (!((rdOf false l0 x5_1) == (rdOf false l1 x5_1))) = false := by have h_ : ∀ P_ Q_ : Bool, (!(P_ == Q_)) = (P_ != Q_) := (by decide); first | exact (h_ _ _).trans c7 | exact (h_ _ _).trans (Bool.eq_false_iff.mpr c7) | (rw [h_]; simpa using c7)));clear c7;have H' := zA H;clear H;have p309 : 0 ≤ (x5_1 : Int) := zo (by first | (with_reducible assumption) | assumption);have q309 : x5_1 < (l0.length : Int) := zo (by first | (with_reducible assumption) | assumption);obtain ⟨ad309, e309, hx309_0⟩ := Kd.at_bool HR0.out x5_1 p309 q309
        cases e309
        replace p309 := eq_true p309;replace q309 := eq_true q309;have p310 : 0 ≤ (x5_1 : Int) := zo (by first | (with_reducible assumption) | assumption);have q310 : x5_1 < (l1.length : Int) := zo (by first | (with_reducible assumption) | assumption);obtain ⟨ad310, e310, hx310_0⟩ := Kd.at_bool HR1.out x5_1 p310 q310
        cases e310
        replace p310 := eq_true p310;replace q310 := eq_true q310
        go_wp2
        repeat (go_quiet (fail); try go_wp2)
        go_roundg k1
        case measure => have := HK1.out; omega
        case rel => exact ⟨(wrap64 (x5_1 + 1)), (by first | rfl | (simp; done) | (simp [*]; done)), H', ⟨by have := HK1.out; omega⟩, by repeat (first | exact Drawn0.refl _ | apply Drawn0.step)⟩
      ·rw [if_neg c6] at H;exact absurd H (by simp)
     ·rw [if_neg c5] at H;exact absurd H (by simp)
    ·rw [if_neg c4] at H;have c4b0 : decide (x5_1 < (l0.length : Int)) = false := decide_eq_false c4;clear c4;obtain rfl := zj H
     go_wp2
     repeat (go_quiet (fail); try go_wp2)
     go_ret
     exact ⟨by first | rfl | (simp; done) | (simp [*]; done), by repeat (first | exact Drawn0.refl _ | apply Drawn0.step)⟩
 ·rw [if_neg c3] at H;have c3b0 : ((l0.length : Int) == (l1.length : Int)) = false := zbe c3;have c3b1 : ((l0.length : Int) != (l1.length : Int)) = true := bne_iff_ne.mpr c3
  have c3b2 : (l0.length == l1.length) = false := by first | simpa using c3 | (simp at c3 ⊢; omega)
  obtain rfl := zj H
  go_enter Try.func36, Try.ntmps36
  go_wp2
  repeat (go_quiet (fail); try go_wp2)
  go_ret
  exact ⟨by first | rfl | (simp; done) | (simp [*]; done), by repeat (first | exact Drawn0.refl _ | apply Drawn0.step)⟩
def pleatref11_Of.l0 : Nat → List (S84) → Int → Int → Option (Int)
 | 0, _, _, _ => none
 | k + 1, x0, x1, x5 => if x5 < (x0.length : Int) then (if 0 ≤ x5 then (if ((rd_T84 x0 x5).f0) ≤ x1 then (if x1 < ((rd_T84 x0 x5).f1) then (some x5) else (pleatref11_Of.l0 k x0 x1 (wrap64 (x5 + 1)))) else (pleatref11_Of.l0 k x0 x1 (wrap64 (x5 + 1)))) else (none)) else (some (-1))
def pleatref11_Of.f (k : Nat) (l0 : List (S84)) (a1 : Int) : Option (Int) := pleatref11_Of.l0 k l0 a1 0
theorem pleatref11_Of.mono_l : ∀ k, (∀ y0 y1 y2, LeO (pleatref11_Of.l0 k y0 y1 y2) (pleatref11_Of.l0 (k + 1) y0 y1 y2))
 | 0 => fun _ _ _ r h => by simp [pleatref11_Of.l0] at h
 | k + 1 => by
  have ih0 := pleatref11_Of.mono_l k
  ·intro y0 y1 y2
   unfold pleatref11_Of.l0
   repeat' first
   | (with_reducible exact ih0 _ _ _)
   | (with_reducible exact LeO.refl _)
   | (with_reducible exact LeO.none _)
   | (with_reducible refine LeO.ite ?_ ?_)
   | (with_reducible refine LeO.bind ?_ (fun _ => ?_))
   | exact ih0 _ _ _
   | exact LeO.none _
   | refine LeO.ite ?_ ?_
   | refine LeO.bind ?_ (fun _ => ?_)
theorem pleatref11_Of.mono : ∀ a0 a1 k, LeO (pleatref11_Of.f k a0 a1) (pleatref11_Of.f (k + 1) a0 a1) := by
 intro a0 a1 k;have ih0 := pleatref11_Of.mono_l k
 unfold pleatref11_Of.f
 repeat' first
   | (with_reducible exact ih0 _ _ _)
   | (with_reducible exact LeO.refl _)
   | (with_reducible exact LeO.none _)
   | (with_reducible refine LeO.ite ?_ ?_)
   | (with_reducible refine LeO.bind ?_ (fun _ => ?_))
   | exact ih0 _ _ _
   | exact LeO.none _
   | refine LeO.ite ?_ ?_
   | refine LeO.bind ?_ (fun _ => ?_)
set_option maxHeartbeats 8000000 in
set_option maxRecDepth 100000 in
theorem pleatref11_Of.calls (k : Nat) (A0 : Option Addr) (c0 : Nat) (l0 : List (S84)) (a1 : Int) (r : Int) (w : World) (hr0 : Kd.C k84 w A0 l0.length l0) (hc0 : l0.length ≤ c0) (h : pleatref11_Of.f k l0 a1 = some r) :
  Calls Try.prog 91 #[.slice A0 l0.length c0, .int .i64 a1] w fun e w' => e = .returned (.int .i64 r) ∧ Drawn0 w w' := by
 have HR0 := zA hr0;have HC0 := zA hc0;clear hr0 hc0;have H : (pleatref11_Of.l0 k l0 a1 0) = some r := h;clear h;have H' := zA H;clear H
 go_enter Try.func91, Try.ntmps91
 go_wp2
 go_loopg [5] k (fun kq v5 w' => ∃ (x5_1 : Int), v5 = .int .i64 x5_1 ∧ Aside0 (pleatref11_Of.l0 kq l0 a1 x5_1 = some r) ∧ Aside0 (kq ≤ k) ∧ Drawn0 w w')
 case atStart => exact ⟨(0), (by first | rfl | (simp; done) | (simp [*]; done)), H', ⟨Nat.le_refl _⟩, by repeat (first | exact Drawn0.refl _ | apply Drawn0.step)⟩
 case round =>
  clear H';(try clear p2);obtain ⟨x5_1, rfl, HA, HK1, ⟨m1, rfl⟩⟩ := hrel
  cases gk with
  | zero => exact absurd HA.out (by simp [pleatref11_Of.l0])
  | succ k1 =>
   have H := HA.out;clear HA;simp only [pleatref11_Of.l0] at H
   by_cases c3 : x5_1 < (l0.length : Int)
   ·rw [if_pos c3] at H;have c3b0 : decide (x5_1 < (l0.length : Int)) = true := decide_eq_true c3;clear c3
    by_cases c4 : 0 ≤ x5_1
    ·rw [if_pos c4] at H;have c4b0 : decide (0 ≤ x5_1) = true := decide_eq_true c4;clear c4
     by_cases c5 : ((rd_T84 l0 x5_1).f0) ≤ a1
     ·rw [if_pos c5] at H;have c5b0 : decide (((rd_T84 l0 x5_1).f0) ≤ a1) = true := decide_eq_true c5;clear c5
      by_cases c6 : a1 < ((rd_T84 l0 x5_1).f1)
      ·rw [if_pos c6] at H;have c6b0 : decide (a1 < ((rd_T84 l0 x5_1).f1)) = true := decide_eq_true c6;clear c6;obtain rfl := zj H;have p311 : 0 ≤ (x5_1 : Int) := zo (by first | (with_reducible assumption) | assumption);have q311 : x5_1 < (l0.length : Int) := zo (by first | (with_reducible assumption) | assumption);obtain ⟨ad311, e311, hx311_0, hx311_1⟩ := at_T84 HR0.out x5_1 p311 q311
       cases e311
       replace p311 := eq_true p311;replace q311 := eq_true q311;have p312 : 0 ≤ (x5_1 : Int) := zo (by first | (with_reducible assumption) | assumption);have q312 : x5_1 < (l0.length : Int) := zo (by first | (with_reducible assumption) | assumption);obtain ⟨ad312, e312, hx312_0, hx312_1⟩ := at_T84 HR0.out x5_1 p312 q312;obtain rfl : ad311 = ad312 := (by injection e312);replace p312 := eq_true p312;replace q312 := eq_true q312
       go_wp2
       go_ret
       exact ⟨by first | rfl | (simp; done) | (simp [*]; done), by repeat (first | exact Drawn0.refl _ | apply Drawn0.step)⟩
      ·rw [if_neg c6] at H;have c6b0 : decide (a1 < ((rd_T84 l0 x5_1).f1)) = false := decide_eq_false c6;clear c6;have H' := zA H;clear H;have p311 : 0 ≤ (x5_1 : Int) := zo (by first | (with_reducible assumption) | assumption);have q311 : x5_1 < (l0.length : Int) := zo (by first | (with_reducible assumption) | assumption);obtain ⟨ad311, e311, hx311_0, hx311_1⟩ := at_T84 HR0.out x5_1 p311 q311
       cases e311
       replace p311 := eq_true p311;replace q311 := eq_true q311;have p312 : 0 ≤ (x5_1 : Int) := zo (by first | (with_reducible assumption) | assumption);have q312 : x5_1 < (l0.length : Int) := zo (by first | (with_reducible assumption) | assumption);obtain ⟨ad312, e312, hx312_0, hx312_1⟩ := at_T84 HR0.out x5_1 p312 q312;obtain rfl : ad311 = ad312 := (by injection e312);replace p312 := eq_true p312;replace q312 := eq_true q312
       go_wp2
       go_roundg k1
       case measure => have := HK1.out; omega
       case rel => exact ⟨(wrap64 (x5_1 + 1)), (by first | rfl | (simp; done) | (simp [*]; done)), H', ⟨by have := HK1.out; omega⟩, by repeat (first | exact Drawn0.refl _ | apply Drawn0.step)⟩
     ·rw [if_neg c5] at H;have c5b0 : decide (((rd_T84 l0 x5_1).f0) ≤ a1) = false := decide_eq_false c5;clear c5;have H' := zA H;clear H;have p311 : 0 ≤ (x5_1 : Int) := zo (by first | (with_reducible assumption) | assumption);have q311 : x5_1 < (l0.length : Int) := zo (by first | (with_reducible assumption) | assumption);obtain ⟨ad311, e311, hx311_0, hx311_1⟩ := at_T84 HR0.out x5_1 p311 q311
      cases e311
      replace p311 := eq_true p311;replace q311 := eq_true q311
      go_wp2
      go_roundg k1
      case measure => have := HK1.out; omega
      case rel => exact ⟨(wrap64 (x5_1 + 1)), (by first | rfl | (simp; done) | (simp [*]; done)), H', ⟨by have := HK1.out; omega⟩, by repeat (first | exact Drawn0.refl _ | apply Drawn0.step)⟩
    ·rw [if_neg c4] at H;exact absurd H (by simp)
   ·rw [if_neg c3] at H;have c3b0 : decide (x5_1 < (l0.length : Int)) = false := decide_eq_false c3;clear c3;obtain rfl := zj H
    go_wp2
    go_ret
    exact ⟨by first | rfl | (simp; done) | (simp [*]; done), by repeat (first | exact Drawn0.refl _ | apply Drawn0.step)⟩
end Go.Proofs.Ytfgdjpgdabjpmaa.PEdgeLists
