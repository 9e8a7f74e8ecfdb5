-- Written for this claim by a program of this session (wip/tools/pp.py, over the kit's print).
import Derived.Test.YtfgdjpgdabjpmaaPNumberSamex0
import Derived.Test.YtfgdjpgdabjpmaaPNumberSamex5
import Derived.Test.YtfgdjpgdabjpmaaPNumberSamex7
import Derived.Test.YtfgdjpgdabjpmaaPNumberSamex10
import Derived.Test.YtfgdjpgdabjpmaaPNumberSamex11
namespace Go.Proofs.Ytfgdjpgdabjpmaa.PNumberSame
open Go.RowKit Go.Proofs.YtfgdjpgdabjpmaaW.PrintWords Go.Proofs.YtfgdjpgdabjpmaaW.PrintLast Go.Proofs.YtfgdjpgdabjpmaaW.PrintMore
attribute [local go_sem] max2_int min2_int max_two min_two max_three min_three max_four min_four   -- for this text's walks alone
set_option linter.unusedVariables false
set_option linter.unusedSimpArgs false

/-! ### pleatlaw15_NumberSame: function 3 -/
mutual
def pleatlaw15_NumberSame.j0 : Nat → Bool → List Int → Int → List Int → Option (Bool)
  | 0, _, _, _, _ => none
  | k + 1, x31, x233000, x233001, x233002 => if x31 = true then ((pleatlaw15_lives.f k).bind fun t235 => (some t235)) else ((pleatref00_CopyImage.f x233000 x233001 x233002).bind fun bt236 => ((number_Of.f k bt236.1 bt236.2.1 bt236.2.2).bind fun bt243 => (if bt243.2 = 0 then (pleatlaw15_NumberSame.j1 k bt243.1 ((bt243.1.length : Int) != (x233000.length : Int)) x233000 x233001 x233002) else (pleatlaw15_NumberSame.j1 k bt243.1 true x233000 x233001 x233002))))
def pleatlaw15_NumberSame.j1 : Nat → List Int → Bool → List Int → Int → List Int → Option (Bool)
  | 0, _, _, _, _, _ => none
  | k + 1, x5, x48, x233000, x233001, x233002 => if x48 = true then (some false) else (pleatlaw15_NumberSame.l0 k x5 (-1) 0 x233000 x233001 x233002)
def pleatlaw15_NumberSame.l0 : Nat → List Int → Int → Int → List Int → Int → List Int → Option (Bool)
  | 0, _, _, _, _, _, _ => none
  | k + 1, x5, x7, x8, x233000, x233001, x233002 => if x8 < (x5.length : Int) then (if 0 ≤ x8 then (if (rd x5 x8) < 0 then (pleatlaw15_NumberSame.j3 k x5 x7 x8 true x233000 x233001 x233002) else (pleatlaw15_NumberSame.j3 k x5 x7 x8 (decide ((rd x5 x8) > (wrap64 (x7 + 1)))) x233000 x233001 x233002)) else (none)) else ((pleatref00_CopyInts.f x5).bind fun t247 => ((number_Count.f t247).bind fun t250 => (if t250 = (wrap64 (x7 + 1)) then ((pleatlaw15_lives.f k).bind fun t251 => (some t251)) else (some false))))
def pleatlaw15_NumberSame.j3 : Nat → List Int → Int → Int → Bool → List Int → Int → List Int → Option (Bool)
  | 0, _, _, _, _, _, _, _ => none
  | k + 1, x5, x7, x8, x68, x233000, x233001, x233002 => if x68 = true then (some false) else (if 0 ≤ x8 then (if x8 < (x5.length : Int) then (if x8 < (x233000.length : Int) then ((isa_Decode.f k (rd x233000 x8)).bind fun bt256 => (if bt256.2.1 = 15 then (pleatlaw15_NumberSame.j4 k x5 (mx x7 (rd x5 x8)) x8 true x233000 x233001 x233002 bt256.1 bt256.2.1 bt256.2.2.1 bt256.2.2.2.1 bt256.2.2.2.2) else (if bt256.2.2.1 = 15 then (pleatlaw15_NumberSame.j4 k x5 (mx x7 (rd x5 x8)) x8 true x233000 x233001 x233002 bt256.1 bt256.2.1 bt256.2.2.1 bt256.2.2.2.1 bt256.2.2.2.2) else (pleatlaw15_NumberSame.j4 k x5 (mx x7 (rd x5 x8)) x8 (bt256.2.2.2.1 == 15) x233000 x233001 x233002 bt256.1 bt256.2.1 bt256.2.2.1 bt256.2.2.2.1 bt256.2.2.2.2)))) else (none)) else (none)) else (none))
def pleatlaw15_NumberSame.j4 : Nat → List Int → Int → Int → Bool → List Int → Int → List Int → Int → Int → Int → Int → Int → Option (Bool)
  | 0, _, _, _, _, _, _, _, _, _, _, _, _ => none
  | k + 1, x5, x7, x8, x10, x233000, x233001, x233002, x262000, x262001, x262002, x262003, x262004 => if x262000 < 0 then (pleatlaw15_NumberSame.j5 k x5 x7 x8 true x233000 x233001 x233002) else (if x262000 = 16 then (pleatlaw15_NumberSame.j5 k x5 x7 x8 true x233000 x233001 x233002) else (if x10 = true then (pleatlaw15_NumberSame.j5 k x5 x7 x8 (x262000 != 19) x233000 x233001 x233002) else (pleatlaw15_NumberSame.j5 k x5 x7 x8 false x233000 x233001 x233002)))
def pleatlaw15_NumberSame.j5 : Nat → List Int → Int → Int → Bool → List Int → Int → List Int → Option (Bool)
  | 0, _, _, _, _, _, _, _ => none
  | k + 1, x5, x7, x8, x11, x233000, x233001, x233002 => pleatlaw15_NumberSame.l1 k x5 x7 x8 x11 0 x233000 x233001 x233002
def pleatlaw15_NumberSame.l1 : Nat → List Int → Int → Int → Bool → Int → List Int → Int → List Int → Option (Bool)
  | 0, _, _, _, _, _, _, _, _ => none
  | k + 1, x5, x7, x8, x11, x12, x233000, x233001, x233002 => if x12 < x8 then (if 0 ≤ x8 then (if x8 < (x5.length : Int) then (if 0 ≤ x12 then (if x12 < (x5.length : Int) then (if x8 < (x233000.length : Int) then (if x12 < (x233000.length : Int) then (if (rd x233000 x8) = (rd x233000 x12) then (if (((rd x5 x8) == (rd x5 x12)) != (!x11)) = true then (some false) else (pleatlaw15_NumberSame.l1 k x5 x7 x8 x11 (wrap64 (x12 + 1)) x233000 x233001 x233002)) else (if (((rd x5 x8) == (rd x5 x12)) != false) = true then (some false) else (pleatlaw15_NumberSame.l1 k x5 x7 x8 x11 (wrap64 (x12 + 1)) x233000 x233001 x233002))) else (none)) else (none)) else (none)) else (none)) else (none)) else (none)) else (pleatlaw15_NumberSame.l0 k x5 x7 (wrap64 (x8 + 1)) x233000 x233001 x233002)
end
def pleatlaw15_NumberSame.f (k : Nat) (l0_0 : List Int) (a0_1 : Int) (l0_2 : List Int) : Option (Bool) := (pleatref07_Check.f k l0_0 a0_1 l0_2).bind fun bt233 => (if (l0_0.length : Int) > 300 then (pleatlaw15_NumberSame.j0 k true l0_0 a0_1 l0_2) else (if (l0_2.length : Int) > 8192 then (pleatlaw15_NumberSame.j0 k true l0_0 a0_1 l0_2) else (pleatlaw15_NumberSame.j0 k (bt233.1 != 0) l0_0 a0_1 l0_2)))
theorem pleatlaw15_NumberSame.mono_l : ∀ k, (∀ y0 y1 y2 y3, LeO (pleatlaw15_NumberSame.j0 k y0 y1 y2 y3) (pleatlaw15_NumberSame.j0 (k + 1) y0 y1 y2 y3)) ∧ (∀ y0 y1 y2 y3 y4, LeO (pleatlaw15_NumberSame.j1 k y0 y1 y2 y3 y4) (pleatlaw15_NumberSame.j1 (k + 1) y0 y1 y2 y3 y4)) ∧ (∀ y0 y1 y2 y3 y4 y5, LeO (pleatlaw15_NumberSame.l0 k y0 y1 y2 y3 y4 y5) (pleatlaw15_NumberSame.l0 (k + 1) y0 y1 y2 y3 y4 y5)) ∧ (∀ y0 y1 y2 y3 y4 y5 y6, LeO (pleatlaw15_NumberSame.j3 k y0 y1 y2 y3 y4 y5 y6) (pleatlaw15_NumberSame.j3 (k + 1) y0 y1 y2 y3 y4 y5 y6)) ∧ (∀ y0 y1 y2 y3 y4 y5 y6 y7 y8 y9 y10 y11, LeO (pleatlaw15_NumberSame.j4 k y0 y1 y2 y3 y4 y5 y6 y7 y8 y9 y10 y11) (pleatlaw15_NumberSame.j4 (k + 1) y0 y1 y2 y3 y4 y5 y6 y7 y8 y9 y10 y11)) ∧ (∀ y0 y1 y2 y3 y4 y5 y6, LeO (pleatlaw15_NumberSame.j5 k y0 y1 y2 y3 y4 y5 y6) (pleatlaw15_NumberSame.j5 (k + 1) y0 y1 y2 y3 y4 y5 y6)) ∧ (∀ y0 y1 y2 y3 y4 y5 y6 y7, LeO (pleatlaw15_NumberSame.l1 k y0 y1 y2 y3 y4 y5 y6 y7) (pleatlaw15_NumberSame.l1 (k + 1) y0 y1 y2 y3 y4 y5 y6 y7))
  | 0 => ⟨fun _ _ _ _ r h => by simp [pleatlaw15_NumberSame.j0] at h, fun _ _ _ _ _ r h => by simp [pleatlaw15_NumberSame.j1] at h, fun _ _ _ _ _ _ r h => by simp [pleatlaw15_NumberSame.l0] at h, fun _ _ _ _ _ _ _ r h => by simp [pleatlaw15_NumberSame.j3] at h, fun _ _ _ _ _ _ _ _ _ _ _ _ r h => by simp [pleatlaw15_NumberSame.j4] at h, fun _ _ _ _ _ _ _ r h => by simp [pleatlaw15_NumberSame.j5] at h, fun _ _ _ _ _ _ _ _ r h => by simp [pleatlaw15_NumberSame.l1] at h⟩
  | k + 1 => by
    obtain ⟨ih0, ih1, ih2, ih3, ih4, ih5, ih6⟩ := pleatlaw15_NumberSame.mono_l k
    refine ⟨?_, ?_, ?_, ?_, ?_, ?_, ?_⟩
    · intro y0 y1 y2 y3
      unfold pleatlaw15_NumberSame.j0
      repeat' first
      | (with_reducible exact ih0 _ _ _ _)
      | (with_reducible exact ih1 _ _ _ _ _)
      | (with_reducible exact ih2 _ _ _ _ _ _)
      | (with_reducible exact ih3 _ _ _ _ _ _ _)
      | (with_reducible exact ih4 _ _ _ _ _ _ _ _ _ _ _ _)
      | (with_reducible exact ih5 _ _ _ _ _ _ _)
      | (with_reducible exact ih6 _ _ _ _ _ _ _ _)
      | (with_reducible exact isa_Decode.mono _ _)
      | (with_reducible exact number_Of.mono _ _ _ _)
      | (with_reducible exact pleatlaw15_lives.mono _)
      | (with_reducible exact pleatref07_Check.mono _ _ _ _)
      | (with_reducible exact LeO.refl _)
      | (with_reducible exact LeO.none _)
      | (with_reducible refine LeO.ite ?_ ?_)
      | (with_reducible refine LeO.bind ?_ (fun _ => ?_))
      | exact ih0 _ _ _ _
      | exact ih1 _ _ _ _ _
      | exact ih2 _ _ _ _ _ _
      | exact ih3 _ _ _ _ _ _ _
      | exact ih4 _ _ _ _ _ _ _ _ _ _ _ _
      | exact ih5 _ _ _ _ _ _ _
      | exact ih6 _ _ _ _ _ _ _ _
      | exact isa_Decode.mono _ _
      | exact number_Of.mono _ _ _ _
      | exact pleatlaw15_lives.mono _
      | exact pleatref07_Check.mono _ _ _ _
      | exact LeO.none _
      | refine LeO.ite ?_ ?_
      | refine LeO.bind ?_ (fun _ => ?_)
    · intro y0 y1 y2 y3 y4
      unfold pleatlaw15_NumberSame.j1
      repeat' first
      | (with_reducible exact ih0 _ _ _ _)
      | (with_reducible exact ih1 _ _ _ _ _)
      | (with_reducible exact ih2 _ _ _ _ _ _)
      | (with_reducible exact ih3 _ _ _ _ _ _ _)
      | (with_reducible exact ih4 _ _ _ _ _ _ _ _ _ _ _ _)
      | (with_reducible exact ih5 _ _ _ _ _ _ _)
      | (with_reducible exact ih6 _ _ _ _ _ _ _ _)
      | (with_reducible exact isa_Decode.mono _ _)
      | (with_reducible exact number_Of.mono _ _ _ _)
      | (with_reducible exact pleatlaw15_lives.mono _)
      | (with_reducible exact pleatref07_Check.mono _ _ _ _)
      | (with_reducible exact LeO.refl _)
      | (with_reducible exact LeO.none _)
      | (with_reducible refine LeO.ite ?_ ?_)
      | (with_reducible refine LeO.bind ?_ (fun _ => ?_))
      | exact ih0 _ _ _ _
      | exact ih1 _ _ _ _ _
      | exact ih2 _ _ _ _ _ _
      | exact ih3 _ _ _ _ _ _ _
      | exact ih4 _ _ _ _ _ _ _ _ _ _ _ _
      | exact ih5 _ _ _ _ _ _ _
      | exact ih6 _ _ _ _ _ _ _ _
      | exact isa_Decode.mono _ _
      | exact number_Of.mono _ _ _ _
      | exact pleatlaw15_lives.mono _
      | exact pleatref07_Check.mono _ _ _ _
      | exact LeO.none _
      | refine LeO.ite ?_ ?_
      | refine LeO.bind ?_ (fun _ => ?_)
    · intro y0 y1 y2 y3 y4 y5
      unfold pleatlaw15_NumberSame.l0
      repeat' first
      | (with_reducible exact ih0 _ _ _ _)
      | (with_reducible exact ih1 _ _ _ _ _)
      | (with_reducible exact ih2 _ _ _ _ _ _)
      | (with_reducible exact ih3 _ _ _ _ _ _ _)
      | (with_reducible exact ih4 _ _ _ _ _ _ _ _ _ _ _ _)
      | (with_reducible exact ih5 _ _ _ _ _ _ _)
      | (with_reducible exact ih6 _ _ _ _ _ _ _ _)
      | (with_reducible exact isa_Decode.mono _ _)
      | (with_reducible exact number_Of.mono _ _ _ _)
      | (with_reducible exact pleatlaw15_lives.mono _)
      | (with_reducible exact pleatref07_Check.mono _ _ _ _)
      | (with_reducible exact LeO.refl _)
      | (with_reducible exact LeO.none _)
      | (with_reducible refine LeO.ite ?_ ?_)
      | (with_reducible refine LeO.bind ?_ (fun _ => ?_))
      | exact ih0 _ _ _ _
      | exact ih1 _ _ _ _ _
      | exact ih2 _ _ _ _ _ _
      | exact ih3 _ _ _ _ _ _ _
      | exact ih4 _ _ _ _ _ _ _ _ _ _ _ _
      | exact ih5 _ _ _ _ _ _ _
      | exact ih6 _ _ _ _ _ _ _ _
      | exact isa_Decode.mono _ _
      | exact number_Of.mono _ _ _ _
      | exact pleatlaw15_lives.mono _
      | exact pleatref07_Check.mono _ _ _ _
      | exact LeO.none _
      | refine LeO.ite ?_ ?_
      | refine LeO.bind ?_ (fun _ => ?_)
    · intro y0 y1 y2 y3 y4 y5 y6
      unfold pleatlaw15_NumberSame.j3
      repeat' first
      | (with_reducible exact ih0 _ _ _ _)
      | (with_reducible exact ih1 _ _ _ _ _)
      | (with_reducible exact ih2 _ _ _ _ _ _)
      | (with_reducible exact ih3 _ _ _ _ _ _ _)
      | (with_reducible exact ih4 _ _ _ _ _ _ _ _ _ _ _ _)
      | (with_reducible exact ih5 _ _ _ _ _ _ _)
      | (with_reducible exact ih6 _ _ _ _ _ _ _ _)
      | (with_reducible exact isa_Decode.mono _ _)
      | (with_reducible exact number_Of.mono _ _ _ _)
      | (with_reducible exact pleatlaw15_lives.mono _)
      | (with_reducible exact pleatref07_Check.mono _ _ _ _)
      | (with_reducible exact LeO.refl _)
      | (with_reducible exact LeO.none _)
      | (with_reducible refine LeO.ite ?_ ?_)
      | (with_reducible refine LeO.bind ?_ (fun _ => ?_))
      | exact ih0 _ _ _ _
      | exact ih1 _ _ _ _ _
      | exact ih2 _ _ _ _ _ _
      | exact ih3 _ _ _ _ _ _ _
      | exact ih4 _ _ _ _ _ _ _ _ _ _ _ _
      | exact ih5 _ _ _ _ _ _ _
      | exact ih6 _ _ _ _ _ _ _ _
      | exact isa_Decode.mono _ _
      | exact number_Of.mono _ _ _ _
      | exact pleatlaw15_lives.mono _
      | exact pleatref07_Check.mono _ _ _ _
      | exact LeO.none _
      | refine LeO.ite ?_ ?_
      | refine LeO.bind ?_ (fun _ => ?_)
    · intro y0 y1 y2 y3 y4 y5 y6 y7 y8 y9 y10 y11
      unfold pleatlaw15_NumberSame.j4
      repeat' first
      | (with_reducible exact ih0 _ _ _ _)
      | (with_reducible exact ih1 _ _ _ _ _)
      | (with_reducible exact ih2 _ _ _ _ _ _)
      | (with_reducible exact ih3 _ _ _ _ _ _ _)
      | (with_reducible exact ih4 _ _ _ _ _ _ _ _ _ _ _ _)
      | (with_reducible exact ih5 _ _ _ _ _ _ _)
      | (with_reducible exact ih6 _ _ _ _ _ _ _ _)
      | (with_reducible exact isa_Decode.mono _ _)
      | (with_reducible exact number_Of.mono _ _ _ _)
      | (with_reducible exact pleatlaw15_lives.mono _)
      | (with_reducible exact pleatref07_Check.mono _ _ _ _)
      | (with_reducible exact LeO.refl _)
      | (with_reducible exact LeO.none _)
      | (with_reducible refine LeO.ite ?_ ?_)
      | (with_reducible refine LeO.bind ?_ (fun _ => ?_))
      | exact ih0 _ _ _ _
      | exact ih1 _ _ _ _ _
      | exact ih2 _ _ _ _ _ _
      | exact ih3 _ _ _ _ _ _ _
      | exact ih4 _ _ _ _ _ _ _ _ _ _ _ _
      | exact ih5 _ _ _ _ _ _ _
      | exact ih6 _ _ _ _ _ _ _ _
      | exact isa_Decode.mono _ _
      | exact number_Of.mono _ _ _ _
      | exact pleatlaw15_lives.mono _
      | exact pleatref07_Check.mono _ _ _ _
      | exact LeO.none _
      | refine LeO.ite ?_ ?_
      | refine LeO.bind ?_ (fun _ => ?_)
    · intro y0 y1 y2 y3 y4 y5 y6
      unfold pleatlaw15_NumberSame.j5
      repeat' first
      | (with_reducible exact ih0 _ _ _ _)
      | (with_reducible exact ih1 _ _ _ _ _)
      | (with_reducible exact ih2 _ _ _ _ _ _)
      | (with_reducible exact ih3 _ _ _ _ _ _ _)
      | (with_reducible exact ih4 _ _ _ _ _ _ _ _ _ _ _ _)
      | (with_reducible exact ih5 _ _ _ _ _ _ _)
      | (with_reducible exact ih6 _ _ _ _ _ _ _ _)
      | (with_reducible exact isa_Decode.mono _ _)
      | (with_reducible exact number_Of.mono _ _ _ _)
      | (with_reducible exact pleatlaw15_lives.mono _)
      | (with_reducible exact pleatref07_Check.mono _ _ _ _)
      | (with_reducible exact LeO.refl _)
      | (with_reducible exact LeO.none _)
      | (with_reducible refine LeO.ite ?_ ?_)
      | (with_reducible refine LeO.bind ?_ (fun _ => ?_))
      | exact ih0 _ _ _ _
      | exact ih1 _ _ _ _ _
      | exact ih2 _ _ _ _ _ _
      | exact ih3 _ _ _ _ _ _ _
      | exact ih4 _ _ _ _ _ _ _ _ _ _ _ _
      | exact ih5 _ _ _ _ _ _ _
      | exact ih6 _ _ _ _ _ _ _ _
      | exact isa_Decode.mono _ _
      | exact number_Of.mono _ _ _ _
      | exact pleatlaw15_lives.mono _
      | exact pleatref07_Check.mono _ _ _ _
      | exact LeO.none _
      | refine LeO.ite ?_ ?_
      | refine LeO.bind ?_ (fun _ => ?_)
    · intro y0 y1 y2 y3 y4 y5 y6 y7
      unfold pleatlaw15_NumberSame.l1
      repeat' first
      | (with_reducible exact ih0 _ _ _ _)
      | (with_reducible exact ih1 _ _ _ _ _)
      | (with_reducible exact ih2 _ _ _ _ _ _)
      | (with_reducible exact ih3 _ _ _ _ _ _ _)
      | (with_reducible exact ih4 _ _ _ _ _ _ _ _ _ _ _ _)
      | (with_reducible exact ih5 _ _ _ _ _ _ _)
      | (with_reducible exact ih6 _ _ _ _ _ _ _ _)
      | (with_reducible exact isa_Decode.mono _ _)
      | (with_reducible exact number_Of.mono _ _ _ _)
      | (with_reducible exact pleatlaw15_lives.mono _)
      | (with_reducible exact pleatref07_Check.mono _ _ _ _)
      | (with_reducible exact LeO.refl _)
      | (with_reducible exact LeO.none _)
      | (with_reducible refine LeO.ite ?_ ?_)
      | (with_reducible refine LeO.bind ?_ (fun _ => ?_))
      | exact ih0 _ _ _ _
      | exact ih1 _ _ _ _ _
      | exact ih2 _ _ _ _ _ _
      | exact ih3 _ _ _ _ _ _ _
      | exact ih4 _ _ _ _ _ _ _ _ _ _ _ _
      | exact ih5 _ _ _ _ _ _ _
      | exact ih6 _ _ _ _ _ _ _ _
      | exact isa_Decode.mono _ _
      | exact number_Of.mono _ _ _ _
      | exact pleatlaw15_lives.mono _
      | exact pleatref07_Check.mono _ _ _ _
      | exact LeO.none _
      | refine LeO.ite ?_ ?_
      | refine LeO.bind ?_ (fun _ => ?_)
theorem pleatlaw15_NumberSame.mono : ∀ a0 a1 a2 k, LeO (pleatlaw15_NumberSame.f k a0 a1 a2) (pleatlaw15_NumberSame.f (k + 1) a0 a1 a2) := by
  intro a0 a1 a2 k
  obtain ⟨ih0, ih1, ih2, ih3, ih4, ih5, ih6⟩ := pleatlaw15_NumberSame.mono_l k
  unfold pleatlaw15_NumberSame.f
  repeat' first
      | (with_reducible exact ih0 _ _ _ _)
      | (with_reducible exact ih1 _ _ _ _ _)
      | (with_reducible exact ih2 _ _ _ _ _ _)
      | (with_reducible exact ih3 _ _ _ _ _ _ _)
      | (with_reducible exact ih4 _ _ _ _ _ _ _ _ _ _ _ _)
      | (with_reducible exact ih5 _ _ _ _ _ _ _)
      | (with_reducible exact ih6 _ _ _ _ _ _ _ _)
      | (with_reducible exact isa_Decode.mono _ _)
      | (with_reducible exact number_Of.mono _ _ _ _)
      | (with_reducible exact pleatlaw15_lives.mono _)
      | (with_reducible exact pleatref07_Check.mono _ _ _ _)
      | (with_reducible exact LeO.refl _)
      | (with_reducible exact LeO.none _)
      | (with_reducible refine LeO.ite ?_ ?_)
      | (with_reducible refine LeO.bind ?_ (fun _ => ?_))
      | exact ih0 _ _ _ _
      | exact ih1 _ _ _ _ _
      | exact ih2 _ _ _ _ _ _
      | exact ih3 _ _ _ _ _ _ _
      | exact ih4 _ _ _ _ _ _ _ _ _ _ _ _
      | exact ih5 _ _ _ _ _ _ _
      | exact ih6 _ _ _ _ _ _ _ _
      | exact isa_Decode.mono _ _
      | exact number_Of.mono _ _ _ _
      | exact pleatlaw15_lives.mono _
      | exact pleatref07_Check.mono _ _ _ _
      | exact LeO.none _
      | refine LeO.ite ?_ ?_
      | refine LeO.bind ?_ (fun _ => ?_)
set_option maxHeartbeats 8000000 in
set_option maxRecDepth 100000 in
theorem pleatlaw15_NumberSame.calls (k : Nat) (A0_0 : Option Addr) (c0_0 : Nat) (l0_0 : List Int) (a0_1 : Int) (A0_2 : Option Addr) (c0_2 : Nat) (l0_2 : List Int) (r : Bool) (w : World) (hr0_0 : Kd.C (Kd.int .u32) w A0_0 l0_0.length l0_0) (hc0_0 : l0_0.length ≤ c0_0) (hr0_2 : Kd.C (Kd.int .i64) w A0_2 l0_2.length l0_2) (hc0_2 : l0_2.length ≤ c0_2) (h : pleatlaw15_NumberSame.f k l0_0 a0_1 l0_2 = some r) :
    Calls Try.prog 3 #[.agg #[.slice A0_0 l0_0.length c0_0, .int .i64 a0_1, .slice A0_2 l0_2.length c0_2]] w fun e w' => e = .returned (.bool r) ∧ Below w.heap.size w w' := by
  have hu25 := Try.underlying25
  have hu36 := Try.underlying36
  have HR0_0 := Aside0.mk hr0_0
  have HC0_0 := Aside0.mk hc0_0
  clear hr0_0 hc0_0
  have HR0_2 := Aside0.mk hr0_2
  have HC0_2 := Aside0.mk hc0_2
  clear hr0_2 hc0_2
  have HB := Aside0.mk (Below.refl w.heap.size w)
  have H : ((pleatref07_Check.f k l0_0 a0_1 l0_2).bind fun bt233 => (if (l0_0.length : Int) > 300 then (pleatlaw15_NumberSame.j0 k true l0_0 a0_1 l0_2) else (if (l0_2.length : Int) > 8192 then (pleatlaw15_NumberSame.j0 k true l0_0 a0_1 l0_2) else (pleatlaw15_NumberSame.j0 k (bt233.1 != 0) l0_0 a0_1 l0_2)))) = some r := h
  clear h
  replace H := Option.bind_eq_some_iff.mp H
  obtain ⟨⟨t233, t234⟩, A20, H⟩ := H
  replace H : (if (l0_0.length : Int) > 300 then (pleatlaw15_NumberSame.j0 k true l0_0 a0_1 l0_2) else (if (l0_2.length : Int) > 8192 then (pleatlaw15_NumberSame.j0 k true l0_0 a0_1 l0_2) else (pleatlaw15_NumberSame.j0 k (t233 != 0) l0_0 a0_1 l0_2))) = some r := H
  have A2 := Aside0.mk A20
  clear A20
  have HC3 := Aside0.mk H
  clear H
  go_enter Try.func3, Try.ntmps3
  go_upto_region 2 with (first | ((with_reducible refine gate_dst (N := 1) rfl ?_); (try (refine gate_guard (by rfl) ?_; dsimp only)); refine box_event ?hg (N := 1) ?hd (cs := #[.slice A0_0 l0_0.length c0_0, .int .i64 a0_1, .slice A0_2 l0_2.length c0_2]) (t := 25) ?hr ?_; (case hd => rfl); (case hg => rfl); (case hr => first | (go_simp; done) | (go_simp; rfl)); intro gb232 hg w4 hbox hb; have n0_ := Aside0.mk (below_step (by repeat (first | (with_reducible first | exact HB.out | apply below_alloc | apply pw_below_drewN | apply below_drew1) | exact HB.out)) hb); have n1_ := Aside0.mk (hbox); have n2_ := Aside0.mk ((by rw [hg]; exact (below_size (by repeat (first | (with_reducible first | exact HB.out | apply below_alloc | apply pw_below_drewN | apply below_drew1) | exact HB.out))) : w.heap.size ≤ gb232)); have n3_ := Aside0.mk ((by rw [hg]; exact (below_size (by repeat (first | (with_reducible first | exact HB.out | apply below_alloc | apply pw_below_drewN | apply below_drew1) | exact HB.out))) : w.heap.size ≤ gb232)); clear HB; have HB := n0_; have BK232 := n1_; have GW232 := n2_; have GE232 := n3_; clear n0_ n1_ n2_ n3_; clear hb hbox hg; have hcz5_0 : w4.cell? ⟨gb232, 0, none⟩ = some (.slice A0_0 l0_0.length c0_0) := (blk_cell BK232.out 0).trans rfl; have hcz5_1 : w4.cell? ⟨gb232, 1, none⟩ = some (.int .i64 a0_1) := (blk_cell BK232.out 1).trans rfl; have hcz5_2 : w4.cell? ⟨gb232, 2, none⟩ = some (.slice A0_2 l0_2.length c0_2) := (blk_cell BK232.out 2).trans rfl; have hfz5_0 := blk_frozen BK232.out 0; have hfz5_1 := blk_frozen BK232.out 1; have hfz5_2 := blk_frozen BK232.out 2) | (go_at_call 12; (with_reducible refine (pleatref07_Check.calls k _ _ l0_0 a0_1 _ _ l0_2 t233 t234 _ ?side1 ?side2 ?side3 ?side4 A2.out).mono ?_); (case side1 => repeat (first | exact (Kd.C_below HR0_0.out HB.out) | (with_reducible refine Kd.C_alloc ?_ _) | (with_reducible refine Kd.C_drewN ?_ _) | (with_reducible refine Kd.C_drew ?_))); (case side2 => exact HC0_0.out); (case side3 => repeat (first | exact (Kd.C_below HR0_2.out HB.out) | (with_reducible refine Kd.C_alloc ?_ _) | (with_reducible refine Kd.C_drewN ?_ _) | (with_reducible refine Kd.C_drew ?_))); (case side4 => exact HC0_2.out); rintro e w6 ⟨rfl, hb⟩; have n0_ := Aside0.mk (blk_below (g := gb232) (o := .cells #[.slice A0_0 l0_0.length c0_0, .int .i64 a0_1, .slice A0_2 l0_2.length c0_2] 25 (0, 0)) (by (with_reducible repeat (first | refine blk_drewN ?_ _ | refine blk_drew ?_ | refine blk_alloc ?_ _)); exact BK232.out) hb); have n1_ := Aside0.mk (below_step (by repeat (first | (with_reducible first | exact HB.out | apply below_alloc | apply pw_below_drewN | apply below_drew1 | refine below_set ?_ GE232.out) | exact HB.out)) hb); clear BK232; clear HB; have BK232 := n0_; have HB := n1_; clear n0_ n1_; (try clear hb); (try clear hb2); (try clear hk); (try clear hi)))
  repeat (go_quiet (first | ((with_reducible refine gate_dst (N := 1) rfl ?_); (try (refine gate_guard (by rfl) ?_; dsimp only)); refine box_event ?hg (N := 1) ?hd (cs := #[.slice A0_0 l0_0.length c0_0, .int .i64 a0_1, .slice A0_2 l0_2.length c0_2]) (t := 25) ?hr ?_; (case hd => rfl); (case hg => rfl); (case hr => first | (go_simp; done) | (go_simp; rfl)); intro gb232 hg w4 hbox hb; have n0_ := Aside0.mk (below_step (by repeat (first | (with_reducible first | exact HB.out | apply below_alloc | apply pw_below_drewN | apply below_drew1) | exact HB.out)) hb); have n1_ := Aside0.mk (hbox); have n2_ := Aside0.mk ((by rw [hg]; exact (below_size (by repeat (first | (with_reducible first | exact HB.out | apply below_alloc | apply pw_below_drewN | apply below_drew1) | exact HB.out))) : w.heap.size ≤ gb232)); have n3_ := Aside0.mk ((by rw [hg]; exact (below_size (by repeat (first | (with_reducible first | exact HB.out | apply below_alloc | apply pw_below_drewN | apply below_drew1) | exact HB.out))) : w.heap.size ≤ gb232)); clear HB; have HB := n0_; have BK232 := n1_; have GW232 := n2_; have GE232 := n3_; clear n0_ n1_ n2_ n3_; clear hb hbox hg; have hcz5_0 : w4.cell? ⟨gb232, 0, none⟩ = some (.slice A0_0 l0_0.length c0_0) := (blk_cell BK232.out 0).trans rfl; have hcz5_1 : w4.cell? ⟨gb232, 1, none⟩ = some (.int .i64 a0_1) := (blk_cell BK232.out 1).trans rfl; have hcz5_2 : w4.cell? ⟨gb232, 2, none⟩ = some (.slice A0_2 l0_2.length c0_2) := (blk_cell BK232.out 2).trans rfl; have hfz5_0 := blk_frozen BK232.out 0; have hfz5_1 := blk_frozen BK232.out 1; have hfz5_2 := blk_frozen BK232.out 2) | (go_at_call 12; (with_reducible refine (pleatref07_Check.calls k _ _ l0_0 a0_1 _ _ l0_2 t233 t234 _ ?side1 ?side2 ?side3 ?side4 A2.out).mono ?_); (case side1 => repeat (first | exact (Kd.C_below HR0_0.out HB.out) | (with_reducible refine Kd.C_alloc ?_ _) | (with_reducible refine Kd.C_drewN ?_ _) | (with_reducible refine Kd.C_drew ?_))); (case side2 => exact HC0_0.out); (case side3 => repeat (first | exact (Kd.C_below HR0_2.out HB.out) | (with_reducible refine Kd.C_alloc ?_ _) | (with_reducible refine Kd.C_drewN ?_ _) | (with_reducible refine Kd.C_drew ?_))); (case side4 => exact HC0_2.out); rintro e w6 ⟨rfl, hb⟩; have n0_ := Aside0.mk (blk_below (g := gb232) (o := .cells #[.slice A0_0 l0_0.length c0_0, .int .i64 a0_1, .slice A0_2 l0_2.length c0_2] 25 (0, 0)) (by (with_reducible repeat (first | refine blk_drewN ?_ _ | refine blk_drew ?_ | refine blk_alloc ?_ _)); exact BK232.out) hb); have n1_ := Aside0.mk (below_step (by repeat (first | (with_reducible first | exact HB.out | apply below_alloc | apply pw_below_drewN | apply below_drew1 | refine below_set ?_ GE232.out) | exact HB.out)) hb); clear BK232; clear HB; have BK232 := n0_; have HB := n1_; clear n0_ n1_; (try clear hb); (try clear hb2); (try clear hk); (try clear hi))); go_upto_region 2 with (first | ((with_reducible refine gate_dst (N := 1) rfl ?_); (try (refine gate_guard (by rfl) ?_; dsimp only)); refine box_event ?hg (N := 1) ?hd (cs := #[.slice A0_0 l0_0.length c0_0, .int .i64 a0_1, .slice A0_2 l0_2.length c0_2]) (t := 25) ?hr ?_; (case hd => rfl); (case hg => rfl); (case hr => first | (go_simp; done) | (go_simp; rfl)); intro gb232 hg w4 hbox hb; have n0_ := Aside0.mk (below_step (by repeat (first | (with_reducible first | exact HB.out | apply below_alloc | apply pw_below_drewN | apply below_drew1) | exact HB.out)) hb); have n1_ := Aside0.mk (hbox); have n2_ := Aside0.mk ((by rw [hg]; exact (below_size (by repeat (first | (with_reducible first | exact HB.out | apply below_alloc | apply pw_below_drewN | apply below_drew1) | exact HB.out))) : w.heap.size ≤ gb232)); have n3_ := Aside0.mk ((by rw [hg]; exact (below_size (by repeat (first | (with_reducible first | exact HB.out | apply below_alloc | apply pw_below_drewN | apply below_drew1) | exact HB.out))) : w.heap.size ≤ gb232)); clear HB; have HB := n0_; have BK232 := n1_; have GW232 := n2_; have GE232 := n3_; clear n0_ n1_ n2_ n3_; clear hb hbox hg; have hcz5_0 : w4.cell? ⟨gb232, 0, none⟩ = some (.slice A0_0 l0_0.length c0_0) := (blk_cell BK232.out 0).trans rfl; have hcz5_1 : w4.cell? ⟨gb232, 1, none⟩ = some (.int .i64 a0_1) := (blk_cell BK232.out 1).trans rfl; have hcz5_2 : w4.cell? ⟨gb232, 2, none⟩ = some (.slice A0_2 l0_2.length c0_2) := (blk_cell BK232.out 2).trans rfl; have hfz5_0 := blk_frozen BK232.out 0; have hfz5_1 := blk_frozen BK232.out 1; have hfz5_2 := blk_frozen BK232.out 2) | (go_at_call 12; (with_reducible refine (pleatref07_Check.calls k _ _ l0_0 a0_1 _ _ l0_2 t233 t234 _ ?side1 ?side2 ?side3 ?side4 A2.out).mono ?_); (case side1 => repeat (first | exact (Kd.C_below HR0_0.out HB.out) | (with_reducible refine Kd.C_alloc ?_ _) | (with_reducible refine Kd.C_drewN ?_ _) | (with_reducible refine Kd.C_drew ?_))); (case side2 => exact HC0_0.out); (case side3 => repeat (first | exact (Kd.C_below HR0_2.out HB.out) | (with_reducible refine Kd.C_alloc ?_ _) | (with_reducible refine Kd.C_drewN ?_ _) | (with_reducible refine Kd.C_drew ?_))); (case side4 => exact HC0_2.out); rintro e w6 ⟨rfl, hb⟩; have n0_ := Aside0.mk (blk_below (g := gb232) (o := .cells #[.slice A0_0 l0_0.length c0_0, .int .i64 a0_1, .slice A0_2 l0_2.length c0_2] 25 (0, 0)) (by (with_reducible repeat (first | refine blk_drewN ?_ _ | refine blk_drew ?_ | refine blk_alloc ?_ _)); exact BK232.out) hb); have n1_ := Aside0.mk (below_step (by repeat (first | (with_reducible first | exact HB.out | apply below_alloc | apply pw_below_drewN | apply below_drew1 | refine below_set ?_ GE232.out) | exact HB.out)) hb); clear BK232; clear HB; have BK232 := n0_; have HB := n1_; clear n0_ n1_; (try clear hb); (try clear hb2); (try clear hk); (try clear hi))))
  (try simp only [Act.put, List.setIfInBounds_toArray, List.set_cons_zero, List.set_cons_succ])
  go_cut [31] (fun v31 wc => ∃ (kq : Nat) (x31_2 : Bool), v31 = .bool x31_2 ∧ Aside0 (pleatlaw15_NumberSame.j0 kq x31_2 l0_0 a0_1 l0_2 = some r) ∧ Aside0 (kq ≤ k) ∧ Aside0 (wc.heap[gb232]? = some (.cells #[(.slice A0_0 l0_0.length c0_0), .int .i64 a0_1, (.slice A0_2 l0_2.length c0_2)] 25 (0, 0))) ∧ Aside0 (Below w.heap.size w wc))
  case first =>
    have H := HC3.out
    clear HC3
    by_cases c7 : (l0_0.length : Int) > 300
    · rw [if_pos c7] at H
      have c7b0 : decide (300 < (l0_0.length : Int)) = true := decide_eq_true c7
      have c7b1 : decide (300 < l0_0.length) = true := decide_eq_true (by omega)
      clear c7
      (first | rw [c7b0] | (simp only [i64_w, i32_w]; rw [c7b0]) | skip)
      have H' := Aside0.mk H
      clear H
      have hcz8_0 : w6.cell? ⟨gb232, 0, none⟩ = some (.slice A0_0 l0_0.length c0_0) := (blk_cell BK232.out 0).trans rfl
      have hcz8_1 : w6.cell? ⟨gb232, 1, none⟩ = some (.int .i64 a0_1) := (blk_cell BK232.out 1).trans rfl
      have hcz8_2 : w6.cell? ⟨gb232, 2, none⟩ = some (.slice A0_2 l0_2.length c0_2) := (blk_cell BK232.out 2).trans rfl
      have hfz8_0 := blk_frozen BK232.out 0
      have hfz8_1 := blk_frozen BK232.out 1
      have hfz8_2 := blk_frozen BK232.out 2
      go_wp2
      repeat (go_quiet (fail); try go_wp2)
      go_meet
      case rel => exact ⟨_, (true), (by first | rfl | (simp; done) | (simp [*]; done)), H', ⟨by first | omega | exact Nat.le_refl _⟩, ⟨by (with_reducible repeat (first | refine blk_drewN ?_ _ | refine blk_drew ?_ | refine blk_alloc ?_ _)); exact BK232.out⟩, ⟨by repeat (first | (with_reducible first | exact HB.out | apply below_alloc | apply pw_below_drewN | apply below_drew1 | refine below_set ?_ GE232.out) | exact HB.out)⟩⟩
    · rw [if_neg c7] at H
      have c7b0 : decide (300 < (l0_0.length : Int)) = false := decide_eq_false c7
      have c7b1 : decide (300 < l0_0.length) = false := decide_eq_false (by omega)
      clear c7
      (first | rw [c7b0] | (simp only [i64_w, i32_w]; rw [c7b0]) | skip)
      by_cases c9 : (l0_2.length : Int) > 8192
      · rw [if_pos c9] at H
        have c9b0 : decide (8192 < (l0_2.length : Int)) = true := decide_eq_true c9
        have c9b1 : decide (8192 < l0_2.length) = true := decide_eq_true (by omega)
        clear c9
        have H' := Aside0.mk H
        clear H
        have hcz10_0 : w6.cell? ⟨gb232, 0, none⟩ = some (.slice A0_0 l0_0.length c0_0) := (blk_cell BK232.out 0).trans rfl
        have hcz10_1 : w6.cell? ⟨gb232, 1, none⟩ = some (.int .i64 a0_1) := (blk_cell BK232.out 1).trans rfl
        have hcz10_2 : w6.cell? ⟨gb232, 2, none⟩ = some (.slice A0_2 l0_2.length c0_2) := (blk_cell BK232.out 2).trans rfl
        have hfz10_0 := blk_frozen BK232.out 0
        have hfz10_1 := blk_frozen BK232.out 1
        have hfz10_2 := blk_frozen BK232.out 2
        go_wp2
        repeat (go_quiet (fail); try go_wp2)
        go_meet
        case rel => exact ⟨_, (true), (by first | rfl | (simp; done) | (simp [*]; done)), H', ⟨by first | omega | exact Nat.le_refl _⟩, ⟨by (with_reducible repeat (first | refine blk_drewN ?_ _ | refine blk_drew ?_ | refine blk_alloc ?_ _)); exact BK232.out⟩, ⟨by repeat (first | (with_reducible first | exact HB.out | apply below_alloc | apply pw_below_drewN | apply below_drew1 | refine below_set ?_ GE232.out) | exact HB.out)⟩⟩
      · rw [if_neg c9] at H
        have c9b0 : decide (8192 < (l0_2.length : Int)) = false := decide_eq_false c9
        have c9b1 : decide (8192 < l0_2.length) = false := decide_eq_false (by omega)
        clear c9
        have H' := Aside0.mk H
        clear H
        have hcz11_0 : w6.cell? ⟨gb232, 0, none⟩ = some (.slice A0_0 l0_0.length c0_0) := (blk_cell BK232.out 0).trans rfl
        have hcz11_1 : w6.cell? ⟨gb232, 1, none⟩ = some (.int .i64 a0_1) := (blk_cell BK232.out 1).trans rfl
        have hcz11_2 : w6.cell? ⟨gb232, 2, none⟩ = some (.slice A0_2 l0_2.length c0_2) := (blk_cell BK232.out 2).trans rfl
        have hfz11_0 := blk_frozen BK232.out 0
        have hfz11_1 := blk_frozen BK232.out 1
        have hfz11_2 := blk_frozen BK232.out 2
        go_wp2
        repeat (go_quiet (fail); try go_wp2)
        go_meet
        case rel => exact ⟨_, ((t233 != 0)), (by first | rfl | (simp; done) | (simp [*]; done)), H', ⟨by first | omega | exact Nat.le_refl _⟩, ⟨by (with_reducible repeat (first | refine blk_drewN ?_ _ | refine blk_drew ?_ | refine blk_alloc ?_ _)); exact BK232.out⟩, ⟨by repeat (first | (with_reducible first | exact HB.out | apply below_alloc | apply pw_below_drewN | apply below_drew1 | refine below_set ?_ GE232.out) | exact HB.out)⟩⟩
  case rest =>
    clear HC3
    try clear p2
    try clear c3
    try clear c7
    try clear c7b0
    try clear c7b1
    try clear c9
    try clear c9b0
    try clear c9b1
    try clear hcz10_0
    try clear hcz10_1
    try clear hcz10_2
    try clear hcz11_0
    try clear hcz11_1
    try clear hcz11_2
    try clear hcz5_0
    try clear hcz5_1
    try clear hcz5_2
    try clear hcz8_0
    try clear hcz8_1
    try clear hcz8_2
    try clear hfz10_0
    try clear hfz10_1
    try clear hfz10_2
    try clear hfz11_0
    try clear hfz11_1
    try clear hfz11_2
    try clear hfz5_0
    try clear hfz5_1
    try clear hfz5_2
    try clear hfz8_0
    try clear hfz8_1
    try clear hfz8_2
    obtain ⟨kq, x31_2, rfl, HA, HJ2, BK232, HB⟩ := hcut
    cases kq with
    | zero => exact absurd HA.out (by simp [pleatlaw15_NumberSame.j0])
    | succ kj2 =>
      have H := HA.out
      clear HA
      simp only [pleatlaw15_NumberSame.j0] at H
      by_cases c12 : x31_2 = true
      · subst c12
        have H1 : ((pleatlaw15_lives.f kj2).bind fun t235 => (some t235)) = some r := by rw [if_pos rfl] at H; exact H
        clear H
        have H := H1
        clear H1
        replace H := Option.bind_eq_some_iff.mp H
        obtain ⟨t235, A130, H⟩ := H
        replace H : (some t235) = some r := H
        have A13 := Aside0.mk A130
        clear A130
        obtain rfl := Option.some.inj H
        go_wp2_with (first | (go_at_call 13; (with_reducible refine (pleatlaw15_lives.calls kj2  t235 _ A13.out).mono ?_); rintro e w14 ⟨rfl, hb⟩; have n0_ := Aside0.mk (blk_below (g := gb232) (o := .cells #[.slice A0_0 l0_0.length c0_0, .int .i64 a0_1, .slice A0_2 l0_2.length c0_2] 25 (0, 0)) (by (with_reducible repeat (first | refine blk_drewN ?_ _ | refine blk_drew ?_ | refine blk_alloc ?_ _)); exact BK232.out) hb); have n1_ := Aside0.mk (below_step (by repeat (first | (with_reducible first | exact HB.out | apply below_alloc | apply pw_below_drewN | apply below_drew1 | refine below_set ?_ GE232.out) | exact HB.out)) hb); clear BK232; clear HB; have BK232 := n0_; have HB := n1_; clear n0_ n1_; (try clear hb); (try clear hb2); (try clear hk); (try clear hi)))
        repeat (go_quiet (first | (go_at_call 13; (with_reducible refine (pleatlaw15_lives.calls kj2  t235 _ A13.out).mono ?_); rintro e w14 ⟨rfl, hb⟩; have n0_ := Aside0.mk (blk_below (g := gb232) (o := .cells #[.slice A0_0 l0_0.length c0_0, .int .i64 a0_1, .slice A0_2 l0_2.length c0_2] 25 (0, 0)) (by (with_reducible repeat (first | refine blk_drewN ?_ _ | refine blk_drew ?_ | refine blk_alloc ?_ _)); exact BK232.out) hb); have n1_ := Aside0.mk (below_step (by repeat (first | (with_reducible first | exact HB.out | apply below_alloc | apply pw_below_drewN | apply below_drew1 | refine below_set ?_ GE232.out) | exact HB.out)) hb); clear BK232; clear HB; have BK232 := n0_; have HB := n1_; clear n0_ n1_; (try clear hb); (try clear hb2); (try clear hk); (try clear hi))); try go_wp2_with (first | (go_at_call 13; (with_reducible refine (pleatlaw15_lives.calls kj2  t235 _ A13.out).mono ?_); rintro e w14 ⟨rfl, hb⟩; have n0_ := Aside0.mk (blk_below (g := gb232) (o := .cells #[.slice A0_0 l0_0.length c0_0, .int .i64 a0_1, .slice A0_2 l0_2.length c0_2] 25 (0, 0)) (by (with_reducible repeat (first | refine blk_drewN ?_ _ | refine blk_drew ?_ | refine blk_alloc ?_ _)); exact BK232.out) hb); have n1_ := Aside0.mk (below_step (by repeat (first | (with_reducible first | exact HB.out | apply below_alloc | apply pw_below_drewN | apply below_drew1 | refine below_set ?_ GE232.out) | exact HB.out)) hb); clear BK232; clear HB; have BK232 := n0_; have HB := n1_; clear n0_ n1_; (try clear hb); (try clear hb2); (try clear hk); (try clear hi))))
        go_ret
        exact ⟨by first | rfl | (simp [errW_none, errW_some] <;> rfl) | (simp [*, errW_none, errW_some] <;> rfl), by repeat (first | (with_reducible first | exact HB.out | apply below_alloc | apply pw_below_drewN | apply below_drew1 | refine below_set ?_ GE232.out) | exact HB.out)⟩
      · replace c12 := Bool.eq_false_iff.mpr c12
        subst c12
        have H1 : ((pleatref00_CopyImage.f l0_0 a0_1 l0_2).bind fun bt236 => ((number_Of.f kj2 bt236.1 bt236.2.1 bt236.2.2).bind fun bt243 => (if bt243.2 = 0 then (pleatlaw15_NumberSame.j1 kj2 bt243.1 ((bt243.1.length : Int) != (l0_0.length : Int)) l0_0 a0_1 l0_2) else (pleatlaw15_NumberSame.j1 kj2 bt243.1 true l0_0 a0_1 l0_2)))) = some r := by rw [if_neg (show ¬ (false = true) by decide)] at H; exact H
        clear H
        have H := H1
        clear H1
        replace H := Option.bind_eq_some_iff.mp H
        obtain ⟨⟨t236, t239, t240⟩, A150, H⟩ := H
        replace H : ((number_Of.f kj2 t236 t239 t240).bind fun bt243 => (if bt243.2 = 0 then (pleatlaw15_NumberSame.j1 kj2 bt243.1 ((bt243.1.length : Int) != (l0_0.length : Int)) l0_0 a0_1 l0_2) else (pleatlaw15_NumberSame.j1 kj2 bt243.1 true l0_0 a0_1 l0_2))) = some r := H
        have A15 := Aside0.mk A150
        clear A150
        replace H := Option.bind_eq_some_iff.mp H
        obtain ⟨⟨t243, t246⟩, A160, H⟩ := H
        replace H : (if t246 = 0 then (pleatlaw15_NumberSame.j1 kj2 t243 ((t243.length : Int) != (l0_0.length : Int)) l0_0 a0_1 l0_2) else (pleatlaw15_NumberSame.j1 kj2 t243 true l0_0 a0_1 l0_2)) = some r := H
        have A16 := Aside0.mk A160
        clear A160
        have HC17 := Aside0.mk H
        clear H
        have hcz18_0 : wc.cell? ⟨gb232, 0, none⟩ = some (.slice A0_0 l0_0.length c0_0) := (blk_cell BK232.out 0).trans rfl
        have hcz18_1 : wc.cell? ⟨gb232, 1, none⟩ = some (.int .i64 a0_1) := (blk_cell BK232.out 1).trans rfl
        have hcz18_2 : wc.cell? ⟨gb232, 2, none⟩ = some (.slice A0_2 l0_2.length c0_2) := (blk_cell BK232.out 2).trans rfl
        have hfz18_0 := blk_frozen BK232.out 0
        have hfz18_1 := blk_frozen BK232.out 1
        have hfz18_2 := blk_frozen BK232.out 2
        go_upto_region 5 with (first | (go_at_call 15; (with_reducible refine (pleatref00_CopyImage.calls _ _ l0_0 a0_1 _ _ l0_2 t236 t239 t240 _ ?side1 ?side2 ?side3 ?side4 A15.out).mono ?_); (case side1 => repeat (first | exact (Kd.C_below HR0_0.out HB.out) | (with_reducible refine Kd.C_alloc ?_ _) | (with_reducible refine Kd.C_drewN ?_ _) | (with_reducible refine Kd.C_drew ?_))); (case side2 => exact HC0_0.out); (case side3 => repeat (first | exact (Kd.C_below HR0_2.out HB.out) | (with_reducible refine Kd.C_alloc ?_ _) | (with_reducible refine Kd.C_drewN ?_ _) | (with_reducible refine Kd.C_drew ?_))); (case side4 => exact HC0_2.out); rintro e w19 ⟨v237, v241, rfl, ho0, ho1, hb⟩; have n0_ := Aside0.mk (Kd.R_lower ho0 (below_size (by repeat (first | (with_reducible first | exact HB.out | apply below_alloc | apply pw_below_drewN | apply below_drew1 | refine below_set ?_ GE232.out) | exact HB.out)))); have n1_ := Aside0.mk (Kd.R_lower ho1 (below_size (by repeat (first | (with_reducible first | exact HB.out | apply below_alloc | apply pw_below_drewN | apply below_drew1 | refine below_set ?_ GE232.out) | exact HB.out)))); have n2_ := Aside0.mk (blk_below (g := gb232) (o := .cells #[.slice A0_0 l0_0.length c0_0, .int .i64 a0_1, .slice A0_2 l0_2.length c0_2] 25 (0, 0)) (by (with_reducible repeat (first | refine blk_drewN ?_ _ | refine blk_drew ?_ | refine blk_alloc ?_ _)); exact BK232.out) hb); have n3_ := Aside0.mk (below_step (by repeat (first | (with_reducible first | exact HB.out | apply below_alloc | apply pw_below_drewN | apply below_drew1 | refine below_set ?_ GE232.out) | exact HB.out)) hb); clear BK232; clear HB; have HO238 := n0_; have HO242 := n1_; have BK232 := n2_; have HB := n3_; clear n0_ n1_ n2_ n3_; (try clear hb); (try clear hb2); (try clear hk); (try clear hi); (try clear ho0); (try clear ho1); obtain ⟨Ao20, co20, eo20⟩ := Kd.R_slice HO238.out; subst eo20; obtain ⟨Ao21, co21, eo21⟩ := Kd.R_slice HO242.out; subst eo21) | (go_at_call 14; (with_reducible refine (number_Of.calls kj2 _ _ t236 t239 _ _ t240 t243 t246 _ ?side1 ?side2 ?side3 ?side4 A16.out).mono ?_); (case side1 => repeat (first | exact (Kd.R_reads' HO238.out).2.2 | (with_reducible refine Kd.C_alloc ?_ _) | (with_reducible refine Kd.C_drewN ?_ _) | (with_reducible refine Kd.C_drew ?_))); (case side2 => exact (Kd.R_reads' HO238.out).2.1); (case side3 => repeat (first | exact (Kd.R_reads' HO242.out).2.2 | (with_reducible refine Kd.C_alloc ?_ _) | (with_reducible refine Kd.C_drewN ?_ _) | (with_reducible refine Kd.C_drew ?_))); (case side4 => exact (Kd.R_reads' HO242.out).2.1); rintro e w22 ⟨v244, rfl, ho0, hb⟩; have n0_ := Aside0.mk (Kd.R_below (by (with_reducible repeat (first | apply Kd.R_alloc | apply Kd.R_drewN | apply Kd.R_drew)); exact HO238.out) hb); have n1_ := Aside0.mk (Kd.R_below (by (with_reducible repeat (first | apply Kd.R_alloc | apply Kd.R_drewN | apply Kd.R_drew)); exact HO242.out) hb); have n2_ := Aside0.mk (Kd.R_lower ho0 (below_size (by repeat (first | (with_reducible first | exact HB.out | apply below_alloc | apply pw_below_drewN | apply below_drew1 | refine below_set ?_ GE232.out) | exact HB.out)))); have n3_ := Aside0.mk (blk_below (g := gb232) (o := .cells #[.slice A0_0 l0_0.length c0_0, .int .i64 a0_1, .slice A0_2 l0_2.length c0_2] 25 (0, 0)) (by (with_reducible repeat (first | refine blk_drewN ?_ _ | refine blk_drew ?_ | refine blk_alloc ?_ _)); exact BK232.out) hb); have n4_ := Aside0.mk (below_step (by repeat (first | (with_reducible first | exact HB.out | apply below_alloc | apply pw_below_drewN | apply below_drew1 | refine below_set ?_ GE232.out) | exact HB.out)) hb); clear HO238; clear HO242; clear BK232; clear HB; have HO238 := n0_; have HO242 := n1_; have HO245 := n2_; have BK232 := n3_; have HB := n4_; clear n0_ n1_ n2_ n3_ n4_; (try clear hb); (try clear hb2); (try clear hk); (try clear hi); (try clear ho0)))
        repeat (go_quiet (first | (go_at_call 15; (with_reducible refine (pleatref00_CopyImage.calls _ _ l0_0 a0_1 _ _ l0_2 t236 t239 t240 _ ?side1 ?side2 ?side3 ?side4 A15.out).mono ?_); (case side1 => repeat (first | exact (Kd.C_below HR0_0.out HB.out) | (with_reducible refine Kd.C_alloc ?_ _) | (with_reducible refine Kd.C_drewN ?_ _) | (with_reducible refine Kd.C_drew ?_))); (case side2 => exact HC0_0.out); (case side3 => repeat (first | exact (Kd.C_below HR0_2.out HB.out) | (with_reducible refine Kd.C_alloc ?_ _) | (with_reducible refine Kd.C_drewN ?_ _) | (with_reducible refine Kd.C_drew ?_))); (case side4 => exact HC0_2.out); rintro e w19 ⟨v237, v241, rfl, ho0, ho1, hb⟩; have n0_ := Aside0.mk (Kd.R_lower ho0 (below_size (by repeat (first | (with_reducible first | exact HB.out | apply below_alloc | apply pw_below_drewN | apply below_drew1 | refine below_set ?_ GE232.out) | exact HB.out)))); have n1_ := Aside0.mk (Kd.R_lower ho1 (below_size (by repeat (first | (with_reducible first | exact HB.out | apply below_alloc | apply pw_below_drewN | apply below_drew1 | refine below_set ?_ GE232.out) | exact HB.out)))); have n2_ := Aside0.mk (blk_below (g := gb232) (o := .cells #[.slice A0_0 l0_0.length c0_0, .int .i64 a0_1, .slice A0_2 l0_2.length c0_2] 25 (0, 0)) (by (with_reducible repeat (first | refine blk_drewN ?_ _ | refine blk_drew ?_ | refine blk_alloc ?_ _)); exact BK232.out) hb); have n3_ := Aside0.mk (below_step (by repeat (first | (with_reducible first | exact HB.out | apply below_alloc | apply pw_below_drewN | apply below_drew1 | refine below_set ?_ GE232.out) | exact HB.out)) hb); clear BK232; clear HB; have HO238 := n0_; have HO242 := n1_; have BK232 := n2_; have HB := n3_; clear n0_ n1_ n2_ n3_; (try clear hb); (try clear hb2); (try clear hk); (try clear hi); (try clear ho0); (try clear ho1); obtain ⟨Ao20, co20, eo20⟩ := Kd.R_slice HO238.out; subst eo20; obtain ⟨Ao21, co21, eo21⟩ := Kd.R_slice HO242.out; subst eo21) | (go_at_call 14; (with_reducible refine (number_Of.calls kj2 _ _ t236 t239 _ _ t240 t243 t246 _ ?side1 ?side2 ?side3 ?side4 A16.out).mono ?_); (case side1 => repeat (first | exact (Kd.R_reads' HO238.out).2.2 | (with_reducible refine Kd.C_alloc ?_ _) | (with_reducible refine Kd.C_drewN ?_ _) | (with_reducible refine Kd.C_drew ?_))); (case side2 => exact (Kd.R_reads' HO238.out).2.1); (case side3 => repeat (first | exact (Kd.R_reads' HO242.out).2.2 | (with_reducible refine Kd.C_alloc ?_ _) | (with_reducible refine Kd.C_drewN ?_ _) | (with_reducible refine Kd.C_drew ?_))); (case side4 => exact (Kd.R_reads' HO242.out).2.1); rintro e w22 ⟨v244, rfl, ho0, hb⟩; have n0_ := Aside0.mk (Kd.R_below (by (with_reducible repeat (first | apply Kd.R_alloc | apply Kd.R_drewN | apply Kd.R_drew)); exact HO238.out) hb); have n1_ := Aside0.mk (Kd.R_below (by (with_reducible repeat (first | apply Kd.R_alloc | apply Kd.R_drewN | apply Kd.R_drew)); exact HO242.out) hb); have n2_ := Aside0.mk (Kd.R_lower ho0 (below_size (by repeat (first | (with_reducible first | exact HB.out | apply below_alloc | apply pw_below_drewN | apply below_drew1 | refine below_set ?_ GE232.out) | exact HB.out)))); have n3_ := Aside0.mk (blk_below (g := gb232) (o := .cells #[.slice A0_0 l0_0.length c0_0, .int .i64 a0_1, .slice A0_2 l0_2.length c0_2] 25 (0, 0)) (by (with_reducible repeat (first | refine blk_drewN ?_ _ | refine blk_drew ?_ | refine blk_alloc ?_ _)); exact BK232.out) hb); have n4_ := Aside0.mk (below_step (by repeat (first | (with_reducible first | exact HB.out | apply below_alloc | apply pw_below_drewN | apply below_drew1 | refine below_set ?_ GE232.out) | exact HB.out)) hb); clear HO238; clear HO242; clear BK232; clear HB; have HO238 := n0_; have HO242 := n1_; have HO245 := n2_; have BK232 := n3_; have HB := n4_; clear n0_ n1_ n2_ n3_ n4_; (try clear hb); (try clear hb2); (try clear hk); (try clear hi); (try clear ho0))); go_upto_region 5 with (first | (go_at_call 15; (with_reducible refine (pleatref00_CopyImage.calls _ _ l0_0 a0_1 _ _ l0_2 t236 t239 t240 _ ?side1 ?side2 ?side3 ?side4 A15.out).mono ?_); (case side1 => repeat (first | exact (Kd.C_below HR0_0.out HB.out) | (with_reducible refine Kd.C_alloc ?_ _) | (with_reducible refine Kd.C_drewN ?_ _) | (with_reducible refine Kd.C_drew ?_))); (case side2 => exact HC0_0.out); (case side3 => repeat (first | exact (Kd.C_below HR0_2.out HB.out) | (with_reducible refine Kd.C_alloc ?_ _) | (with_reducible refine Kd.C_drewN ?_ _) | (with_reducible refine Kd.C_drew ?_))); (case side4 => exact HC0_2.out); rintro e w19 ⟨v237, v241, rfl, ho0, ho1, hb⟩; have n0_ := Aside0.mk (Kd.R_lower ho0 (below_size (by repeat (first | (with_reducible first | exact HB.out | apply below_alloc | apply pw_below_drewN | apply below_drew1 | refine below_set ?_ GE232.out) | exact HB.out)))); have n1_ := Aside0.mk (Kd.R_lower ho1 (below_size (by repeat (first | (with_reducible first | exact HB.out | apply below_alloc | apply pw_below_drewN | apply below_drew1 | refine below_set ?_ GE232.out) | exact HB.out)))); have n2_ := Aside0.mk (blk_below (g := gb232) (o := .cells #[.slice A0_0 l0_0.length c0_0, .int .i64 a0_1, .slice A0_2 l0_2.length c0_2] 25 (0, 0)) (by (with_reducible repeat (first | refine blk_drewN ?_ _ | refine blk_drew ?_ | refine blk_alloc ?_ _)); exact BK232.out) hb); have n3_ := Aside0.mk (below_step (by repeat (first | (with_reducible first | exact HB.out | apply below_alloc | apply pw_below_drewN | apply below_drew1 | refine below_set ?_ GE232.out) | exact HB.out)) hb); clear BK232; clear HB; have HO238 := n0_; have HO242 := n1_; have BK232 := n2_; have HB := n3_; clear n0_ n1_ n2_ n3_; (try clear hb); (try clear hb2); (try clear hk); (try clear hi); (try clear ho0); (try clear ho1); obtain ⟨Ao20, co20, eo20⟩ := Kd.R_slice HO238.out; subst eo20; obtain ⟨Ao21, co21, eo21⟩ := Kd.R_slice HO242.out; subst eo21) | (go_at_call 14; (with_reducible refine (number_Of.calls kj2 _ _ t236 t239 _ _ t240 t243 t246 _ ?side1 ?side2 ?side3 ?side4 A16.out).mono ?_); (case side1 => repeat (first | exact (Kd.R_reads' HO238.out).2.2 | (with_reducible refine Kd.C_alloc ?_ _) | (with_reducible refine Kd.C_drewN ?_ _) | (with_reducible refine Kd.C_drew ?_))); (case side2 => exact (Kd.R_reads' HO238.out).2.1); (case side3 => repeat (first | exact (Kd.R_reads' HO242.out).2.2 | (with_reducible refine Kd.C_alloc ?_ _) | (with_reducible refine Kd.C_drewN ?_ _) | (with_reducible refine Kd.C_drew ?_))); (case side4 => exact (Kd.R_reads' HO242.out).2.1); rintro e w22 ⟨v244, rfl, ho0, hb⟩; have n0_ := Aside0.mk (Kd.R_below (by (with_reducible repeat (first | apply Kd.R_alloc | apply Kd.R_drewN | apply Kd.R_drew)); exact HO238.out) hb); have n1_ := Aside0.mk (Kd.R_below (by (with_reducible repeat (first | apply Kd.R_alloc | apply Kd.R_drewN | apply Kd.R_drew)); exact HO242.out) hb); have n2_ := Aside0.mk (Kd.R_lower ho0 (below_size (by repeat (first | (with_reducible first | exact HB.out | apply below_alloc | apply pw_below_drewN | apply below_drew1 | refine below_set ?_ GE232.out) | exact HB.out)))); have n3_ := Aside0.mk (blk_below (g := gb232) (o := .cells #[.slice A0_0 l0_0.length c0_0, .int .i64 a0_1, .slice A0_2 l0_2.length c0_2] 25 (0, 0)) (by (with_reducible repeat (first | refine blk_drewN ?_ _ | refine blk_drew ?_ | refine blk_alloc ?_ _)); exact BK232.out) hb); have n4_ := Aside0.mk (below_step (by repeat (first | (with_reducible first | exact HB.out | apply below_alloc | apply pw_below_drewN | apply below_drew1 | refine below_set ?_ GE232.out) | exact HB.out)) hb); clear HO238; clear HO242; clear BK232; clear HB; have HO238 := n0_; have HO242 := n1_; have HO245 := n2_; have BK232 := n3_; have HB := n4_; clear n0_ n1_ n2_ n3_ n4_; (try clear hb); (try clear hb2); (try clear hk); (try clear hi); (try clear ho0))))
        (try simp only [Act.put, List.setIfInBounds_toArray, List.set_cons_zero, List.set_cons_succ])
        go_cut [48] (fun v48 wc => ∃ (kq : Nat) (x48_16 : Bool), v48 = .bool x48_16 ∧ Aside0 (pleatlaw15_NumberSame.j1 kq t243 x48_16 l0_0 a0_1 l0_2 = some r) ∧ Aside0 (kq ≤ kj2) ∧ Aside0 (Kd.R (Kd.int .i64) 3 wc w.heap.size (fun _ => True) v244 t243) ∧ Aside0 (wc.heap[gb232]? = some (.cells #[(.slice A0_0 l0_0.length c0_0), .int .i64 a0_1, (.slice A0_2 l0_2.length c0_2)] 25 (0, 0))) ∧ Aside0 (Below w.heap.size w wc))
        case first =>
          have H := HC17.out
          clear HC17
          by_cases c23 : t246 = 0
          · rw [if_pos c23] at H
            have c23b0 : (t246 == 0) = true := beq_iff_eq.mpr c23
            have c23b1 : (t246 != 0) = false := bne_eq_false_iff_eq.mpr c23
            clear c23
            (first | rw [c23b0] | (simp only [i64_w, i32_w]; rw [c23b0]) | skip)
            have H' := Aside0.mk H
            clear H
            obtain ⟨Ao24, co24, eo24⟩ := Kd.R_slice HO245.out
            subst eo24
            have hcz25_0 : w22.cell? ⟨gb232, 0, none⟩ = some (.slice A0_0 l0_0.length c0_0) := (blk_cell BK232.out 0).trans rfl
            have hcz25_1 : w22.cell? ⟨gb232, 1, none⟩ = some (.int .i64 a0_1) := (blk_cell BK232.out 1).trans rfl
            have hcz25_2 : w22.cell? ⟨gb232, 2, none⟩ = some (.slice A0_2 l0_2.length c0_2) := (blk_cell BK232.out 2).trans rfl
            have hfz25_0 := blk_frozen BK232.out 0
            have hfz25_1 := blk_frozen BK232.out 1
            have hfz25_2 := blk_frozen BK232.out 2
            go_wp2
            repeat (go_quiet (fail); try go_wp2)
            go_meet
            case rel => exact ⟨_, (((t243.length : Int) != (l0_0.length : Int))), (by first | rfl | (simp; done) | (simp [*]; done)), H', ⟨by have := HJ2.out; first | omega | exact Nat.le_refl _⟩, ⟨by (with_reducible repeat (first | apply Kd.R_alloc | apply Kd.R_drewN | apply Kd.R_drew)); exact HO245.out⟩, ⟨by (with_reducible repeat (first | refine blk_drewN ?_ _ | refine blk_drew ?_ | refine blk_alloc ?_ _)); exact BK232.out⟩, ⟨by repeat (first | (with_reducible first | exact HB.out | apply below_alloc | apply pw_below_drewN | apply below_drew1 | refine below_set ?_ GE232.out) | exact HB.out)⟩⟩
          · rw [if_neg c23] at H
            have c23b0 : (t246 == 0) = false := beq_eq_false_iff_ne.mpr c23
            have c23b1 : (t246 != 0) = true := bne_iff_ne.mpr c23
            (first | rw [c23b0] | (simp only [i64_w, i32_w]; rw [c23b0]) | skip)
            have H' := Aside0.mk H
            clear H
            go_wp2
            repeat (go_quiet (fail); try go_wp2)
            go_meet
            case rel => exact ⟨_, (true), (by first | rfl | (simp; done) | (simp [*]; done)), H', ⟨by have := HJ2.out; first | omega | exact Nat.le_refl _⟩, ⟨by (with_reducible repeat (first | apply Kd.R_alloc | apply Kd.R_drewN | apply Kd.R_drew)); exact HO245.out⟩, ⟨by (with_reducible repeat (first | refine blk_drewN ?_ _ | refine blk_drew ?_ | refine blk_alloc ?_ _)); exact BK232.out⟩, ⟨by repeat (first | (with_reducible first | exact HB.out | apply below_alloc | apply pw_below_drewN | apply below_drew1 | refine below_set ?_ GE232.out) | exact HB.out)⟩⟩
        case rest =>
          clear HC17
          try clear c1
          try clear c2
          try clear p2
          try clear c3
          try clear c7
          try clear c7b0
          try clear c7b1
          try clear c9
          try clear c9b0
          try clear c9b1
          try clear c12
          try clear c23
          try clear c23b0
          try clear c23b1
          try clear hcz10_0
          try clear hcz10_1
          try clear hcz10_2
          try clear hcz11_0
          try clear hcz11_1
          try clear hcz11_2
          try clear hcz18_0
          try clear hcz18_1
          try clear hcz18_2
          try clear hcz25_0
          try clear hcz25_1
          try clear hcz25_2
          try clear hcz5_0
          try clear hcz5_1
          try clear hcz5_2
          try clear hcz8_0
          try clear hcz8_1
          try clear hcz8_2
          try clear hfz10_0
          try clear hfz10_1
          try clear hfz10_2
          try clear hfz11_0
          try clear hfz11_1
          try clear hfz11_2
          try clear hfz18_0
          try clear hfz18_1
          try clear hfz18_2
          try clear hfz25_0
          try clear hfz25_1
          try clear hfz25_2
          try clear hfz5_0
          try clear hfz5_1
          try clear hfz5_2
          try clear hfz8_0
          try clear hfz8_1
          try clear hfz8_2
          try clear p2
          obtain ⟨kq, x48_16, rfl, HA, HJ16, HO_5, BK232, HB⟩ := hcut
          cases kq with
          | zero => exact absurd HA.out (by simp [pleatlaw15_NumberSame.j1])
          | succ kj16 =>
            have H := HA.out
            clear HA
            simp only [pleatlaw15_NumberSame.j1] at H
            by_cases c26 : x48_16 = true
            · subst c26
              have H1 : (some false) = some r := by rw [if_pos rfl] at H; exact H
              clear H
              have H := H1
              clear H1
              obtain rfl := Option.some.inj H
              go_wp2
              repeat (go_quiet (fail); try go_wp2)
              go_ret
              exact ⟨by first | rfl | (simp [errW_none, errW_some] <;> rfl) | (simp [*, errW_none, errW_some] <;> rfl), by repeat (first | (with_reducible first | exact HB.out | apply below_alloc | apply pw_below_drewN | apply below_drew1 | refine below_set ?_ GE232.out) | exact HB.out)⟩
            · replace c26 := Bool.eq_false_iff.mpr c26
              subst c26
              have H1 : (pleatlaw15_NumberSame.l0 kj16 t243 (-1) 0 l0_0 a0_1 l0_2) = some r := by rw [if_neg (show ¬ (false = true) by decide)] at H; exact H
              clear H
              have H := H1
              clear H1
              have H' := Aside0.mk H
              clear H
              go_wp2
              repeat (go_quiet (fail); try go_wp2)
              go_loopg [7, 8] kj16 (fun kq v7 v8 w' => ∃ (x7_3 : Int) (x8_3 : Int), v7 = .int .i64 x7_3 ∧ v8 = .int .i64 x8_3 ∧ Aside0 (pleatlaw15_NumberSame.l0 kq t243 x7_3 x8_3 l0_0 a0_1 l0_2 = some r) ∧ Aside0 (kq ≤ kj16) ∧ Aside0 (Kd.R (Kd.int .i64) 3 w' w.heap.size (fun _ => True) v244 t243) ∧ Aside0 (w'.heap[gb232]? = some (.cells #[(.slice A0_0 l0_0.length c0_0), .int .i64 a0_1, (.slice A0_2 l0_2.length c0_2)] 25 (0, 0))) ∧ Aside0 (Below w.heap.size w w'))
              case atStart => exact ⟨((-1)), (0), (by first | rfl | (simp; done) | (simp [*]; done)), (by first | rfl | (simp; done) | (simp [*]; done)), H', ⟨Nat.le_refl _⟩, ⟨by (with_reducible repeat (first | apply Kd.R_alloc | apply Kd.R_drewN | apply Kd.R_drew)); exact HO_5.out⟩, ⟨by (with_reducible repeat (first | refine blk_drewN ?_ _ | refine blk_drew ?_ | refine blk_alloc ?_ _)); exact BK232.out⟩, ⟨by repeat (first | (with_reducible first | exact HB.out | apply below_alloc | apply pw_below_drewN | apply below_drew1 | refine below_set ?_ GE232.out) | exact HB.out)⟩⟩
              case round =>
                clear H'
                try clear c1
                try clear c2
                try clear p2
                try clear c3
                try clear c7
                try clear c7b0
                try clear c7b1
                try clear c9
                try clear c9b0
                try clear c9b1
                try clear c12
                try clear c23
                try clear c23b0
                try clear c23b1
                try clear c26
                try clear hcz10_0
                try clear hcz10_1
                try clear hcz10_2
                try clear hcz11_0
                try clear hcz11_1
                try clear hcz11_2
                try clear hcz18_0
                try clear hcz18_1
                try clear hcz18_2
                try clear hcz25_0
                try clear hcz25_1
                try clear hcz25_2
                try clear hcz5_0
                try clear hcz5_1
                try clear hcz5_2
                try clear hcz8_0
                try clear hcz8_1
                try clear hcz8_2
                try clear hfz10_0
                try clear hfz10_1
                try clear hfz10_2
                try clear hfz11_0
                try clear hfz11_1
                try clear hfz11_2
                try clear hfz18_0
                try clear hfz18_1
                try clear hfz18_2
                try clear hfz25_0
                try clear hfz25_1
                try clear hfz25_2
                try clear hfz5_0
                try clear hfz5_1
                try clear hfz5_2
                try clear hfz8_0
                try clear hfz8_1
                try clear hfz8_2
                try clear p2
                obtain ⟨x7_3, x8_3, rfl, rfl, HA, HK3, HO_5, BK232, HB⟩ := hrel
                cases gk with
                | zero => exact absurd HA.out (by simp [pleatlaw15_NumberSame.l0])
                | succ k3 =>
                  have H := HA.out
                  clear HA
                  simp only [pleatlaw15_NumberSame.l0] at H
                  by_cases c27 : x8_3 < (t243.length : Int)
                  · rw [if_pos c27] at H
                    have c27b0 : decide (x8_3 < (t243.length : Int)) = true := decide_eq_true c27
                    clear c27
                    have HC28 := Aside0.mk H
                    clear H
                    obtain ⟨Ao29, co29, eo29⟩ := Kd.R_slice HO_5.out
                    subst eo29
                    go_upto_region 11 with (fail)
                    repeat (go_quiet (fail); go_upto_region 11 with (fail))
                    go_cut [68] (fun v68 wc => ∃ (kq : Nat) (x68_27 : Bool), v68 = .bool x68_27 ∧ Aside0 (pleatlaw15_NumberSame.j3 kq t243 x7_3 x8_3 x68_27 l0_0 a0_1 l0_2 = some r) ∧ Aside0 (kq ≤ k3) ∧ Aside0 (Kd.R (Kd.int .i64) 3 wc w.heap.size (fun _ => True) (.slice Ao29 t243.length co29) t243) ∧ Aside0 (wc.heap[gb232]? = some (.cells #[(.slice A0_0 l0_0.length c0_0), .int .i64 a0_1, (.slice A0_2 l0_2.length c0_2)] 25 (0, 0))) ∧ Aside0 (Below w.heap.size w wc))
                    case first =>
                      have H := HC28.out
                      clear HC28
                      by_cases c30 : 0 ≤ x8_3
                      · rw [if_pos c30] at H
                        have c30b0 : decide (0 ≤ x8_3) = true := decide_eq_true c30
                        clear c30
                        (first | rw [c30b0] | (simp only [i64_w, i32_w]; rw [c30b0]) | skip)
                        by_cases c31 : (rd t243 x8_3) < 0
                        · rw [if_pos c31] at H
                          have c31b0 : decide ((rd t243 x8_3) < 0) = true := decide_eq_true c31
                          clear c31
                          have H' := Aside0.mk H
                          clear H
                          have p252 : 0 ≤ (x8_3 : Int) := of_decide_eq_true (by first | (with_reducible assumption) | assumption)
                          have q252 : x8_3 < (t243.length : Int) := of_decide_eq_true (by first | (with_reducible assumption) | assumption)
                          obtain ⟨ad252, e252, hx252_0⟩ := Kd.at_int (Kd.R_reads' HO_5.out).2.2 x8_3 p252 q252
                          cases e252
                          replace p252 := eq_true p252
                          replace q252 := eq_true q252
                          go_wp2
                          repeat (go_quiet (fail); try go_wp2)
                          go_meet
                          case rel => exact ⟨_, (true), (by first | rfl | (simp; done) | (simp [*]; done)), H', ⟨by have := HJ2.out; have := HJ16.out; have := HK3.out; first | omega | exact Nat.le_refl _⟩, ⟨by (with_reducible repeat (first | apply Kd.R_alloc | apply Kd.R_drewN | apply Kd.R_drew)); exact HO_5.out⟩, ⟨by (with_reducible repeat (first | refine blk_drewN ?_ _ | refine blk_drew ?_ | refine blk_alloc ?_ _)); exact BK232.out⟩, ⟨by repeat (first | (with_reducible first | exact HB.out | apply below_alloc | apply pw_below_drewN | apply below_drew1 | refine below_set ?_ GE232.out) | exact HB.out)⟩⟩
                        · rw [if_neg c31] at H
                          have c31b0 : decide ((rd t243 x8_3) < 0) = false := decide_eq_false c31
                          clear c31
                          have H' := Aside0.mk H
                          clear H
                          have p252 : 0 ≤ (x8_3 : Int) := of_decide_eq_true (by first | (with_reducible assumption) | assumption)
                          have q252 : x8_3 < (t243.length : Int) := of_decide_eq_true (by first | (with_reducible assumption) | assumption)
                          obtain ⟨ad252, e252, hx252_0⟩ := Kd.at_int (Kd.R_reads' HO_5.out).2.2 x8_3 p252 q252
                          cases e252
                          replace p252 := eq_true p252
                          replace q252 := eq_true q252
                          have p253 : 0 ≤ (x8_3 : Int) := of_decide_eq_true (by first | (with_reducible assumption) | assumption)
                          have q253 : x8_3 < (t243.length : Int) := of_decide_eq_true (by first | (with_reducible assumption) | assumption)
                          obtain ⟨ad253, e253, hx253_0⟩ := Kd.at_int (Kd.R_reads' HO_5.out).2.2 x8_3 p253 q253
                          obtain rfl : ad252 = ad253 := (by injection e253)
                          replace p253 := eq_true p253
                          replace q253 := eq_true q253
                          go_wp2
                          repeat (go_quiet (fail); try go_wp2)
                          go_meet
                          case rel => exact ⟨_, (decide ((rd t243 x8_3) > (wrap64 (x7_3 + 1)))), (by first | rfl | (simp; done) | (simp [*]; done)), H', ⟨by have := HJ2.out; have := HJ16.out; have := HK3.out; first | omega | exact Nat.le_refl _⟩, ⟨by (with_reducible repeat (first | apply Kd.R_alloc | apply Kd.R_drewN | apply Kd.R_drew)); exact HO_5.out⟩, ⟨by (with_reducible repeat (first | refine blk_drewN ?_ _ | refine blk_drew ?_ | refine blk_alloc ?_ _)); exact BK232.out⟩, ⟨by repeat (first | (with_reducible first | exact HB.out | apply below_alloc | apply pw_below_drewN | apply below_drew1 | refine below_set ?_ GE232.out) | exact HB.out)⟩⟩
                      · rw [if_neg c30] at H
                        exact absurd H (by simp)
                    case rest =>
                      clear HC28
                      try clear c1
                      try clear c2
                      try clear p2
                      try clear q2
                      try clear hx2
                      try clear c3
                      try clear p6
                      try clear c7
                      try clear c7b0
                      try clear c7b1
                      try clear c9
                      try clear c9b0
                      try clear c9b1
                      try clear c12
                      try clear c23
                      try clear c23b0
                      try clear c23b1
                      try clear p25
                      try clear q25
                      try clear hx25
                      try clear c26
                      try clear c27
                      try clear c27b0
                      try clear c30
                      try clear c30b0
                      try clear c31
                      try clear c31b0
                      try clear hcz10_0
                      try clear hcz10_1
                      try clear hcz10_2
                      try clear hcz11_0
                      try clear hcz11_1
                      try clear hcz11_2
                      try clear hcz18_0
                      try clear hcz18_1
                      try clear hcz18_2
                      try clear hcz25_0
                      try clear hcz25_1
                      try clear hcz25_2
                      try clear hcz5_0
                      try clear hcz5_1
                      try clear hcz5_2
                      try clear hcz8_0
                      try clear hcz8_1
                      try clear hcz8_2
                      try clear hfz10_0
                      try clear hfz10_1
                      try clear hfz10_2
                      try clear hfz11_0
                      try clear hfz11_1
                      try clear hfz11_2
                      try clear hfz18_0
                      try clear hfz18_1
                      try clear hfz18_2
                      try clear hfz25_0
                      try clear hfz25_1
                      try clear hfz25_2
                      try clear hfz5_0
                      try clear hfz5_1
                      try clear hfz5_2
                      try clear hfz8_0
                      try clear hfz8_1
                      try clear hfz8_2
                      try clear hx252_0
                      try clear hx253_0
                      try clear p2
                      try clear p252
                      try clear p253
                      try clear q252
                      try clear q253
                      obtain ⟨kq, x68_27, rfl, HA, HJ27, HO_5, BK232, HB⟩ := hcut
                      cases kq with
                      | zero => exact absurd HA.out (by simp [pleatlaw15_NumberSame.j3])
                      | succ kj27 =>
                        have H := HA.out
                        clear HA
                        simp only [pleatlaw15_NumberSame.j3] at H
                        by_cases c32 : x68_27 = true
                        · subst c32
                          have H1 : (some false) = some r := by rw [if_pos rfl] at H; exact H
                          clear H
                          have H := H1
                          clear H1
                          obtain rfl := Option.some.inj H
                          go_wp2
                          repeat (go_quiet (fail); try go_wp2)
                          go_ret
                          exact ⟨by first | rfl | (simp [errW_none, errW_some] <;> rfl) | (simp [*, errW_none, errW_some] <;> rfl), by repeat (first | (with_reducible first | exact HB.out | apply below_alloc | apply pw_below_drewN | apply below_drew1 | refine below_set ?_ GE232.out) | exact HB.out)⟩
                        · replace c32 := Bool.eq_false_iff.mpr c32
                          subst c32
                          have H1 : (if 0 ≤ x8_3 then (if x8_3 < (t243.length : Int) then (if x8_3 < (l0_0.length : Int) then ((isa_Decode.f kj27 (rd l0_0 x8_3)).bind fun bt256 => (if bt256.2.1 = 15 then (pleatlaw15_NumberSame.j4 kj27 t243 (mx x7_3 (rd t243 x8_3)) x8_3 true l0_0 a0_1 l0_2 bt256.1 bt256.2.1 bt256.2.2.1 bt256.2.2.2.1 bt256.2.2.2.2) else (if bt256.2.2.1 = 15 then (pleatlaw15_NumberSame.j4 kj27 t243 (mx x7_3 (rd t243 x8_3)) x8_3 true l0_0 a0_1 l0_2 bt256.1 bt256.2.1 bt256.2.2.1 bt256.2.2.2.1 bt256.2.2.2.2) else (pleatlaw15_NumberSame.j4 kj27 t243 (mx x7_3 (rd t243 x8_3)) x8_3 (bt256.2.2.2.1 == 15) l0_0 a0_1 l0_2 bt256.1 bt256.2.1 bt256.2.2.1 bt256.2.2.2.1 bt256.2.2.2.2)))) else (none)) else (none)) else (none)) = some r := by rw [if_neg (show ¬ (false = true) by decide)] at H; exact H
                          clear H
                          have H := H1
                          clear H1
                          by_cases c33 : 0 ≤ x8_3
                          · rw [if_pos c33] at H
                            have c33b0 : decide (0 ≤ x8_3) = true := decide_eq_true c33
                            clear c33
                            by_cases c34 : x8_3 < (t243.length : Int)
                            · rw [if_pos c34] at H
                              have c34b0 : decide (x8_3 < (t243.length : Int)) = true := decide_eq_true c34
                              clear c34
                              obtain ⟨ji35, hji35⟩ : ∃ j_ : Int, (mx x7_3 (rd t243 x8_3)) = j_ := ⟨_, rfl⟩
                              replace H : (if x8_3 < (l0_0.length : Int) then ((isa_Decode.f kj27 (rd l0_0 x8_3)).bind fun bt256 => (if bt256.2.1 = 15 then (pleatlaw15_NumberSame.j4 kj27 t243 ji35 x8_3 true l0_0 a0_1 l0_2 bt256.1 bt256.2.1 bt256.2.2.1 bt256.2.2.2.1 bt256.2.2.2.2) else (if bt256.2.2.1 = 15 then (pleatlaw15_NumberSame.j4 kj27 t243 ji35 x8_3 true l0_0 a0_1 l0_2 bt256.1 bt256.2.1 bt256.2.2.1 bt256.2.2.2.1 bt256.2.2.2.2) else (pleatlaw15_NumberSame.j4 kj27 t243 ji35 x8_3 (bt256.2.2.2.1 == 15) l0_0 a0_1 l0_2 bt256.1 bt256.2.1 bt256.2.2.1 bt256.2.2.2.1 bt256.2.2.2.2)))) else (none)) = some r := by first | (rw [hji35] at H; exact H) | (simp only [hji35] at H ⊢; exact H)
                              have hji35_ : (if x7_3 < (rd t243 x8_3) then (rd t243 x8_3) else x7_3) = ji35 := hji35
                              by_cases c36 : x8_3 < (l0_0.length : Int)
                              · rw [if_pos c36] at H
                                have c36b0 : decide (x8_3 < (l0_0.length : Int)) = true := decide_eq_true c36
                                clear c36
                                replace H := Option.bind_eq_some_iff.mp H
                                obtain ⟨⟨t256, t257, t258, t259, t260⟩, A370, H⟩ := H
                                replace H : (if t257 = 15 then (pleatlaw15_NumberSame.j4 kj27 t243 ji35 x8_3 true l0_0 a0_1 l0_2 t256 t257 t258 t259 t260) else (if t258 = 15 then (pleatlaw15_NumberSame.j4 kj27 t243 ji35 x8_3 true l0_0 a0_1 l0_2 t256 t257 t258 t259 t260) else (pleatlaw15_NumberSame.j4 kj27 t243 ji35 x8_3 (t259 == 15) l0_0 a0_1 l0_2 t256 t257 t258 t259 t260))) = some r := H
                                have A37 := Aside0.mk A370
                                clear A370
                                have HC38 := Aside0.mk H
                                clear H
                                have p254 : 0 ≤ (x8_3 : Int) := of_decide_eq_true (by first | (with_reducible assumption) | assumption)
                                have q254 : x8_3 < (t243.length : Int) := of_decide_eq_true (by first | (with_reducible assumption) | assumption)
                                obtain ⟨ad254, e254, hx254_0⟩ := Kd.at_int (Kd.R_reads' HO_5.out).2.2 x8_3 p254 q254
                                cases e254
                                replace p254 := eq_true p254
                                replace q254 := eq_true q254
                                have hcz39_0 : wc.cell? ⟨gb232, 0, none⟩ = some (.slice A0_0 l0_0.length c0_0) := (blk_cell BK232.out 0).trans rfl
                                have hcz39_1 : wc.cell? ⟨gb232, 1, none⟩ = some (.int .i64 a0_1) := (blk_cell BK232.out 1).trans rfl
                                have hcz39_2 : wc.cell? ⟨gb232, 2, none⟩ = some (.slice A0_2 l0_2.length c0_2) := (blk_cell BK232.out 2).trans rfl
                                have hfz39_0 := blk_frozen BK232.out 0
                                have hfz39_1 := blk_frozen BK232.out 1
                                have hfz39_2 := blk_frozen BK232.out 2
                                have p255 : 0 ≤ (x8_3 : Int) := of_decide_eq_true (by first | (with_reducible assumption) | assumption)
                                have q255 : x8_3 < (l0_0.length : Int) := of_decide_eq_true (by first | (with_reducible assumption) | assumption)
                                obtain ⟨ad255, e255, hx255_0⟩ := Kd.at_int HR0_0.out x8_3 p255 q255
                                cases e255
                                replace hx255_0 := (HB.out.cell (World.block_lt_of_cell? w _ hx255_0)).trans hx255_0
                                replace p255 := eq_true p255
                                replace q255 := eq_true q255
                                go_upto_region 15 with (first | (go_at_call 16; (with_reducible refine (isa_Decode.calls kj27 (rd l0_0 x8_3) t256 t257 t258 t259 t260 _ A37.out).mono ?_); rintro e w40 ⟨rfl, hb⟩; have n0_ := Aside0.mk (Kd.R_below (by (with_reducible repeat (first | apply Kd.R_alloc | apply Kd.R_drewN | apply Kd.R_drew)); exact HO_5.out) hb); have n1_ := Aside0.mk (blk_below (g := gb232) (o := .cells #[.slice (some ad255) l0_0.length c0_0, .int .i64 a0_1, .slice A0_2 l0_2.length c0_2] 25 (0, 0)) (by (with_reducible repeat (first | refine blk_drewN ?_ _ | refine blk_drew ?_ | refine blk_alloc ?_ _)); exact BK232.out) hb); have n2_ := Aside0.mk (below_step (by repeat (first | (with_reducible first | exact HB.out | apply below_alloc | apply pw_below_drewN | apply below_drew1 | refine below_set ?_ GE232.out) | exact HB.out)) hb); clear HO_5; clear BK232; clear HB; have HO_5 := n0_; have BK232 := n1_; have HB := n2_; clear n0_ n1_ n2_; (try clear hb); (try clear hb2); (try clear hk); (try clear hi)) | ((with_reducible refine gate_dst (N := 9) rfl ?_); (try (refine gate_guard (by rfl) ?_; dsimp only)); refine box_event ?hg (N := 9) ?hd (cs := #[.int .i8 0, .int .i8 0, .int .i8 0, .int .i8 0, .int .i64 0]) (t := 36) ?hr ?_; (case hd => rfl); (case hg => rfl); (case hr => first | (go_simp; done) | (go_simp; rfl)); intro gb261 hg w41 hbox hb; have n0_ := Aside0.mk (Kd.R_below (by (with_reducible repeat (first | apply Kd.R_alloc | apply Kd.R_drewN | apply Kd.R_drew)); exact HO_5.out) hb); have n1_ := Aside0.mk (blk_below (g := gb232) (o := .cells #[.slice (some ad255) l0_0.length c0_0, .int .i64 a0_1, .slice A0_2 l0_2.length c0_2] 25 (0, 0)) (by (with_reducible repeat (first | refine blk_drewN ?_ _ | refine blk_drew ?_ | refine blk_alloc ?_ _)); exact BK232.out) hb); have n2_ := Aside0.mk (below_step (by repeat (first | (with_reducible first | exact HB.out | apply below_alloc | apply pw_below_drewN | apply below_drew1 | refine below_set ?_ GE232.out) | exact HB.out)) hb); have n3_ := Aside0.mk (hbox); have n4_ := Aside0.mk ((by rw [hg]; exact (below_size (by repeat (first | (with_reducible first | exact HB.out | apply below_alloc | apply pw_below_drewN | apply below_drew1 | refine below_set ?_ GE232.out) | exact HB.out))) : w.heap.size ≤ gb261)); have n5_ := Aside0.mk ((by rw [hg]; exact (below_size (by repeat (first | (with_reducible first | exact HB.out | apply below_alloc | apply pw_below_drewN | apply below_drew1 | refine below_set ?_ GE232.out) | exact HB.out))) : w.heap.size ≤ gb261)); have n6_ := Aside0.mk ((by rw [hg]; exact Nat.ne_of_lt (blk_lt (g := gb232) (o := .cells #[.slice (some ad255) l0_0.length c0_0, .int .i64 a0_1, .slice A0_2 l0_2.length c0_2] 25 (0, 0)) (by (with_reducible repeat (first | refine blk_drewN ?_ _ | refine blk_drew ?_ | refine blk_alloc ?_ _)); exact BK232.out)) : gb232 ≠ gb261)); have n7_ := Aside0.mk ((by rw [hg]; exact Nat.ne_of_gt (blk_lt (g := gb232) (o := .cells #[.slice (some ad255) l0_0.length c0_0, .int .i64 a0_1, .slice A0_2 l0_2.length c0_2] 25 (0, 0)) (by (with_reducible repeat (first | refine blk_drewN ?_ _ | refine blk_drew ?_ | refine blk_alloc ?_ _)); exact BK232.out)) : gb261 ≠ gb232)); clear HO_5; clear BK232; clear HB; have HO_5 := n0_; have BK232 := n1_; have HB := n2_; have BK261 := n3_; have GW261 := n4_; have GE261 := n5_; have NB232_261 := n6_; have NB261_232 := n7_; clear n0_ n1_ n2_ n3_ n4_ n5_ n6_ n7_; clear hb hbox hg; have hnb42 := NB261_232.out; have hnc42 := NB232_261.out; have hcz43_0 : w41.cell? ⟨gb261, 0, none⟩ = some (.int .i8 0) := (blk_cell BK261.out 0).trans rfl; have hcz43_1 : w41.cell? ⟨gb261, 1, none⟩ = some (.int .i8 0) := (blk_cell BK261.out 1).trans rfl; have hcz43_2 : w41.cell? ⟨gb261, 2, none⟩ = some (.int .i8 0) := (blk_cell BK261.out 2).trans rfl; have hcz43_3 : w41.cell? ⟨gb261, 3, none⟩ = some (.int .i8 0) := (blk_cell BK261.out 3).trans rfl; have hcz43_4 : w41.cell? ⟨gb261, 4, none⟩ = some (.int .i64 0) := (blk_cell BK261.out 4).trans rfl; have hfz43_0 := blk_frozen BK261.out 0; have hfz43_1 := blk_frozen BK261.out 1; have hfz43_2 := blk_frozen BK261.out 2; have hfz43_3 := blk_frozen BK261.out 3; have hfz43_4 := blk_frozen BK261.out 4))
                                repeat (go_quiet (first | (go_at_call 16; (with_reducible refine (isa_Decode.calls kj27 (rd l0_0 x8_3) t256 t257 t258 t259 t260 _ A37.out).mono ?_); rintro e w40 ⟨rfl, hb⟩; have n0_ := Aside0.mk (Kd.R_below (by (with_reducible repeat (first | apply Kd.R_alloc | apply Kd.R_drewN | apply Kd.R_drew)); exact HO_5.out) hb); have n1_ := Aside0.mk (blk_below (g := gb232) (o := .cells #[.slice (some ad255) l0_0.length c0_0, .int .i64 a0_1, .slice A0_2 l0_2.length c0_2] 25 (0, 0)) (by (with_reducible repeat (first | refine blk_drewN ?_ _ | refine blk_drew ?_ | refine blk_alloc ?_ _)); exact BK232.out) hb); have n2_ := Aside0.mk (below_step (by repeat (first | (with_reducible first | exact HB.out | apply below_alloc | apply pw_below_drewN | apply below_drew1 | refine below_set ?_ GE232.out) | exact HB.out)) hb); clear HO_5; clear BK232; clear HB; have HO_5 := n0_; have BK232 := n1_; have HB := n2_; clear n0_ n1_ n2_; (try clear hb); (try clear hb2); (try clear hk); (try clear hi)) | ((with_reducible refine gate_dst (N := 9) rfl ?_); (try (refine gate_guard (by rfl) ?_; dsimp only)); refine box_event ?hg (N := 9) ?hd (cs := #[.int .i8 0, .int .i8 0, .int .i8 0, .int .i8 0, .int .i64 0]) (t := 36) ?hr ?_; (case hd => rfl); (case hg => rfl); (case hr => first | (go_simp; done) | (go_simp; rfl)); intro gb261 hg w41 hbox hb; have n0_ := Aside0.mk (Kd.R_below (by (with_reducible repeat (first | apply Kd.R_alloc | apply Kd.R_drewN | apply Kd.R_drew)); exact HO_5.out) hb); have n1_ := Aside0.mk (blk_below (g := gb232) (o := .cells #[.slice (some ad255) l0_0.length c0_0, .int .i64 a0_1, .slice A0_2 l0_2.length c0_2] 25 (0, 0)) (by (with_reducible repeat (first | refine blk_drewN ?_ _ | refine blk_drew ?_ | refine blk_alloc ?_ _)); exact BK232.out) hb); have n2_ := Aside0.mk (below_step (by repeat (first | (with_reducible first | exact HB.out | apply below_alloc | apply pw_below_drewN | apply below_drew1 | refine below_set ?_ GE232.out) | exact HB.out)) hb); have n3_ := Aside0.mk (hbox); have n4_ := Aside0.mk ((by rw [hg]; exact (below_size (by repeat (first | (with_reducible first | exact HB.out | apply below_alloc | apply pw_below_drewN | apply below_drew1 | refine below_set ?_ GE232.out) | exact HB.out))) : w.heap.size ≤ gb261)); have n5_ := Aside0.mk ((by rw [hg]; exact (below_size (by repeat (first | (with_reducible first | exact HB.out | apply below_alloc | apply pw_below_drewN | apply below_drew1 | refine below_set ?_ GE232.out) | exact HB.out))) : w.heap.size ≤ gb261)); have n6_ := Aside0.mk ((by rw [hg]; exact Nat.ne_of_lt (blk_lt (g := gb232) (o := .cells #[.slice (some ad255) l0_0.length c0_0, .int .i64 a0_1, .slice A0_2 l0_2.length c0_2] 25 (0, 0)) (by (with_reducible repeat (first | refine blk_drewN ?_ _ | refine blk_drew ?_ | refine blk_alloc ?_ _)); exact BK232.out)) : gb232 ≠ gb261)); have n7_ := Aside0.mk ((by rw [hg]; exact Nat.ne_of_gt (blk_lt (g := gb232) (o := .cells #[.slice (some ad255) l0_0.length c0_0, .int .i64 a0_1, .slice A0_2 l0_2.length c0_2] 25 (0, 0)) (by (with_reducible repeat (first | refine blk_drewN ?_ _ | refine blk_drew ?_ | refine blk_alloc ?_ _)); exact BK232.out)) : gb261 ≠ gb232)); clear HO_5; clear BK232; clear HB; have HO_5 := n0_; have BK232 := n1_; have HB := n2_; have BK261 := n3_; have GW261 := n4_; have GE261 := n5_; have NB232_261 := n6_; have NB261_232 := n7_; clear n0_ n1_ n2_ n3_ n4_ n5_ n6_ n7_; clear hb hbox hg; have hnb42 := NB261_232.out; have hnc42 := NB232_261.out; have hcz43_0 : w41.cell? ⟨gb261, 0, none⟩ = some (.int .i8 0) := (blk_cell BK261.out 0).trans rfl; have hcz43_1 : w41.cell? ⟨gb261, 1, none⟩ = some (.int .i8 0) := (blk_cell BK261.out 1).trans rfl; have hcz43_2 : w41.cell? ⟨gb261, 2, none⟩ = some (.int .i8 0) := (blk_cell BK261.out 2).trans rfl; have hcz43_3 : w41.cell? ⟨gb261, 3, none⟩ = some (.int .i8 0) := (blk_cell BK261.out 3).trans rfl; have hcz43_4 : w41.cell? ⟨gb261, 4, none⟩ = some (.int .i64 0) := (blk_cell BK261.out 4).trans rfl; have hfz43_0 := blk_frozen BK261.out 0; have hfz43_1 := blk_frozen BK261.out 1; have hfz43_2 := blk_frozen BK261.out 2; have hfz43_3 := blk_frozen BK261.out 3; have hfz43_4 := blk_frozen BK261.out 4)); go_upto_region 15 with (first | (go_at_call 16; (with_reducible refine (isa_Decode.calls kj27 (rd l0_0 x8_3) t256 t257 t258 t259 t260 _ A37.out).mono ?_); rintro e w40 ⟨rfl, hb⟩; have n0_ := Aside0.mk (Kd.R_below (by (with_reducible repeat (first | apply Kd.R_alloc | apply Kd.R_drewN | apply Kd.R_drew)); exact HO_5.out) hb); have n1_ := Aside0.mk (blk_below (g := gb232) (o := .cells #[.slice (some ad255) l0_0.length c0_0, .int .i64 a0_1, .slice A0_2 l0_2.length c0_2] 25 (0, 0)) (by (with_reducible repeat (first | refine blk_drewN ?_ _ | refine blk_drew ?_ | refine blk_alloc ?_ _)); exact BK232.out) hb); have n2_ := Aside0.mk (below_step (by repeat (first | (with_reducible first | exact HB.out | apply below_alloc | apply pw_below_drewN | apply below_drew1 | refine below_set ?_ GE232.out) | exact HB.out)) hb); clear HO_5; clear BK232; clear HB; have HO_5 := n0_; have BK232 := n1_; have HB := n2_; clear n0_ n1_ n2_; (try clear hb); (try clear hb2); (try clear hk); (try clear hi)) | ((with_reducible refine gate_dst (N := 9) rfl ?_); (try (refine gate_guard (by rfl) ?_; dsimp only)); refine box_event ?hg (N := 9) ?hd (cs := #[.int .i8 0, .int .i8 0, .int .i8 0, .int .i8 0, .int .i64 0]) (t := 36) ?hr ?_; (case hd => rfl); (case hg => rfl); (case hr => first | (go_simp; done) | (go_simp; rfl)); intro gb261 hg w41 hbox hb; have n0_ := Aside0.mk (Kd.R_below (by (with_reducible repeat (first | apply Kd.R_alloc | apply Kd.R_drewN | apply Kd.R_drew)); exact HO_5.out) hb); have n1_ := Aside0.mk (blk_below (g := gb232) (o := .cells #[.slice (some ad255) l0_0.length c0_0, .int .i64 a0_1, .slice A0_2 l0_2.length c0_2] 25 (0, 0)) (by (with_reducible repeat (first | refine blk_drewN ?_ _ | refine blk_drew ?_ | refine blk_alloc ?_ _)); exact BK232.out) hb); have n2_ := Aside0.mk (below_step (by repeat (first | (with_reducible first | exact HB.out | apply below_alloc | apply pw_below_drewN | apply below_drew1 | refine below_set ?_ GE232.out) | exact HB.out)) hb); have n3_ := Aside0.mk (hbox); have n4_ := Aside0.mk ((by rw [hg]; exact (below_size (by repeat (first | (with_reducible first | exact HB.out | apply below_alloc | apply pw_below_drewN | apply below_drew1 | refine below_set ?_ GE232.out) | exact HB.out))) : w.heap.size ≤ gb261)); have n5_ := Aside0.mk ((by rw [hg]; exact (below_size (by repeat (first | (with_reducible first | exact HB.out | apply below_alloc | apply pw_below_drewN | apply below_drew1 | refine below_set ?_ GE232.out) | exact HB.out))) : w.heap.size ≤ gb261)); have n6_ := Aside0.mk ((by rw [hg]; exact Nat.ne_of_lt (blk_lt (g := gb232) (o := .cells #[.slice (some ad255) l0_0.length c0_0, .int .i64 a0_1, .slice A0_2 l0_2.length c0_2] 25 (0, 0)) (by (with_reducible repeat (first | refine blk_drewN ?_ _ | refine blk_drew ?_ | refine blk_alloc ?_ _)); exact BK232.out)) : gb232 ≠ gb261)); have n7_ := Aside0.mk ((by rw [hg]; exact Nat.ne_of_gt (blk_lt (g := gb232) (o := .cells #[.slice (some ad255) l0_0.length c0_0, .int .i64 a0_1, .slice A0_2 l0_2.length c0_2] 25 (0, 0)) (by (with_reducible repeat (first | refine blk_drewN ?_ _ | refine blk_drew ?_ | refine blk_alloc ?_ _)); exact BK232.out)) : gb261 ≠ gb232)); clear HO_5; clear BK232; clear HB; have HO_5 := n0_; have BK232 := n1_; have HB := n2_; have BK261 := n3_; have GW261 := n4_; have GE261 := n5_; have NB232_261 := n6_; have NB261_232 := n7_; clear n0_ n1_ n2_ n3_ n4_ n5_ n6_ n7_; clear hb hbox hg; have hnb42 := NB261_232.out; have hnc42 := NB232_261.out; have hcz43_0 : w41.cell? ⟨gb261, 0, none⟩ = some (.int .i8 0) := (blk_cell BK261.out 0).trans rfl; have hcz43_1 : w41.cell? ⟨gb261, 1, none⟩ = some (.int .i8 0) := (blk_cell BK261.out 1).trans rfl; have hcz43_2 : w41.cell? ⟨gb261, 2, none⟩ = some (.int .i8 0) := (blk_cell BK261.out 2).trans rfl; have hcz43_3 : w41.cell? ⟨gb261, 3, none⟩ = some (.int .i8 0) := (blk_cell BK261.out 3).trans rfl; have hcz43_4 : w41.cell? ⟨gb261, 4, none⟩ = some (.int .i64 0) := (blk_cell BK261.out 4).trans rfl; have hfz43_0 := blk_frozen BK261.out 0; have hfz43_1 := blk_frozen BK261.out 1; have hfz43_2 := blk_frozen BK261.out 2; have hfz43_3 := blk_frozen BK261.out 3; have hfz43_4 := blk_frozen BK261.out 4)))
                                (try simp only [Act.put, List.setIfInBounds_toArray, List.set_cons_zero, List.set_cons_succ])
                                go_cut [10] (fun v10 wc => ∃ (kq : Nat) (x10_37 : Bool), v10 = .bool x10_37 ∧ Aside0 (pleatlaw15_NumberSame.j4 kq t243 ji35 x8_3 x10_37 l0_0 a0_1 l0_2 t256 t257 t258 t259 t260 = some r) ∧ Aside0 (kq ≤ kj27) ∧ Aside0 (Kd.R (Kd.int .i64) 3 wc w.heap.size (fun _ => True) (.slice (some ad254) t243.length co29) t243) ∧ Aside0 (wc.heap[gb232]? = some (.cells #[(.slice (some ad255) l0_0.length c0_0), .int .i64 a0_1, (.slice A0_2 l0_2.length c0_2)] 25 (0, 0))) ∧ Aside0 (wc.heap[gb261]? = some (.cells #[.int .i8 t256, .int .i8 t257, .int .i8 t258, .int .i8 t259, .int .i64 t260] 36 (0, 0))) ∧ Aside0 (Below w.heap.size w wc))
                                case first =>
                                  have H := HC38.out
                                  clear HC38
                                  by_cases c44 : t257 = 15
                                  · rw [if_pos c44] at H
                                    have c44b0 : (t257 == 15) = true := beq_iff_eq.mpr c44
                                    have c44b1 : (t257 != 15) = false := bne_eq_false_iff_eq.mpr c44
                                    clear c44
                                    (first | rw [c44b0] | (simp only [i64_w, i32_w]; rw [c44b0]) | skip)
                                    have H' := Aside0.mk H
                                    clear H
                                    have hnb45 := NB261_232.out
                                    have hnc45 := NB232_261.out
                                    have hcz46_0 : w41.cell? ⟨gb261, 0, none⟩ = some (.int .i8 0) := (blk_cell BK261.out 0).trans rfl
                                    have hcz46_1 : w41.cell? ⟨gb261, 1, none⟩ = some (.int .i8 0) := (blk_cell BK261.out 1).trans rfl
                                    have hcz46_2 : w41.cell? ⟨gb261, 2, none⟩ = some (.int .i8 0) := (blk_cell BK261.out 2).trans rfl
                                    have hcz46_3 : w41.cell? ⟨gb261, 3, none⟩ = some (.int .i8 0) := (blk_cell BK261.out 3).trans rfl
                                    have hcz46_4 : w41.cell? ⟨gb261, 4, none⟩ = some (.int .i64 0) := (blk_cell BK261.out 4).trans rfl
                                    have hfz46_0 := blk_frozen BK261.out 0
                                    have hfz46_1 := blk_frozen BK261.out 1
                                    have hfz46_2 := blk_frozen BK261.out 2
                                    have hfz46_3 := blk_frozen BK261.out 3
                                    have hfz46_4 := blk_frozen BK261.out 4
                                    go_wp2
                                    repeat (go_quiet (fail); try go_wp2)
                                    go_meet
                                    case rel => exact ⟨_, (true), (by first | rfl | (simp; done) | (simp [*]; done)), H', ⟨by have := HJ2.out; have := HJ16.out; have := HK3.out; have := HJ27.out; first | omega | exact Nat.le_refl _⟩, ⟨by (with_reducible repeat (first | apply Kd.R_alloc | apply Kd.R_drewN | apply Kd.R_drew)); exact Kd.R_mono (Kd.R_far (p := ⟨gb261, 4, none⟩) (Kd.R_far (p := ⟨gb261, 3, none⟩) (Kd.R_far (p := ⟨gb261, 2, none⟩) (Kd.R_far (p := ⟨gb261, 1, none⟩) (Kd.R_far (p := ⟨gb261, 0, none⟩) (Kd.R_types HO_5.out BK261.out (by decide)) (fun _ hk => hk.2) (.int .i8 t256)) (fun _ hk => hk.2) (.int .i8 t257)) (fun _ hk => hk.2) (.int .i8 t258)) (fun _ hk => hk.2) (.int .i8 t259)) (fun _ hk => hk.2) (.int .i64 t260)) (fun _ hk => trivial)⟩, ⟨by (with_reducible repeat (first | refine blk_drewN ?_ _ | refine blk_drew ?_ | refine blk_alloc ?_ _)); refine blk_far ?_ NB232_261.out _; (with_reducible repeat (first | refine blk_drewN ?_ _ | refine blk_drew ?_ | refine blk_alloc ?_ _)); refine blk_far ?_ NB232_261.out _; (with_reducible repeat (first | refine blk_drewN ?_ _ | refine blk_drew ?_ | refine blk_alloc ?_ _)); refine blk_far ?_ NB232_261.out _; (with_reducible repeat (first | refine blk_drewN ?_ _ | refine blk_drew ?_ | refine blk_alloc ?_ _)); refine blk_far ?_ NB232_261.out _; (with_reducible repeat (first | refine blk_drewN ?_ _ | refine blk_drew ?_ | refine blk_alloc ?_ _)); refine blk_far ?_ NB232_261.out _; (with_reducible repeat (first | refine blk_drewN ?_ _ | refine blk_drew ?_ | refine blk_alloc ?_ _)); exact BK232.out⟩, ⟨by (with_reducible repeat (first | refine blk_drewN ?_ _ | refine blk_drew ?_ | refine blk_alloc ?_ _)); refine blk_put (cs := #[.int .i8 t256, .int .i8 t257, .int .i8 t258, .int .i8 t259, .int .i64 0]) ?_ 4 _ rfl; (with_reducible repeat (first | refine blk_drewN ?_ _ | refine blk_drew ?_ | refine blk_alloc ?_ _)); refine blk_put (cs := #[.int .i8 t256, .int .i8 t257, .int .i8 t258, .int .i8 0, .int .i64 0]) ?_ 3 _ rfl; (with_reducible repeat (first | refine blk_drewN ?_ _ | refine blk_drew ?_ | refine blk_alloc ?_ _)); refine blk_put (cs := #[.int .i8 t256, .int .i8 t257, .int .i8 0, .int .i8 0, .int .i64 0]) ?_ 2 _ rfl; (with_reducible repeat (first | refine blk_drewN ?_ _ | refine blk_drew ?_ | refine blk_alloc ?_ _)); refine blk_put (cs := #[.int .i8 t256, .int .i8 0, .int .i8 0, .int .i8 0, .int .i64 0]) ?_ 1 _ rfl; (with_reducible repeat (first | refine blk_drewN ?_ _ | refine blk_drew ?_ | refine blk_alloc ?_ _)); refine blk_put (cs := #[.int .i8 0, .int .i8 0, .int .i8 0, .int .i8 0, .int .i64 0]) ?_ 0 _ rfl; (with_reducible repeat (first | refine blk_drewN ?_ _ | refine blk_drew ?_ | refine blk_alloc ?_ _)); exact BK261.out⟩, ⟨by repeat (first | (with_reducible first | exact HB.out | apply below_alloc | apply pw_below_drewN | apply below_drew1 | refine below_set ?_ GE232.out | refine below_set ?_ GE261.out) | exact HB.out)⟩⟩
                                  · rw [if_neg c44] at H
                                    have c44b0 : (t257 == 15) = false := beq_eq_false_iff_ne.mpr c44
                                    have c44b1 : (t257 != 15) = true := bne_iff_ne.mpr c44
                                    (first | rw [c44b0] | (simp only [i64_w, i32_w]; rw [c44b0]) | skip)
                                    by_cases c47 : t258 = 15
                                    · rw [if_pos c47] at H
                                      have c47b0 : (t258 == 15) = true := beq_iff_eq.mpr c47
                                      have c47b1 : (t258 != 15) = false := bne_eq_false_iff_eq.mpr c47
                                      clear c47
                                      have H' := Aside0.mk H
                                      clear H
                                      have hnb48 := NB261_232.out
                                      have hnc48 := NB232_261.out
                                      have hcz49_0 : w41.cell? ⟨gb261, 0, none⟩ = some (.int .i8 0) := (blk_cell BK261.out 0).trans rfl
                                      have hcz49_1 : w41.cell? ⟨gb261, 1, none⟩ = some (.int .i8 0) := (blk_cell BK261.out 1).trans rfl
                                      have hcz49_2 : w41.cell? ⟨gb261, 2, none⟩ = some (.int .i8 0) := (blk_cell BK261.out 2).trans rfl
                                      have hcz49_3 : w41.cell? ⟨gb261, 3, none⟩ = some (.int .i8 0) := (blk_cell BK261.out 3).trans rfl
                                      have hcz49_4 : w41.cell? ⟨gb261, 4, none⟩ = some (.int .i64 0) := (blk_cell BK261.out 4).trans rfl
                                      have hfz49_0 := blk_frozen BK261.out 0
                                      have hfz49_1 := blk_frozen BK261.out 1
                                      have hfz49_2 := blk_frozen BK261.out 2
                                      have hfz49_3 := blk_frozen BK261.out 3
                                      have hfz49_4 := blk_frozen BK261.out 4
                                      go_wp2
                                      repeat (go_quiet (fail); try go_wp2)
                                      go_meet
                                      case rel => exact ⟨_, (true), (by first | rfl | (simp; done) | (simp [*]; done)), H', ⟨by have := HJ2.out; have := HJ16.out; have := HK3.out; have := HJ27.out; first | omega | exact Nat.le_refl _⟩, ⟨by (with_reducible repeat (first | apply Kd.R_alloc | apply Kd.R_drewN | apply Kd.R_drew)); exact Kd.R_mono (Kd.R_far (p := ⟨gb261, 4, none⟩) (Kd.R_far (p := ⟨gb261, 3, none⟩) (Kd.R_far (p := ⟨gb261, 2, none⟩) (Kd.R_far (p := ⟨gb261, 1, none⟩) (Kd.R_far (p := ⟨gb261, 0, none⟩) (Kd.R_types HO_5.out BK261.out (by decide)) (fun _ hk => hk.2) (.int .i8 t256)) (fun _ hk => hk.2) (.int .i8 t257)) (fun _ hk => hk.2) (.int .i8 t258)) (fun _ hk => hk.2) (.int .i8 t259)) (fun _ hk => hk.2) (.int .i64 t260)) (fun _ hk => trivial)⟩, ⟨by (with_reducible repeat (first | refine blk_drewN ?_ _ | refine blk_drew ?_ | refine blk_alloc ?_ _)); refine blk_far ?_ NB232_261.out _; (with_reducible repeat (first | refine blk_drewN ?_ _ | refine blk_drew ?_ | refine blk_alloc ?_ _)); refine blk_far ?_ NB232_261.out _; (with_reducible repeat (first | refine blk_drewN ?_ _ | refine blk_drew ?_ | refine blk_alloc ?_ _)); refine blk_far ?_ NB232_261.out _; (with_reducible repeat (first | refine blk_drewN ?_ _ | refine blk_drew ?_ | refine blk_alloc ?_ _)); refine blk_far ?_ NB232_261.out _; (with_reducible repeat (first | refine blk_drewN ?_ _ | refine blk_drew ?_ | refine blk_alloc ?_ _)); refine blk_far ?_ NB232_261.out _; (with_reducible repeat (first | refine blk_drewN ?_ _ | refine blk_drew ?_ | refine blk_alloc ?_ _)); exact BK232.out⟩, ⟨by (with_reducible repeat (first | refine blk_drewN ?_ _ | refine blk_drew ?_ | refine blk_alloc ?_ _)); refine blk_put (cs := #[.int .i8 t256, .int .i8 t257, .int .i8 t258, .int .i8 t259, .int .i64 0]) ?_ 4 _ rfl; (with_reducible repeat (first | refine blk_drewN ?_ _ | refine blk_drew ?_ | refine blk_alloc ?_ _)); refine blk_put (cs := #[.int .i8 t256, .int .i8 t257, .int .i8 t258, .int .i8 0, .int .i64 0]) ?_ 3 _ rfl; (with_reducible repeat (first | refine blk_drewN ?_ _ | refine blk_drew ?_ | refine blk_alloc ?_ _)); refine blk_put (cs := #[.int .i8 t256, .int .i8 t257, .int .i8 0, .int .i8 0, .int .i64 0]) ?_ 2 _ rfl; (with_reducible repeat (first | refine blk_drewN ?_ _ | refine blk_drew ?_ | refine blk_alloc ?_ _)); refine blk_put (cs := #[.int .i8 t256, .int .i8 0, .int .i8 0, .int .i8 0, .int .i64 0]) ?_ 1 _ rfl; (with_reducible repeat (first | refine blk_drewN ?_ _ | refine blk_drew ?_ | refine blk_alloc ?_ _)); refine blk_put (cs := #[.int .i8 0, .int .i8 0, .int .i8 0, .int .i8 0, .int .i64 0]) ?_ 0 _ rfl; (with_reducible repeat (first | refine blk_drewN ?_ _ | refine blk_drew ?_ | refine blk_alloc ?_ _)); exact BK261.out⟩, ⟨by repeat (first | (with_reducible first | exact HB.out | apply below_alloc | apply pw_below_drewN | apply below_drew1 | refine below_set ?_ GE232.out | refine below_set ?_ GE261.out) | exact HB.out)⟩⟩
                                    · rw [if_neg c47] at H
                                      have c47b0 : (t258 == 15) = false := beq_eq_false_iff_ne.mpr c47
                                      have c47b1 : (t258 != 15) = true := bne_iff_ne.mpr c47
                                      have H' := Aside0.mk H
                                      clear H
                                      have hnb50 := NB261_232.out
                                      have hnc50 := NB232_261.out
                                      have hcz51_0 : w41.cell? ⟨gb261, 0, none⟩ = some (.int .i8 0) := (blk_cell BK261.out 0).trans rfl
                                      have hcz51_1 : w41.cell? ⟨gb261, 1, none⟩ = some (.int .i8 0) := (blk_cell BK261.out 1).trans rfl
                                      have hcz51_2 : w41.cell? ⟨gb261, 2, none⟩ = some (.int .i8 0) := (blk_cell BK261.out 2).trans rfl
                                      have hcz51_3 : w41.cell? ⟨gb261, 3, none⟩ = some (.int .i8 0) := (blk_cell BK261.out 3).trans rfl
                                      have hcz51_4 : w41.cell? ⟨gb261, 4, none⟩ = some (.int .i64 0) := (blk_cell BK261.out 4).trans rfl
                                      have hfz51_0 := blk_frozen BK261.out 0
                                      have hfz51_1 := blk_frozen BK261.out 1
                                      have hfz51_2 := blk_frozen BK261.out 2
                                      have hfz51_3 := blk_frozen BK261.out 3
                                      have hfz51_4 := blk_frozen BK261.out 4
                                      go_wp2
                                      repeat (go_quiet (fail); try go_wp2)
                                      go_meet
                                      case rel => exact ⟨_, ((t259 == 15)), (by first | rfl | (simp; done) | (simp [*]; done)), H', ⟨by have := HJ2.out; have := HJ16.out; have := HK3.out; have := HJ27.out; first | omega | exact Nat.le_refl _⟩, ⟨by (with_reducible repeat (first | apply Kd.R_alloc | apply Kd.R_drewN | apply Kd.R_drew)); exact Kd.R_mono (Kd.R_far (p := ⟨gb261, 4, none⟩) (Kd.R_far (p := ⟨gb261, 3, none⟩) (Kd.R_far (p := ⟨gb261, 2, none⟩) (Kd.R_far (p := ⟨gb261, 1, none⟩) (Kd.R_far (p := ⟨gb261, 0, none⟩) (Kd.R_types HO_5.out BK261.out (by decide)) (fun _ hk => hk.2) (.int .i8 t256)) (fun _ hk => hk.2) (.int .i8 t257)) (fun _ hk => hk.2) (.int .i8 t258)) (fun _ hk => hk.2) (.int .i8 t259)) (fun _ hk => hk.2) (.int .i64 t260)) (fun _ hk => trivial)⟩, ⟨by (with_reducible repeat (first | refine blk_drewN ?_ _ | refine blk_drew ?_ | refine blk_alloc ?_ _)); refine blk_far ?_ NB232_261.out _; (with_reducible repeat (first | refine blk_drewN ?_ _ | refine blk_drew ?_ | refine blk_alloc ?_ _)); refine blk_far ?_ NB232_261.out _; (with_reducible repeat (first | refine blk_drewN ?_ _ | refine blk_drew ?_ | refine blk_alloc ?_ _)); refine blk_far ?_ NB232_261.out _; (with_reducible repeat (first | refine blk_drewN ?_ _ | refine blk_drew ?_ | refine blk_alloc ?_ _)); refine blk_far ?_ NB232_261.out _; (with_reducible repeat (first | refine blk_drewN ?_ _ | refine blk_drew ?_ | refine blk_alloc ?_ _)); refine blk_far ?_ NB232_261.out _; (with_reducible repeat (first | refine blk_drewN ?_ _ | refine blk_drew ?_ | refine blk_alloc ?_ _)); exact BK232.out⟩, ⟨by (with_reducible repeat (first | refine blk_drewN ?_ _ | refine blk_drew ?_ | refine blk_alloc ?_ _)); refine blk_put (cs := #[.int .i8 t256, .int .i8 t257, .int .i8 t258, .int .i8 t259, .int .i64 0]) ?_ 4 _ rfl; (with_reducible repeat (first | refine blk_drewN ?_ _ | refine blk_drew ?_ | refine blk_alloc ?_ _)); refine blk_put (cs := #[.int .i8 t256, .int .i8 t257, .int .i8 t258, .int .i8 0, .int .i64 0]) ?_ 3 _ rfl; (with_reducible repeat (first | refine blk_drewN ?_ _ | refine blk_drew ?_ | refine blk_alloc ?_ _)); refine blk_put (cs := #[.int .i8 t256, .int .i8 t257, .int .i8 0, .int .i8 0, .int .i64 0]) ?_ 2 _ rfl; (with_reducible repeat (first | refine blk_drewN ?_ _ | refine blk_drew ?_ | refine blk_alloc ?_ _)); refine blk_put (cs := #[.int .i8 t256, .int .i8 0, .int .i8 0, .int .i8 0, .int .i64 0]) ?_ 1 _ rfl; (with_reducible repeat (first | refine blk_drewN ?_ _ | refine blk_drew ?_ | refine blk_alloc ?_ _)); refine blk_put (cs := #[.int .i8 0, .int .i8 0, .int .i8 0, .int .i8 0, .int .i64 0]) ?_ 0 _ rfl; (with_reducible repeat (first | refine blk_drewN ?_ _ | refine blk_drew ?_ | refine blk_alloc ?_ _)); exact BK261.out⟩, ⟨by repeat (first | (with_reducible first | exact HB.out | apply below_alloc | apply pw_below_drewN | apply below_drew1 | refine below_set ?_ GE232.out | refine below_set ?_ GE261.out) | exact HB.out)⟩⟩
                                case rest =>
                                  clear HC38
                                  try clear c1
                                  try clear c2
                                  try clear p2
                                  try clear q2
                                  try clear hx2
                                  try clear c3
                                  try clear c4
                                  try clear c5
                                  try clear p6
                                  try clear c7
                                  try clear c7b0
                                  try clear c7b1
                                  try clear c9
                                  try clear c9b0
                                  try clear c9b1
                                  try clear c12
                                  try clear c23
                                  try clear c23b0
                                  try clear c23b1
                                  try clear p25
                                  try clear q25
                                  try clear hx25
                                  try clear c26
                                  try clear c27
                                  try clear c27b0
                                  try clear c30
                                  try clear c30b0
                                  try clear c31
                                  try clear c31b0
                                  try clear c32
                                  try clear c33
                                  try clear c33b0
                                  try clear c34
                                  try clear c34b0
                                  try clear c36
                                  try clear c36b0
                                  try clear c42
                                  try clear c44
                                  try clear c44b0
                                  try clear c44b1
                                  try clear c45
                                  try clear c47
                                  try clear c47b0
                                  try clear c47b1
                                  try clear c48
                                  try clear c50
                                  try clear hcz10_0
                                  try clear hcz10_1
                                  try clear hcz10_2
                                  try clear hcz11_0
                                  try clear hcz11_1
                                  try clear hcz11_2
                                  try clear hcz18_0
                                  try clear hcz18_1
                                  try clear hcz18_2
                                  try clear hcz25_0
                                  try clear hcz25_1
                                  try clear hcz25_2
                                  try clear hcz39_0
                                  try clear hcz39_1
                                  try clear hcz39_2
                                  try clear hcz43_0
                                  try clear hcz43_1
                                  try clear hcz43_2
                                  try clear hcz43_3
                                  try clear hcz43_4
                                  try clear hcz46_0
                                  try clear hcz46_1
                                  try clear hcz46_2
                                  try clear hcz46_3
                                  try clear hcz46_4
                                  try clear hcz49_0
                                  try clear hcz49_1
                                  try clear hcz49_2
                                  try clear hcz49_3
                                  try clear hcz49_4
                                  try clear hcz51_0
                                  try clear hcz51_1
                                  try clear hcz51_2
                                  try clear hcz51_3
                                  try clear hcz51_4
                                  try clear hcz5_0
                                  try clear hcz5_1
                                  try clear hcz5_2
                                  try clear hcz8_0
                                  try clear hcz8_1
                                  try clear hcz8_2
                                  try clear hfz10_0
                                  try clear hfz10_1
                                  try clear hfz10_2
                                  try clear hfz11_0
                                  try clear hfz11_1
                                  try clear hfz11_2
                                  try clear hfz18_0
                                  try clear hfz18_1
                                  try clear hfz18_2
                                  try clear hfz25_0
                                  try clear hfz25_1
                                  try clear hfz25_2
                                  try clear hfz39_0
                                  try clear hfz39_1
                                  try clear hfz39_2
                                  try clear hfz43_0
                                  try clear hfz43_1
                                  try clear hfz43_2
                                  try clear hfz43_3
                                  try clear hfz43_4
                                  try clear hfz46_0
                                  try clear hfz46_1
                                  try clear hfz46_2
                                  try clear hfz46_3
                                  try clear hfz46_4
                                  try clear hfz49_0
                                  try clear hfz49_1
                                  try clear hfz49_2
                                  try clear hfz49_3
                                  try clear hfz49_4
                                  try clear hfz51_0
                                  try clear hfz51_1
                                  try clear hfz51_2
                                  try clear hfz51_3
                                  try clear hfz51_4
                                  try clear hfz5_0
                                  try clear hfz5_1
                                  try clear hfz5_2
                                  try clear hfz8_0
                                  try clear hfz8_1
                                  try clear hfz8_2
                                  try clear hx252_0
                                  try clear hx253_0
                                  try clear hx254_0
                                  try clear hx255_0
                                  try clear p2
                                  try clear p25
                                  try clear p252
                                  try clear p253
                                  try clear p254
                                  try clear p255
                                  try clear p6
                                  try clear q2
                                  try clear q25
                                  try clear q252
                                  try clear q253
                                  try clear q254
                                  try clear q255
                                  obtain ⟨kq, x10_37, rfl, HA, HJ37, HO_5, BK232, BK261, HB⟩ := hcut
                                  cases kq with
                                  | zero => exact absurd HA.out (by simp [pleatlaw15_NumberSame.j4])
                                  | succ kj37 =>
                                    have H := HA.out
                                    clear HA
                                    simp only [pleatlaw15_NumberSame.j4] at H
                                    have HC52 := Aside0.mk H
                                    clear H
                                    go_upto_region 16 with (fail)
                                    repeat (go_quiet (fail); go_upto_region 16 with (fail))
                                    go_cut [11] (fun v11 wc => ∃ (kq : Nat) (x11_51 : Bool), v11 = .bool x11_51 ∧ Aside0 (pleatlaw15_NumberSame.j5 kq t243 ji35 x8_3 x11_51 l0_0 a0_1 l0_2 = some r) ∧ Aside0 (kq ≤ kj37) ∧ Aside0 (Kd.R (Kd.int .i64) 3 wc w.heap.size (fun _ => True) (.slice (some ad254) t243.length co29) t243) ∧ Aside0 (wc.heap[gb232]? = some (.cells #[(.slice (some ad255) l0_0.length c0_0), .int .i64 a0_1, (.slice A0_2 l0_2.length c0_2)] 25 (0, 0))) ∧ Aside0 (wc.heap[gb261]? = some (.cells #[.int .i8 t256, .int .i8 t257, .int .i8 t258, .int .i8 t259, .int .i64 t260] 36 (0, 0))) ∧ Aside0 (Below w.heap.size w wc))
                                    case first =>
                                      have H := HC52.out
                                      clear HC52
                                      by_cases c53 : t256 < 0
                                      · rw [if_pos c53] at H
                                        have c53b0 : decide (t256 < 0) = true := decide_eq_true c53
                                        clear c53
                                        (first | rw [c53b0] | (simp only [i64_w, i32_w]; rw [c53b0]) | skip)
                                        have H' := Aside0.mk H
                                        clear H
                                        have hnb54 := NB261_232.out
                                        have hnc54 := NB232_261.out
                                        have hcz55_0 : wc.cell? ⟨gb261, 0, none⟩ = some (.int .i8 t256) := (blk_cell BK261.out 0).trans rfl
                                        have hcz55_1 : wc.cell? ⟨gb261, 1, none⟩ = some (.int .i8 t257) := (blk_cell BK261.out 1).trans rfl
                                        have hcz55_2 : wc.cell? ⟨gb261, 2, none⟩ = some (.int .i8 t258) := (blk_cell BK261.out 2).trans rfl
                                        have hcz55_3 : wc.cell? ⟨gb261, 3, none⟩ = some (.int .i8 t259) := (blk_cell BK261.out 3).trans rfl
                                        have hcz55_4 : wc.cell? ⟨gb261, 4, none⟩ = some (.int .i64 t260) := (blk_cell BK261.out 4).trans rfl
                                        have hfz55_0 := blk_frozen BK261.out 0
                                        have hfz55_1 := blk_frozen BK261.out 1
                                        have hfz55_2 := blk_frozen BK261.out 2
                                        have hfz55_3 := blk_frozen BK261.out 3
                                        have hfz55_4 := blk_frozen BK261.out 4
                                        go_wp2
                                        repeat (go_quiet (fail); try go_wp2)
                                        go_meet
                                        case rel => exact ⟨_, (true), (by first | rfl | (simp; done) | (simp [*]; done)), H', ⟨by have := HJ2.out; have := HJ16.out; have := HK3.out; have := HJ27.out; have := HJ37.out; first | omega | exact Nat.le_refl _⟩, ⟨by (with_reducible repeat (first | apply Kd.R_alloc | apply Kd.R_drewN | apply Kd.R_drew)); exact HO_5.out⟩, ⟨by (with_reducible repeat (first | refine blk_drewN ?_ _ | refine blk_drew ?_ | refine blk_alloc ?_ _)); exact BK232.out⟩, ⟨by (with_reducible repeat (first | refine blk_drewN ?_ _ | refine blk_drew ?_ | refine blk_alloc ?_ _)); exact BK261.out⟩, ⟨by repeat (first | (with_reducible first | exact HB.out | apply below_alloc | apply pw_below_drewN | apply below_drew1 | refine below_set ?_ GE232.out | refine below_set ?_ GE261.out) | exact HB.out)⟩⟩
                                      · rw [if_neg c53] at H
                                        have c53b0 : decide (t256 < 0) = false := decide_eq_false c53
                                        clear c53
                                        (first | rw [c53b0] | (simp only [i64_w, i32_w]; rw [c53b0]) | skip)
                                        by_cases c56 : t256 = 16
                                        · rw [if_pos c56] at H
                                          have c56b0 : (t256 == 16) = true := beq_iff_eq.mpr c56
                                          have c56b1 : (t256 != 16) = false := bne_eq_false_iff_eq.mpr c56
                                          clear c56
                                          have H' := Aside0.mk H
                                          clear H
                                          have hnb57 := NB261_232.out
                                          have hnc57 := NB232_261.out
                                          have hcz58_0 : wc.cell? ⟨gb261, 0, none⟩ = some (.int .i8 t256) := (blk_cell BK261.out 0).trans rfl
                                          have hcz58_1 : wc.cell? ⟨gb261, 1, none⟩ = some (.int .i8 t257) := (blk_cell BK261.out 1).trans rfl
                                          have hcz58_2 : wc.cell? ⟨gb261, 2, none⟩ = some (.int .i8 t258) := (blk_cell BK261.out 2).trans rfl
                                          have hcz58_3 : wc.cell? ⟨gb261, 3, none⟩ = some (.int .i8 t259) := (blk_cell BK261.out 3).trans rfl
                                          have hcz58_4 : wc.cell? ⟨gb261, 4, none⟩ = some (.int .i64 t260) := (blk_cell BK261.out 4).trans rfl
                                          have hfz58_0 := blk_frozen BK261.out 0
                                          have hfz58_1 := blk_frozen BK261.out 1
                                          have hfz58_2 := blk_frozen BK261.out 2
                                          have hfz58_3 := blk_frozen BK261.out 3
                                          have hfz58_4 := blk_frozen BK261.out 4
                                          go_wp2
                                          repeat (go_quiet (fail); try go_wp2)
                                          go_meet
                                          case rel => exact ⟨_, (true), (by first | rfl | (simp; done) | (simp [*]; done)), H', ⟨by have := HJ2.out; have := HJ16.out; have := HK3.out; have := HJ27.out; have := HJ37.out; first | omega | exact Nat.le_refl _⟩, ⟨by (with_reducible repeat (first | apply Kd.R_alloc | apply Kd.R_drewN | apply Kd.R_drew)); exact HO_5.out⟩, ⟨by (with_reducible repeat (first | refine blk_drewN ?_ _ | refine blk_drew ?_ | refine blk_alloc ?_ _)); exact BK232.out⟩, ⟨by (with_reducible repeat (first | refine blk_drewN ?_ _ | refine blk_drew ?_ | refine blk_alloc ?_ _)); exact BK261.out⟩, ⟨by repeat (first | (with_reducible first | exact HB.out | apply below_alloc | apply pw_below_drewN | apply below_drew1 | refine below_set ?_ GE232.out | refine below_set ?_ GE261.out) | exact HB.out)⟩⟩
                                        · rw [if_neg c56] at H
                                          have c56b0 : (t256 == 16) = false := beq_eq_false_iff_ne.mpr c56
                                          have c56b1 : (t256 != 16) = true := bne_iff_ne.mpr c56
                                          by_cases c59 : x10_37 = true
                                          · subst c59
                                            have H1 : (pleatlaw15_NumberSame.j5 kj37 t243 ji35 x8_3 (t256 != 19) l0_0 a0_1 l0_2) = some r := by rw [if_pos rfl] at H; exact H
                                            clear H
                                            have H := H1
                                            clear H1
                                            have H' := Aside0.mk H
                                            clear H
                                            have hnb60 := NB261_232.out
                                            have hnc60 := NB232_261.out
                                            have hcz61_0 : wc.cell? ⟨gb261, 0, none⟩ = some (.int .i8 t256) := (blk_cell BK261.out 0).trans rfl
                                            have hcz61_1 : wc.cell? ⟨gb261, 1, none⟩ = some (.int .i8 t257) := (blk_cell BK261.out 1).trans rfl
                                            have hcz61_2 : wc.cell? ⟨gb261, 2, none⟩ = some (.int .i8 t258) := (blk_cell BK261.out 2).trans rfl
                                            have hcz61_3 : wc.cell? ⟨gb261, 3, none⟩ = some (.int .i8 t259) := (blk_cell BK261.out 3).trans rfl
                                            have hcz61_4 : wc.cell? ⟨gb261, 4, none⟩ = some (.int .i64 t260) := (blk_cell BK261.out 4).trans rfl
                                            have hfz61_0 := blk_frozen BK261.out 0
                                            have hfz61_1 := blk_frozen BK261.out 1
                                            have hfz61_2 := blk_frozen BK261.out 2
                                            have hfz61_3 := blk_frozen BK261.out 3
                                            have hfz61_4 := blk_frozen BK261.out 4
                                            go_wp2
                                            repeat (go_quiet (fail); try go_wp2)
                                            go_meet
                                            case rel => exact ⟨_, ((t256 != 19)), (by first | rfl | (simp; done) | (simp [*]; done)), H', ⟨by have := HJ2.out; have := HJ16.out; have := HK3.out; have := HJ27.out; have := HJ37.out; first | omega | exact Nat.le_refl _⟩, ⟨by (with_reducible repeat (first | apply Kd.R_alloc | apply Kd.R_drewN | apply Kd.R_drew)); exact HO_5.out⟩, ⟨by (with_reducible repeat (first | refine blk_drewN ?_ _ | refine blk_drew ?_ | refine blk_alloc ?_ _)); exact BK232.out⟩, ⟨by (with_reducible repeat (first | refine blk_drewN ?_ _ | refine blk_drew ?_ | refine blk_alloc ?_ _)); exact BK261.out⟩, ⟨by repeat (first | (with_reducible first | exact HB.out | apply below_alloc | apply pw_below_drewN | apply below_drew1 | refine below_set ?_ GE232.out | refine below_set ?_ GE261.out) | exact HB.out)⟩⟩
                                          · replace c59 := Bool.eq_false_iff.mpr c59
                                            subst c59
                                            have H1 : (pleatlaw15_NumberSame.j5 kj37 t243 ji35 x8_3 false l0_0 a0_1 l0_2) = some r := by rw [if_neg (show ¬ (false = true) by decide)] at H; exact H
                                            clear H
                                            have H := H1
                                            clear H1
                                            have H' := Aside0.mk H
                                            clear H
                                            have hnb62 := NB261_232.out
                                            have hnc62 := NB232_261.out
                                            have hcz63_0 : wc.cell? ⟨gb261, 0, none⟩ = some (.int .i8 t256) := (blk_cell BK261.out 0).trans rfl
                                            have hcz63_1 : wc.cell? ⟨gb261, 1, none⟩ = some (.int .i8 t257) := (blk_cell BK261.out 1).trans rfl
                                            have hcz63_2 : wc.cell? ⟨gb261, 2, none⟩ = some (.int .i8 t258) := (blk_cell BK261.out 2).trans rfl
                                            have hcz63_3 : wc.cell? ⟨gb261, 3, none⟩ = some (.int .i8 t259) := (blk_cell BK261.out 3).trans rfl
                                            have hcz63_4 : wc.cell? ⟨gb261, 4, none⟩ = some (.int .i64 t260) := (blk_cell BK261.out 4).trans rfl
                                            have hfz63_0 := blk_frozen BK261.out 0
                                            have hfz63_1 := blk_frozen BK261.out 1
                                            have hfz63_2 := blk_frozen BK261.out 2
                                            have hfz63_3 := blk_frozen BK261.out 3
                                            have hfz63_4 := blk_frozen BK261.out 4
                                            go_wp2
                                            repeat (go_quiet (fail); try go_wp2)
                                            go_meet
                                            case rel => exact ⟨_, (false), (by first | rfl | (simp; done) | (simp [*]; done)), H', ⟨by have := HJ2.out; have := HJ16.out; have := HK3.out; have := HJ27.out; have := HJ37.out; first | omega | exact Nat.le_refl _⟩, ⟨by (with_reducible repeat (first | apply Kd.R_alloc | apply Kd.R_drewN | apply Kd.R_drew)); exact HO_5.out⟩, ⟨by (with_reducible repeat (first | refine blk_drewN ?_ _ | refine blk_drew ?_ | refine blk_alloc ?_ _)); exact BK232.out⟩, ⟨by (with_reducible repeat (first | refine blk_drewN ?_ _ | refine blk_drew ?_ | refine blk_alloc ?_ _)); exact BK261.out⟩, ⟨by repeat (first | (with_reducible first | exact HB.out | apply below_alloc | apply pw_below_drewN | apply below_drew1 | refine below_set ?_ GE232.out | refine below_set ?_ GE261.out) | exact HB.out)⟩⟩
                                    case rest =>
                                      clear HC52
                                      try clear c1
                                      try clear c2
                                      try clear p2
                                      try clear q2
                                      try clear hx2
                                      try clear c3
                                      try clear c4
                                      try clear c5
                                      try clear c6
                                      try clear p6
                                      try clear c7
                                      try clear c7b0
                                      try clear c7b1
                                      try clear c9
                                      try clear c9b0
                                      try clear c9b1
                                      try clear c12
                                      try clear c23
                                      try clear c23b0
                                      try clear c23b1
                                      try clear p25
                                      try clear q25
                                      try clear hx25
                                      try clear c26
                                      try clear c27
                                      try clear c27b0
                                      try clear c30
                                      try clear c30b0
                                      try clear c31
                                      try clear c31b0
                                      try clear c32
                                      try clear c33
                                      try clear c33b0
                                      try clear c34
                                      try clear c34b0
                                      try clear c36
                                      try clear c36b0
                                      try clear c42
                                      try clear c44
                                      try clear c44b0
                                      try clear c44b1
                                      try clear c45
                                      try clear c47
                                      try clear c47b0
                                      try clear c47b1
                                      try clear c48
                                      try clear c50
                                      try clear c53
                                      try clear c53b0
                                      try clear c54
                                      try clear c56
                                      try clear c56b0
                                      try clear c56b1
                                      try clear c57
                                      try clear c59
                                      try clear c60
                                      try clear c62
                                      try clear hcz10_0
                                      try clear hcz10_1
                                      try clear hcz10_2
                                      try clear hcz11_0
                                      try clear hcz11_1
                                      try clear hcz11_2
                                      try clear hcz18_0
                                      try clear hcz18_1
                                      try clear hcz18_2
                                      try clear hcz25_0
                                      try clear hcz25_1
                                      try clear hcz25_2
                                      try clear hcz39_0
                                      try clear hcz39_1
                                      try clear hcz39_2
                                      try clear hcz43_0
                                      try clear hcz43_1
                                      try clear hcz43_2
                                      try clear hcz43_3
                                      try clear hcz43_4
                                      try clear hcz46_0
                                      try clear hcz46_1
                                      try clear hcz46_2
                                      try clear hcz46_3
                                      try clear hcz46_4
                                      try clear hcz49_0
                                      try clear hcz49_1
                                      try clear hcz49_2
                                      try clear hcz49_3
                                      try clear hcz49_4
                                      try clear hcz51_0
                                      try clear hcz51_1
                                      try clear hcz51_2
                                      try clear hcz51_3
                                      try clear hcz51_4
                                      try clear hcz55_0
                                      try clear hcz55_1
                                      try clear hcz55_2
                                      try clear hcz55_3
                                      try clear hcz55_4
                                      try clear hcz58_0
                                      try clear hcz58_1
                                      try clear hcz58_2
                                      try clear hcz58_3
                                      try clear hcz58_4
                                      try clear hcz5_0
                                      try clear hcz5_1
                                      try clear hcz5_2
                                      try clear hcz61_0
                                      try clear hcz61_1
                                      try clear hcz61_2
                                      try clear hcz61_3
                                      try clear hcz61_4
                                      try clear hcz63_0
                                      try clear hcz63_1
                                      try clear hcz63_2
                                      try clear hcz63_3
                                      try clear hcz63_4
                                      try clear hcz8_0
                                      try clear hcz8_1
                                      try clear hcz8_2
                                      try clear hfz10_0
                                      try clear hfz10_1
                                      try clear hfz10_2
                                      try clear hfz11_0
                                      try clear hfz11_1
                                      try clear hfz11_2
                                      try clear hfz18_0
                                      try clear hfz18_1
                                      try clear hfz18_2
                                      try clear hfz25_0
                                      try clear hfz25_1
                                      try clear hfz25_2
                                      try clear hfz39_0
                                      try clear hfz39_1
                                      try clear hfz39_2
                                      try clear hfz43_0
                                      try clear hfz43_1
                                      try clear hfz43_2
                                      try clear hfz43_3
                                      try clear hfz43_4
                                      try clear hfz46_0
                                      try clear hfz46_1
                                      try clear hfz46_2
                                      try clear hfz46_3
                                      try clear hfz46_4
                                      try clear hfz49_0
                                      try clear hfz49_1
                                      try clear hfz49_2
                                      try clear hfz49_3
                                      try clear hfz49_4
                                      try clear hfz51_0
                                      try clear hfz51_1
                                      try clear hfz51_2
                                      try clear hfz51_3
                                      try clear hfz51_4
                                      try clear hfz55_0
                                      try clear hfz55_1
                                      try clear hfz55_2
                                      try clear hfz55_3
                                      try clear hfz55_4
                                      try clear hfz58_0
                                      try clear hfz58_1
                                      try clear hfz58_2
                                      try clear hfz58_3
                                      try clear hfz58_4
                                      try clear hfz5_0
                                      try clear hfz5_1
                                      try clear hfz5_2
                                      try clear hfz61_0
                                      try clear hfz61_1
                                      try clear hfz61_2
                                      try clear hfz61_3
                                      try clear hfz61_4
                                      try clear hfz63_0
                                      try clear hfz63_1
                                      try clear hfz63_2
                                      try clear hfz63_3
                                      try clear hfz63_4
                                      try clear hfz8_0
                                      try clear hfz8_1
                                      try clear hfz8_2
                                      try clear hx252_0
                                      try clear hx253_0
                                      try clear hx254_0
                                      try clear hx255_0
                                      try clear p2
                                      try clear p25
                                      try clear p252
                                      try clear p253
                                      try clear p254
                                      try clear p255
                                      try clear p6
                                      try clear q2
                                      try clear q25
                                      try clear q252
                                      try clear q253
                                      try clear q254
                                      try clear q255
                                      obtain ⟨kq, x11_51, rfl, HA, HJ51, HO_5, BK232, BK261, HB⟩ := hcut
                                      cases kq with
                                      | zero => exact absurd HA.out (by simp [pleatlaw15_NumberSame.j5])
                                      | succ kj51 =>
                                        have H := HA.out
                                        clear HA
                                        simp only [pleatlaw15_NumberSame.j5] at H
                                        have H' := Aside0.mk H
                                        clear H
                                        go_wp2
                                        repeat (go_quiet (fail); try go_wp2)
                                        go_loopg [12] kj51 (fun kq v12 w' => ∃ (x12_7 : Int), v12 = .int .i64 x12_7 ∧ Aside0 (pleatlaw15_NumberSame.l1 kq t243 ji35 x8_3 x11_51 x12_7 l0_0 a0_1 l0_2 = some r) ∧ Aside0 (kq ≤ kj51) ∧ Aside0 (Kd.R (Kd.int .i64) 3 w' w.heap.size (fun _ => True) (.slice (some ad254) t243.length co29) t243) ∧ Aside0 (w'.heap[gb232]? = some (.cells #[(.slice (some ad255) l0_0.length c0_0), .int .i64 a0_1, (.slice A0_2 l0_2.length c0_2)] 25 (0, 0))) ∧ Aside0 (w'.heap[gb261]? = some (.cells #[.int .i8 t256, .int .i8 t257, .int .i8 t258, .int .i8 t259, .int .i64 t260] 36 (0, 0))) ∧ Aside0 (Below w.heap.size w w'))
                                        case atStart => exact ⟨(0), (by first | rfl | (simp; done) | (simp [*]; done)), H', ⟨Nat.le_refl _⟩, ⟨by (with_reducible repeat (first | apply Kd.R_alloc | apply Kd.R_drewN | apply Kd.R_drew)); exact HO_5.out⟩, ⟨by (with_reducible repeat (first | refine blk_drewN ?_ _ | refine blk_drew ?_ | refine blk_alloc ?_ _)); exact BK232.out⟩, ⟨by (with_reducible repeat (first | refine blk_drewN ?_ _ | refine blk_drew ?_ | refine blk_alloc ?_ _)); exact BK261.out⟩, ⟨by repeat (first | (with_reducible first | exact HB.out | apply below_alloc | apply pw_below_drewN | apply below_drew1 | refine below_set ?_ GE232.out | refine below_set ?_ GE261.out) | exact HB.out)⟩⟩
                                        case round =>
                                          clear H'
                                          try clear c1
                                          try clear c2
                                          try clear p2
                                          try clear q2
                                          try clear hx2
                                          try clear c3
                                          try clear c4
                                          try clear c5
                                          try clear c6
                                          try clear p6
                                          try clear c7
                                          try clear c7b0
                                          try clear c7b1
                                          try clear c9
                                          try clear c9b0
                                          try clear c9b1
                                          try clear c12
                                          try clear c23
                                          try clear c23b0
                                          try clear c23b1
                                          try clear p25
                                          try clear q25
                                          try clear hx25
                                          try clear c26
                                          try clear c27
                                          try clear c27b0
                                          try clear c30
                                          try clear c30b0
                                          try clear c31
                                          try clear c31b0
                                          try clear c32
                                          try clear c33
                                          try clear c33b0
                                          try clear c34
                                          try clear c34b0
                                          try clear c36
                                          try clear c36b0
                                          try clear c42
                                          try clear c44
                                          try clear c44b0
                                          try clear c44b1
                                          try clear c45
                                          try clear c47
                                          try clear c47b0
                                          try clear c47b1
                                          try clear c48
                                          try clear c50
                                          try clear c53
                                          try clear c53b0
                                          try clear c54
                                          try clear c56
                                          try clear c56b0
                                          try clear c56b1
                                          try clear c57
                                          try clear c59
                                          try clear c60
                                          try clear c62
                                          try clear hcz10_0
                                          try clear hcz10_1
                                          try clear hcz10_2
                                          try clear hcz11_0
                                          try clear hcz11_1
                                          try clear hcz11_2
                                          try clear hcz18_0
                                          try clear hcz18_1
                                          try clear hcz18_2
                                          try clear hcz25_0
                                          try clear hcz25_1
                                          try clear hcz25_2
                                          try clear hcz39_0
                                          try clear hcz39_1
                                          try clear hcz39_2
                                          try clear hcz43_0
                                          try clear hcz43_1
                                          try clear hcz43_2
                                          try clear hcz43_3
                                          try clear hcz43_4
                                          try clear hcz46_0
                                          try clear hcz46_1
                                          try clear hcz46_2
                                          try clear hcz46_3
                                          try clear hcz46_4
                                          try clear hcz49_0
                                          try clear hcz49_1
                                          try clear hcz49_2
                                          try clear hcz49_3
                                          try clear hcz49_4
                                          try clear hcz51_0
                                          try clear hcz51_1
                                          try clear hcz51_2
                                          try clear hcz51_3
                                          try clear hcz51_4
                                          try clear hcz55_0
                                          try clear hcz55_1
                                          try clear hcz55_2
                                          try clear hcz55_3
                                          try clear hcz55_4
                                          try clear hcz58_0
                                          try clear hcz58_1
                                          try clear hcz58_2
                                          try clear hcz58_3
                                          try clear hcz58_4
                                          try clear hcz5_0
                                          try clear hcz5_1
                                          try clear hcz5_2
                                          try clear hcz61_0
                                          try clear hcz61_1
                                          try clear hcz61_2
                                          try clear hcz61_3
                                          try clear hcz61_4
                                          try clear hcz63_0
                                          try clear hcz63_1
                                          try clear hcz63_2
                                          try clear hcz63_3
                                          try clear hcz63_4
                                          try clear hcz8_0
                                          try clear hcz8_1
                                          try clear hcz8_2
                                          try clear hfz10_0
                                          try clear hfz10_1
                                          try clear hfz10_2
                                          try clear hfz11_0
                                          try clear hfz11_1
                                          try clear hfz11_2
                                          try clear hfz18_0
                                          try clear hfz18_1
                                          try clear hfz18_2
                                          try clear hfz25_0
                                          try clear hfz25_1
                                          try clear hfz25_2
                                          try clear hfz39_0
                                          try clear hfz39_1
                                          try clear hfz39_2
                                          try clear hfz43_0
                                          try clear hfz43_1
                                          try clear hfz43_2
                                          try clear hfz43_3
                                          try clear hfz43_4
                                          try clear hfz46_0
                                          try clear hfz46_1
                                          try clear hfz46_2
                                          try clear hfz46_3
                                          try clear hfz46_4
                                          try clear hfz49_0
                                          try clear hfz49_1
                                          try clear hfz49_2
                                          try clear hfz49_3
                                          try clear hfz49_4
                                          try clear hfz51_0
                                          try clear hfz51_1
                                          try clear hfz51_2
                                          try clear hfz51_3
                                          try clear hfz51_4
                                          try clear hfz55_0
                                          try clear hfz55_1
                                          try clear hfz55_2
                                          try clear hfz55_3
                                          try clear hfz55_4
                                          try clear hfz58_0
                                          try clear hfz58_1
                                          try clear hfz58_2
                                          try clear hfz58_3
                                          try clear hfz58_4
                                          try clear hfz5_0
                                          try clear hfz5_1
                                          try clear hfz5_2
                                          try clear hfz61_0
                                          try clear hfz61_1
                                          try clear hfz61_2
                                          try clear hfz61_3
                                          try clear hfz61_4
                                          try clear hfz63_0
                                          try clear hfz63_1
                                          try clear hfz63_2
                                          try clear hfz63_3
                                          try clear hfz63_4
                                          try clear hfz8_0
                                          try clear hfz8_1
                                          try clear hfz8_2
                                          try clear hx252_0
                                          try clear hx253_0
                                          try clear hx254_0
                                          try clear hx255_0
                                          try clear p2
                                          try clear p25
                                          try clear p252
                                          try clear p253
                                          try clear p254
                                          try clear p255
                                          try clear p6
                                          try clear q2
                                          try clear q25
                                          try clear q252
                                          try clear q253
                                          try clear q254
                                          try clear q255
                                          obtain ⟨x12_7, rfl, HA, HK7, HO_5, BK232, BK261, HB⟩ := hrel
                                          cases gk with
                                          | zero => exact absurd HA.out (by simp [pleatlaw15_NumberSame.l1])
                                          | succ k7 =>
                                            have H := HA.out
                                            clear HA
                                            simp only [pleatlaw15_NumberSame.l1] at H
                                            by_cases c64 : x12_7 < x8_3
                                            · rw [if_pos c64] at H
                                              have c64b0 : decide (x12_7 < x8_3) = true := decide_eq_true c64
                                              clear c64
                                              by_cases c65 : 0 ≤ x8_3
                                              · rw [if_pos c65] at H
                                                have c65b0 : decide (0 ≤ x8_3) = true := decide_eq_true c65
                                                clear c65
                                                by_cases c66 : x8_3 < (t243.length : Int)
                                                · rw [if_pos c66] at H
                                                  have c66b0 : decide (x8_3 < (t243.length : Int)) = true := decide_eq_true c66
                                                  clear c66
                                                  by_cases c67 : 0 ≤ x12_7
                                                  · rw [if_pos c67] at H
                                                    have c67b0 : decide (0 ≤ x12_7) = true := decide_eq_true c67
                                                    clear c67
                                                    by_cases c68 : x12_7 < (t243.length : Int)
                                                    · rw [if_pos c68] at H
                                                      have c68b0 : decide (x12_7 < (t243.length : Int)) = true := decide_eq_true c68
                                                      clear c68
                                                      by_cases c69 : x8_3 < (l0_0.length : Int)
                                                      · rw [if_pos c69] at H
                                                        have c69b0 : decide (x8_3 < (l0_0.length : Int)) = true := decide_eq_true c69
                                                        clear c69
                                                        by_cases c70 : x12_7 < (l0_0.length : Int)
                                                        · rw [if_pos c70] at H
                                                          have c70b0 : decide (x12_7 < (l0_0.length : Int)) = true := decide_eq_true c70
                                                          clear c70
                                                          by_cases c71 : (rd l0_0 x8_3) = (rd l0_0 x12_7)
                                                          · rw [if_pos c71] at H
                                                            have c71b0 : ((rd l0_0 x8_3) == (rd l0_0 x12_7)) = true := beq_iff_eq.mpr c71
                                                            have c71b1 : ((rd l0_0 x8_3) != (rd l0_0 x12_7)) = false := bne_eq_false_iff_eq.mpr c71
                                                            clear c71
                                                            by_cases c72 : (((rd t243 x8_3) == (rd t243 x12_7)) != (!x11_51)) = true
                                                            · rw [if_pos c72] at H
                                                              have c72b0 : (((rd t243 x8_3) == (rd t243 x12_7)) != (!x11_51)) = true := c72
                                                              (try (have c72b1 : decide (((rd t243 x8_3) == (rd t243 x12_7)) = (!x11_51)) = false := by simpa using c72))
                                                              (try (have c72b2 : (((rd t243 x8_3) == (rd t243 x12_7)) == (!x11_51)) = false := by simpa using c72))
                                                              (try (have c72b3 : ¬ (((rd t243 x8_3) == (rd t243 x12_7)) = (!x11_51)) := by simpa using c72))
                                                              (try (have c72b4 : (!(((rd t243 x8_3) == (rd t243 x12_7)) == (!x11_51))) = true := by have h_ : ∀ P_ Q_ : Bool, (!(P_ == Q_)) = (P_ != Q_) := (by decide); first | exact (h_ _ _).trans c72 | exact (h_ _ _).trans (Bool.eq_false_iff.mpr c72) | (rw [h_]; simpa using c72)))
                                                              clear c72
                                                              obtain rfl := Option.some.inj H
                                                              have p262 : 0 ≤ (x8_3 : Int) := of_decide_eq_true (by first | (with_reducible assumption) | assumption)
                                                              have q262 : x8_3 < (t243.length : Int) := of_decide_eq_true (by first | (with_reducible assumption) | assumption)
                                                              obtain ⟨ad262, e262, hx262_0⟩ := Kd.at_int (Kd.R_reads' HO_5.out).2.2 x8_3 p262 q262
                                                              obtain rfl : ad254 = ad262 := (by injection e262)
                                                              replace p262 := eq_true p262
                                                              replace q262 := eq_true q262
                                                              have p263 : 0 ≤ (x12_7 : Int) := of_decide_eq_true (by first | (with_reducible assumption) | assumption)
                                                              have q263 : x12_7 < (t243.length : Int) := of_decide_eq_true (by first | (with_reducible assumption) | assumption)
                                                              obtain ⟨ad263, e263, hx263_0⟩ := Kd.at_int (Kd.R_reads' HO_5.out).2.2 x12_7 p263 q263
                                                              obtain rfl : ad254 = ad263 := (by injection e263)
                                                              replace p263 := eq_true p263
                                                              replace q263 := eq_true q263
                                                              have hnb73 := NB232_261.out
                                                              have hnc73 := NB261_232.out
                                                              have hcz74_0 : wr.cell? ⟨gb232, 0, none⟩ = some (.slice (some ad255) l0_0.length c0_0) := (blk_cell BK232.out 0).trans rfl
                                                              have hcz74_1 : wr.cell? ⟨gb232, 1, none⟩ = some (.int .i64 a0_1) := (blk_cell BK232.out 1).trans rfl
                                                              have hcz74_2 : wr.cell? ⟨gb232, 2, none⟩ = some (.slice A0_2 l0_2.length c0_2) := (blk_cell BK232.out 2).trans rfl
                                                              have hfz74_0 := blk_frozen BK232.out 0
                                                              have hfz74_1 := blk_frozen BK232.out 1
                                                              have hfz74_2 := blk_frozen BK232.out 2
                                                              have p264 : 0 ≤ (x8_3 : Int) := of_decide_eq_true (by first | (with_reducible assumption) | assumption)
                                                              have q264 : x8_3 < (l0_0.length : Int) := of_decide_eq_true (by first | (with_reducible assumption) | assumption)
                                                              obtain ⟨ad264, e264, hx264_0⟩ := Kd.at_int HR0_0.out x8_3 p264 q264
                                                              obtain rfl : ad255 = ad264 := (by injection e264)
                                                              replace hx264_0 := (HB.out.cell (World.block_lt_of_cell? w _ hx264_0)).trans hx264_0
                                                              replace p264 := eq_true p264
                                                              replace q264 := eq_true q264
                                                              have p265 : 0 ≤ (x12_7 : Int) := of_decide_eq_true (by first | (with_reducible assumption) | assumption)
                                                              have q265 : x12_7 < (l0_0.length : Int) := of_decide_eq_true (by first | (with_reducible assumption) | assumption)
                                                              obtain ⟨ad265, e265, hx265_0⟩ := Kd.at_int HR0_0.out x12_7 p265 q265
                                                              obtain rfl : ad255 = ad265 := (by injection e265)
                                                              replace hx265_0 := (HB.out.cell (World.block_lt_of_cell? w _ hx265_0)).trans hx265_0
                                                              replace p265 := eq_true p265
                                                              replace q265 := eq_true q265
                                                              go_wp2
                                                              repeat (go_quiet (fail); try go_wp2)
                                                              go_ret
                                                              exact ⟨by first | rfl | (simp [errW_none, errW_some] <;> rfl) | (simp only [← hji35]; first | rfl | (simp [errW_none, errW_some] <;> rfl)) | (simp [*, errW_none, errW_some] <;> rfl), by repeat (first | (with_reducible first | exact HB.out | apply below_alloc | apply pw_below_drewN | apply below_drew1 | refine below_set ?_ GE232.out | refine below_set ?_ GE261.out) | exact HB.out)⟩
                                                            · rw [if_neg c72] at H
                                                              have c72b0 : (((rd t243 x8_3) == (rd t243 x12_7)) != (!x11_51)) = false := by simpa using c72
                                                              (try (have c72b1 : decide (((rd t243 x8_3) == (rd t243 x12_7)) = (!x11_51)) = true := by simpa using c72))
                                                              (try (have c72b2 : (((rd t243 x8_3) == (rd t243 x12_7)) == (!x11_51)) = true := by simpa using c72))
                                                              (try (have c72b3 : (!(((rd t243 x8_3) == (rd t243 x12_7)) == (!x11_51))) = false := by have h_ : ∀ P_ Q_ : Bool, (!(P_ == Q_)) = (P_ != Q_) := (by decide); first | exact (h_ _ _).trans c72 | exact (h_ _ _).trans (Bool.eq_false_iff.mpr c72) | (rw [h_]; simpa using c72)))
                                                              clear c72
                                                              have H' := Aside0.mk H
                                                              clear H
                                                              have p262 : 0 ≤ (x8_3 : Int) := of_decide_eq_true (by first | (with_reducible assumption) | assumption)
                                                              have q262 : x8_3 < (t243.length : Int) := of_decide_eq_true (by first | (with_reducible assumption) | assumption)
                                                              obtain ⟨ad262, e262, hx262_0⟩ := Kd.at_int (Kd.R_reads' HO_5.out).2.2 x8_3 p262 q262
                                                              obtain rfl : ad254 = ad262 := (by injection e262)
                                                              replace p262 := eq_true p262
                                                              replace q262 := eq_true q262
                                                              have p263 : 0 ≤ (x12_7 : Int) := of_decide_eq_true (by first | (with_reducible assumption) | assumption)
                                                              have q263 : x12_7 < (t243.length : Int) := of_decide_eq_true (by first | (with_reducible assumption) | assumption)
                                                              obtain ⟨ad263, e263, hx263_0⟩ := Kd.at_int (Kd.R_reads' HO_5.out).2.2 x12_7 p263 q263
                                                              obtain rfl : ad254 = ad263 := (by injection e263)
                                                              replace p263 := eq_true p263
                                                              replace q263 := eq_true q263
                                                              have hnb75 := NB232_261.out
                                                              have hnc75 := NB261_232.out
                                                              have hcz76_0 : wr.cell? ⟨gb232, 0, none⟩ = some (.slice (some ad255) l0_0.length c0_0) := (blk_cell BK232.out 0).trans rfl
                                                              have hcz76_1 : wr.cell? ⟨gb232, 1, none⟩ = some (.int .i64 a0_1) := (blk_cell BK232.out 1).trans rfl
                                                              have hcz76_2 : wr.cell? ⟨gb232, 2, none⟩ = some (.slice A0_2 l0_2.length c0_2) := (blk_cell BK232.out 2).trans rfl
                                                              have hfz76_0 := blk_frozen BK232.out 0
                                                              have hfz76_1 := blk_frozen BK232.out 1
                                                              have hfz76_2 := blk_frozen BK232.out 2
                                                              have p264 : 0 ≤ (x8_3 : Int) := of_decide_eq_true (by first | (with_reducible assumption) | assumption)
                                                              have q264 : x8_3 < (l0_0.length : Int) := of_decide_eq_true (by first | (with_reducible assumption) | assumption)
                                                              obtain ⟨ad264, e264, hx264_0⟩ := Kd.at_int HR0_0.out x8_3 p264 q264
                                                              obtain rfl : ad255 = ad264 := (by injection e264)
                                                              replace hx264_0 := (HB.out.cell (World.block_lt_of_cell? w _ hx264_0)).trans hx264_0
                                                              replace p264 := eq_true p264
                                                              replace q264 := eq_true q264
                                                              have p265 : 0 ≤ (x12_7 : Int) := of_decide_eq_true (by first | (with_reducible assumption) | assumption)
                                                              have q265 : x12_7 < (l0_0.length : Int) := of_decide_eq_true (by first | (with_reducible assumption) | assumption)
                                                              obtain ⟨ad265, e265, hx265_0⟩ := Kd.at_int HR0_0.out x12_7 p265 q265
                                                              obtain rfl : ad255 = ad265 := (by injection e265)
                                                              replace hx265_0 := (HB.out.cell (World.block_lt_of_cell? w _ hx265_0)).trans hx265_0
                                                              replace p265 := eq_true p265
                                                              replace q265 := eq_true q265
                                                              go_wp2
                                                              repeat (go_quiet (fail); try go_wp2)
                                                              go_roundg k7
                                                              case measure => have := HJ2.out; have := HJ16.out; have := HK3.out; have := HJ27.out; have := HJ37.out; have := HJ51.out; have := HK7.out; omega
                                                              case rel => exact ⟨(wrap64 (x12_7 + 1)), (by first | rfl | (simp; done) | (simp [*]; done)), H', ⟨by have := HJ2.out; have := HJ16.out; have := HK3.out; have := HJ27.out; have := HJ37.out; have := HJ51.out; have := HK7.out; omega⟩, ⟨by (with_reducible repeat (first | apply Kd.R_alloc | apply Kd.R_drewN | apply Kd.R_drew)); exact HO_5.out⟩, ⟨by (with_reducible repeat (first | refine blk_drewN ?_ _ | refine blk_drew ?_ | refine blk_alloc ?_ _)); exact BK232.out⟩, ⟨by (with_reducible repeat (first | refine blk_drewN ?_ _ | refine blk_drew ?_ | refine blk_alloc ?_ _)); exact BK261.out⟩, ⟨by repeat (first | (with_reducible first | exact HB.out | apply below_alloc | apply pw_below_drewN | apply below_drew1 | refine below_set ?_ GE232.out | refine below_set ?_ GE261.out) | exact HB.out)⟩⟩
                                                          · rw [if_neg c71] at H
                                                            have c71b0 : ((rd l0_0 x8_3) == (rd l0_0 x12_7)) = false := beq_eq_false_iff_ne.mpr c71
                                                            have c71b1 : ((rd l0_0 x8_3) != (rd l0_0 x12_7)) = true := bne_iff_ne.mpr c71
                                                            by_cases c77 : (((rd t243 x8_3) == (rd t243 x12_7)) != false) = true
                                                            · rw [if_pos c77] at H
                                                              have c77b0 : (((rd t243 x8_3) == (rd t243 x12_7)) != false) = true := c77
                                                              (try (have c77b1 : decide (((rd t243 x8_3) == (rd t243 x12_7)) = false) = false := by simpa using c77))
                                                              (try (have c77b2 : (((rd t243 x8_3) == (rd t243 x12_7)) == false) = false := by simpa using c77))
                                                              (try (have c77b3 : ¬ (((rd t243 x8_3) == (rd t243 x12_7)) = false) := by simpa using c77))
                                                              (try (have c77b4 : (!(((rd t243 x8_3) == (rd t243 x12_7)) == false)) = true := by have h_ : ∀ P_ Q_ : Bool, (!(P_ == Q_)) = (P_ != Q_) := (by decide); first | exact (h_ _ _).trans c77 | exact (h_ _ _).trans (Bool.eq_false_iff.mpr c77) | (rw [h_]; simpa using c77)))
                                                              clear c77
                                                              obtain rfl := Option.some.inj H
                                                              have p262 : 0 ≤ (x8_3 : Int) := of_decide_eq_true (by first | (with_reducible assumption) | assumption)
                                                              have q262 : x8_3 < (t243.length : Int) := of_decide_eq_true (by first | (with_reducible assumption) | assumption)
                                                              obtain ⟨ad262, e262, hx262_0⟩ := Kd.at_int (Kd.R_reads' HO_5.out).2.2 x8_3 p262 q262
                                                              obtain rfl : ad254 = ad262 := (by injection e262)
                                                              replace p262 := eq_true p262
                                                              replace q262 := eq_true q262
                                                              have p263 : 0 ≤ (x12_7 : Int) := of_decide_eq_true (by first | (with_reducible assumption) | assumption)
                                                              have q263 : x12_7 < (t243.length : Int) := of_decide_eq_true (by first | (with_reducible assumption) | assumption)
                                                              obtain ⟨ad263, e263, hx263_0⟩ := Kd.at_int (Kd.R_reads' HO_5.out).2.2 x12_7 p263 q263
                                                              obtain rfl : ad254 = ad263 := (by injection e263)
                                                              replace p263 := eq_true p263
                                                              replace q263 := eq_true q263
                                                              have hnb78 := NB232_261.out
                                                              have hnc78 := NB261_232.out
                                                              have hcz79_0 : wr.cell? ⟨gb232, 0, none⟩ = some (.slice (some ad255) l0_0.length c0_0) := (blk_cell BK232.out 0).trans rfl
                                                              have hcz79_1 : wr.cell? ⟨gb232, 1, none⟩ = some (.int .i64 a0_1) := (blk_cell BK232.out 1).trans rfl
                                                              have hcz79_2 : wr.cell? ⟨gb232, 2, none⟩ = some (.slice A0_2 l0_2.length c0_2) := (blk_cell BK232.out 2).trans rfl
                                                              have hfz79_0 := blk_frozen BK232.out 0
                                                              have hfz79_1 := blk_frozen BK232.out 1
                                                              have hfz79_2 := blk_frozen BK232.out 2
                                                              have p264 : 0 ≤ (x8_3 : Int) := of_decide_eq_true (by first | (with_reducible assumption) | assumption)
                                                              have q264 : x8_3 < (l0_0.length : Int) := of_decide_eq_true (by first | (with_reducible assumption) | assumption)
                                                              obtain ⟨ad264, e264, hx264_0⟩ := Kd.at_int HR0_0.out x8_3 p264 q264
                                                              obtain rfl : ad255 = ad264 := (by injection e264)
                                                              replace hx264_0 := (HB.out.cell (World.block_lt_of_cell? w _ hx264_0)).trans hx264_0
                                                              replace p264 := eq_true p264
                                                              replace q264 := eq_true q264
                                                              have p265 : 0 ≤ (x12_7 : Int) := of_decide_eq_true (by first | (with_reducible assumption) | assumption)
                                                              have q265 : x12_7 < (l0_0.length : Int) := of_decide_eq_true (by first | (with_reducible assumption) | assumption)
                                                              obtain ⟨ad265, e265, hx265_0⟩ := Kd.at_int HR0_0.out x12_7 p265 q265
                                                              obtain rfl : ad255 = ad265 := (by injection e265)
                                                              replace hx265_0 := (HB.out.cell (World.block_lt_of_cell? w _ hx265_0)).trans hx265_0
                                                              replace p265 := eq_true p265
                                                              replace q265 := eq_true q265
                                                              go_wp2
                                                              repeat (go_quiet (fail); try go_wp2)
                                                              go_ret
                                                              exact ⟨by first | rfl | (simp [errW_none, errW_some] <;> rfl) | (simp only [← hji35]; first | rfl | (simp [errW_none, errW_some] <;> rfl)) | (simp [*, errW_none, errW_some] <;> rfl), by repeat (first | (with_reducible first | exact HB.out | apply below_alloc | apply pw_below_drewN | apply below_drew1 | refine below_set ?_ GE232.out | refine below_set ?_ GE261.out) | exact HB.out)⟩
                                                            · rw [if_neg c77] at H
                                                              have c77b0 : (((rd t243 x8_3) == (rd t243 x12_7)) != false) = false := by simpa using c77
                                                              (try (have c77b1 : decide (((rd t243 x8_3) == (rd t243 x12_7)) = false) = true := by simpa using c77))
                                                              (try (have c77b2 : (((rd t243 x8_3) == (rd t243 x12_7)) == false) = true := by simpa using c77))
                                                              (try (have c77b3 : (!(((rd t243 x8_3) == (rd t243 x12_7)) == false)) = false := by have h_ : ∀ P_ Q_ : Bool, (!(P_ == Q_)) = (P_ != Q_) := (by decide); first | exact (h_ _ _).trans c77 | exact (h_ _ _).trans (Bool.eq_false_iff.mpr c77) | (rw [h_]; simpa using c77)))
                                                              clear c77
                                                              have H' := Aside0.mk H
                                                              clear H
                                                              have p262 : 0 ≤ (x8_3 : Int) := of_decide_eq_true (by first | (with_reducible assumption) | assumption)
                                                              have q262 : x8_3 < (t243.length : Int) := of_decide_eq_true (by first | (with_reducible assumption) | assumption)
                                                              obtain ⟨ad262, e262, hx262_0⟩ := Kd.at_int (Kd.R_reads' HO_5.out).2.2 x8_3 p262 q262
                                                              obtain rfl : ad254 = ad262 := (by injection e262)
                                                              replace p262 := eq_true p262
                                                              replace q262 := eq_true q262
                                                              have p263 : 0 ≤ (x12_7 : Int) := of_decide_eq_true (by first | (with_reducible assumption) | assumption)
                                                              have q263 : x12_7 < (t243.length : Int) := of_decide_eq_true (by first | (with_reducible assumption) | assumption)
                                                              obtain ⟨ad263, e263, hx263_0⟩ := Kd.at_int (Kd.R_reads' HO_5.out).2.2 x12_7 p263 q263
                                                              obtain rfl : ad254 = ad263 := (by injection e263)
                                                              replace p263 := eq_true p263
                                                              replace q263 := eq_true q263
                                                              have hnb80 := NB232_261.out
                                                              have hnc80 := NB261_232.out
                                                              have hcz81_0 : wr.cell? ⟨gb232, 0, none⟩ = some (.slice (some ad255) l0_0.length c0_0) := (blk_cell BK232.out 0).trans rfl
                                                              have hcz81_1 : wr.cell? ⟨gb232, 1, none⟩ = some (.int .i64 a0_1) := (blk_cell BK232.out 1).trans rfl
                                                              have hcz81_2 : wr.cell? ⟨gb232, 2, none⟩ = some (.slice A0_2 l0_2.length c0_2) := (blk_cell BK232.out 2).trans rfl
                                                              have hfz81_0 := blk_frozen BK232.out 0
                                                              have hfz81_1 := blk_frozen BK232.out 1
                                                              have hfz81_2 := blk_frozen BK232.out 2
                                                              have p264 : 0 ≤ (x8_3 : Int) := of_decide_eq_true (by first | (with_reducible assumption) | assumption)
                                                              have q264 : x8_3 < (l0_0.length : Int) := of_decide_eq_true (by first | (with_reducible assumption) | assumption)
                                                              obtain ⟨ad264, e264, hx264_0⟩ := Kd.at_int HR0_0.out x8_3 p264 q264
                                                              obtain rfl : ad255 = ad264 := (by injection e264)
                                                              replace hx264_0 := (HB.out.cell (World.block_lt_of_cell? w _ hx264_0)).trans hx264_0
                                                              replace p264 := eq_true p264
                                                              replace q264 := eq_true q264
                                                              have p265 : 0 ≤ (x12_7 : Int) := of_decide_eq_true (by first | (with_reducible assumption) | assumption)
                                                              have q265 : x12_7 < (l0_0.length : Int) := of_decide_eq_true (by first | (with_reducible assumption) | assumption)
                                                              obtain ⟨ad265, e265, hx265_0⟩ := Kd.at_int HR0_0.out x12_7 p265 q265
                                                              obtain rfl : ad255 = ad265 := (by injection e265)
                                                              replace hx265_0 := (HB.out.cell (World.block_lt_of_cell? w _ hx265_0)).trans hx265_0
                                                              replace p265 := eq_true p265
                                                              replace q265 := eq_true q265
                                                              go_wp2
                                                              repeat (go_quiet (fail); try go_wp2)
                                                              go_roundg k7
                                                              case measure => have := HJ2.out; have := HJ16.out; have := HK3.out; have := HJ27.out; have := HJ37.out; have := HJ51.out; have := HK7.out; omega
                                                              case rel => exact ⟨(wrap64 (x12_7 + 1)), (by first | rfl | (simp; done) | (simp [*]; done)), H', ⟨by have := HJ2.out; have := HJ16.out; have := HK3.out; have := HJ27.out; have := HJ37.out; have := HJ51.out; have := HK7.out; omega⟩, ⟨by (with_reducible repeat (first | apply Kd.R_alloc | apply Kd.R_drewN | apply Kd.R_drew)); exact HO_5.out⟩, ⟨by (with_reducible repeat (first | refine blk_drewN ?_ _ | refine blk_drew ?_ | refine blk_alloc ?_ _)); exact BK232.out⟩, ⟨by (with_reducible repeat (first | refine blk_drewN ?_ _ | refine blk_drew ?_ | refine blk_alloc ?_ _)); exact BK261.out⟩, ⟨by repeat (first | (with_reducible first | exact HB.out | apply below_alloc | apply pw_below_drewN | apply below_drew1 | refine below_set ?_ GE232.out | refine below_set ?_ GE261.out) | exact HB.out)⟩⟩
                                                        · rw [if_neg c70] at H
                                                          exact absurd H (by simp)
                                                      · rw [if_neg c69] at H
                                                        exact absurd H (by simp)
                                                    · rw [if_neg c68] at H
                                                      exact absurd H (by simp)
                                                  · rw [if_neg c67] at H
                                                    exact absurd H (by simp)
                                                · rw [if_neg c66] at H
                                                  exact absurd H (by simp)
                                              · rw [if_neg c65] at H
                                                exact absurd H (by simp)
                                            · rw [if_neg c64] at H
                                              have c64b0 : decide (x12_7 < x8_3) = false := decide_eq_false c64
                                              clear c64
                                              have H' := Aside0.mk H
                                              clear H
                                              go_wp2
                                              repeat (go_quiet (fail); try go_wp2)
                                              go_roundg k7
                                              case measure => have := HJ2.out; have := HJ16.out; have := HK3.out; have := HJ27.out; have := HJ37.out; have := HJ51.out; have := HK7.out; omega
                                              case rel => exact ⟨(ji35), (wrap64 (x8_3 + 1)), (by first | rfl | (simp; done) | (simp only [← hji35] <;> (first | rfl | simp)) | (simp [*]; done)), (by first | rfl | (simp; done) | (simp [*]; done)), H', ⟨by have := HJ2.out; have := HJ16.out; have := HK3.out; have := HJ27.out; have := HJ37.out; have := HJ51.out; have := HK7.out; omega⟩, ⟨by (with_reducible repeat (first | apply Kd.R_alloc | apply Kd.R_drewN | apply Kd.R_drew)); exact HO_5.out⟩, ⟨by (with_reducible repeat (first | refine blk_drewN ?_ _ | refine blk_drew ?_ | refine blk_alloc ?_ _)); exact BK232.out⟩, ⟨by repeat (first | (with_reducible first | exact HB.out | apply below_alloc | apply pw_below_drewN | apply below_drew1 | refine below_set ?_ GE232.out | refine below_set ?_ GE261.out) | exact HB.out)⟩⟩
                              · rw [if_neg c36] at H
                                exact absurd H (by simp)
                            · rw [if_neg c34] at H
                              exact absurd H (by simp)
                          · rw [if_neg c33] at H
                            exact absurd H (by simp)
                  · rw [if_neg c27] at H
                    have c27b0 : decide (x8_3 < (t243.length : Int)) = false := decide_eq_false c27
                    clear c27
                    replace H := Option.bind_eq_some_iff.mp H
                    obtain ⟨t247, A820, H⟩ := H
                    replace H : ((number_Count.f t247).bind fun t250 => (if t250 = (wrap64 (x7_3 + 1)) then ((pleatlaw15_lives.f k3).bind fun t251 => (some t251)) else (some false))) = some r := H
                    have A82 := Aside0.mk A820
                    clear A820
                    replace H := Option.bind_eq_some_iff.mp H
                    obtain ⟨t250, A830, H⟩ := H
                    replace H : (if t250 = (wrap64 (x7_3 + 1)) then ((pleatlaw15_lives.f k3).bind fun t251 => (some t251)) else (some false)) = some r := H
                    have A83 := Aside0.mk A830
                    clear A830
                    by_cases c84 : t250 = (wrap64 (x7_3 + 1))
                    · rw [if_pos c84] at H
                      have c84b0 : (t250 == (wrap64 (x7_3 + 1))) = true := beq_iff_eq.mpr c84
                      have c84b1 : (t250 != (wrap64 (x7_3 + 1))) = false := bne_eq_false_iff_eq.mpr c84
                      clear c84
                      replace H := Option.bind_eq_some_iff.mp H
                      obtain ⟨t251, A850, H⟩ := H
                      replace H : (some t251) = some r := H
                      have A85 := Aside0.mk A850
                      clear A850
                      obtain rfl := Option.some.inj H
                      obtain ⟨Ao86, co86, eo86⟩ := Kd.R_slice HO_5.out
                      subst eo86
                      go_wp2_with (first | (go_at_call 18; (with_reducible refine (pleatref00_CopyInts.calls _ _ t243 t247 _ ?side1 ?side2 A82.out).mono ?_); (case side1 => repeat (first | exact (Kd.R_reads' HO_5.out).2.2 | (with_reducible refine Kd.C_alloc ?_ _) | (with_reducible refine Kd.C_drewN ?_ _) | (with_reducible refine Kd.C_drew ?_))); (case side2 => exact (Kd.R_reads' HO_5.out).2.1); rintro e w87 ⟨v248, rfl, ho0, hb⟩; have n0_ := Aside0.mk (Kd.R_elder' (by (with_reducible repeat (first | apply Kd.R_alloc | apply Kd.R_drewN | apply Kd.R_drew)); exact HO_5.out) (Kd.R_base ho0) hb); have n1_ := Aside0.mk (Kd.R_lower (Kd.R_new' ho0 (Kd.R_lt (by (with_reducible repeat (first | apply Kd.R_alloc | apply Kd.R_drewN | apply Kd.R_drew)); exact HO_5.out))) (below_size (by repeat (first | (with_reducible first | exact HB.out | apply below_alloc | apply pw_below_drewN | apply below_drew1 | refine below_set ?_ GE232.out) | exact HB.out)))); have n2_ := Aside0.mk (blk_below (g := gb232) (o := .cells #[.slice A0_0 l0_0.length c0_0, .int .i64 a0_1, .slice A0_2 l0_2.length c0_2] 25 (0, 0)) (by (with_reducible repeat (first | refine blk_drewN ?_ _ | refine blk_drew ?_ | refine blk_alloc ?_ _)); exact BK232.out) hb); have n3_ := Aside0.mk (below_step (by repeat (first | (with_reducible first | exact HB.out | apply below_alloc | apply pw_below_drewN | apply below_drew1 | refine below_set ?_ GE232.out) | exact HB.out)) hb); clear HO_5; clear BK232; clear HB; have HO_5 := n0_; have HO249 := n1_; have BK232 := n2_; have HB := n3_; clear n0_ n1_ n2_ n3_; (try clear hb); (try clear hb2); (try clear hk); (try clear hi); (try clear ho0); obtain ⟨Ao88, co88, eo88⟩ := Kd.R_slice HO249.out; subst eo88) | (go_at_call 17; (with_reducible refine (number_Count.calls _ _ t247 t250 _ ?side1 ?side2 A83.out).mono ?_); (case side1 => repeat (first | exact (Kd.R_reads' HO249.out).2.2 | (with_reducible refine Kd.C_alloc ?_ _) | (with_reducible refine Kd.C_drewN ?_ _) | (with_reducible refine Kd.C_drew ?_))); (case side2 => exact (Kd.R_reads' HO249.out).2.1); rintro e w89 ⟨rfl, hb⟩; have n0_ := Aside0.mk (Kd.R_below (by (with_reducible repeat (first | apply Kd.R_alloc | apply Kd.R_drewN | apply Kd.R_drew)); exact HO_5.out) hb); have n1_ := Aside0.mk (Kd.R_below (by (with_reducible repeat (first | apply Kd.R_alloc | apply Kd.R_drewN | apply Kd.R_drew)); exact HO249.out) hb); have n2_ := Aside0.mk (blk_below (g := gb232) (o := .cells #[.slice A0_0 l0_0.length c0_0, .int .i64 a0_1, .slice A0_2 l0_2.length c0_2] 25 (0, 0)) (by (with_reducible repeat (first | refine blk_drewN ?_ _ | refine blk_drew ?_ | refine blk_alloc ?_ _)); exact BK232.out) hb); have n3_ := Aside0.mk (below_step (by repeat (first | (with_reducible first | exact HB.out | apply below_alloc | apply pw_below_drewN | apply below_drew1 | refine below_set ?_ GE232.out) | exact HB.out)) hb); clear HO_5; clear HO249; clear BK232; clear HB; have HO_5 := n0_; have HO249 := n1_; have BK232 := n2_; have HB := n3_; clear n0_ n1_ n2_ n3_; (try clear hb); (try clear hb2); (try clear hk); (try clear hi)) | (go_at_call 13; (with_reducible refine (pleatlaw15_lives.calls k3  t251 _ A85.out).mono ?_); rintro e w90 ⟨rfl, hb⟩; have n0_ := Aside0.mk (Kd.R_below (by (with_reducible repeat (first | apply Kd.R_alloc | apply Kd.R_drewN | apply Kd.R_drew)); exact HO_5.out) hb); have n1_ := Aside0.mk (Kd.R_below (by (with_reducible repeat (first | apply Kd.R_alloc | apply Kd.R_drewN | apply Kd.R_drew)); exact HO249.out) hb); have n2_ := Aside0.mk (blk_below (g := gb232) (o := .cells #[.slice A0_0 l0_0.length c0_0, .int .i64 a0_1, .slice A0_2 l0_2.length c0_2] 25 (0, 0)) (by (with_reducible repeat (first | refine blk_drewN ?_ _ | refine blk_drew ?_ | refine blk_alloc ?_ _)); exact BK232.out) hb); have n3_ := Aside0.mk (below_step (by repeat (first | (with_reducible first | exact HB.out | apply below_alloc | apply pw_below_drewN | apply below_drew1 | refine below_set ?_ GE232.out) | exact HB.out)) hb); clear HO_5; clear HO249; clear BK232; clear HB; have HO_5 := n0_; have HO249 := n1_; have BK232 := n2_; have HB := n3_; clear n0_ n1_ n2_ n3_; (try clear hb); (try clear hb2); (try clear hk); (try clear hi)))
                      repeat (go_quiet (first | (go_at_call 18; (with_reducible refine (pleatref00_CopyInts.calls _ _ t243 t247 _ ?side1 ?side2 A82.out).mono ?_); (case side1 => repeat (first | exact (Kd.R_reads' HO_5.out).2.2 | (with_reducible refine Kd.C_alloc ?_ _) | (with_reducible refine Kd.C_drewN ?_ _) | (with_reducible refine Kd.C_drew ?_))); (case side2 => exact (Kd.R_reads' HO_5.out).2.1); rintro e w87 ⟨v248, rfl, ho0, hb⟩; have n0_ := Aside0.mk (Kd.R_elder' (by (with_reducible repeat (first | apply Kd.R_alloc | apply Kd.R_drewN | apply Kd.R_drew)); exact HO_5.out) (Kd.R_base ho0) hb); have n1_ := Aside0.mk (Kd.R_lower (Kd.R_new' ho0 (Kd.R_lt (by (with_reducible repeat (first | apply Kd.R_alloc | apply Kd.R_drewN | apply Kd.R_drew)); exact HO_5.out))) (below_size (by repeat (first | (with_reducible first | exact HB.out | apply below_alloc | apply pw_below_drewN | apply below_drew1 | refine below_set ?_ GE232.out) | exact HB.out)))); have n2_ := Aside0.mk (blk_below (g := gb232) (o := .cells #[.slice A0_0 l0_0.length c0_0, .int .i64 a0_1, .slice A0_2 l0_2.length c0_2] 25 (0, 0)) (by (with_reducible repeat (first | refine blk_drewN ?_ _ | refine blk_drew ?_ | refine blk_alloc ?_ _)); exact BK232.out) hb); have n3_ := Aside0.mk (below_step (by repeat (first | (with_reducible first | exact HB.out | apply below_alloc | apply pw_below_drewN | apply below_drew1 | refine below_set ?_ GE232.out) | exact HB.out)) hb); clear HO_5; clear BK232; clear HB; have HO_5 := n0_; have HO249 := n1_; have BK232 := n2_; have HB := n3_; clear n0_ n1_ n2_ n3_; (try clear hb); (try clear hb2); (try clear hk); (try clear hi); (try clear ho0); obtain ⟨Ao88, co88, eo88⟩ := Kd.R_slice HO249.out; subst eo88) | (go_at_call 17; (with_reducible refine (number_Count.calls _ _ t247 t250 _ ?side1 ?side2 A83.out).mono ?_); (case side1 => repeat (first | exact (Kd.R_reads' HO249.out).2.2 | (with_reducible refine Kd.C_alloc ?_ _) | (with_reducible refine Kd.C_drewN ?_ _) | (with_reducible refine Kd.C_drew ?_))); (case side2 => exact (Kd.R_reads' HO249.out).2.1); rintro e w89 ⟨rfl, hb⟩; have n0_ := Aside0.mk (Kd.R_below (by (with_reducible repeat (first | apply Kd.R_alloc | apply Kd.R_drewN | apply Kd.R_drew)); exact HO_5.out) hb); have n1_ := Aside0.mk (Kd.R_below (by (with_reducible repeat (first | apply Kd.R_alloc | apply Kd.R_drewN | apply Kd.R_drew)); exact HO249.out) hb); have n2_ := Aside0.mk (blk_below (g := gb232) (o := .cells #[.slice A0_0 l0_0.length c0_0, .int .i64 a0_1, .slice A0_2 l0_2.length c0_2] 25 (0, 0)) (by (with_reducible repeat (first | refine blk_drewN ?_ _ | refine blk_drew ?_ | refine blk_alloc ?_ _)); exact BK232.out) hb); have n3_ := Aside0.mk (below_step (by repeat (first | (with_reducible first | exact HB.out | apply below_alloc | apply pw_below_drewN | apply below_drew1 | refine below_set ?_ GE232.out) | exact HB.out)) hb); clear HO_5; clear HO249; clear BK232; clear HB; have HO_5 := n0_; have HO249 := n1_; have BK232 := n2_; have HB := n3_; clear n0_ n1_ n2_ n3_; (try clear hb); (try clear hb2); (try clear hk); (try clear hi)) | (go_at_call 13; (with_reducible refine (pleatlaw15_lives.calls k3  t251 _ A85.out).mono ?_); rintro e w90 ⟨rfl, hb⟩; have n0_ := Aside0.mk (Kd.R_below (by (with_reducible repeat (first | apply Kd.R_alloc | apply Kd.R_drewN | apply Kd.R_drew)); exact HO_5.out) hb); have n1_ := Aside0.mk (Kd.R_below (by (with_reducible repeat (first | apply Kd.R_alloc | apply Kd.R_drewN | apply Kd.R_drew)); exact HO249.out) hb); have n2_ := Aside0.mk (blk_below (g := gb232) (o := .cells #[.slice A0_0 l0_0.length c0_0, .int .i64 a0_1, .slice A0_2 l0_2.length c0_2] 25 (0, 0)) (by (with_reducible repeat (first | refine blk_drewN ?_ _ | refine blk_drew ?_ | refine blk_alloc ?_ _)); exact BK232.out) hb); have n3_ := Aside0.mk (below_step (by repeat (first | (with_reducible first | exact HB.out | apply below_alloc | apply pw_below_drewN | apply below_drew1 | refine below_set ?_ GE232.out) | exact HB.out)) hb); clear HO_5; clear HO249; clear BK232; clear HB; have HO_5 := n0_; have HO249 := n1_; have BK232 := n2_; have HB := n3_; clear n0_ n1_ n2_ n3_; (try clear hb); (try clear hb2); (try clear hk); (try clear hi))); try go_wp2_with (first | (go_at_call 18; (with_reducible refine (pleatref00_CopyInts.calls _ _ t243 t247 _ ?side1 ?side2 A82.out).mono ?_); (case side1 => repeat (first | exact (Kd.R_reads' HO_5.out).2.2 | (with_reducible refine Kd.C_alloc ?_ _) | (with_reducible refine Kd.C_drewN ?_ _) | (with_reducible refine Kd.C_drew ?_))); (case side2 => exact (Kd.R_reads' HO_5.out).2.1); rintro e w87 ⟨v248, rfl, ho0, hb⟩; have n0_ := Aside0.mk (Kd.R_elder' (by (with_reducible repeat (first | apply Kd.R_alloc | apply Kd.R_drewN | apply Kd.R_drew)); exact HO_5.out) (Kd.R_base ho0) hb); have n1_ := Aside0.mk (Kd.R_lower (Kd.R_new' ho0 (Kd.R_lt (by (with_reducible repeat (first | apply Kd.R_alloc | apply Kd.R_drewN | apply Kd.R_drew)); exact HO_5.out))) (below_size (by repeat (first | (with_reducible first | exact HB.out | apply below_alloc | apply pw_below_drewN | apply below_drew1 | refine below_set ?_ GE232.out) | exact HB.out)))); have n2_ := Aside0.mk (blk_below (g := gb232) (o := .cells #[.slice A0_0 l0_0.length c0_0, .int .i64 a0_1, .slice A0_2 l0_2.length c0_2] 25 (0, 0)) (by (with_reducible repeat (first | refine blk_drewN ?_ _ | refine blk_drew ?_ | refine blk_alloc ?_ _)); exact BK232.out) hb); have n3_ := Aside0.mk (below_step (by repeat (first | (with_reducible first | exact HB.out | apply below_alloc | apply pw_below_drewN | apply below_drew1 | refine below_set ?_ GE232.out) | exact HB.out)) hb); clear HO_5; clear BK232; clear HB; have HO_5 := n0_; have HO249 := n1_; have BK232 := n2_; have HB := n3_; clear n0_ n1_ n2_ n3_; (try clear hb); (try clear hb2); (try clear hk); (try clear hi); (try clear ho0); obtain ⟨Ao88, co88, eo88⟩ := Kd.R_slice HO249.out; subst eo88) | (go_at_call 17; (with_reducible refine (number_Count.calls _ _ t247 t250 _ ?side1 ?side2 A83.out).mono ?_); (case side1 => repeat (first | exact (Kd.R_reads' HO249.out).2.2 | (with_reducible refine Kd.C_alloc ?_ _) | (with_reducible refine Kd.C_drewN ?_ _) | (with_reducible refine Kd.C_drew ?_))); (case side2 => exact (Kd.R_reads' HO249.out).2.1); rintro e w89 ⟨rfl, hb⟩; have n0_ := Aside0.mk (Kd.R_below (by (with_reducible repeat (first | apply Kd.R_alloc | apply Kd.R_drewN | apply Kd.R_drew)); exact HO_5.out) hb); have n1_ := Aside0.mk (Kd.R_below (by (with_reducible repeat (first | apply Kd.R_alloc | apply Kd.R_drewN | apply Kd.R_drew)); exact HO249.out) hb); have n2_ := Aside0.mk (blk_below (g := gb232) (o := .cells #[.slice A0_0 l0_0.length c0_0, .int .i64 a0_1, .slice A0_2 l0_2.length c0_2] 25 (0, 0)) (by (with_reducible repeat (first | refine blk_drewN ?_ _ | refine blk_drew ?_ | refine blk_alloc ?_ _)); exact BK232.out) hb); have n3_ := Aside0.mk (below_step (by repeat (first | (with_reducible first | exact HB.out | apply below_alloc | apply pw_below_drewN | apply below_drew1 | refine below_set ?_ GE232.out) | exact HB.out)) hb); clear HO_5; clear HO249; clear BK232; clear HB; have HO_5 := n0_; have HO249 := n1_; have BK232 := n2_; have HB := n3_; clear n0_ n1_ n2_ n3_; (try clear hb); (try clear hb2); (try clear hk); (try clear hi)) | (go_at_call 13; (with_reducible refine (pleatlaw15_lives.calls k3  t251 _ A85.out).mono ?_); rintro e w90 ⟨rfl, hb⟩; have n0_ := Aside0.mk (Kd.R_below (by (with_reducible repeat (first | apply Kd.R_alloc | apply Kd.R_drewN | apply Kd.R_drew)); exact HO_5.out) hb); have n1_ := Aside0.mk (Kd.R_below (by (with_reducible repeat (first | apply Kd.R_alloc | apply Kd.R_drewN | apply Kd.R_drew)); exact HO249.out) hb); have n2_ := Aside0.mk (blk_below (g := gb232) (o := .cells #[.slice A0_0 l0_0.length c0_0, .int .i64 a0_1, .slice A0_2 l0_2.length c0_2] 25 (0, 0)) (by (with_reducible repeat (first | refine blk_drewN ?_ _ | refine blk_drew ?_ | refine blk_alloc ?_ _)); exact BK232.out) hb); have n3_ := Aside0.mk (below_step (by repeat (first | (with_reducible first | exact HB.out | apply below_alloc | apply pw_below_drewN | apply below_drew1 | refine below_set ?_ GE232.out) | exact HB.out)) hb); clear HO_5; clear HO249; clear BK232; clear HB; have HO_5 := n0_; have HO249 := n1_; have BK232 := n2_; have HB := n3_; clear n0_ n1_ n2_ n3_; (try clear hb); (try clear hb2); (try clear hk); (try clear hi))))
                      go_ret
                      exact ⟨by first | rfl | (simp [errW_none, errW_some] <;> rfl) | (simp [*, errW_none, errW_some] <;> rfl), by repeat (first | (with_reducible first | exact HB.out | apply below_alloc | apply pw_below_drewN | apply below_drew1 | refine below_set ?_ GE232.out) | exact HB.out)⟩
                    · rw [if_neg c84] at H
                      have c84b0 : (t250 == (wrap64 (x7_3 + 1))) = false := beq_eq_false_iff_ne.mpr c84
                      have c84b1 : (t250 != (wrap64 (x7_3 + 1))) = true := bne_iff_ne.mpr c84
                      obtain rfl := Option.some.inj H
                      obtain ⟨Ao91, co91, eo91⟩ := Kd.R_slice HO_5.out
                      subst eo91
                      go_wp2_with (first | (go_at_call 18; (with_reducible refine (pleatref00_CopyInts.calls _ _ t243 t247 _ ?side1 ?side2 A82.out).mono ?_); (case side1 => repeat (first | exact (Kd.R_reads' HO_5.out).2.2 | (with_reducible refine Kd.C_alloc ?_ _) | (with_reducible refine Kd.C_drewN ?_ _) | (with_reducible refine Kd.C_drew ?_))); (case side2 => exact (Kd.R_reads' HO_5.out).2.1); rintro e w92 ⟨v248, rfl, ho0, hb⟩; have n0_ := Aside0.mk (Kd.R_elder' (by (with_reducible repeat (first | apply Kd.R_alloc | apply Kd.R_drewN | apply Kd.R_drew)); exact HO_5.out) (Kd.R_base ho0) hb); have n1_ := Aside0.mk (Kd.R_lower (Kd.R_new' ho0 (Kd.R_lt (by (with_reducible repeat (first | apply Kd.R_alloc | apply Kd.R_drewN | apply Kd.R_drew)); exact HO_5.out))) (below_size (by repeat (first | (with_reducible first | exact HB.out | apply below_alloc | apply pw_below_drewN | apply below_drew1 | refine below_set ?_ GE232.out) | exact HB.out)))); have n2_ := Aside0.mk (blk_below (g := gb232) (o := .cells #[.slice A0_0 l0_0.length c0_0, .int .i64 a0_1, .slice A0_2 l0_2.length c0_2] 25 (0, 0)) (by (with_reducible repeat (first | refine blk_drewN ?_ _ | refine blk_drew ?_ | refine blk_alloc ?_ _)); exact BK232.out) hb); have n3_ := Aside0.mk (below_step (by repeat (first | (with_reducible first | exact HB.out | apply below_alloc | apply pw_below_drewN | apply below_drew1 | refine below_set ?_ GE232.out) | exact HB.out)) hb); clear HO_5; clear BK232; clear HB; have HO_5 := n0_; have HO249 := n1_; have BK232 := n2_; have HB := n3_; clear n0_ n1_ n2_ n3_; (try clear hb); (try clear hb2); (try clear hk); (try clear hi); (try clear ho0); obtain ⟨Ao93, co93, eo93⟩ := Kd.R_slice HO249.out; subst eo93) | (go_at_call 17; (with_reducible refine (number_Count.calls _ _ t247 t250 _ ?side1 ?side2 A83.out).mono ?_); (case side1 => repeat (first | exact (Kd.R_reads' HO249.out).2.2 | (with_reducible refine Kd.C_alloc ?_ _) | (with_reducible refine Kd.C_drewN ?_ _) | (with_reducible refine Kd.C_drew ?_))); (case side2 => exact (Kd.R_reads' HO249.out).2.1); rintro e w94 ⟨rfl, hb⟩; have n0_ := Aside0.mk (Kd.R_below (by (with_reducible repeat (first | apply Kd.R_alloc | apply Kd.R_drewN | apply Kd.R_drew)); exact HO_5.out) hb); have n1_ := Aside0.mk (Kd.R_below (by (with_reducible repeat (first | apply Kd.R_alloc | apply Kd.R_drewN | apply Kd.R_drew)); exact HO249.out) hb); have n2_ := Aside0.mk (blk_below (g := gb232) (o := .cells #[.slice A0_0 l0_0.length c0_0, .int .i64 a0_1, .slice A0_2 l0_2.length c0_2] 25 (0, 0)) (by (with_reducible repeat (first | refine blk_drewN ?_ _ | refine blk_drew ?_ | refine blk_alloc ?_ _)); exact BK232.out) hb); have n3_ := Aside0.mk (below_step (by repeat (first | (with_reducible first | exact HB.out | apply below_alloc | apply pw_below_drewN | apply below_drew1 | refine below_set ?_ GE232.out) | exact HB.out)) hb); clear HO_5; clear HO249; clear BK232; clear HB; have HO_5 := n0_; have HO249 := n1_; have BK232 := n2_; have HB := n3_; clear n0_ n1_ n2_ n3_; (try clear hb); (try clear hb2); (try clear hk); (try clear hi)))
                      repeat (go_quiet (first | (go_at_call 18; (with_reducible refine (pleatref00_CopyInts.calls _ _ t243 t247 _ ?side1 ?side2 A82.out).mono ?_); (case side1 => repeat (first | exact (Kd.R_reads' HO_5.out).2.2 | (with_reducible refine Kd.C_alloc ?_ _) | (with_reducible refine Kd.C_drewN ?_ _) | (with_reducible refine Kd.C_drew ?_))); (case side2 => exact (Kd.R_reads' HO_5.out).2.1); rintro e w92 ⟨v248, rfl, ho0, hb⟩; have n0_ := Aside0.mk (Kd.R_elder' (by (with_reducible repeat (first | apply Kd.R_alloc | apply Kd.R_drewN | apply Kd.R_drew)); exact HO_5.out) (Kd.R_base ho0) hb); have n1_ := Aside0.mk (Kd.R_lower (Kd.R_new' ho0 (Kd.R_lt (by (with_reducible repeat (first | apply Kd.R_alloc | apply Kd.R_drewN | apply Kd.R_drew)); exact HO_5.out))) (below_size (by repeat (first | (with_reducible first | exact HB.out | apply below_alloc | apply pw_below_drewN | apply below_drew1 | refine below_set ?_ GE232.out) | exact HB.out)))); have n2_ := Aside0.mk (blk_below (g := gb232) (o := .cells #[.slice A0_0 l0_0.length c0_0, .int .i64 a0_1, .slice A0_2 l0_2.length c0_2] 25 (0, 0)) (by (with_reducible repeat (first | refine blk_drewN ?_ _ | refine blk_drew ?_ | refine blk_alloc ?_ _)); exact BK232.out) hb); have n3_ := Aside0.mk (below_step (by repeat (first | (with_reducible first | exact HB.out | apply below_alloc | apply pw_below_drewN | apply below_drew1 | refine below_set ?_ GE232.out) | exact HB.out)) hb); clear HO_5; clear BK232; clear HB; have HO_5 := n0_; have HO249 := n1_; have BK232 := n2_; have HB := n3_; clear n0_ n1_ n2_ n3_; (try clear hb); (try clear hb2); (try clear hk); (try clear hi); (try clear ho0); obtain ⟨Ao93, co93, eo93⟩ := Kd.R_slice HO249.out; subst eo93) | (go_at_call 17; (with_reducible refine (number_Count.calls _ _ t247 t250 _ ?side1 ?side2 A83.out).mono ?_); (case side1 => repeat (first | exact (Kd.R_reads' HO249.out).2.2 | (with_reducible refine Kd.C_alloc ?_ _) | (with_reducible refine Kd.C_drewN ?_ _) | (with_reducible refine Kd.C_drew ?_))); (case side2 => exact (Kd.R_reads' HO249.out).2.1); rintro e w94 ⟨rfl, hb⟩; have n0_ := Aside0.mk (Kd.R_below (by (with_reducible repeat (first | apply Kd.R_alloc | apply Kd.R_drewN | apply Kd.R_drew)); exact HO_5.out) hb); have n1_ := Aside0.mk (Kd.R_below (by (with_reducible repeat (first | apply Kd.R_alloc | apply Kd.R_drewN | apply Kd.R_drew)); exact HO249.out) hb); have n2_ := Aside0.mk (blk_below (g := gb232) (o := .cells #[.slice A0_0 l0_0.length c0_0, .int .i64 a0_1, .slice A0_2 l0_2.length c0_2] 25 (0, 0)) (by (with_reducible repeat (first | refine blk_drewN ?_ _ | refine blk_drew ?_ | refine blk_alloc ?_ _)); exact BK232.out) hb); have n3_ := Aside0.mk (below_step (by repeat (first | (with_reducible first | exact HB.out | apply below_alloc | apply pw_below_drewN | apply below_drew1 | refine below_set ?_ GE232.out) | exact HB.out)) hb); clear HO_5; clear HO249; clear BK232; clear HB; have HO_5 := n0_; have HO249 := n1_; have BK232 := n2_; have HB := n3_; clear n0_ n1_ n2_ n3_; (try clear hb); (try clear hb2); (try clear hk); (try clear hi))); try go_wp2_with (first | (go_at_call 18; (with_reducible refine (pleatref00_CopyInts.calls _ _ t243 t247 _ ?side1 ?side2 A82.out).mono ?_); (case side1 => repeat (first | exact (Kd.R_reads' HO_5.out).2.2 | (with_reducible refine Kd.C_alloc ?_ _) | (with_reducible refine Kd.C_drewN ?_ _) | (with_reducible refine Kd.C_drew ?_))); (case side2 => exact (Kd.R_reads' HO_5.out).2.1); rintro e w92 ⟨v248, rfl, ho0, hb⟩; have n0_ := Aside0.mk (Kd.R_elder' (by (with_reducible repeat (first | apply Kd.R_alloc | apply Kd.R_drewN | apply Kd.R_drew)); exact HO_5.out) (Kd.R_base ho0) hb); have n1_ := Aside0.mk (Kd.R_lower (Kd.R_new' ho0 (Kd.R_lt (by (with_reducible repeat (first | apply Kd.R_alloc | apply Kd.R_drewN | apply Kd.R_drew)); exact HO_5.out))) (below_size (by repeat (first | (with_reducible first | exact HB.out | apply below_alloc | apply pw_below_drewN | apply below_drew1 | refine below_set ?_ GE232.out) | exact HB.out)))); have n2_ := Aside0.mk (blk_below (g := gb232) (o := .cells #[.slice A0_0 l0_0.length c0_0, .int .i64 a0_1, .slice A0_2 l0_2.length c0_2] 25 (0, 0)) (by (with_reducible repeat (first | refine blk_drewN ?_ _ | refine blk_drew ?_ | refine blk_alloc ?_ _)); exact BK232.out) hb); have n3_ := Aside0.mk (below_step (by repeat (first | (with_reducible first | exact HB.out | apply below_alloc | apply pw_below_drewN | apply below_drew1 | refine below_set ?_ GE232.out) | exact HB.out)) hb); clear HO_5; clear BK232; clear HB; have HO_5 := n0_; have HO249 := n1_; have BK232 := n2_; have HB := n3_; clear n0_ n1_ n2_ n3_; (try clear hb); (try clear hb2); (try clear hk); (try clear hi); (try clear ho0); obtain ⟨Ao93, co93, eo93⟩ := Kd.R_slice HO249.out; subst eo93) | (go_at_call 17; (with_reducible refine (number_Count.calls _ _ t247 t250 _ ?side1 ?side2 A83.out).mono ?_); (case side1 => repeat (first | exact (Kd.R_reads' HO249.out).2.2 | (with_reducible refine Kd.C_alloc ?_ _) | (with_reducible refine Kd.C_drewN ?_ _) | (with_reducible refine Kd.C_drew ?_))); (case side2 => exact (Kd.R_reads' HO249.out).2.1); rintro e w94 ⟨rfl, hb⟩; have n0_ := Aside0.mk (Kd.R_below (by (with_reducible repeat (first | apply Kd.R_alloc | apply Kd.R_drewN | apply Kd.R_drew)); exact HO_5.out) hb); have n1_ := Aside0.mk (Kd.R_below (by (with_reducible repeat (first | apply Kd.R_alloc | apply Kd.R_drewN | apply Kd.R_drew)); exact HO249.out) hb); have n2_ := Aside0.mk (blk_below (g := gb232) (o := .cells #[.slice A0_0 l0_0.length c0_0, .int .i64 a0_1, .slice A0_2 l0_2.length c0_2] 25 (0, 0)) (by (with_reducible repeat (first | refine blk_drewN ?_ _ | refine blk_drew ?_ | refine blk_alloc ?_ _)); exact BK232.out) hb); have n3_ := Aside0.mk (below_step (by repeat (first | (with_reducible first | exact HB.out | apply below_alloc | apply pw_below_drewN | apply below_drew1 | refine below_set ?_ GE232.out) | exact HB.out)) hb); clear HO_5; clear HO249; clear BK232; clear HB; have HO_5 := n0_; have HO249 := n1_; have BK232 := n2_; have HB := n3_; clear n0_ n1_ n2_ n3_; (try clear hb); (try clear hb2); (try clear hk); (try clear hi))))
                      go_ret
                      exact ⟨by first | rfl | (simp [errW_none, errW_some] <;> rfl) | (simp [*, errW_none, errW_some] <;> rfl), by repeat (first | (with_reducible first | exact HB.out | apply below_alloc | apply pw_below_drewN | apply below_drew1 | refine below_set ?_ GE232.out) | exact HB.out)⟩

end Go.Proofs.Ytfgdjpgdabjpmaa.PNumberSame
