-- Written for this claim by a program of this session (wip/tools/pp.py, over the kit's print).
import Derived.Test.YtfgdjpgdabjpmaaPEdgeRunsx0
import Derived.Test.YtfgdjpgdabjpmaaPEdgeRunsx2
namespace Go.Proofs.Ytfgdjpgdabjpmaa.PEdgeRuns
open Go.RowKit Go.Proofs.YtfgdjpgdabjpmaaW.PrintWords Go.Proofs.YtfgdjpgdabjpmaaW.PrintLast Go.Proofs.YtfgdjpgdabjpmaaW.PrintMore
attribute [local go_sem] max2_int min2_int max_two min_two max_three min_three max_four min_four   -- for this text's walks alone
set_option linter.unusedVariables false
set_option linter.unusedSimpArgs false

attribute [local go_sem high] eqA161
/-! ### pleatref00_EqPorts: function 62 -/
def pleatref00_EqPorts.l0 : Nat → List (S161) → List (S161) → Int → Option (Bool)
  | 0, _, _, _ => none
  | k + 1, x0, x1, x5 => if x5 < (x0.length : Int) then (if 0 ≤ x5 then (if x5 < (x1.length : Int) then (if (!(((rd_T161 x0 x5).f0) == ((rd_T161 x1 x5).f0)) || (!(((rd_T161 x0 x5).f1) == ((rd_T161 x1 x5).f1)))) = true then (some false) else (pleatref00_EqPorts.l0 k x0 x1 (wrap64 (x5 + 1)))) else (none)) else (none)) else (some true)
def pleatref00_EqPorts.f (k : Nat) (l0 : List (S161)) (l1 : List (S161)) : Option (Bool) := if (l0.length : Int) = (l1.length : Int) then (pleatref00_EqPorts.l0 k l0 l1 0) else (some false)
theorem pleatref00_EqPorts.mono_l : ∀ k, (∀ y0 y1 y2, LeO (pleatref00_EqPorts.l0 k y0 y1 y2) (pleatref00_EqPorts.l0 (k + 1) y0 y1 y2))
  | 0 => fun _ _ _ r h => by simp [pleatref00_EqPorts.l0] at h
  | k + 1 => by
    have ih0 := pleatref00_EqPorts.mono_l k
    · intro y0 y1 y2
      unfold pleatref00_EqPorts.l0
      exact zMo
theorem pleatref00_EqPorts.mono : ∀ a0 a1 k, LeO (pleatref00_EqPorts.f k a0 a1) (pleatref00_EqPorts.f (k + 1) a0 a1) := by
  intro a0 a1 k
  have ih0 := pleatref00_EqPorts.mono_l k
  unfold pleatref00_EqPorts.f
  exact zMo
set_option maxHeartbeats 8000000 in
set_option maxRecDepth 100000 in
theorem pleatref00_EqPorts.calls (k : Nat) (A0 : Option Addr) (c0 : Nat) (l0 : List (S161)) (A1 : Option Addr) (c1 : Nat) (l1 : List (S161)) (r : Bool) (w : World) (hr0 : Kd.C k161 w A0 l0.length l0) (hc0 : l0.length ≤ c0) (hr1 : Kd.C k161 w A1 l1.length l1) (hc1 : l1.length ≤ c1) (h : pleatref00_EqPorts.f k l0 l1 = some r) :
    Calls Try.prog 62 #[.slice A0 l0.length c0, .slice A1 l1.length c1] w fun e w' => e = .returned (.bool r) ∧ Drawn0 w w' := by
  have hu161 := Try.underlying161
  have HR0 := Aside0.mk hr0
  have HC0 := Aside0.mk hc0
  clear hr0 hc0
  have HR1 := Aside0.mk hr1
  have HC1 := Aside0.mk hc1
  clear hr1 hc1
  have H := h
  clear h
  unfold pleatref00_EqPorts.f at H
  by_cases c3 : (l0.length : Int) = (l1.length : Int)
  · rw [if_pos c3] at H
    have c3b0 := beq_iff_eq.mpr c3
    have c3b1 := bne_eq_false_iff_eq.mpr c3
    have c3b2 : (l0.length == l1.length) = true := by first | simpa using c3 | (simp at c3 ⊢; omega)
    clear c3
    have H' := Aside0.mk H
    clear H
    go_enter Try.func62, Try.ntmps62
    go_wp2
    repeat (go_quiet (fail); try go_wp2)
    go_loopg [5] k (fun kq v5 w' => ∃ (x5_1 : Int), v5 = .int .i64 x5_1 ∧ Aside0 (pleatref00_EqPorts.l0 kq l0 l1 x5_1 = some r) ∧ Aside0 (kq ≤ k) ∧ Drawn0 w w')
    case atStart => exact ⟨(0), zF', H', ⟨Nat.le_refl _⟩, zDr⟩
    case round =>
      clear H'
      try clear c3b0
      try clear c3b1
      try clear c3b2
      obtain ⟨x5_1, rfl, HA, HK1, ⟨m1, rfl⟩⟩ := hrel
      cases gk with
      | zero => exact absurd HA.out (by simp [pleatref00_EqPorts.l0])
      | succ k1 =>
        have H := HA.out
        clear HA
        simp only [pleatref00_EqPorts.l0] at H
        by_cases c4 : x5_1 < (l0.length : Int)
        · rw [if_pos c4] at H
          have c4b0 := decide_eq_true c4
          clear c4
          obtain ⟨c5, H⟩ := zG H
          have c5b0 := decide_eq_true c5
          clear c5
          obtain ⟨c6, H⟩ := zG H
          have c6b0 := decide_eq_true c6
          clear c6
          by_cases c7 : (!(((rd_T161 l0 x5_1).f0) == ((rd_T161 l1 x5_1).f0)) || (!(((rd_T161 l0 x5_1).f1) == ((rd_T161 l1 x5_1).f1)))) = true
          · rw [if_pos c7] at H
            have c7b0 : (!(((rd_T161 l0 x5_1).f0) == ((rd_T161 l1 x5_1).f0)) || (!(((rd_T161 l0 x5_1).f1) == ((rd_T161 l1 x5_1).f1)))) = true := c7
            clear c7
            obtain rfl := Option.some.inj H
            have p160 : 0 ≤ (x5_1 : Int) := zOD
            have q160 : x5_1 < (l0.length : Int) := zOD
            obtain ⟨ad160, e160, hx160_0, hx160_1⟩ := at_T161 HR0.out x5_1 p160 q160
            cases e160
            replace p160 := eq_true p160
            replace q160 := eq_true q160
            have p161 : 0 ≤ (x5_1 : Int) := zOD
            have q161 : x5_1 < (l1.length : Int) := zOD
            obtain ⟨ad161, e161, hx161_0, hx161_1⟩ := at_T161 HR1.out x5_1 p161 q161
            cases e161
            replace p161 := eq_true p161
            replace q161 := eq_true q161
            go_wp2
            repeat (go_quiet (fail); try go_wp2)
            go_ret
            exact ⟨zF', zDr⟩
          · rw [if_neg c7] at H
            have c7b0 : (!(((rd_T161 l0 x5_1).f0) == ((rd_T161 l1 x5_1).f0)) || (!(((rd_T161 l0 x5_1).f1) == ((rd_T161 l1 x5_1).f1)))) = false := by simpa using c7
            clear c7
            have H' := Aside0.mk H
            clear H
            have p160 : 0 ≤ (x5_1 : Int) := zOD
            have q160 : x5_1 < (l0.length : Int) := zOD
            obtain ⟨ad160, e160, hx160_0, hx160_1⟩ := at_T161 HR0.out x5_1 p160 q160
            cases e160
            replace p160 := eq_true p160
            replace q160 := eq_true q160
            have p161 : 0 ≤ (x5_1 : Int) := zOD
            have q161 : x5_1 < (l1.length : Int) := zOD
            obtain ⟨ad161, e161, hx161_0, hx161_1⟩ := at_T161 HR1.out x5_1 p161 q161
            cases e161
            replace p161 := eq_true p161
            replace q161 := eq_true q161
            go_wp2
            repeat (go_quiet (fail); try go_wp2)
            go_roundg k1
            case measure => have := HK1.out; omega
            case rel => exact ⟨(wrap64 (x5_1 + 1)), zF', H', ⟨by have := HK1.out; omega⟩, zDr⟩
        · rw [if_neg c4] at H
          have c4b0 := decide_eq_false c4
          clear c4
          obtain rfl := Option.some.inj H
          go_wp2
          repeat (go_quiet (fail); try go_wp2)
          go_ret
          exact ⟨zF', zDr⟩
  · rw [if_neg c3] at H
    have c3b0 := beq_eq_false_iff_ne.mpr c3
    have c3b1 := bne_iff_ne.mpr c3
    have c3b2 : (l0.length == l1.length) = false := by first | simpa using c3 | (simp at c3 ⊢; omega)
    obtain rfl := Option.some.inj H
    go_enter Try.func62, Try.ntmps62
    go_wp2
    repeat (go_quiet (fail); try go_wp2)
    go_ret
    exact ⟨zF', zDr⟩

/-! ### word_Address: function 135 -/
def word_Address.f (a0_0 : Int) (a0_1 : Bool) (a1 : Int) (a2 : Int) : Option (Int × Int) := if a0_1 = true then (some (0, 4)) else (if (wrap64 (a0_0 + a1)) ≥ 0 then (if (wrap64 (a0_0 + a1)) < a2 then (some (wrap64 (a0_0 + a1), 0)) else (some (0, 5))) else (some (0, 5)))
set_option maxHeartbeats 8000000 in
set_option maxRecDepth 100000 in
theorem word_Address.calls (a0_0 : Int) (a0_1 : Bool) (a1 : Int) (a2 : Int) (r1 : Int) (r2 : Int) (w : World) (h : word_Address.f a0_0 a0_1 a1 a2 = some (r1, r2)) :
    Calls Try.prog 135 #[.agg #[.int .i64 a0_0, .bool a0_1], .int .i64 a1, .int .i64 a2] w fun e w' => e = .returned (.tuple #[.int .i64 r1, .int .i8 r2]) ∧ Below w.heap.size w w' := by
  have hu106 := Try.underlying106
  have HB := Aside0.mk (Below.refl w.heap.size w)
  have H := h
  clear h
  unfold word_Address.f at H
  by_cases c4 : a0_1 = true
  · subst c4
    rw [if_pos rfl] at H
    simp only [Option.some.injEq, Prod.mk.injEq] at H
    obtain ⟨rfl, rfl⟩ := H
    go_enter Try.func135, Try.ntmps135
    go_wp2_with (first | ((with_reducible refine gate_dst (N := 3) rfl ?_); refine zBox (N := 3) (cs := #[.int .i64 a0_0, .bool true]) (t := 106) ?_; intro gb162 hg w5 hbox hb; refine zs (below_step (zHB) hb) (zs hbox (zs (zGe hg zHB) (zs (zGe hg zHB) ?_))); clear HB; intro GE162 GW162 BK162 HB; clear hb hbox hg; have hcz6 := blk_cell BK162.out; have hfz6 := blk_frozen BK162.out))
    go_ret2
    exact ⟨zE, zHB⟩
  · replace c4 := Bool.eq_false_iff.mpr c4
    subst c4
    rw [if_neg (show ¬ (false = true) by decide)] at H
    by_cases c7 : (wrap64 (a0_0 + a1)) ≥ 0
    · rw [if_pos c7] at H
      have c7b0 : decide (0 ≤ (wrap64 (a0_0 + a1))) = true := decide_eq_true c7
      clear c7
      by_cases c8 : (wrap64 (a0_0 + a1)) < a2
      · rw [if_pos c8] at H
        have c8b0 := decide_eq_true c8
        clear c8
        simp only [Option.some.injEq, Prod.mk.injEq] at H
        obtain ⟨rfl, rfl⟩ := H
        go_enter Try.func135, Try.ntmps135
        go_wp2_with (first | ((with_reducible refine gate_dst (N := 3) rfl ?_); refine zBox (N := 3) (cs := #[.int .i64 a0_0, .bool false]) (t := 106) ?_; intro gb162 hg w9 hbox hb; refine zs (below_step (zHB) hb) (zs hbox (zs (zGe hg zHB) (zs (zGe hg zHB) ?_))); clear HB; intro GE162 GW162 BK162 HB; clear hb hbox hg; have hcz10 := blk_cell BK162.out; have hfz10 := blk_frozen BK162.out))
        go_ret2
        exact ⟨zE, zHB⟩
      · rw [if_neg c8] at H
        have c8b0 := decide_eq_false c8
        clear c8
        simp only [Option.some.injEq, Prod.mk.injEq] at H
        obtain ⟨rfl, rfl⟩ := H
        go_enter Try.func135, Try.ntmps135
        go_wp2_with (first | ((with_reducible refine gate_dst (N := 3) rfl ?_); refine zBox (N := 3) (cs := #[.int .i64 a0_0, .bool false]) (t := 106) ?_; intro gb162 hg w11 hbox hb; refine zs (below_step (zHB) hb) (zs hbox (zs (zGe hg zHB) (zs (zGe hg zHB) ?_))); clear HB; intro GE162 GW162 BK162 HB; clear hb hbox hg; have hcz12 := blk_cell BK162.out; have hfz12 := blk_frozen BK162.out))
        go_ret2
        exact ⟨zE, zHB⟩
    · rw [if_neg c7] at H
      have c7b0 : decide (0 ≤ (wrap64 (a0_0 + a1))) = false := decide_eq_false c7
      clear c7
      simp only [Option.some.injEq, Prod.mk.injEq] at H
      obtain ⟨rfl, rfl⟩ := H
      go_enter Try.func135, Try.ntmps135
      go_wp2_with (first | ((with_reducible refine gate_dst (N := 3) rfl ?_); refine zBox (N := 3) (cs := #[.int .i64 a0_0, .bool false]) (t := 106) ?_; intro gb162 hg w13 hbox hb; refine zs (below_step (zHB) hb) (zs hbox (zs (zGe hg zHB) (zs (zGe hg zHB) ?_))); clear HB; intro GE162 GW162 BK162 HB; clear hb hbox hg; have hcz14 := blk_cell BK162.out; have hfz14 := blk_frozen BK162.out))
      go_ret2
      exact ⟨zE, zHB⟩

/-! ### word_Sealed: function 138 -/
def word_Sealed.f (a0 : Int) : Option (Int × Bool) := some (a0, true)
set_option maxHeartbeats 8000000 in
set_option maxRecDepth 100000 in
theorem word_Sealed.calls (a0 : Int) (r1 : Int) (r2 : Bool) (w : World) (h : word_Sealed.f a0 = some (r1, r2)) :
    Calls Try.prog 138 #[.int .i64 a0] w fun e w' => e = .returned (.agg #[.int .i64 r1, .bool r2]) ∧ Below w.heap.size w w' := by
  have hu106 := Try.underlying106
  have HB := Aside0.mk (Below.refl w.heap.size w)
  have H := h
  clear h
  unfold word_Sealed.f at H
  simp only [Option.some.injEq, Prod.mk.injEq] at H
  obtain ⟨rfl, rfl⟩ := H
  go_enter Try.func138, Try.ntmps138
  go_wp2_with (first | ((with_reducible refine gate_dst (N := 2) rfl ?_); refine zBox (N := 2) (cs := #[.int .i64 0, .bool false]) (t := 106) ?_; intro gb163 hg w2 hbox hb; refine zs (below_step (zHB) hb) (zs hbox (zs (zGe hg zHB) (zs (zGe hg zHB) ?_))); clear HB; intro GE163 GW163 BK163 HB; clear hb hbox hg; have hcz3 := blk_cell BK163.out; have hfz3 := blk_frozen BK163.out))
  refine zRet gb163 106 #[.int .i64 a0, .bool true] Try.underlying106 ?_
  exact ⟨zE, zHB⟩

end Go.Proofs.Ytfgdjpgdabjpmaa.PEdgeRuns
