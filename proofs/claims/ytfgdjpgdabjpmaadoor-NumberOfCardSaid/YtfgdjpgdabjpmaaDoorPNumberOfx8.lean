-- Written for this claim by a program of this session (wip/tools/pp.py, over the kit's print).
import Derived.Test.YtfgdjpgdabjpmaaDoorPNumberOfx0
import Derived.Test.YtfgdjpgdabjpmaaDoorPNumberOfx7
namespace Go.Proofs.YtfgdjpgdabjpmaaDoor.PNumberOf
open Go.RowKit Go.Proofs.YtfgdjpgdabjpmaaDoorW.PrintWords Go.Proofs.YtfgdjpgdabjpmaaDoorW.PrintLast Go.Proofs.YtfgdjpgdabjpmaaDoorW.PrintMore
attribute [local go_sem] max2_int min2_int max_two min_two max_three min_three max_four min_four   -- for this text's walks alone
set_option linter.unusedVariables false
set_option linter.unusedSimpArgs false

/-! ### pleatref07_Check: function 24 -/
mutual
def pleatref07_Check.j0 : Nat → Int → Bool → List Int → Int → List Int → Option (Int × Int)
  | 0, _, _, _, _, _ => none
  | k + 1, x4, x27, x206000, x206001, x206002 => if x27 = true then (some (41, 0)) else (pleatref07_Check.l0 k x4 0 x206000 x206001 x206002)
def pleatref07_Check.l0 : Nat → Int → Int → List Int → Int → List Int → Option (Int × Int)
  | 0, _, _, _, _, _ => none
  | k + 1, x4, x5, x206000, x206001, x206002 => if x5 < x4 then (if 0 ≤ x5 then (if x5 < (x206000.length : Int) then ((pleatref02_Target.f k (rd x206000 x5)).bind fun bt207 => (if bt207.2 = true then (if bt207.1 ≥ x4 then (some (22, x5)) else (pleatref07_Check.l0 k x4 (wrap64 (x5 + 1)) x206000 x206001 x206002)) else (pleatref07_Check.l0 k x4 (wrap64 (x5 + 1)) x206000 x206001 x206002))) else (none)) else (none)) else (if 0 ≤ (wrap64 (x4 - 1)) then (if (wrap64 (x4 - 1)) < (x206000.length : Int) then ((pleatref02_Decode.f k (rd x206000 (wrap64 (x4 - 1)))).bind fun bt210 => (if bt210.1 = 0 then (some (0, 0)) else (if bt210.1 = 15 then (some (0, 0)) else (if bt210.1 = 19 then (some (0, 0)) else (if bt210.1 = 21 then (some (0, 0)) else (some (50, wrap64 (x4 - 1)))))))) else (none)) else (none))
end
def pleatref07_Check.f (k : Nat) (l0_0 : List Int) (a0_1 : Int) (l0_2 : List Int) : Option (Int × Int) := if (l0_0.length : Int) = 0 then (some (50, 0)) else (if (l0_0.length : Int) > 16384 then (some (42, 16384)) else (if (l0_2.length : Int) > 4096 then (some (25, 4096)) else (if a0_1 < 0 then (pleatref07_Check.j0 k (l0_0.length : Int) true l0_0 a0_1 l0_2) else (pleatref07_Check.j0 k (l0_0.length : Int) (decide (a0_1 ≥ (l0_0.length : Int))) l0_0 a0_1 l0_2))))
theorem pleatref07_Check.mono_l : ∀ k, (∀ y0 y1 y2 y3 y4, LeO (pleatref07_Check.j0 k y0 y1 y2 y3 y4) (pleatref07_Check.j0 (k + 1) y0 y1 y2 y3 y4)) ∧ (∀ y0 y1 y2 y3 y4, LeO (pleatref07_Check.l0 k y0 y1 y2 y3 y4) (pleatref07_Check.l0 (k + 1) y0 y1 y2 y3 y4))
  | 0 => ⟨fun _ _ _ _ _ r h => by simp [pleatref07_Check.j0] at h, fun _ _ _ _ _ r h => by simp [pleatref07_Check.l0] at h⟩
  | k + 1 => by
    obtain ⟨ih0, ih1⟩ := pleatref07_Check.mono_l k
    refine ⟨?_, ?_⟩
    · intro y0 y1 y2 y3 y4
      unfold pleatref07_Check.j0
      have m0 := @pleatref02_Decode.mono
      have m1 := @pleatref02_Target.mono
      exact zMo
    · intro y0 y1 y2 y3 y4
      unfold pleatref07_Check.l0
      have m0 := @pleatref02_Decode.mono
      have m1 := @pleatref02_Target.mono
      exact zMo
theorem pleatref07_Check.mono : ∀ a0 a1 a2 k, LeO (pleatref07_Check.f k a0 a1 a2) (pleatref07_Check.f (k + 1) a0 a1 a2) := by
  intro a0 a1 a2 k
  obtain ⟨ih0, ih1⟩ := pleatref07_Check.mono_l k
  unfold pleatref07_Check.f
  have m0 := @pleatref02_Decode.mono
  have m1 := @pleatref02_Target.mono
  exact zMo
set_option maxHeartbeats 8000000 in
set_option maxRecDepth 100000 in
theorem pleatref07_Check.calls (k : Nat) (A0_0 : Option Addr) (c0_0 : Nat) (l0_0 : List Int) (a0_1 : Int) (A0_2 : Option Addr) (c0_2 : Nat) (l0_2 : List Int) (r1 : Int) (r2 : Int) (w : World) (hr0_0 : Kd.C (Kd.int .u32) w A0_0 l0_0.length l0_0) (hc0_0 : l0_0.length ≤ c0_0) (hr0_2 : Kd.C (Kd.int .i64) w A0_2 l0_2.length l0_2) (hc0_2 : l0_2.length ≤ c0_2) (h : pleatref07_Check.f k l0_0 a0_1 l0_2 = some (r1, r2)) :
    Calls Tryd.prog 24 #[.agg #[.slice A0_0 l0_0.length c0_0, .int .i64 a0_1, .slice A0_2 l0_2.length c0_2]] w fun e w' => e = .returned (.tuple #[.int .i64 r1, .int .i64 r2]) ∧ Below w.heap.size w w' := by
  have hu25 := Tryd.underlying25
  have hfd94_0 : ∀ (x0_ x1_ x2_ x3_ x4_ : Value) (W : World), (Instr.field 94 (.agg #[x0_, x1_, x2_, x3_, x4_]) 0).run Tryd.prog W = .ok (x0_) W := fun _ _ _ _ _ _ => by kernel_rfl
  have HR0_0 := Aside0.mk hr0_0
  have HC0_0 := Aside0.mk hc0_0
  clear hr0_0 hc0_0
  have HR0_2 := Aside0.mk hr0_2
  have HC0_2 := Aside0.mk hc0_2
  clear hr0_2 hc0_2
  have HB := Aside0.mk (Below.refl w.heap.size w)
  have H := h
  clear h
  unfold pleatref07_Check.f at H
  by_cases c2 : (l0_0.length : Int) = 0
  · rw [if_pos c2] at H
    have c2b0 := beq_iff_eq.mpr c2
    have c2b1 := bne_eq_false_iff_eq.mpr c2
    clear c2
    simp only [Option.some.injEq, Prod.mk.injEq] at H
    obtain ⟨rfl, rfl⟩ := H
    go_enter Tryd.func24, Tryd.ntmps24
    go_wp2_with (first | ((with_reducible refine gate_dst (N := 1) rfl ?_); refine zBox (N := 1) (cs := #[.slice A0_0 l0_0.length c0_0, .int .i64 a0_1, .slice A0_2 l0_2.length c0_2]) (t := 25) ?_; intro gb205 hg w3 hbox hb; refine zs (below_step (zHB) hb) (zs hbox (zs (zGe hg zHB) (zs (zGe hg zHB) ?_))); clear HB; intro GE205 GW205 BK205 HB; clear hb hbox hg; have hcz4 := blk_cell BK205.out; have hfz4 := blk_frozen BK205.out))
    go_ret2
    exact ⟨zE, zHB⟩
  · rw [if_neg c2] at H
    have c2b0 := beq_eq_false_iff_ne.mpr c2
    have c2b1 := bne_iff_ne.mpr c2
    have c2b2 : ¬ (l0_0 = []) := fun h_ => c2 (by rw [h_]; rfl)
    by_cases c5 : (l0_0.length : Int) > 16384
    · rw [if_pos c5] at H
      have c5b0 : decide (16384 < (l0_0.length : Int)) = true := decide_eq_true c5
      have c5b1 : decide (16384 < l0_0.length) = true := decide_eq_true (by omega)
      clear c5
      simp only [Option.some.injEq, Prod.mk.injEq] at H
      obtain ⟨rfl, rfl⟩ := H
      go_enter Tryd.func24, Tryd.ntmps24
      go_wp2_with (first | ((with_reducible refine gate_dst (N := 1) rfl ?_); refine zBox (N := 1) (cs := #[.slice A0_0 l0_0.length c0_0, .int .i64 a0_1, .slice A0_2 l0_2.length c0_2]) (t := 25) ?_; intro gb205 hg w6 hbox hb; refine zs (below_step (zHB) hb) (zs hbox (zs (zGe hg zHB) (zs (zGe hg zHB) ?_))); clear HB; intro GE205 GW205 BK205 HB; clear hb hbox hg; have hcz7 := blk_cell BK205.out; have hfz7 := blk_frozen BK205.out))
      go_ret2
      exact ⟨zE, zHB⟩
    · rw [if_neg c5] at H
      have c5b0 : decide (16384 < (l0_0.length : Int)) = false := decide_eq_false c5
      have c5b1 : decide (16384 < l0_0.length) = false := decide_eq_false (by omega)
      clear c5
      by_cases c8 : (l0_2.length : Int) > 4096
      · rw [if_pos c8] at H
        have c8b0 : decide (4096 < (l0_2.length : Int)) = true := decide_eq_true c8
        have c8b1 : decide (4096 < l0_2.length) = true := decide_eq_true (by omega)
        clear c8
        simp only [Option.some.injEq, Prod.mk.injEq] at H
        obtain ⟨rfl, rfl⟩ := H
        go_enter Tryd.func24, Tryd.ntmps24
        go_wp2_with (first | ((with_reducible refine gate_dst (N := 1) rfl ?_); refine zBox (N := 1) (cs := #[.slice A0_0 l0_0.length c0_0, .int .i64 a0_1, .slice A0_2 l0_2.length c0_2]) (t := 25) ?_; intro gb205 hg w9 hbox hb; refine zs (below_step (zHB) hb) (zs hbox (zs (zGe hg zHB) (zs (zGe hg zHB) ?_))); clear HB; intro GE205 GW205 BK205 HB; clear hb hbox hg; have hcz10 := blk_cell BK205.out; have hfz10 := blk_frozen BK205.out))
        go_ret2
        exact ⟨zE, zHB⟩
      · rw [if_neg c8] at H
        have c8b0 : decide (4096 < (l0_2.length : Int)) = false := decide_eq_false c8
        have c8b1 : decide (4096 < l0_2.length) = false := decide_eq_false (by omega)
        clear c8
        have HC11 := Aside0.mk H
        clear H
        go_enter Tryd.func24, Tryd.ntmps24
        go_upto_region 8 with (first | ((with_reducible refine gate_dst (N := 1) rfl ?_); refine zBox (N := 1) (cs := #[.slice A0_0 l0_0.length c0_0, .int .i64 a0_1, .slice A0_2 l0_2.length c0_2]) (t := 25) ?_; intro gb205 hg w12 hbox hb; refine zs (below_step (zHB) hb) (zs hbox (zs (zGe hg zHB) (zs (zGe hg zHB) ?_))); clear HB; intro GE205 GW205 BK205 HB; clear hb hbox hg; have hcz13 := blk_cell BK205.out; have hfz13 := blk_frozen BK205.out))
        (try simp only [Act.put, List.setIfInBounds_toArray, List.set_cons_zero, List.set_cons_succ])
        go_cut [27] (fun v27 wc => ∃ (kq : Nat) (x27_10 : Bool), v27 = .bool x27_10 ∧ Aside0 (pleatref07_Check.j0 kq (l0_0.length : Int) x27_10 l0_0 a0_1 l0_2 = some (r1, r2)) ∧ Aside0 (kq ≤ k) ∧ Aside0 (wc.heap[gb205]? = some (.cells #[(.slice A0_0 l0_0.length c0_0), .int .i64 a0_1, (.slice A0_2 l0_2.length c0_2)] 25 (0, 0))) ∧ Aside0 (Below w.heap.size w wc))
        case first =>
          have H := HC11.out
          clear HC11
          by_cases c14 : a0_1 < 0
          · rw [if_pos c14] at H
            have c14b0 := decide_eq_true c14
            clear c14
            (first | rw [c14b0] | (simp only [i64_w, i32_w]; rw [c14b0]) | skip)
            have H' := Aside0.mk H
            clear H
            have hcz15 := blk_cell BK205.out
            have hfz15 := blk_frozen BK205.out
            go_wp2
            go_meet
            case rel => exact ⟨_, (true), zF', H', ⟨zL⟩, ⟨zBK⟩, ⟨zHB⟩⟩
          · rw [if_neg c14] at H
            have c14b0 := decide_eq_false c14
            clear c14
            (first | rw [c14b0] | (simp only [i64_w, i32_w]; rw [c14b0]) | skip)
            have H' := Aside0.mk H
            clear H
            have hcz16 := blk_cell BK205.out
            have hfz16 := blk_frozen BK205.out
            go_wp2
            go_meet
            case rel => exact ⟨_, (decide (a0_1 ≥ (l0_0.length : Int))), zF', H', ⟨zL⟩, ⟨zBK⟩, ⟨zHB⟩⟩
        case rest =>
          clear HC11
          try clear c2b0
          try clear c2b1
          try clear c2b2
          try clear c5b0
          try clear c5b1
          try clear c8b0
          try clear c8b1
          try clear hcz13
          try clear hfz13
          obtain ⟨kq, x27_10, rfl, HA, HJ10, BK205, HB⟩ := hcut
          cases kq with
          | zero => exact absurd HA.out (by simp [pleatref07_Check.j0])
          | succ kj10 =>
            have H := HA.out
            clear HA
            simp only [pleatref07_Check.j0] at H
            by_cases c17 : x27_10 = true
            · subst c17
              rw [if_pos rfl] at H
              simp only [Option.some.injEq, Prod.mk.injEq] at H
              obtain ⟨rfl, rfl⟩ := H
              go_wp2
              go_ret2
              exact ⟨zE, zHB⟩
            · replace c17 := Bool.eq_false_iff.mpr c17
              subst c17
              rw [if_neg (show ¬ (false = true) by decide)] at H
              have H' := Aside0.mk H
              clear H
              go_wp2
              go_loopg [5] kj10 (fun kq v5 w' => ∃ (x5_2 : Int), v5 = .int .i64 x5_2 ∧ Aside0 (pleatref07_Check.l0 kq (l0_0.length : Int) x5_2 l0_0 a0_1 l0_2 = some (r1, r2)) ∧ Aside0 (kq ≤ kj10) ∧ Aside0 (w'.heap[gb205]? = some (.cells #[(.slice A0_0 l0_0.length c0_0), .int .i64 a0_1, (.slice A0_2 l0_2.length c0_2)] 25 (0, 0))) ∧ Aside0 (Below w.heap.size w w'))
              case atStart => exact ⟨(0), zF', H', ⟨Nat.le_refl _⟩, ⟨zBK⟩, ⟨zHB⟩⟩
              case round =>
                clear H'
                try clear c2b0
                try clear c2b1
                try clear c2b2
                try clear c5b0
                try clear c5b1
                try clear c8b0
                try clear c8b1
                try clear hcz13
                try clear hfz13
                obtain ⟨x5_2, rfl, HA, HK2, BK205, HB⟩ := hrel
                cases gk with
                | zero => exact absurd HA.out (by simp [pleatref07_Check.l0])
                | succ k2 =>
                  have H := HA.out
                  clear HA
                  simp only [pleatref07_Check.l0] at H
                  by_cases c18 : x5_2 < (l0_0.length : Int)
                  · rw [if_pos c18] at H
                    have c18b0 := decide_eq_true c18
                    clear c18
                    obtain ⟨c19, H⟩ := zG H
                    have c19b0 := decide_eq_true c19
                    clear c19
                    obtain ⟨c20, H⟩ := zG H
                    have c20b0 := decide_eq_true c20
                    clear c20
                    replace H := Option.bind_eq_some_iff.mp H
                    obtain ⟨⟨t207, t208⟩, A210, H⟩ := H
                    (try dsimp only at H)
                    have A21 := Aside0.mk A210
                    clear A210
                    by_cases c22 : t208 = true
                    · subst c22
                      rw [if_pos rfl] at H
                      by_cases c23 : t207 ≥ (l0_0.length : Int)
                      · rw [if_pos c23] at H
                        have c23b0 : decide ((l0_0.length : Int) ≤ t207) = true := decide_eq_true c23
                        clear c23
                        simp only [Option.some.injEq, Prod.mk.injEq] at H
                        obtain ⟨rfl, rfl⟩ := H
                        have hcz24 := blk_cell BK205.out
                        have hfz24 := blk_frozen BK205.out
                        have p206 : 0 ≤ (x5_2 : Int) := zOD
                        have q206 : x5_2 < (l0_0.length : Int) := zOD
                        obtain ⟨ad206, e206, hx206_0⟩ := Kd.at_int HR0_0.out x5_2 p206 q206
                        cases e206
                        replace hx206_0 := (HB.out.cell (World.block_lt_of_cell? w _ hx206_0)).trans hx206_0
                        replace p206 := eq_true p206
                        replace q206 := eq_true q206
                        go_wp2_with (first | ((with_reducible refine gate_callee (f := 66) rfl ?_); refine zGo (N := (some 39)) Tryd.func66 #[.int .u32 (rd l0_0 x5_2)] ?_; (with_reducible refine (pleatref02_Target.calls k2 (rd l0_0 x5_2) t207 true _ A21.out).mono ?_); rintro e w25 ⟨rfl, hb⟩; refine ⟨_, rfl, ?_⟩; refine zs (blk_below (g := gb205) zBK hb) (zs (below_step (zHB) hb) ?_); clear BK205 HB; intro HB BK205; clear hb))
                        go_ret2
                        exact ⟨zE, zHB⟩
                      · rw [if_neg c23] at H
                        have c23b0 : decide ((l0_0.length : Int) ≤ t207) = false := decide_eq_false c23
                        clear c23
                        have H' := Aside0.mk H
                        clear H
                        have hcz26 := blk_cell BK205.out
                        have hfz26 := blk_frozen BK205.out
                        have p206 : 0 ≤ (x5_2 : Int) := zOD
                        have q206 : x5_2 < (l0_0.length : Int) := zOD
                        obtain ⟨ad206, e206, hx206_0⟩ := Kd.at_int HR0_0.out x5_2 p206 q206
                        cases e206
                        replace hx206_0 := (HB.out.cell (World.block_lt_of_cell? w _ hx206_0)).trans hx206_0
                        replace p206 := eq_true p206
                        replace q206 := eq_true q206
                        go_wp2_with (first | ((with_reducible refine gate_callee (f := 66) rfl ?_); refine zGo (N := (some 39)) Tryd.func66 #[.int .u32 (rd l0_0 x5_2)] ?_; (with_reducible refine (pleatref02_Target.calls k2 (rd l0_0 x5_2) t207 true _ A21.out).mono ?_); rintro e w27 ⟨rfl, hb⟩; refine ⟨_, rfl, ?_⟩; refine zs (blk_below (g := gb205) zBK hb) (zs (below_step (zHB) hb) ?_); clear BK205 HB; intro HB BK205; clear hb))
                        go_roundg k2
                        case measure => have := HJ10.out; have := HK2.out; omega
                        case rel => exact ⟨(wrap64 (x5_2 + 1)), zF', H', ⟨by have := HJ10.out; have := HK2.out; omega⟩, ⟨zBK⟩, ⟨zHB⟩⟩
                    · replace c22 := Bool.eq_false_iff.mpr c22
                      subst c22
                      rw [if_neg (show ¬ (false = true) by decide)] at H
                      have H' := Aside0.mk H
                      clear H
                      have hcz28 := blk_cell BK205.out
                      have hfz28 := blk_frozen BK205.out
                      have p206 : 0 ≤ (x5_2 : Int) := zOD
                      have q206 : x5_2 < (l0_0.length : Int) := zOD
                      obtain ⟨ad206, e206, hx206_0⟩ := Kd.at_int HR0_0.out x5_2 p206 q206
                      cases e206
                      replace hx206_0 := (HB.out.cell (World.block_lt_of_cell? w _ hx206_0)).trans hx206_0
                      replace p206 := eq_true p206
                      replace q206 := eq_true q206
                      go_wp2_with (first | ((with_reducible refine gate_callee (f := 66) rfl ?_); refine zGo (N := (some 39)) Tryd.func66 #[.int .u32 (rd l0_0 x5_2)] ?_; (with_reducible refine (pleatref02_Target.calls k2 (rd l0_0 x5_2) t207 false _ A21.out).mono ?_); rintro e w29 ⟨rfl, hb⟩; refine ⟨_, rfl, ?_⟩; refine zs (blk_below (g := gb205) zBK hb) (zs (below_step (zHB) hb) ?_); clear BK205 HB; intro HB BK205; clear hb))
                      go_roundg k2
                      case measure => have := HJ10.out; have := HK2.out; omega
                      case rel => exact ⟨(wrap64 (x5_2 + 1)), zF', H', ⟨by have := HJ10.out; have := HK2.out; omega⟩, ⟨zBK⟩, ⟨zHB⟩⟩
                  · rw [if_neg c18] at H
                    have c18b0 := decide_eq_false c18
                    clear c18
                    obtain ⟨ji30, hji30⟩ : ∃ j_ : Int, (wrap64 ((l0_0.length : Int) - 1)) = j_ := ⟨_, rfl⟩
                    (first | rw [hji30] at H | simp only [hji30] at H)
                    have hji30w : (IntKind.i64.wrap ((l0_0.length : Int) - 1)) = ji30 := (i64_w _).trans hji30
                    obtain ⟨c31, H⟩ := zG H
                    have c31b0 := decide_eq_true c31
                    clear c31
                    obtain ⟨c32, H⟩ := zG H
                    have c32b0 := decide_eq_true c32
                    clear c32
                    replace H := Option.bind_eq_some_iff.mp H
                    obtain ⟨⟨t210, t211, t212, t213, t214⟩, A330, H⟩ := H
                    (try dsimp only at H)
                    have A33 := Aside0.mk A330
                    clear A330
                    by_cases c34 : t210 = 0
                    · rw [if_pos c34] at H
                      have c34b0 := beq_iff_eq.mpr c34
                      have c34b1 := bne_eq_false_iff_eq.mpr c34
                      clear c34
                      simp only [Option.some.injEq, Prod.mk.injEq] at H
                      obtain ⟨rfl, rfl⟩ := H
                      have hcz35 := blk_cell BK205.out
                      have hfz35 := blk_frozen BK205.out
                      have p209 : 0 ≤ ((ji30) : Int) := zOD
                      have q209 : (ji30) < (l0_0.length : Int) := zOD
                      obtain ⟨ad209, e209, hx209_0⟩ := Kd.at_int HR0_0.out (ji30) p209 q209
                      cases e209
                      replace hx209_0 := (HB.out.cell (World.block_lt_of_cell? w _ hx209_0)).trans hx209_0
                      replace p209 := eq_true p209
                      replace q209 := eq_true q209
                      go_wp2_with (first | ((with_reducible refine gate_callee (f := 67) rfl ?_); refine goesL_ (some 55) rfl rfl Tryd.func67 (by kernel_rfl) rfl #[.int .u32 (rd l0_0 (ji30))] rfl (by (try simp only [List.map_toArray, List.map_cons, List.map_nil]); first | done | (simp only [hji30]; rfl) | rfl | (simp only [List.length_drop, List.length_take]; rfl)) ?_; (with_reducible refine (pleatref02_Decode.calls k2 (rd l0_0 (ji30)) t210 t211 t212 t213 t214 _ A33.out).mono ?_); rintro e w36 ⟨rfl, hb⟩; refine ⟨_, rfl, ?_⟩; refine zs (blk_below (g := gb205) zBK hb) (zs (below_step (zHB) hb) ?_); clear BK205 HB; intro HB BK205; clear hb))
                      go_ret2
                      exact ⟨by first | rfl | (simp [errW_none, errW_some] <;> rfl) | (simp only [← hji30]; first | rfl | (simp [errW_none, errW_some] <;> rfl)) | (simp [*, errW_none, errW_some] <;> rfl), zHB⟩
                    · rw [if_neg c34] at H
                      have c34b0 := beq_eq_false_iff_ne.mpr c34
                      have c34b1 := bne_iff_ne.mpr c34
                      by_cases c37 : t210 = 15
                      · rw [if_pos c37] at H
                        have c37b0 := beq_iff_eq.mpr c37
                        have c37b1 := bne_eq_false_iff_eq.mpr c37
                        clear c37
                        simp only [Option.some.injEq, Prod.mk.injEq] at H
                        obtain ⟨rfl, rfl⟩ := H
                        have hcz38 := blk_cell BK205.out
                        have hfz38 := blk_frozen BK205.out
                        have p209 : 0 ≤ ((ji30) : Int) := zOD
                        have q209 : (ji30) < (l0_0.length : Int) := zOD
                        obtain ⟨ad209, e209, hx209_0⟩ := Kd.at_int HR0_0.out (ji30) p209 q209
                        cases e209
                        replace hx209_0 := (HB.out.cell (World.block_lt_of_cell? w _ hx209_0)).trans hx209_0
                        replace p209 := eq_true p209
                        replace q209 := eq_true q209
                        go_wp2_with (first | ((with_reducible refine gate_callee (f := 67) rfl ?_); refine goesL_ (some 55) rfl rfl Tryd.func67 (by kernel_rfl) rfl #[.int .u32 (rd l0_0 (ji30))] rfl (by (try simp only [List.map_toArray, List.map_cons, List.map_nil]); first | done | (simp only [hji30]; rfl) | rfl | (simp only [List.length_drop, List.length_take]; rfl)) ?_; (with_reducible refine (pleatref02_Decode.calls k2 (rd l0_0 (ji30)) t210 t211 t212 t213 t214 _ A33.out).mono ?_); rintro e w39 ⟨rfl, hb⟩; refine ⟨_, rfl, ?_⟩; refine zs (blk_below (g := gb205) zBK hb) (zs (below_step (zHB) hb) ?_); clear BK205 HB; intro HB BK205; clear hb))
                        go_ret2
                        exact ⟨by first | rfl | (simp [errW_none, errW_some] <;> rfl) | (simp only [← hji30]; first | rfl | (simp [errW_none, errW_some] <;> rfl)) | (simp [*, errW_none, errW_some] <;> rfl), zHB⟩
                      · rw [if_neg c37] at H
                        have c37b0 := beq_eq_false_iff_ne.mpr c37
                        have c37b1 := bne_iff_ne.mpr c37
                        by_cases c40 : t210 = 19
                        · rw [if_pos c40] at H
                          have c40b0 := beq_iff_eq.mpr c40
                          have c40b1 := bne_eq_false_iff_eq.mpr c40
                          clear c40
                          simp only [Option.some.injEq, Prod.mk.injEq] at H
                          obtain ⟨rfl, rfl⟩ := H
                          have hcz41 := blk_cell BK205.out
                          have hfz41 := blk_frozen BK205.out
                          have p209 : 0 ≤ ((ji30) : Int) := zOD
                          have q209 : (ji30) < (l0_0.length : Int) := zOD
                          obtain ⟨ad209, e209, hx209_0⟩ := Kd.at_int HR0_0.out (ji30) p209 q209
                          cases e209
                          replace hx209_0 := (HB.out.cell (World.block_lt_of_cell? w _ hx209_0)).trans hx209_0
                          replace p209 := eq_true p209
                          replace q209 := eq_true q209
                          go_wp2_with (first | ((with_reducible refine gate_callee (f := 67) rfl ?_); refine goesL_ (some 55) rfl rfl Tryd.func67 (by kernel_rfl) rfl #[.int .u32 (rd l0_0 (ji30))] rfl (by (try simp only [List.map_toArray, List.map_cons, List.map_nil]); first | done | (simp only [hji30]; rfl) | rfl | (simp only [List.length_drop, List.length_take]; rfl)) ?_; (with_reducible refine (pleatref02_Decode.calls k2 (rd l0_0 (ji30)) t210 t211 t212 t213 t214 _ A33.out).mono ?_); rintro e w42 ⟨rfl, hb⟩; refine ⟨_, rfl, ?_⟩; refine zs (blk_below (g := gb205) zBK hb) (zs (below_step (zHB) hb) ?_); clear BK205 HB; intro HB BK205; clear hb))
                          go_ret2
                          exact ⟨by first | rfl | (simp [errW_none, errW_some] <;> rfl) | (simp only [← hji30]; first | rfl | (simp [errW_none, errW_some] <;> rfl)) | (simp [*, errW_none, errW_some] <;> rfl), zHB⟩
                        · rw [if_neg c40] at H
                          have c40b0 := beq_eq_false_iff_ne.mpr c40
                          have c40b1 := bne_iff_ne.mpr c40
                          by_cases c43 : t210 = 21
                          · rw [if_pos c43] at H
                            have c43b0 := beq_iff_eq.mpr c43
                            have c43b1 := bne_eq_false_iff_eq.mpr c43
                            clear c43
                            simp only [Option.some.injEq, Prod.mk.injEq] at H
                            obtain ⟨rfl, rfl⟩ := H
                            have hcz44 := blk_cell BK205.out
                            have hfz44 := blk_frozen BK205.out
                            have p209 : 0 ≤ ((ji30) : Int) := zOD
                            have q209 : (ji30) < (l0_0.length : Int) := zOD
                            obtain ⟨ad209, e209, hx209_0⟩ := Kd.at_int HR0_0.out (ji30) p209 q209
                            cases e209
                            replace hx209_0 := (HB.out.cell (World.block_lt_of_cell? w _ hx209_0)).trans hx209_0
                            replace p209 := eq_true p209
                            replace q209 := eq_true q209
                            go_wp2_with (first | ((with_reducible refine gate_callee (f := 67) rfl ?_); refine goesL_ (some 55) rfl rfl Tryd.func67 (by kernel_rfl) rfl #[.int .u32 (rd l0_0 (ji30))] rfl (by (try simp only [List.map_toArray, List.map_cons, List.map_nil]); first | done | (simp only [hji30]; rfl) | rfl | (simp only [List.length_drop, List.length_take]; rfl)) ?_; (with_reducible refine (pleatref02_Decode.calls k2 (rd l0_0 (ji30)) t210 t211 t212 t213 t214 _ A33.out).mono ?_); rintro e w45 ⟨rfl, hb⟩; refine ⟨_, rfl, ?_⟩; refine zs (blk_below (g := gb205) zBK hb) (zs (below_step (zHB) hb) ?_); clear BK205 HB; intro HB BK205; clear hb))
                            go_ret2
                            exact ⟨by first | rfl | (simp [errW_none, errW_some] <;> rfl) | (simp only [← hji30]; first | rfl | (simp [errW_none, errW_some] <;> rfl)) | (simp [*, errW_none, errW_some] <;> rfl), zHB⟩
                          · rw [if_neg c43] at H
                            have c43b0 := beq_eq_false_iff_ne.mpr c43
                            have c43b1 := bne_iff_ne.mpr c43
                            simp only [Option.some.injEq, Prod.mk.injEq] at H
                            obtain ⟨rfl, rfl⟩ := H
                            have hcz46 := blk_cell BK205.out
                            have hfz46 := blk_frozen BK205.out
                            have p209 : 0 ≤ ((ji30) : Int) := zOD
                            have q209 : (ji30) < (l0_0.length : Int) := zOD
                            obtain ⟨ad209, e209, hx209_0⟩ := Kd.at_int HR0_0.out (ji30) p209 q209
                            cases e209
                            replace hx209_0 := (HB.out.cell (World.block_lt_of_cell? w _ hx209_0)).trans hx209_0
                            replace p209 := eq_true p209
                            replace q209 := eq_true q209
                            go_wp2_with (first | ((with_reducible refine gate_callee (f := 67) rfl ?_); refine goesL_ (some 55) rfl rfl Tryd.func67 (by kernel_rfl) rfl #[.int .u32 (rd l0_0 (ji30))] rfl (by (try simp only [List.map_toArray, List.map_cons, List.map_nil]); first | done | (simp only [hji30]; rfl) | rfl | (simp only [List.length_drop, List.length_take]; rfl)) ?_; (with_reducible refine (pleatref02_Decode.calls k2 (rd l0_0 (ji30)) t210 t211 t212 t213 t214 _ A33.out).mono ?_); rintro e w47 ⟨rfl, hb⟩; refine ⟨_, rfl, ?_⟩; refine zs (blk_below (g := gb205) zBK hb) (zs (below_step (zHB) hb) ?_); clear BK205 HB; intro HB BK205; clear hb))
                            go_ret2
                            exact ⟨by first | rfl | (simp [errW_none, errW_some] <;> rfl) | (simp only [← hji30]; first | rfl | (simp [errW_none, errW_some] <;> rfl)) | (simp [*, errW_none, errW_some] <;> rfl), zHB⟩

/-! ### pleatref13_bit: function 102 -/
def pleatref13_bit.f (a0 : Bool) (a1 : Int) : Option (Int) := if a0 = true then (if 0 ≤ a1 then (some (shl .u16 1 a1)) else (none)) else (some 0)
set_option maxHeartbeats 8000000 in
set_option maxRecDepth 100000 in
theorem pleatref13_bit.calls (a0 : Bool) (a1 : Int) (r : Int) (w : World) (h : pleatref13_bit.f a0 a1 = some r) :
    Calls Tryd.prog 102 #[.bool a0, .int .i8 a1] w fun e w' => e = .returned (.int .u16 r) ∧ Drawn0 w w' := by
  have H := h
  clear h
  unfold pleatref13_bit.f at H
  by_cases c3 : a0 = true
  · subst c3
    rw [if_pos rfl] at H
    obtain ⟨c4, H⟩ := zG H
    have c4b0 := eq_true c4
    have c4b1 : decide (0 ≤ a1) = true := decide_eq_true c4
    clear c4
    obtain ⟨ji5, hji5⟩ : ∃ j_ : Int, (shl .u16 1 a1) = j_ := ⟨_, rfl⟩
    (first | rw [hji5] at H | simp only [hji5] at H)
    have hji5_ : (IntKind.u16.wrap (1 * 2 ^ min a1.toNat 16)) = ji5 := hji5
    have hji5z : a1 ≤ 16 → (IntKind.u16.wrap (1 * 2 ^ a1.toNat)) = ji5 := shl_small hji5
    have hji5u : (IntKind.u16.wrap (2 ^ min a1.toNat 16)) = ji5 := by have h_ := hji5_; rw [Int.one_mul] at h_; exact h_
    have hji5v : a1 ≤ 16 → (IntKind.u16.wrap (2 ^ a1.toNat)) = ji5 := fun hle_ => by have h_ := hji5z hle_; rw [Int.one_mul] at h_; exact h_
    obtain rfl := Option.some.inj H
    go_enter Tryd.func102, Tryd.ntmps102
    go_wp2
    go_ret
    exact ⟨by first | rfl | (simp; done) | (simp only [← hji5] <;> (first | rfl | simp)) | (simp [*]; done), zDr⟩
  · replace c3 := Bool.eq_false_iff.mpr c3
    subst c3
    rw [if_neg (show ¬ (false = true) by decide)] at H
    obtain rfl := Option.some.inj H
    go_enter Tryd.func102, Tryd.ntmps102
    go_wp2
    go_ret
    exact ⟨zF', zDr⟩

end Go.Proofs.YtfgdjpgdabjpmaaDoor.PNumberOf
