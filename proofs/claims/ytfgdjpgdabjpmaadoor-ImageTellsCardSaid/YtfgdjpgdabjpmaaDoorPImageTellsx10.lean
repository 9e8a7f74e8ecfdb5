-- Written for this claim by a program of this session (wip/tools/pp.py, over the kit's print).
import Derived.Test.YtfgdjpgdabjpmaaDoorPImageTellsx0
import Derived.Test.YtfgdjpgdabjpmaaDoorPImageTellsx9
namespace Go.Proofs.YtfgdjpgdabjpmaaDoor.PImageTells
open Go.RowKit Go.Proofs.YtfgdjpgdabjpmaaDoorW.PrintWords Go.Proofs.YtfgdjpgdabjpmaaDoorW.PrintLast Go.Proofs.YtfgdjpgdabjpmaaDoorW.PrintMore
attribute [local go_sem] max2_int min2_int max_two min_two max_three min_three max_four min_four   -- for this text's walks alone
set_option linter.unusedVariables false
set_option linter.unusedSimpArgs false

/-! ### pleatref07_Check: function 24 -/
mutual
def pleatref07_Check.j0 : Nat → Int → Bool → List Int → Int → List Int → Option (Int × Int)
  | 0, _, _, _, _, _ => none
  | k + 1, x4, x27, x225000, x225001, x225002 => if x27 = true then (some (41, 0)) else (pleatref07_Check.l0 k x4 0 x225000 x225001 x225002)
def pleatref07_Check.l0 : Nat → Int → Int → List Int → Int → List Int → Option (Int × Int)
  | 0, _, _, _, _, _ => none
  | k + 1, x4, x5, x225000, x225001, x225002 => if x5 < x4 then (if 0 ≤ x5 then (if x5 < (x225000.length : Int) then ((pleatref02_Target.f k (rd x225000 x5)).bind fun bt226 => (if bt226.2 = true then (if bt226.1 ≥ x4 then (some (22, x5)) else (pleatref07_Check.l0 k x4 (wrap64 (x5 + 1)) x225000 x225001 x225002)) else (pleatref07_Check.l0 k x4 (wrap64 (x5 + 1)) x225000 x225001 x225002))) else (none)) else (none)) else (if 0 ≤ (wrap64 (x4 - 1)) then (if (wrap64 (x4 - 1)) < (x225000.length : Int) then ((pleatref02_Decode.f k (rd x225000 (wrap64 (x4 - 1)))).bind fun bt229 => (if bt229.1 = 0 then (some (0, 0)) else (if bt229.1 = 15 then (some (0, 0)) else (if bt229.1 = 19 then (some (0, 0)) else (if bt229.1 = 21 then (some (0, 0)) else (some (50, wrap64 (x4 - 1)))))))) else (none)) else (none))
end
def pleatref07_Check.f (k : Nat) (l0_0 : List Int) (a0_1 : Int) (l0_2 : List Int) : Option (Int × Int) := if (l0_0.length : Int) = 0 then (some (50, 0)) else (if (l0_0.length : Int) > 16384 then (some (42, 16384)) else (if (l0_2.length : Int) > 4096 then (some (25, 4096)) else (if a0_1 < 0 then (pleatref07_Check.j0 k (l0_0.length : Int) true l0_0 a0_1 l0_2) else (pleatref07_Check.j0 k (l0_0.length : Int) (decide (a0_1 ≥ (l0_0.length : Int))) l0_0 a0_1 l0_2))))
theorem pleatref07_Check.mono_l : ∀ k, (∀ y0 y1 y2 y3 y4, LeO (pleatref07_Check.j0 k y0 y1 y2 y3 y4) (pleatref07_Check.j0 (k + 1) y0 y1 y2 y3 y4)) ∧ (∀ y0 y1 y2 y3 y4, LeO (pleatref07_Check.l0 k y0 y1 y2 y3 y4) (pleatref07_Check.l0 (k + 1) y0 y1 y2 y3 y4))
  | 0 => ⟨fun _ _ _ _ _ r h => by simp [pleatref07_Check.j0] at h, fun _ _ _ _ _ r h => by simp [pleatref07_Check.l0] at h⟩
  | k + 1 => by
    obtain ⟨ih0, ih1⟩ := pleatref07_Check.mono_l k
    refine ⟨?_, ?_⟩
    · intro y0 y1 y2 y3 y4
      unfold pleatref07_Check.j0
      have m0 := @pleatref02_Decode.mono
      have m1 := @pleatref02_Target.mono
      exact zMo
    · intro y0 y1 y2 y3 y4
      unfold pleatref07_Check.l0
      have m0 := @pleatref02_Decode.mono
      have m1 := @pleatref02_Target.mono
      exact zMo
theorem pleatref07_Check.mono : ∀ a0 a1 a2 k, LeO (pleatref07_Check.f k a0 a1 a2) (pleatref07_Check.f (k + 1) a0 a1 a2) := by
  intro a0 a1 a2 k
  obtain ⟨ih0, ih1⟩ := pleatref07_Check.mono_l k
  unfold pleatref07_Check.f
  have m0 := @pleatref02_Decode.mono
  have m1 := @pleatref02_Target.mono
  exact zMo
set_option maxHeartbeats 8000000 in
set_option maxRecDepth 100000 in
theorem pleatref07_Check.calls (k : Nat) (A0_0 : Option Addr) (c0_0 : Nat) (l0_0 : List Int) (a0_1 : Int) (A0_2 : Option Addr) (c0_2 : Nat) (l0_2 : List Int) (r1 : Int) (r2 : Int) (w : World) (hr0_0 : Kd.C (Kd.int .u32) w A0_0 l0_0.length l0_0) (hc0_0 : l0_0.length ≤ c0_0) (hr0_2 : Kd.C (Kd.int .i64) w A0_2 l0_2.length l0_2) (hc0_2 : l0_2.length ≤ c0_2) (h : pleatref07_Check.f k l0_0 a0_1 l0_2 = some (r1, r2)) :
    Calls Tryd.prog 24 #[.agg #[.slice A0_0 l0_0.length c0_0, .int .i64 a0_1, .slice A0_2 l0_2.length c0_2]] w fun e w' => e = .returned (.tuple #[.int .i64 r1, .int .i64 r2]) ∧ Below w.heap.size w w' := by
  have hu25 := Tryd.underlying25
  have hfd94_0 : ∀ (x0_ x1_ x2_ x3_ x4_ : Value) (W : World), (Instr.field 94 (.agg #[x0_, x1_, x2_, x3_, x4_]) 0).run Tryd.prog W = .ok (x0_) W := fun _ _ _ _ _ _ => by kernel_rfl
  have HR0_0 := Aside0.mk hr0_0
  have HC0_0 := Aside0.mk hc0_0
  clear hr0_0 hc0_0
  have HR0_2 := Aside0.mk hr0_2
  have HC0_2 := Aside0.mk hc0_2
  clear hr0_2 hc0_2
  have HB := Aside0.mk (Below.refl w.heap.size w)
  have H := h
  clear h
  unfold pleatref07_Check.f at H
  by_cases c2 : (l0_0.length : Int) = 0
  · rw [if_pos c2] at H
    have c2b0 := beq_iff_eq.mpr c2
    have c2b1 := bne_eq_false_iff_eq.mpr c2
    clear c2
    simp only [Option.some.injEq, Prod.mk.injEq] at H
    obtain ⟨rfl, rfl⟩ := H
    go_enter Tryd.func24, Tryd.ntmps24
    go_wp2_with (first | ((with_reducible refine gate_dst (N := 1) rfl ?_); refine zBox (N := 1) (cs := #[.slice A0_0 l0_0.length c0_0, .int .i64 a0_1, .slice A0_2 l0_2.length c0_2]) (t := 25) ?_; intro gb224 hg w3 hbox hb; refine zs (below_step (zHB) hb) (zs hbox (zs (zGe hg zHB) (zs (zGe hg zHB) ?_))); clear HB; intro GE224 GW224 BK224 HB; clear hb hbox hg; have hcz4 := blk_cell BK224.out; have hfz4 := blk_frozen BK224.out))
    go_ret2
    exact ⟨zE, zHB⟩
  · rw [if_neg c2] at H
    have c2b0 := beq_eq_false_iff_ne.mpr c2
    have c2b1 := bne_iff_ne.mpr c2
    have c2b2 : ¬ (l0_0 = []) := fun h_ => c2 (by rw [h_]; rfl)
    by_cases c5 : (l0_0.length : Int) > 16384
    · rw [if_pos c5] at H
      have c5b0 : decide (16384 < (l0_0.length : Int)) = true := decide_eq_true c5
      have c5b1 : decide (16384 < l0_0.length) = true := decide_eq_true (by omega)
      clear c5
      simp only [Option.some.injEq, Prod.mk.injEq] at H
      obtain ⟨rfl, rfl⟩ := H
      go_enter Tryd.func24, Tryd.ntmps24
      go_wp2_with (first | ((with_reducible refine gate_dst (N := 1) rfl ?_); refine zBox (N := 1) (cs := #[.slice A0_0 l0_0.length c0_0, .int .i64 a0_1, .slice A0_2 l0_2.length c0_2]) (t := 25) ?_; intro gb224 hg w6 hbox hb; refine zs (below_step (zHB) hb) (zs hbox (zs (zGe hg zHB) (zs (zGe hg zHB) ?_))); clear HB; intro GE224 GW224 BK224 HB; clear hb hbox hg; have hcz7 := blk_cell BK224.out; have hfz7 := blk_frozen BK224.out))
      go_ret2
      exact ⟨zE, zHB⟩
    · rw [if_neg c5] at H
      have c5b0 : decide (16384 < (l0_0.length : Int)) = false := decide_eq_false c5
      have c5b1 : decide (16384 < l0_0.length) = false := decide_eq_false (by omega)
      clear c5
      by_cases c8 : (l0_2.length : Int) > 4096
      · rw [if_pos c8] at H
        have c8b0 : decide (4096 < (l0_2.length : Int)) = true := decide_eq_true c8
        have c8b1 : decide (4096 < l0_2.length) = true := decide_eq_true (by omega)
        clear c8
        simp only [Option.some.injEq, Prod.mk.injEq] at H
        obtain ⟨rfl, rfl⟩ := H
        go_enter Tryd.func24, Tryd.ntmps24
        go_wp2_with (first | ((with_reducible refine gate_dst (N := 1) rfl ?_); refine zBox (N := 1) (cs := #[.slice A0_0 l0_0.length c0_0, .int .i64 a0_1, .slice A0_2 l0_2.length c0_2]) (t := 25) ?_; intro gb224 hg w9 hbox hb; refine zs (below_step (zHB) hb) (zs hbox (zs (zGe hg zHB) (zs (zGe hg zHB) ?_))); clear HB; intro GE224 GW224 BK224 HB; clear hb hbox hg; have hcz10 := blk_cell BK224.out; have hfz10 := blk_frozen BK224.out))
        go_ret2
        exact ⟨zE, zHB⟩
      · rw [if_neg c8] at H
        have c8b0 : decide (4096 < (l0_2.length : Int)) = false := decide_eq_false c8
        have c8b1 : decide (4096 < l0_2.length) = false := decide_eq_false (by omega)
        clear c8
        have HC11 := Aside0.mk H
        clear H
        go_enter Tryd.func24, Tryd.ntmps24
        go_upto_region 8 with (first | ((with_reducible refine gate_dst (N := 1) rfl ?_); refine zBox (N := 1) (cs := #[.slice A0_0 l0_0.length c0_0, .int .i64 a0_1, .slice A0_2 l0_2.length c0_2]) (t := 25) ?_; intro gb224 hg w12 hbox hb; refine zs (below_step (zHB) hb) (zs hbox (zs (zGe hg zHB) (zs (zGe hg zHB) ?_))); clear HB; intro GE224 GW224 BK224 HB; clear hb hbox hg; have hcz13 := blk_cell BK224.out; have hfz13 := blk_frozen BK224.out))
        (try simp only [Act.put, List.setIfInBounds_toArray, List.set_cons_zero, List.set_cons_succ])
        go_cut [27] (fun v27 wc => ∃ (kq : Nat) (x27_10 : Bool), v27 = .bool x27_10 ∧ Aside0 (pleatref07_Check.j0 kq (l0_0.length : Int) x27_10 l0_0 a0_1 l0_2 = some (r1, r2)) ∧ Aside0 (kq ≤ k) ∧ Aside0 (wc.heap[gb224]? = some (.cells #[(.slice A0_0 l0_0.length c0_0), .int .i64 a0_1, (.slice A0_2 l0_2.length c0_2)] 25 (0, 0))) ∧ Aside0 (Below w.heap.size w wc))
        case first =>
          have H := HC11.out
          clear HC11
          by_cases c14 : a0_1 < 0
          · rw [if_pos c14] at H
            have c14b0 := decide_eq_true c14
            clear c14
            (first | rw [c14b0] | (simp only [i64_w, i32_w]; rw [c14b0]) | skip)
            have H' := Aside0.mk H
            clear H
            have hcz15 := blk_cell BK224.out
            have hfz15 := blk_frozen BK224.out
            go_wp2
            go_meet
            case rel => exact ⟨_, (true), zF', H', ⟨zL⟩, ⟨zBK⟩, ⟨zHB⟩⟩
          · rw [if_neg c14] at H
            have c14b0 := decide_eq_false c14
            clear c14
            (first | rw [c14b0] | (simp only [i64_w, i32_w]; rw [c14b0]) | skip)
            have H' := Aside0.mk H
            clear H
            have hcz16 := blk_cell BK224.out
            have hfz16 := blk_frozen BK224.out
            go_wp2
            go_meet
            case rel => exact ⟨_, (decide (a0_1 ≥ (l0_0.length : Int))), zF', H', ⟨zL⟩, ⟨zBK⟩, ⟨zHB⟩⟩
        case rest =>
          clear HC11
          try clear c2b0
          try clear c2b1
          try clear c2b2
          try clear c5b0
          try clear c5b1
          try clear c8b0
          try clear c8b1
          try clear hcz13
          try clear hfz13
          obtain ⟨kq, x27_10, rfl, HA, HJ10, BK224, HB⟩ := hcut
          cases kq with
          | zero => exact absurd HA.out (by simp [pleatref07_Check.j0])
          | succ kj10 =>
            have H := HA.out
            clear HA
            simp only [pleatref07_Check.j0] at H
            by_cases c17 : x27_10 = true
            · subst c17
              rw [if_pos rfl] at H
              simp only [Option.some.injEq, Prod.mk.injEq] at H
              obtain ⟨rfl, rfl⟩ := H
              go_wp2
              go_ret2
              exact ⟨zE, zHB⟩
            · replace c17 := Bool.eq_false_iff.mpr c17
              subst c17
              rw [if_neg (show ¬ (false = true) by decide)] at H
              have H' := Aside0.mk H
              clear H
              go_wp2
              go_loopg [5] kj10 (fun kq v5 w' => ∃ (x5_2 : Int), v5 = .int .i64 x5_2 ∧ Aside0 (pleatref07_Check.l0 kq (l0_0.length : Int) x5_2 l0_0 a0_1 l0_2 = some (r1, r2)) ∧ Aside0 (kq ≤ kj10) ∧ Aside0 (w'.heap[gb224]? = some (.cells #[(.slice A0_0 l0_0.length c0_0), .int .i64 a0_1, (.slice A0_2 l0_2.length c0_2)] 25 (0, 0))) ∧ Aside0 (Below w.heap.size w w'))
              case atStart => exact ⟨(0), zF', H', ⟨Nat.le_refl _⟩, ⟨zBK⟩, ⟨zHB⟩⟩
              case round =>
                clear H'
                try clear c2b0
                try clear c2b1
                try clear c2b2
                try clear c5b0
                try clear c5b1
                try clear c8b0
                try clear c8b1
                try clear hcz13
                try clear hfz13
                obtain ⟨x5_2, rfl, HA, HK2, BK224, HB⟩ := hrel
                cases gk with
                | zero => exact absurd HA.out (by simp [pleatref07_Check.l0])
                | succ k2 =>
                  have H := HA.out
                  clear HA
                  simp only [pleatref07_Check.l0] at H
                  by_cases c18 : x5_2 < (l0_0.length : Int)
                  · rw [if_pos c18] at H
                    have c18b0 := decide_eq_true c18
                    clear c18
                    obtain ⟨c19, H⟩ := zG H
                    have c19b0 := decide_eq_true c19
                    clear c19
                    obtain ⟨c20, H⟩ := zG H
                    have c20b0 := decide_eq_true c20
                    clear c20
                    replace H := Option.bind_eq_some_iff.mp H
                    obtain ⟨⟨t226, t227⟩, A210, H⟩ := H
                    (try dsimp only at H)
                    have A21 := Aside0.mk A210
                    clear A210
                    by_cases c22 : t227 = true
                    · subst c22
                      rw [if_pos rfl] at H
                      by_cases c23 : t226 ≥ (l0_0.length : Int)
                      · rw [if_pos c23] at H
                        have c23b0 : decide ((l0_0.length : Int) ≤ t226) = true := decide_eq_true c23
                        clear c23
                        simp only [Option.some.injEq, Prod.mk.injEq] at H
                        obtain ⟨rfl, rfl⟩ := H
                        have hcz24 := blk_cell BK224.out
                        have hfz24 := blk_frozen BK224.out
                        have p225 : 0 ≤ (x5_2 : Int) := zOD
                        have q225 : x5_2 < (l0_0.length : Int) := zOD
                        obtain ⟨ad225, e225, hx225_0⟩ := Kd.at_int HR0_0.out x5_2 p225 q225
                        cases e225
                        replace hx225_0 := (HB.out.cell (World.block_lt_of_cell? w _ hx225_0)).trans hx225_0
                        replace p225 := eq_true p225
                        replace q225 := eq_true q225
                        go_wp2_with (first | ((with_reducible refine gate_callee (f := 66) rfl ?_); refine zGo (N := (some 39)) Tryd.func66 #[.int .u32 (rd l0_0 x5_2)] ?_; (with_reducible refine (pleatref02_Target.calls k2 (rd l0_0 x5_2) t226 true _ A21.out).mono ?_); rintro e w25 ⟨rfl, hb⟩; refine ⟨_, rfl, ?_⟩; refine zs (blk_below (g := gb224) zBK hb) (zs (below_step (zHB) hb) ?_); clear BK224 HB; intro HB BK224; clear hb))
                        go_ret2
                        exact ⟨zE, zHB⟩
                      · rw [if_neg c23] at H
                        have c23b0 : decide ((l0_0.length : Int) ≤ t226) = false := decide_eq_false c23
                        clear c23
                        have H' := Aside0.mk H
                        clear H
                        have hcz26 := blk_cell BK224.out
                        have hfz26 := blk_frozen BK224.out
                        have p225 : 0 ≤ (x5_2 : Int) := zOD
                        have q225 : x5_2 < (l0_0.length : Int) := zOD
                        obtain ⟨ad225, e225, hx225_0⟩ := Kd.at_int HR0_0.out x5_2 p225 q225
                        cases e225
                        replace hx225_0 := (HB.out.cell (World.block_lt_of_cell? w _ hx225_0)).trans hx225_0
                        replace p225 := eq_true p225
                        replace q225 := eq_true q225
                        go_wp2_with (first | ((with_reducible refine gate_callee (f := 66) rfl ?_); refine zGo (N := (some 39)) Tryd.func66 #[.int .u32 (rd l0_0 x5_2)] ?_; (with_reducible refine (pleatref02_Target.calls k2 (rd l0_0 x5_2) t226 true _ A21.out).mono ?_); rintro e w27 ⟨rfl, hb⟩; refine ⟨_, rfl, ?_⟩; refine zs (blk_below (g := gb224) zBK hb) (zs (below_step (zHB) hb) ?_); clear BK224 HB; intro HB BK224; clear hb))
                        go_roundg k2
                        case measure => have := HJ10.out; have := HK2.out; omega
                        case rel => exact ⟨(wrap64 (x5_2 + 1)), zF', H', ⟨by have := HJ10.out; have := HK2.out; omega⟩, ⟨zBK⟩, ⟨zHB⟩⟩
                    · replace c22 := Bool.eq_false_iff.mpr c22
                      subst c22
                      rw [if_neg (show ¬ (false = true) by decide)] at H
                      have H' := Aside0.mk H
                      clear H
                      have hcz28 := blk_cell BK224.out
                      have hfz28 := blk_frozen BK224.out
                      have p225 : 0 ≤ (x5_2 : Int) := zOD
                      have q225 : x5_2 < (l0_0.length : Int) := zOD
                      obtain ⟨ad225, e225, hx225_0⟩ := Kd.at_int HR0_0.out x5_2 p225 q225
                      cases e225
                      replace hx225_0 := (HB.out.cell (World.block_lt_of_cell? w _ hx225_0)).trans hx225_0
                      replace p225 := eq_true p225
                      replace q225 := eq_true q225
                      go_wp2_with (first | ((with_reducible refine gate_callee (f := 66) rfl ?_); refine zGo (N := (some 39)) Tryd.func66 #[.int .u32 (rd l0_0 x5_2)] ?_; (with_reducible refine (pleatref02_Target.calls k2 (rd l0_0 x5_2) t226 false _ A21.out).mono ?_); rintro e w29 ⟨rfl, hb⟩; refine ⟨_, rfl, ?_⟩; refine zs (blk_below (g := gb224) zBK hb) (zs (below_step (zHB) hb) ?_); clear BK224 HB; intro HB BK224; clear hb))
                      go_roundg k2
                      case measure => have := HJ10.out; have := HK2.out; omega
                      case rel => exact ⟨(wrap64 (x5_2 + 1)), zF', H', ⟨by have := HJ10.out; have := HK2.out; omega⟩, ⟨zBK⟩, ⟨zHB⟩⟩
                  · rw [if_neg c18] at H
                    have c18b0 := decide_eq_false c18
                    clear c18
                    obtain ⟨ji30, hji30⟩ : ∃ j_ : Int, (wrap64 ((l0_0.length : Int) - 1)) = j_ := ⟨_, rfl⟩
                    (first | rw [hji30] at H | simp only [hji30] at H)
                    have hji30w : (IntKind.i64.wrap ((l0_0.length : Int) - 1)) = ji30 := (i64_w _).trans hji30
                    obtain ⟨c31, H⟩ := zG H
                    have c31b0 := decide_eq_true c31
                    clear c31
                    obtain ⟨c32, H⟩ := zG H
                    have c32b0 := decide_eq_true c32
                    clear c32
                    replace H := Option.bind_eq_some_iff.mp H
                    obtain ⟨⟨t229, t230, t231, t232, t233⟩, A330, H⟩ := H
                    (try dsimp only at H)
                    have A33 := Aside0.mk A330
                    clear A330
                    by_cases c34 : t229 = 0
                    · rw [if_pos c34] at H
                      have c34b0 := beq_iff_eq.mpr c34
                      have c34b1 := bne_eq_false_iff_eq.mpr c34
                      clear c34
                      simp only [Option.some.injEq, Prod.mk.injEq] at H
                      obtain ⟨rfl, rfl⟩ := H
                      have hcz35 := blk_cell BK224.out
                      have hfz35 := blk_frozen BK224.out
                      have p228 : 0 ≤ ((ji30) : Int) := zOD
                      have q228 : (ji30) < (l0_0.length : Int) := zOD
                      obtain ⟨ad228, e228, hx228_0⟩ := Kd.at_int HR0_0.out (ji30) p228 q228
                      cases e228
                      replace hx228_0 := (HB.out.cell (World.block_lt_of_cell? w _ hx228_0)).trans hx228_0
                      replace p228 := eq_true p228
                      replace q228 := eq_true q228
                      go_wp2_with (first | ((with_reducible refine gate_callee (f := 67) rfl ?_); refine goesL_ (some 55) rfl rfl Tryd.func67 (by kernel_rfl) rfl #[.int .u32 (rd l0_0 (ji30))] rfl (by (try simp only [List.map_toArray, List.map_cons, List.map_nil]); first | done | (simp only [hji30]; rfl) | rfl | (simp only [List.length_drop, List.length_take]; rfl)) ?_; (with_reducible refine (pleatref02_Decode.calls k2 (rd l0_0 (ji30)) t229 t230 t231 t232 t233 _ A33.out).mono ?_); rintro e w36 ⟨rfl, hb⟩; refine ⟨_, rfl, ?_⟩; refine zs (blk_below (g := gb224) zBK hb) (zs (below_step (zHB) hb) ?_); clear BK224 HB; intro HB BK224; clear hb))
                      go_ret2
                      exact ⟨by first | rfl | (simp [errW_none, errW_some] <;> rfl) | (simp only [← hji30]; first | rfl | (simp [errW_none, errW_some] <;> rfl)) | (simp [*, errW_none, errW_some] <;> rfl), zHB⟩
                    · rw [if_neg c34] at H
                      have c34b0 := beq_eq_false_iff_ne.mpr c34
                      have c34b1 := bne_iff_ne.mpr c34
                      by_cases c37 : t229 = 15
                      · rw [if_pos c37] at H
                        have c37b0 := beq_iff_eq.mpr c37
                        have c37b1 := bne_eq_false_iff_eq.mpr c37
                        clear c37
                        simp only [Option.some.injEq, Prod.mk.injEq] at H
                        obtain ⟨rfl, rfl⟩ := H
                        have hcz38 := blk_cell BK224.out
                        have hfz38 := blk_frozen BK224.out
                        have p228 : 0 ≤ ((ji30) : Int) := zOD
                        have q228 : (ji30) < (l0_0.length : Int) := zOD
                        obtain ⟨ad228, e228, hx228_0⟩ := Kd.at_int HR0_0.out (ji30) p228 q228
                        cases e228
                        replace hx228_0 := (HB.out.cell (World.block_lt_of_cell? w _ hx228_0)).trans hx228_0
                        replace p228 := eq_true p228
                        replace q228 := eq_true q228
                        go_wp2_with (first | ((with_reducible refine gate_callee (f := 67) rfl ?_); refine goesL_ (some 55) rfl rfl Tryd.func67 (by kernel_rfl) rfl #[.int .u32 (rd l0_0 (ji30))] rfl (by (try simp only [List.map_toArray, List.map_cons, List.map_nil]); first | done | (simp only [hji30]; rfl) | rfl | (simp only [List.length_drop, List.length_take]; rfl)) ?_; (with_reducible refine (pleatref02_Decode.calls k2 (rd l0_0 (ji30)) t229 t230 t231 t232 t233 _ A33.out).mono ?_); rintro e w39 ⟨rfl, hb⟩; refine ⟨_, rfl, ?_⟩; refine zs (blk_below (g := gb224) zBK hb) (zs (below_step (zHB) hb) ?_); clear BK224 HB; intro HB BK224; clear hb))
                        go_ret2
                        exact ⟨by first | rfl | (simp [errW_none, errW_some] <;> rfl) | (simp only [← hji30]; first | rfl | (simp [errW_none, errW_some] <;> rfl)) | (simp [*, errW_none, errW_some] <;> rfl), zHB⟩
                      · rw [if_neg c37] at H
                        have c37b0 := beq_eq_false_iff_ne.mpr c37
                        have c37b1 := bne_iff_ne.mpr c37
                        by_cases c40 : t229 = 19
                        · rw [if_pos c40] at H
                          have c40b0 := beq_iff_eq.mpr c40
                          have c40b1 := bne_eq_false_iff_eq.mpr c40
                          clear c40
                          simp only [Option.some.injEq, Prod.mk.injEq] at H
                          obtain ⟨rfl, rfl⟩ := H
                          have hcz41 := blk_cell BK224.out
                          have hfz41 := blk_frozen BK224.out
                          have p228 : 0 ≤ ((ji30) : Int) := zOD
                          have q228 : (ji30) < (l0_0.length : Int) := zOD
                          obtain ⟨ad228, e228, hx228_0⟩ := Kd.at_int HR0_0.out (ji30) p228 q228
                          cases e228
                          replace hx228_0 := (HB.out.cell (World.block_lt_of_cell? w _ hx228_0)).trans hx228_0
                          replace p228 := eq_true p228
                          replace q228 := eq_true q228
                          go_wp2_with (first | ((with_reducible refine gate_callee (f := 67) rfl ?_); refine goesL_ (some 55) rfl rfl Tryd.func67 (by kernel_rfl) rfl #[.int .u32 (rd l0_0 (ji30))] rfl (by (try simp only [List.map_toArray, List.map_cons, List.map_nil]); first | done | (simp only [hji30]; rfl) | rfl | (simp only [List.length_drop, List.length_take]; rfl)) ?_; (with_reducible refine (pleatref02_Decode.calls k2 (rd l0_0 (ji30)) t229 t230 t231 t232 t233 _ A33.out).mono ?_); rintro e w42 ⟨rfl, hb⟩; refine ⟨_, rfl, ?_⟩; refine zs (blk_below (g := gb224) zBK hb) (zs (below_step (zHB) hb) ?_); clear BK224 HB; intro HB BK224; clear hb))
                          go_ret2
                          exact ⟨by first | rfl | (simp [errW_none, errW_some] <;> rfl) | (simp only [← hji30]; first | rfl | (simp [errW_none, errW_some] <;> rfl)) | (simp [*, errW_none, errW_some] <;> rfl), zHB⟩
                        · rw [if_neg c40] at H
                          have c40b0 := beq_eq_false_iff_ne.mpr c40
                          have c40b1 := bne_iff_ne.mpr c40
                          by_cases c43 : t229 = 21
                          · rw [if_pos c43] at H
                            have c43b0 := beq_iff_eq.mpr c43
                            have c43b1 := bne_eq_false_iff_eq.mpr c43
                            clear c43
                            simp only [Option.some.injEq, Prod.mk.injEq] at H
                            obtain ⟨rfl, rfl⟩ := H
                            have hcz44 := blk_cell BK224.out
                            have hfz44 := blk_frozen BK224.out
                            have p228 : 0 ≤ ((ji30) : Int) := zOD
                            have q228 : (ji30) < (l0_0.length : Int) := zOD
                            obtain ⟨ad228, e228, hx228_0⟩ := Kd.at_int HR0_0.out (ji30) p228 q228
                            cases e228
                            replace hx228_0 := (HB.out.cell (World.block_lt_of_cell? w _ hx228_0)).trans hx228_0
                            replace p228 := eq_true p228
                            replace q228 := eq_true q228
                            go_wp2_with (first | ((with_reducible refine gate_callee (f := 67) rfl ?_); refine goesL_ (some 55) rfl rfl Tryd.func67 (by kernel_rfl) rfl #[.int .u32 (rd l0_0 (ji30))] rfl (by (try simp only [List.map_toArray, List.map_cons, List.map_nil]); first | done | (simp only [hji30]; rfl) | rfl | (simp only [List.length_drop, List.length_take]; rfl)) ?_; (with_reducible refine (pleatref02_Decode.calls k2 (rd l0_0 (ji30)) t229 t230 t231 t232 t233 _ A33.out).mono ?_); rintro e w45 ⟨rfl, hb⟩; refine ⟨_, rfl, ?_⟩; refine zs (blk_below (g := gb224) zBK hb) (zs (below_step (zHB) hb) ?_); clear BK224 HB; intro HB BK224; clear hb))
                            go_ret2
                            exact ⟨by first | rfl | (simp [errW_none, errW_some] <;> rfl) | (simp only [← hji30]; first | rfl | (simp [errW_none, errW_some] <;> rfl)) | (simp [*, errW_none, errW_some] <;> rfl), zHB⟩
                          · rw [if_neg c43] at H
                            have c43b0 := beq_eq_false_iff_ne.mpr c43
                            have c43b1 := bne_iff_ne.mpr c43
                            simp only [Option.some.injEq, Prod.mk.injEq] at H
                            obtain ⟨rfl, rfl⟩ := H
                            have hcz46 := blk_cell BK224.out
                            have hfz46 := blk_frozen BK224.out
                            have p228 : 0 ≤ ((ji30) : Int) := zOD
                            have q228 : (ji30) < (l0_0.length : Int) := zOD
                            obtain ⟨ad228, e228, hx228_0⟩ := Kd.at_int HR0_0.out (ji30) p228 q228
                            cases e228
                            replace hx228_0 := (HB.out.cell (World.block_lt_of_cell? w _ hx228_0)).trans hx228_0
                            replace p228 := eq_true p228
                            replace q228 := eq_true q228
                            go_wp2_with (first | ((with_reducible refine gate_callee (f := 67) rfl ?_); refine goesL_ (some 55) rfl rfl Tryd.func67 (by kernel_rfl) rfl #[.int .u32 (rd l0_0 (ji30))] rfl (by (try simp only [List.map_toArray, List.map_cons, List.map_nil]); first | done | (simp only [hji30]; rfl) | rfl | (simp only [List.length_drop, List.length_take]; rfl)) ?_; (with_reducible refine (pleatref02_Decode.calls k2 (rd l0_0 (ji30)) t229 t230 t231 t232 t233 _ A33.out).mono ?_); rintro e w47 ⟨rfl, hb⟩; refine ⟨_, rfl, ?_⟩; refine zs (blk_below (g := gb224) zBK hb) (zs (below_step (zHB) hb) ?_); clear BK224 HB; intro HB BK224; clear hb))
                            go_ret2
                            exact ⟨by first | rfl | (simp [errW_none, errW_some] <;> rfl) | (simp only [← hji30]; first | rfl | (simp [errW_none, errW_some] <;> rfl)) | (simp [*, errW_none, errW_some] <;> rfl), zHB⟩

/-! ### pleatref07_Sum: function 33 -/
def pleatref07_Sum.l0 : Nat → List Int → Int → Int → Option (Int)
  | 0, _, _, _ => none
  | k + 1, x0, x3, x4 => if x4 < (x0.length : Int) then (if 0 ≤ x4 then (pleatref07_Sum.l0 k x0 ((((31 * x3) % 4294967296) + ((rd x0 x4) % 4294967296)) % 4294967296) (wrap64 (x4 + 1))) else (none)) else (some x3)
def pleatref07_Sum.f (k : Nat) (l0 : List Int) : Option (Int) := pleatref07_Sum.l0 k l0 0 0
theorem pleatref07_Sum.mono_l : ∀ k, (∀ y0 y1 y2, LeO (pleatref07_Sum.l0 k y0 y1 y2) (pleatref07_Sum.l0 (k + 1) y0 y1 y2))
  | 0 => fun _ _ _ r h => by simp [pleatref07_Sum.l0] at h
  | k + 1 => by
    have ih0 := pleatref07_Sum.mono_l k
    · intro y0 y1 y2
      unfold pleatref07_Sum.l0
      exact zMo
theorem pleatref07_Sum.mono : ∀ a0 k, LeO (pleatref07_Sum.f k a0) (pleatref07_Sum.f (k + 1) a0) := by
  intro a0 k
  have ih0 := pleatref07_Sum.mono_l k
  unfold pleatref07_Sum.f
  exact zMo
set_option maxHeartbeats 8000000 in
set_option maxRecDepth 100000 in
theorem pleatref07_Sum.calls (k : Nat) (A0 : Option Addr) (c0 : Nat) (l0 : List Int) (r : Int) (w : World) (hr0 : Kd.C (Kd.int .u8) w A0 l0.length l0) (hc0 : l0.length ≤ c0) (h : pleatref07_Sum.f k l0 = some r) :
    Calls Tryd.prog 33 #[.slice A0 l0.length c0] w fun e w' => e = .returned (.int .u32 r) ∧ Drawn0 w w' := by
  have HR0 := Aside0.mk hr0
  have HC0 := Aside0.mk hc0
  clear hr0 hc0
  have H := h
  clear h
  unfold pleatref07_Sum.f at H
  have H' := Aside0.mk H
  clear H
  go_enter Tryd.func33, Tryd.ntmps33
  go_wp2
  go_loopg [3, 4] k (fun kq v3 v4 w' => ∃ (x3_1 : Int) (x4_1 : Int), v3 = .int .u32 x3_1 ∧ v4 = .int .i64 x4_1 ∧ Aside0 (pleatref07_Sum.l0 kq l0 x3_1 x4_1 = some r) ∧ Aside0 (kq ≤ k) ∧ Drawn0 w w')
  case atStart => exact ⟨(0), (0), zF', zF', H', ⟨Nat.le_refl _⟩, zDr⟩
  case round =>
    clear H'
    obtain ⟨x3_1, x4_1, rfl, rfl, HA, HK1, ⟨m1, rfl⟩⟩ := hrel
    cases gk with
    | zero => exact absurd HA.out (by simp [pleatref07_Sum.l0])
    | succ k1 =>
      have H := HA.out
      clear HA
      simp only [pleatref07_Sum.l0] at H
      by_cases c2 : x4_1 < (l0.length : Int)
      · rw [if_pos c2] at H
        have c2b0 := decide_eq_true c2
        clear c2
        obtain ⟨c3, H⟩ := zG H
        have c3b0 := decide_eq_true c3
        clear c3
        have H' := Aside0.mk H
        clear H
        have p234 : 0 ≤ (x4_1 : Int) := zOD
        have q234 : x4_1 < (l0.length : Int) := zOD
        obtain ⟨ad234, e234, hx234_0⟩ := Kd.at_int HR0.out x4_1 p234 q234
        cases e234
        replace p234 := eq_true p234
        replace q234 := eq_true q234
        go_wp2
        go_roundg k1
        case measure => have := HK1.out; omega
        case rel => exact ⟨((((31 * x3_1) % 4294967296) + ((rd l0 x4_1) % 4294967296)) % 4294967296), (wrap64 (x4_1 + 1)), zF', zF', H', ⟨by have := HK1.out; omega⟩, zDr⟩
      · rw [if_neg c2] at H
        have c2b0 := decide_eq_false c2
        clear c2
        obtain rfl := Option.some.inj H
        go_wp2
        go_ret
        exact ⟨zF', zDr⟩

/-! ### pleatref07_four: function 88 -/
def pleatref07_four.f (a0 : Int) : Option (List Int) := some (([(a0 / 16777216) % 256, (a0 / 65536) % 256, (a0 / 256) % 256, (a0) % 256] : List Int))
set_option maxHeartbeats 8000000 in
set_option maxRecDepth 100000 in
theorem pleatref07_four.calls (a0 : Int) (r : List Int) (w : World) (h : pleatref07_four.f a0 = some r) :
    Calls Tryd.prog 88 #[.int .u32 a0] w fun e w' => ∃ v0_ : Value, e = .returned (v0_) ∧ Kd.R (Kd.int .u8) 5 w' w.heap.size (fun _ => True) v0_ r ∧ Below w.heap.size w w' := by
  have HB := Aside0.mk (Below.refl w.heap.size w)
  have H := h
  clear h
  unfold pleatref07_four.f at H
  obtain ⟨y235, hy235⟩ : ∃ y_ : List Int, y_ = (([(a0 / 16777216) % 256, (a0 / 65536) % 256, (a0 / 256) % 256, (a0) % 256] : List Int)) := ⟨_, rfl⟩
  (try rw [← hy235] at H)
  have Ny235 := Aside0.mk hy235
  clear hy235
  obtain rfl := Option.some.inj H
  go_enter Tryd.func88, Tryd.ntmps88
  go_wp2_with (first | ((with_reducible refine gate_dst (N := 14) rfl ?_); refine Kd.R_lit (Kd.int .u8) _ 5 ?hg (N := 14) ?hd (xs := ([(a0 / 16777216) % 256, (a0 / 65536) % 256, (a0 / 256) % 256, (a0) % 256] : List Int)) (inner := [.int .u8 ((a0 / 16777216) % 256), .int .u8 ((a0 / 65536) % 256), .int .u8 ((a0 / 256) % 256), .int .u8 ((a0) % 256)]) (ok := fun _ => True) (okp := fun _ => True) ?hr ?hp (fun _ hk => hk) trivial (Below.refl _ _) (Nat.le_refl _) (by simp) ?_; (case hd => rfl); (case hg => rfl); (case hr => first | (go_simp; done) | (go_simp; rfl)); (case hp => exact (Reps.one (show Kd.M (Kd.int .u8) _ _ _ ((a0 / 16777216) % 256) [.int .u8 ((a0 / 16777216) % 256)] from rfl) (Reps.one (show Kd.M (Kd.int .u8) _ _ _ ((a0 / 65536) % 256) [.int .u8 ((a0 / 65536) % 256)] from rfl) (Reps.one (show Kd.M (Kd.int .u8) _ _ _ ((a0 / 256) % 256) [.int .u8 ((a0 / 256) % 256)] from rfl) (Reps.one (show Kd.M (Kd.int .u8) _ _ _ ((a0) % 256) [.int .u8 ((a0) % 256)] from rfl) (Reps.none _ _)))))); intro v236 w2 ho3 hb hg_ hnew_; clear hg_ hnew_; (first | rw [← Ny235.out] at ho3 | (simp only [Int.reduceToNat] at ho3; rw [← Ny235.out] at ho3)); refine zs (Kd.R_lower ho3 (below_size (zHB))) (zs (below_step (zHB) hb) ?_); clear HB; intro HB HO237; clear hb ho3))
  go_ret
  exact ⟨_, zE, by (with_reducible repeat (first | apply Kd.R_alloc | apply Kd.R_drewN | apply Kd.R_drew)); exact HO237.out, zHB⟩

/-! ### pleatref07_eight: function 89 -/
def pleatref07_eight.f (a0 : Int) : Option (List Int) := (pleatref07_four.f (((IntKind.u64.wrap (a0)) / 4294967296) % 4294967296)).bind fun t238 => ((pleatref07_four.f ((IntKind.u64.wrap (a0)) % 4294967296)).bind fun t241 => (if t238.length + t241.length < 140737488355328 then (some (t238 ++ t241)) else (none)))
set_option maxHeartbeats 8000000 in
set_option maxRecDepth 100000 in
theorem pleatref07_eight.calls (a0 : Int) (r : List Int) (w : World) (h : pleatref07_eight.f a0 = some r) :
    Calls Tryd.prog 89 #[.int .i64 a0] w fun e w' => ∃ v0_ : Value, e = .returned (v0_) ∧ Kd.R (Kd.int .u8) 5 w' w.heap.size (fun _ => True) v0_ r ∧ Below w.heap.size w w' := by
  have HB := Aside0.mk (Below.refl w.heap.size w)
  have H := h
  clear h
  unfold pleatref07_eight.f at H
  replace H := Option.bind_eq_some_iff.mp H
  obtain ⟨t238, A20, H⟩ := H
  (try dsimp only at H)
  have A2 := Aside0.mk A20
  clear A20
  replace H := Option.bind_eq_some_iff.mp H
  obtain ⟨t241, A30, H⟩ := H
  (try dsimp only at H)
  have A3 := Aside0.mk A30
  clear A30
  obtain ⟨c4, H⟩ := zG H
  have LMc4 := Aside0.mk c4
  clear c4
  obtain ⟨y244, hy244⟩ : ∃ y_ : List Int, y_ = (t238 ++ t241) := ⟨_, rfl⟩
  (try rw [← hy244] at H)
  have Ny244 := Aside0.mk hy244
  clear hy244
  obtain rfl := Option.some.inj H
  go_enter Tryd.func89, Tryd.ntmps89
  go_wp2_with (first | ((with_reducible refine gate_callee (f := 88) rfl ?_); refine zGo (N := (some 8)) Tryd.func88 #[.int .u32 (((IntKind.u64.wrap (a0)) / 4294967296) % 4294967296)] ?_; (with_reducible refine (pleatref07_four.calls (((IntKind.u64.wrap (a0)) / 4294967296) % 4294967296) t238 _ A2.out).mono ?_); rintro e w5 ⟨v239, rfl, ho0, hb⟩; refine ⟨_, rfl, ?_⟩; refine zs (Kd.R_lower ho0 (below_size (zHB))) (zs (below_step (zHB) hb) ?_); clear HB; intro HB HO240; clear hb ho0) | ((with_reducible refine gate_callee (f := 88) rfl ?_); refine zGo (N := (some 13)) Tryd.func88 #[.int .u32 ((IntKind.u64.wrap (a0)) % 4294967296)] ?_; (with_reducible refine (pleatref07_four.calls ((IntKind.u64.wrap (a0)) % 4294967296) t241 _ A3.out).mono ?_); rintro e w6 ⟨v242, rfl, ho0, hb⟩; refine ⟨_, rfl, ?_⟩; refine zs (Kd.R_elder' (by (with_reducible repeat (first | apply Kd.R_alloc | apply Kd.R_drewN | apply Kd.R_drew)); exact HO240.out) (Kd.R_base ho0) hb) (zs (Kd.R_lower (Kd.R_new' ho0 (Kd.R_lt (by (with_reducible repeat (first | apply Kd.R_alloc | apply Kd.R_drewN | apply Kd.R_drew)); exact HO240.out))) (below_size (zHB))) (zs (below_step (zHB) hb) ?_)); clear HO240 HB; intro HB HO243 HO240; clear hb ho0; obtain ⟨Ao8, co8, eo8⟩ := Kd.R_slice HO243.out; subst eo8) | ((with_reducible refine gate_builtin (b := .append) (xs := #[.tmp 9, .tmp 13]) rfl ?_); at_builtin; refine Kd.R_append_rows (Kd.int .u8) (w0 := w) w.heap.size rfl (.tmp 9) (.tmp 13) 64 5 (.int .u8 0) 1 rfl Tryd.underlying64 info5 rfl (by decide) (by omega) v239 t238 t241 _ _ _ (fun k_ => some k_ ≠ (.slice Ao8 t241.length co8 : Value).ownBlock) (fun _ => False) rfl rfl ?aO ?aR (fun _ _ h => h) (fun _ h => h.elim) ?aF ?aB ?aS ?aL ?_; (case aR => repeat (first | exact (Kd.R_reads' HO243.out).2.2 | (with_reducible refine Kd.C_alloc ?_ _) | (with_reducible refine Kd.C_drewN ?_ _) | (with_reducible refine Kd.C_drew ?_))); (case aB => exact (zHB)); (case aF => exact (fun k_ hk => Kd.fresh' (Kd.R_lt (by (with_reducible repeat (first | apply Kd.R_alloc | apply Kd.R_drewN | apply Kd.R_drew)); exact HO243.out)) k_ hk)); (case aO => exact (by (with_reducible repeat (first | apply Kd.R_alloc | apply Kd.R_drewN | apply Kd.R_drew)); exact Kd.R_mono HO240.out (fun _ hk => hk.2))); (case aS => exact (below_size (zHB))); (case aL => have := LMc4.out; omega); intro v245 w7 ho hb hg hat; rw [← Ny244.out] at ho; refine zs (Kd.R_after (ok := (fun _ => True)) (by (with_reducible repeat (first | apply Kd.R_alloc | apply Kd.R_drewN | apply Kd.R_drew)); exact HO243.out) hg hat) (zs hb (zs (ho) ?_)); clear HO243 HB HO240; intro HO246 HB HO243; clear ho hb hg hat))
  go_ret
  exact ⟨_, zE, by (with_reducible repeat (first | apply Kd.R_alloc | apply Kd.R_drewN | apply Kd.R_drew)); exact Kd.R_mono HO246.out (fun _ hk => trivial), zHB⟩

end Go.Proofs.YtfgdjpgdabjpmaaDoor.PImageTells
