-- Written for this claim by a program of this session (wip/tools/pp.py, over the kit's print).
import Derived.Test.YtfgdjpgdabjpmaaDoorPImageReadsx0
import Derived.Test.YtfgdjpgdabjpmaaDoorPImageReadsx2
namespace Go.Proofs.YtfgdjpgdabjpmaaDoor.PImageReads
open Go.RowKit Go.Proofs.YtfgdjpgdabjpmaaDoorW.PrintWords Go.Proofs.YtfgdjpgdabjpmaaDoorW.PrintLast Go.Proofs.YtfgdjpgdabjpmaaDoorW.PrintMore
attribute [local go_sem] max2_int min2_int max_two min_two max_three min_three max_four min_four   -- for this text's walks alone
set_option linter.unusedVariables false
set_option linter.unusedSimpArgs false

/-! ### image_Check: function 23 -/
def image_Check.l0 : Nat → Int → List Int → Int → Int → List Int → Int → List Int → Option (Int × Int)
  | 0, _, _, _, _, _, _, _ => none
  | k + 1, x4, x34, x35, x36, x124000, x124001, x124002 => if x36 < x35 then (if 0 ≤ x36 then (if x36 < (x34.length : Int) then ((isa_Target.f k (rd x34 x36)).bind fun bt125 => (if bt125.2 = true then (if bt125.1 ≥ x4 then (some (22, x36)) else (image_Check.l0 k x4 x34 x35 (wrap64 (x36 + 1)) x124000 x124001 x124002)) else (image_Check.l0 k x4 x34 x35 (wrap64 (x36 + 1)) x124000 x124001 x124002))) else (none)) else (none)) else (if 0 ≤ (wrap64 (x4 - 1)) then (if (wrap64 (x4 - 1)) < (x124000.length : Int) then ((isa_Decode.f k (rd x124000 (wrap64 (x4 - 1)))).bind fun bt128 => (if bt128.1 = 0 then (some (0, 0)) else (if bt128.1 = 15 then (some (0, 0)) else (if bt128.1 = 19 then (some (0, 0)) else (if bt128.1 = 21 then (some (0, 0)) else (some (50, wrap64 (x4 - 1)))))))) else (none)) else (none))
def image_Check.f (k : Nat) (l0_0 : List Int) (a0_1 : Int) (l0_2 : List Int) : Option (Int × Int) := if (l0_0.length : Int) = 0 then (some (50, 0)) else (if (l0_0.length : Int) > 16384 then (some (42, 16384)) else (if (l0_2.length : Int) > 4096 then (some (25, 4096)) else (if a0_1 < 0 then (some (41, 0)) else (if a0_1 ≥ (l0_0.length : Int) then (some (41, 0)) else (image_Check.l0 k (l0_0.length : Int) l0_0 (l0_0.length : Int) 0 l0_0 a0_1 l0_2)))))
theorem image_Check.mono_l : ∀ k, (∀ y0 y1 y2 y3 y4 y5 y6, LeO (image_Check.l0 k y0 y1 y2 y3 y4 y5 y6) (image_Check.l0 (k + 1) y0 y1 y2 y3 y4 y5 y6))
  | 0 => fun _ _ _ _ _ _ _ r h => by simp [image_Check.l0] at h
  | k + 1 => by
    have ih0 := image_Check.mono_l k
    · intro y0 y1 y2 y3 y4 y5 y6
      unfold image_Check.l0
      have m0 := @isa_Decode.mono
      have m1 := @isa_Target.mono
      exact zMo
theorem image_Check.mono : ∀ a0 a1 a2 k, LeO (image_Check.f k a0 a1 a2) (image_Check.f (k + 1) a0 a1 a2) := by
  intro a0 a1 a2 k
  have ih0 := image_Check.mono_l k
  unfold image_Check.f
  have m0 := @isa_Decode.mono
  have m1 := @isa_Target.mono
  exact zMo
set_option maxHeartbeats 8000000 in
set_option maxRecDepth 100000 in
theorem image_Check.calls (k : Nat) (A0_0 : Option Addr) (c0_0 : Nat) (l0_0 : List Int) (a0_1 : Int) (A0_2 : Option Addr) (c0_2 : Nat) (l0_2 : List Int) (r1 : Int) (r2 : Int) (w : World) (hr0_0 : Kd.C (Kd.int .u32) w A0_0 l0_0.length l0_0) (hc0_0 : l0_0.length ≤ c0_0) (hr0_2 : Kd.C (Kd.int .i64) w A0_2 l0_2.length l0_2) (hc0_2 : l0_2.length ≤ c0_2) (h : image_Check.f k l0_0 a0_1 l0_2 = some (r1, r2)) :
    Calls Tryd.prog 23 #[.agg #[.slice A0_0 l0_0.length c0_0, .int .i64 a0_1, .slice A0_2 l0_2.length c0_2]] w fun e w' => e = .returned (.tuple #[.int .i64 r1, .int .i64 r2]) ∧ Below w.heap.size w w' := by
  have hu25 := Tryd.underlying25
  have hfd94_0 : ∀ (x0_ x1_ x2_ x3_ x4_ : Value) (W : World), (Instr.field 94 (.agg #[x0_, x1_, x2_, x3_, x4_]) 0).run Tryd.prog W = .ok (x0_) W := fun _ _ _ _ _ _ => by kernel_rfl
  have HR0_0 := Aside0.mk hr0_0
  have HC0_0 := Aside0.mk hc0_0
  clear hr0_0 hc0_0
  have HR0_2 := Aside0.mk hr0_2
  have HC0_2 := Aside0.mk hc0_2
  clear hr0_2 hc0_2
  have HB := Aside0.mk (Below.refl w.heap.size w)
  have H := h
  clear h
  unfold image_Check.f at H
  by_cases c2 : (l0_0.length : Int) = 0
  · rw [if_pos c2] at H
    have c2b0 := beq_iff_eq.mpr c2
    have c2b1 := bne_eq_false_iff_eq.mpr c2
    clear c2
    simp only [Option.some.injEq, Prod.mk.injEq] at H
    obtain ⟨rfl, rfl⟩ := H
    go_enter Tryd.func23, Tryd.ntmps23
    go_wp2_with (first | ((with_reducible refine gate_dst (N := 1) rfl ?_); refine zBox (N := 1) (cs := #[.slice A0_0 l0_0.length c0_0, .int .i64 a0_1, .slice A0_2 l0_2.length c0_2]) (t := 25) ?_; intro gb123 hg w3 hbox hb; refine zs (below_step (zHB) hb) (zs hbox (zs (zGe hg zHB) (zs (zGe hg zHB) ?_))); clear HB; intro GE123 GW123 BK123 HB; clear hb hbox hg; have hcz4 := blk_cell BK123.out; have hfz4 := blk_frozen BK123.out))
    go_ret2
    exact ⟨zE, zHB⟩
  · rw [if_neg c2] at H
    have c2b0 := beq_eq_false_iff_ne.mpr c2
    have c2b1 := bne_iff_ne.mpr c2
    have c2b2 : ¬ (l0_0 = []) := fun h_ => c2 (by rw [h_]; rfl)
    by_cases c5 : (l0_0.length : Int) > 16384
    · rw [if_pos c5] at H
      have c5b0 : decide (16384 < (l0_0.length : Int)) = true := decide_eq_true c5
      have c5b1 : decide (16384 < l0_0.length) = true := decide_eq_true (by omega)
      clear c5
      simp only [Option.some.injEq, Prod.mk.injEq] at H
      obtain ⟨rfl, rfl⟩ := H
      go_enter Tryd.func23, Tryd.ntmps23
      go_wp2_with (first | ((with_reducible refine gate_dst (N := 1) rfl ?_); refine zBox (N := 1) (cs := #[.slice A0_0 l0_0.length c0_0, .int .i64 a0_1, .slice A0_2 l0_2.length c0_2]) (t := 25) ?_; intro gb123 hg w6 hbox hb; refine zs (below_step (zHB) hb) (zs hbox (zs (zGe hg zHB) (zs (zGe hg zHB) ?_))); clear HB; intro GE123 GW123 BK123 HB; clear hb hbox hg; have hcz7 := blk_cell BK123.out; have hfz7 := blk_frozen BK123.out))
      go_ret2
      exact ⟨zE, zHB⟩
    · rw [if_neg c5] at H
      have c5b0 : decide (16384 < (l0_0.length : Int)) = false := decide_eq_false c5
      have c5b1 : decide (16384 < l0_0.length) = false := decide_eq_false (by omega)
      clear c5
      by_cases c8 : (l0_2.length : Int) > 4096
      · rw [if_pos c8] at H
        have c8b0 : decide (4096 < (l0_2.length : Int)) = true := decide_eq_true c8
        have c8b1 : decide (4096 < l0_2.length) = true := decide_eq_true (by omega)
        clear c8
        simp only [Option.some.injEq, Prod.mk.injEq] at H
        obtain ⟨rfl, rfl⟩ := H
        go_enter Tryd.func23, Tryd.ntmps23
        go_wp2_with (first | ((with_reducible refine gate_dst (N := 1) rfl ?_); refine zBox (N := 1) (cs := #[.slice A0_0 l0_0.length c0_0, .int .i64 a0_1, .slice A0_2 l0_2.length c0_2]) (t := 25) ?_; intro gb123 hg w9 hbox hb; refine zs (below_step (zHB) hb) (zs hbox (zs (zGe hg zHB) (zs (zGe hg zHB) ?_))); clear HB; intro GE123 GW123 BK123 HB; clear hb hbox hg; have hcz10 := blk_cell BK123.out; have hfz10 := blk_frozen BK123.out))
        go_ret2
        exact ⟨zE, zHB⟩
      · rw [if_neg c8] at H
        have c8b0 : decide (4096 < (l0_2.length : Int)) = false := decide_eq_false c8
        have c8b1 : decide (4096 < l0_2.length) = false := decide_eq_false (by omega)
        clear c8
        by_cases c11 : a0_1 < 0
        · rw [if_pos c11] at H
          have c11b0 := decide_eq_true c11
          clear c11
          simp only [Option.some.injEq, Prod.mk.injEq] at H
          obtain ⟨rfl, rfl⟩ := H
          go_enter Tryd.func23, Tryd.ntmps23
          go_wp2_with (first | ((with_reducible refine gate_dst (N := 1) rfl ?_); refine zBox (N := 1) (cs := #[.slice A0_0 l0_0.length c0_0, .int .i64 a0_1, .slice A0_2 l0_2.length c0_2]) (t := 25) ?_; intro gb123 hg w12 hbox hb; refine zs (below_step (zHB) hb) (zs hbox (zs (zGe hg zHB) (zs (zGe hg zHB) ?_))); clear HB; intro GE123 GW123 BK123 HB; clear hb hbox hg; have hcz13 := blk_cell BK123.out; have hfz13 := blk_frozen BK123.out))
          go_ret2
          exact ⟨zE, zHB⟩
        · rw [if_neg c11] at H
          have c11b0 := decide_eq_false c11
          clear c11
          by_cases c14 : a0_1 ≥ (l0_0.length : Int)
          · rw [if_pos c14] at H
            have c14b0 : decide ((l0_0.length : Int) ≤ a0_1) = true := decide_eq_true c14
            clear c14
            simp only [Option.some.injEq, Prod.mk.injEq] at H
            obtain ⟨rfl, rfl⟩ := H
            go_enter Tryd.func23, Tryd.ntmps23
            go_wp2_with (first | ((with_reducible refine gate_dst (N := 1) rfl ?_); refine zBox (N := 1) (cs := #[.slice A0_0 l0_0.length c0_0, .int .i64 a0_1, .slice A0_2 l0_2.length c0_2]) (t := 25) ?_; intro gb123 hg w15 hbox hb; refine zs (below_step (zHB) hb) (zs hbox (zs (zGe hg zHB) (zs (zGe hg zHB) ?_))); clear HB; intro GE123 GW123 BK123 HB; clear hb hbox hg; have hcz16 := blk_cell BK123.out; have hfz16 := blk_frozen BK123.out))
            go_ret2
            exact ⟨zE, zHB⟩
          · rw [if_neg c14] at H
            have c14b0 : decide ((l0_0.length : Int) ≤ a0_1) = false := decide_eq_false c14
            clear c14
            have H' := Aside0.mk H
            clear H
            go_enter Tryd.func23, Tryd.ntmps23
            go_wp2_with (first | ((with_reducible refine gate_dst (N := 1) rfl ?_); refine zBox (N := 1) (cs := #[.slice A0_0 l0_0.length c0_0, .int .i64 a0_1, .slice A0_2 l0_2.length c0_2]) (t := 25) ?_; intro gb123 hg w17 hbox hb; refine zs (below_step (zHB) hb) (zs hbox (zs (zGe hg zHB) (zs (zGe hg zHB) ?_))); clear HB; intro GE123 GW123 BK123 HB; clear hb hbox hg; have hcz18 := blk_cell BK123.out; have hfz18 := blk_frozen BK123.out))
            go_loopg [36] k (fun kq v36 w' => ∃ (x36_1 : Int), v36 = .int .i64 x36_1 ∧ Aside0 (image_Check.l0 kq (l0_0.length : Int) l0_0 (l0_0.length : Int) x36_1 l0_0 a0_1 l0_2 = some (r1, r2)) ∧ Aside0 (kq ≤ k) ∧ Aside0 (w'.heap[gb123]? = some (.cells #[(.slice A0_0 l0_0.length c0_0), .int .i64 a0_1, (.slice A0_2 l0_2.length c0_2)] 25 (0, 0))) ∧ Aside0 (Below w.heap.size w w'))
            case atStart => exact ⟨(0), zF', H', ⟨Nat.le_refl _⟩, ⟨zBK⟩, ⟨zHB⟩⟩
            case round =>
              clear H'
              try clear c11b0
              try clear c14b0
              try clear c2b0
              try clear c2b1
              try clear c2b2
              try clear c5b0
              try clear c5b1
              try clear c8b0
              try clear c8b1
              try clear hcz18
              try clear hfz18
              obtain ⟨x36_1, rfl, HA, HK1, BK123, HB⟩ := hrel
              cases gk with
              | zero => exact absurd HA.out (by simp [image_Check.l0])
              | succ k1 =>
                have H := HA.out
                clear HA
                simp only [image_Check.l0] at H
                by_cases c19 : x36_1 < (l0_0.length : Int)
                · rw [if_pos c19] at H
                  have c19b0 := decide_eq_true c19
                  clear c19
                  obtain ⟨c20, H⟩ := zG H
                  have c20b0 := decide_eq_true c20
                  clear c20
                  obtain ⟨c21, H⟩ := zG H
                  have c21b0 := decide_eq_true c21
                  clear c21
                  replace H := Option.bind_eq_some_iff.mp H
                  obtain ⟨⟨t125, t126⟩, A220, H⟩ := H
                  (try dsimp only at H)
                  have A22 := Aside0.mk A220
                  clear A220
                  by_cases c23 : t126 = true
                  · subst c23
                    rw [if_pos rfl] at H
                    by_cases c24 : t125 ≥ (l0_0.length : Int)
                    · rw [if_pos c24] at H
                      have c24b0 : decide ((l0_0.length : Int) ≤ t125) = true := decide_eq_true c24
                      clear c24
                      simp only [Option.some.injEq, Prod.mk.injEq] at H
                      obtain ⟨rfl, rfl⟩ := H
                      have p124 : 0 ≤ (x36_1 : Int) := zOD
                      have q124 : x36_1 < (l0_0.length : Int) := zOD
                      obtain ⟨ad124, e124, hx124_0⟩ := Kd.at_int HR0_0.out x36_1 p124 q124
                      cases e124
                      replace hx124_0 := (HB.out.cell (World.block_lt_of_cell? w _ hx124_0)).trans hx124_0
                      replace p124 := eq_true p124
                      replace q124 := eq_true q124
                      go_wp2_with (first | ((with_reducible refine gate_callee (f := 64) rfl ?_); refine zGo (N := (some 43)) Tryd.func64 #[.int .u32 (rd l0_0 x36_1)] ?_; (with_reducible refine (isa_Target.calls k1 (rd l0_0 x36_1) t125 true _ A22.out).mono ?_); rintro e w25 ⟨rfl, hb⟩; refine ⟨_, rfl, ?_⟩; refine zs (blk_below (g := gb123) zBK hb) (zs (below_step (zHB) hb) ?_); clear BK123 HB; intro HB BK123; clear hb))
                      go_ret2
                      exact ⟨zE, zHB⟩
                    · rw [if_neg c24] at H
                      have c24b0 : decide ((l0_0.length : Int) ≤ t125) = false := decide_eq_false c24
                      clear c24
                      have H' := Aside0.mk H
                      clear H
                      have p124 : 0 ≤ (x36_1 : Int) := zOD
                      have q124 : x36_1 < (l0_0.length : Int) := zOD
                      obtain ⟨ad124, e124, hx124_0⟩ := Kd.at_int HR0_0.out x36_1 p124 q124
                      cases e124
                      replace hx124_0 := (HB.out.cell (World.block_lt_of_cell? w _ hx124_0)).trans hx124_0
                      replace p124 := eq_true p124
                      replace q124 := eq_true q124
                      go_wp2_with (first | ((with_reducible refine gate_callee (f := 64) rfl ?_); refine zGo (N := (some 43)) Tryd.func64 #[.int .u32 (rd l0_0 x36_1)] ?_; (with_reducible refine (isa_Target.calls k1 (rd l0_0 x36_1) t125 true _ A22.out).mono ?_); rintro e w26 ⟨rfl, hb⟩; refine ⟨_, rfl, ?_⟩; refine zs (blk_below (g := gb123) zBK hb) (zs (below_step (zHB) hb) ?_); clear BK123 HB; intro HB BK123; clear hb))
                      go_roundg k1
                      case measure => have := HK1.out; omega
                      case rel => exact ⟨(wrap64 (x36_1 + 1)), zF', H', ⟨by have := HK1.out; omega⟩, ⟨zBK⟩, ⟨zHB⟩⟩
                  · replace c23 := Bool.eq_false_iff.mpr c23
                    subst c23
                    rw [if_neg (show ¬ (false = true) by decide)] at H
                    have H' := Aside0.mk H
                    clear H
                    have p124 : 0 ≤ (x36_1 : Int) := zOD
                    have q124 : x36_1 < (l0_0.length : Int) := zOD
                    obtain ⟨ad124, e124, hx124_0⟩ := Kd.at_int HR0_0.out x36_1 p124 q124
                    cases e124
                    replace hx124_0 := (HB.out.cell (World.block_lt_of_cell? w _ hx124_0)).trans hx124_0
                    replace p124 := eq_true p124
                    replace q124 := eq_true q124
                    go_wp2_with (first | ((with_reducible refine gate_callee (f := 64) rfl ?_); refine zGo (N := (some 43)) Tryd.func64 #[.int .u32 (rd l0_0 x36_1)] ?_; (with_reducible refine (isa_Target.calls k1 (rd l0_0 x36_1) t125 false _ A22.out).mono ?_); rintro e w27 ⟨rfl, hb⟩; refine ⟨_, rfl, ?_⟩; refine zs (blk_below (g := gb123) zBK hb) (zs (below_step (zHB) hb) ?_); clear BK123 HB; intro HB BK123; clear hb))
                    go_roundg k1
                    case measure => have := HK1.out; omega
                    case rel => exact ⟨(wrap64 (x36_1 + 1)), zF', H', ⟨by have := HK1.out; omega⟩, ⟨zBK⟩, ⟨zHB⟩⟩
                · rw [if_neg c19] at H
                  have c19b0 := decide_eq_false c19
                  clear c19
                  obtain ⟨ji28, hji28⟩ : ∃ j_ : Int, (wrap64 ((l0_0.length : Int) - 1)) = j_ := ⟨_, rfl⟩
                  (first | rw [hji28] at H | simp only [hji28] at H)
                  have hji28w : (IntKind.i64.wrap ((l0_0.length : Int) - 1)) = ji28 := (i64_w _).trans hji28
                  obtain ⟨c29, H⟩ := zG H
                  have c29b0 := decide_eq_true c29
                  clear c29
                  obtain ⟨c30, H⟩ := zG H
                  have c30b0 := decide_eq_true c30
                  clear c30
                  replace H := Option.bind_eq_some_iff.mp H
                  obtain ⟨⟨t128, t129, t130, t131, t132⟩, A310, H⟩ := H
                  (try dsimp only at H)
                  have A31 := Aside0.mk A310
                  clear A310
                  by_cases c32 : t128 = 0
                  · rw [if_pos c32] at H
                    have c32b0 := beq_iff_eq.mpr c32
                    have c32b1 := bne_eq_false_iff_eq.mpr c32
                    clear c32
                    simp only [Option.some.injEq, Prod.mk.injEq] at H
                    obtain ⟨rfl, rfl⟩ := H
                    have hcz33 := blk_cell BK123.out
                    have hfz33 := blk_frozen BK123.out
                    have p127 : 0 ≤ ((ji28) : Int) := zOD
                    have q127 : (ji28) < (l0_0.length : Int) := zOD
                    obtain ⟨ad127, e127, hx127_0⟩ := Kd.at_int HR0_0.out (ji28) p127 q127
                    cases e127
                    replace hx127_0 := (HB.out.cell (World.block_lt_of_cell? w _ hx127_0)).trans hx127_0
                    replace p127 := eq_true p127
                    replace q127 := eq_true q127
                    go_wp2_with (first | ((with_reducible refine gate_callee (f := 65) rfl ?_); refine goesL_ (some 60) rfl rfl Tryd.func65 (by kernel_rfl) rfl #[.int .u32 (rd l0_0 (ji28))] rfl (by (try simp only [List.map_toArray, List.map_cons, List.map_nil]); first | done | (simp only [hji28]; rfl) | rfl | (simp only [List.length_drop, List.length_take]; rfl)) ?_; (with_reducible refine (isa_Decode.calls k1 (rd l0_0 (ji28)) t128 t129 t130 t131 t132 _ A31.out).mono ?_); rintro e w34 ⟨rfl, hb⟩; refine ⟨_, rfl, ?_⟩; refine zs (blk_below (g := gb123) zBK hb) (zs (below_step (zHB) hb) ?_); clear BK123 HB; intro HB BK123; clear hb))
                    go_ret2
                    exact ⟨by first | rfl | (simp [errW_none, errW_some] <;> rfl) | (simp only [← hji28]; first | rfl | (simp [errW_none, errW_some] <;> rfl)) | (simp [*, errW_none, errW_some] <;> rfl), zHB⟩
                  · rw [if_neg c32] at H
                    have c32b0 := beq_eq_false_iff_ne.mpr c32
                    have c32b1 := bne_iff_ne.mpr c32
                    by_cases c35 : t128 = 15
                    · rw [if_pos c35] at H
                      have c35b0 := beq_iff_eq.mpr c35
                      have c35b1 := bne_eq_false_iff_eq.mpr c35
                      clear c35
                      simp only [Option.some.injEq, Prod.mk.injEq] at H
                      obtain ⟨rfl, rfl⟩ := H
                      have hcz36 := blk_cell BK123.out
                      have hfz36 := blk_frozen BK123.out
                      have p127 : 0 ≤ ((ji28) : Int) := zOD
                      have q127 : (ji28) < (l0_0.length : Int) := zOD
                      obtain ⟨ad127, e127, hx127_0⟩ := Kd.at_int HR0_0.out (ji28) p127 q127
                      cases e127
                      replace hx127_0 := (HB.out.cell (World.block_lt_of_cell? w _ hx127_0)).trans hx127_0
                      replace p127 := eq_true p127
                      replace q127 := eq_true q127
                      go_wp2_with (first | ((with_reducible refine gate_callee (f := 65) rfl ?_); refine goesL_ (some 60) rfl rfl Tryd.func65 (by kernel_rfl) rfl #[.int .u32 (rd l0_0 (ji28))] rfl (by (try simp only [List.map_toArray, List.map_cons, List.map_nil]); first | done | (simp only [hji28]; rfl) | rfl | (simp only [List.length_drop, List.length_take]; rfl)) ?_; (with_reducible refine (isa_Decode.calls k1 (rd l0_0 (ji28)) t128 t129 t130 t131 t132 _ A31.out).mono ?_); rintro e w37 ⟨rfl, hb⟩; refine ⟨_, rfl, ?_⟩; refine zs (blk_below (g := gb123) zBK hb) (zs (below_step (zHB) hb) ?_); clear BK123 HB; intro HB BK123; clear hb))
                      go_ret2
                      exact ⟨by first | rfl | (simp [errW_none, errW_some] <;> rfl) | (simp only [← hji28]; first | rfl | (simp [errW_none, errW_some] <;> rfl)) | (simp [*, errW_none, errW_some] <;> rfl), zHB⟩
                    · rw [if_neg c35] at H
                      have c35b0 := beq_eq_false_iff_ne.mpr c35
                      have c35b1 := bne_iff_ne.mpr c35
                      by_cases c38 : t128 = 19
                      · rw [if_pos c38] at H
                        have c38b0 := beq_iff_eq.mpr c38
                        have c38b1 := bne_eq_false_iff_eq.mpr c38
                        clear c38
                        simp only [Option.some.injEq, Prod.mk.injEq] at H
                        obtain ⟨rfl, rfl⟩ := H
                        have hcz39 := blk_cell BK123.out
                        have hfz39 := blk_frozen BK123.out
                        have p127 : 0 ≤ ((ji28) : Int) := zOD
                        have q127 : (ji28) < (l0_0.length : Int) := zOD
                        obtain ⟨ad127, e127, hx127_0⟩ := Kd.at_int HR0_0.out (ji28) p127 q127
                        cases e127
                        replace hx127_0 := (HB.out.cell (World.block_lt_of_cell? w _ hx127_0)).trans hx127_0
                        replace p127 := eq_true p127
                        replace q127 := eq_true q127
                        go_wp2_with (first | ((with_reducible refine gate_callee (f := 65) rfl ?_); refine goesL_ (some 60) rfl rfl Tryd.func65 (by kernel_rfl) rfl #[.int .u32 (rd l0_0 (ji28))] rfl (by (try simp only [List.map_toArray, List.map_cons, List.map_nil]); first | done | (simp only [hji28]; rfl) | rfl | (simp only [List.length_drop, List.length_take]; rfl)) ?_; (with_reducible refine (isa_Decode.calls k1 (rd l0_0 (ji28)) t128 t129 t130 t131 t132 _ A31.out).mono ?_); rintro e w40 ⟨rfl, hb⟩; refine ⟨_, rfl, ?_⟩; refine zs (blk_below (g := gb123) zBK hb) (zs (below_step (zHB) hb) ?_); clear BK123 HB; intro HB BK123; clear hb))
                        go_ret2
                        exact ⟨by first | rfl | (simp [errW_none, errW_some] <;> rfl) | (simp only [← hji28]; first | rfl | (simp [errW_none, errW_some] <;> rfl)) | (simp [*, errW_none, errW_some] <;> rfl), zHB⟩
                      · rw [if_neg c38] at H
                        have c38b0 := beq_eq_false_iff_ne.mpr c38
                        have c38b1 := bne_iff_ne.mpr c38
                        by_cases c41 : t128 = 21
                        · rw [if_pos c41] at H
                          have c41b0 := beq_iff_eq.mpr c41
                          have c41b1 := bne_eq_false_iff_eq.mpr c41
                          clear c41
                          simp only [Option.some.injEq, Prod.mk.injEq] at H
                          obtain ⟨rfl, rfl⟩ := H
                          have hcz42 := blk_cell BK123.out
                          have hfz42 := blk_frozen BK123.out
                          have p127 : 0 ≤ ((ji28) : Int) := zOD
                          have q127 : (ji28) < (l0_0.length : Int) := zOD
                          obtain ⟨ad127, e127, hx127_0⟩ := Kd.at_int HR0_0.out (ji28) p127 q127
                          cases e127
                          replace hx127_0 := (HB.out.cell (World.block_lt_of_cell? w _ hx127_0)).trans hx127_0
                          replace p127 := eq_true p127
                          replace q127 := eq_true q127
                          go_wp2_with (first | ((with_reducible refine gate_callee (f := 65) rfl ?_); refine goesL_ (some 60) rfl rfl Tryd.func65 (by kernel_rfl) rfl #[.int .u32 (rd l0_0 (ji28))] rfl (by (try simp only [List.map_toArray, List.map_cons, List.map_nil]); first | done | (simp only [hji28]; rfl) | rfl | (simp only [List.length_drop, List.length_take]; rfl)) ?_; (with_reducible refine (isa_Decode.calls k1 (rd l0_0 (ji28)) t128 t129 t130 t131 t132 _ A31.out).mono ?_); rintro e w43 ⟨rfl, hb⟩; refine ⟨_, rfl, ?_⟩; refine zs (blk_below (g := gb123) zBK hb) (zs (below_step (zHB) hb) ?_); clear BK123 HB; intro HB BK123; clear hb))
                          go_ret2
                          exact ⟨by first | rfl | (simp [errW_none, errW_some] <;> rfl) | (simp only [← hji28]; first | rfl | (simp [errW_none, errW_some] <;> rfl)) | (simp [*, errW_none, errW_some] <;> rfl), zHB⟩
                        · rw [if_neg c41] at H
                          have c41b0 := beq_eq_false_iff_ne.mpr c41
                          have c41b1 := bne_iff_ne.mpr c41
                          simp only [Option.some.injEq, Prod.mk.injEq] at H
                          obtain ⟨rfl, rfl⟩ := H
                          have hcz44 := blk_cell BK123.out
                          have hfz44 := blk_frozen BK123.out
                          have p127 : 0 ≤ ((ji28) : Int) := zOD
                          have q127 : (ji28) < (l0_0.length : Int) := zOD
                          obtain ⟨ad127, e127, hx127_0⟩ := Kd.at_int HR0_0.out (ji28) p127 q127
                          cases e127
                          replace hx127_0 := (HB.out.cell (World.block_lt_of_cell? w _ hx127_0)).trans hx127_0
                          replace p127 := eq_true p127
                          replace q127 := eq_true q127
                          go_wp2_with (first | ((with_reducible refine gate_callee (f := 65) rfl ?_); refine goesL_ (some 60) rfl rfl Tryd.func65 (by kernel_rfl) rfl #[.int .u32 (rd l0_0 (ji28))] rfl (by (try simp only [List.map_toArray, List.map_cons, List.map_nil]); first | done | (simp only [hji28]; rfl) | rfl | (simp only [List.length_drop, List.length_take]; rfl)) ?_; (with_reducible refine (isa_Decode.calls k1 (rd l0_0 (ji28)) t128 t129 t130 t131 t132 _ A31.out).mono ?_); rintro e w45 ⟨rfl, hb⟩; refine ⟨_, rfl, ?_⟩; refine zs (blk_below (g := gb123) zBK hb) (zs (below_step (zHB) hb) ?_); clear BK123 HB; intro HB BK123; clear hb))
                          go_ret2
                          exact ⟨by first | rfl | (simp [errW_none, errW_some] <;> rfl) | (simp only [← hji28]; first | rfl | (simp [errW_none, errW_some] <;> rfl)) | (simp [*, errW_none, errW_some] <;> rfl), zHB⟩

/-! ### image_Sum: function 32 -/
def image_Sum.l0 : Nat → Int → List Int → Int → Int → Option (Int)
  | 0, _, _, _, _ => none
  | k + 1, x3, x6, x7, x8 => if x8 < x7 then (if 0 ≤ x8 then (if x8 < (x6.length : Int) then (image_Sum.l0 k ((((x3 * 31) % 4294967296) + ((rd x6 x8) % 4294967296)) % 4294967296) x6 x7 (wrap64 (x8 + 1))) else (none)) else (none)) else (some x3)
def image_Sum.f (k : Nat) (l0 : List Int) : Option (Int) := image_Sum.l0 k 0 l0 (l0.length : Int) 0
theorem image_Sum.mono_l : ∀ k, (∀ y0 y1 y2 y3, LeO (image_Sum.l0 k y0 y1 y2 y3) (image_Sum.l0 (k + 1) y0 y1 y2 y3))
  | 0 => fun _ _ _ _ r h => by simp [image_Sum.l0] at h
  | k + 1 => by
    have ih0 := image_Sum.mono_l k
    · intro y0 y1 y2 y3
      unfold image_Sum.l0
      exact zMo
theorem image_Sum.mono : ∀ a0 k, LeO (image_Sum.f k a0) (image_Sum.f (k + 1) a0) := by
  intro a0 k
  have ih0 := image_Sum.mono_l k
  unfold image_Sum.f
  exact zMo
set_option maxHeartbeats 8000000 in
set_option maxRecDepth 100000 in
theorem image_Sum.calls (k : Nat) (A0 : Option Addr) (c0 : Nat) (l0 : List Int) (r : Int) (w : World) (hr0 : Kd.C (Kd.int .u8) w A0 l0.length l0) (hc0 : l0.length ≤ c0) (h : image_Sum.f k l0 = some r) :
    Calls Tryd.prog 32 #[.slice A0 l0.length c0] w fun e w' => e = .returned (.int .u32 r) ∧ Drawn0 w w' := by
  have HR0 := Aside0.mk hr0
  have HC0 := Aside0.mk hc0
  clear hr0 hc0
  have H := h
  clear h
  unfold image_Sum.f at H
  have H' := Aside0.mk H
  clear H
  go_enter Tryd.func32, Tryd.ntmps32
  go_wp2
  go_loopg [3, 8] k (fun kq v3 v8 w' => ∃ (x3_1 : Int) (x8_1 : Int), v3 = .int .u32 x3_1 ∧ v8 = .int .i64 x8_1 ∧ Aside0 (image_Sum.l0 kq x3_1 l0 (l0.length : Int) x8_1 = some r) ∧ Aside0 (kq ≤ k) ∧ Drawn0 w w')
  case atStart => exact ⟨(0), (0), zF', zF', H', ⟨Nat.le_refl _⟩, zDr⟩
  case round =>
    clear H'
    obtain ⟨x3_1, x8_1, rfl, rfl, HA, HK1, ⟨m1, rfl⟩⟩ := hrel
    cases gk with
    | zero => exact absurd HA.out (by simp [image_Sum.l0])
    | succ k1 =>
      have H := HA.out
      clear HA
      simp only [image_Sum.l0] at H
      by_cases c2 : x8_1 < (l0.length : Int)
      · rw [if_pos c2] at H
        have c2b0 := decide_eq_true c2
        clear c2
        obtain ⟨c3, H⟩ := zG H
        have c3b0 := decide_eq_true c3
        clear c3
        obtain ⟨c4, H⟩ := zG H
        have c4b0 := decide_eq_true c4
        clear c4
        have H' := Aside0.mk H
        clear H
        have p133 : 0 ≤ (x8_1 : Int) := zOD
        have q133 : x8_1 < (l0.length : Int) := zOD
        obtain ⟨ad133, e133, hx133_0⟩ := Kd.at_int HR0.out x8_1 p133 q133
        cases e133
        replace p133 := eq_true p133
        replace q133 := eq_true q133
        go_wp2
        go_roundg k1
        case measure => have := HK1.out; omega
        case rel => exact ⟨((((x3_1 * 31) % 4294967296) + ((rd l0 x8_1) % 4294967296)) % 4294967296), (wrap64 (x8_1 + 1)), zF', zF', H', ⟨by have := HK1.out; omega⟩, zDr⟩
      · rw [if_neg c2] at H
        have c2b0 := decide_eq_false c2
        clear c2
        obtain rfl := Option.some.inj H
        go_wp2
        go_ret
        exact ⟨zF', zDr⟩

/-! ### image_begins: function 68, by hand -/
-- LIB
/-- The four bytes with which an image begins: an array, by value. -/
theorem image_begins.calls (w : World) : Calls Tryd.prog 68 #[] w fun e w' => e = .returned (.agg #[.int .u8 80, .int .u8 76, .int .u8 73, .int .u8 49]) ∧ Below w.heap.size w w' := by
  have HB := Aside0.mk (Below.refl w.heap.size w)
  have hu := Tryd.underlying96
  go_enter Tryd.func68, Tryd.ntmps68
  go_wp2_with ((with_reducible refine gate_dst (N := 0) rfl ?_); refine zBox (N := 0) (cs := #[.int .u8 0, .int .u8 0, .int .u8 0, .int .u8 0]) (t := 96) ?_; intro gbq hg wq2 hbox hb; refine zs (below_step (zHB) hb) (zs hbox (zs (zGe hg zHB) ?_)); clear HB; intro GEq BKq HB; clear hb hbox hg; have hczq := blk_cell BKq.out; have hfzq := blk_frozen BKq.out)
  refine zRet gbq 96 #[.int .u8 80, .int .u8 76, .int .u8 73, .int .u8 49] Tryd.underlying96 ?_
  exact ⟨rfl, zHB⟩
/-- Four bytes in memory, read as a slice. -/
theorem begins_C {w : World} {g : Nat} {t : TypeId} (h : w.heap[g]? = some (.cells #[.int .u8 80, .int .u8 76, .int .u8 73, .int .u8 49] t (0, 0))) : Kd.C (Kd.int .u8) w (some ⟨g, 0, none⟩) ([80, 76, 73, 49] : List Int).length [80, 76, 73, 49] := by
  have hc := blk_cell h
  refine Kd.C_of_reads (d := (0 : Int)) ⟨rfl, by simp, fun _ => ⟨_, rfl, fun j hj => ?_⟩⟩
  rw [add_plain, hc j]
  have : j = 0 ∨ j = 1 ∨ j = 2 ∨ j = 3 := by simp at hj; omega
  rcases this with rfl | rfl | rfl | rfl <;> rfl

/-! ### image_put: function 69 -/
def image_put.l0 : Nat → List Int → Int → Int → Option (List Int)
  | 0, _, _, _ => none
  | k + 1, x0, x1, x7 => if x7 ≥ 0 then (if 0 ≤ (wrap64 (8 * x7)) then (if x0.length < 140737488355328 then (image_put.l0 k (x0 ++ [(shr .u64 x1 (wrap64 (8 * x7))) % 256]) x1 (wrap64 (x7 - 1))) else (none)) else (none)) else (some x0)
def image_put.f (k : Nat) (l0 : List Int) (a1 : Int) (a2 : Int) : Option (List Int) := image_put.l0 k l0 a1 (wrap64 (a2 - 1))
theorem image_put.mono_l : ∀ k, (∀ y0 y1 y2, LeO (image_put.l0 k y0 y1 y2) (image_put.l0 (k + 1) y0 y1 y2))
  | 0 => fun _ _ _ r h => by simp [image_put.l0] at h
  | k + 1 => by
    have ih0 := image_put.mono_l k
    · intro y0 y1 y2
      unfold image_put.l0
      exact zMo
theorem image_put.mono : ∀ a0 a1 a2 k, LeO (image_put.f k a0 a1 a2) (image_put.f (k + 1) a0 a1 a2) := by
  intro a0 a1 a2 k
  have ih0 := image_put.mono_l k
  unfold image_put.f
  exact zMo
set_option maxHeartbeats 8000000 in
set_option maxRecDepth 100000 in
theorem image_put.calls (k : Nat) (P0_ : Nat → Prop) (u9000_ : Value) (l0 : List Int) (a1 : Int) (a2 : Int) (r : List Int) (w0 w : World) (hB : Below w0.heap.size w0 w) (ho0 : Kd.R (Kd.int .u8) 5 w w0.heap.size P0_ u9000_ l0) (h : image_put.f k l0 a1 a2 = some r) :
    Calls Tryd.prog 69 #[u9000_, .int .u64 a1, .int .i64 a2] w fun e w' => ∃ v0_ : Value, e = .returned (v0_) ∧ Kd.R (Kd.int .u8) 5 w' w0.heap.size (fun k_ => (P0_ k_ ∨ w.heap.size ≤ k_)) v0_ r ∧ Below w0.heap.size w0 w' ∧ Kept w w' (fun k_ => P0_ k_) := by
  have HO0 := Aside0.mk (show Kd.R (Kd.int .u8) 5 w w0.heap.size (fun k_ => (P0_ k_ ∨ w.heap.size ≤ k_)) u9000_ l0 from Kd.R_mono ho0 (fun k_ hk => (.inl hk)))
  have HK := Aside0.mk (Kept.refl w (fun k_ => P0_ k_))
  have HW0 := Aside0.mk hB.size
  have HB := Aside0.mk hB
  clear hB
  have H := h
  clear h
  unfold image_put.f at H
  have H' := Aside0.mk H
  clear H
  go_enter Tryd.func69, Tryd.ntmps69
  go_wp2
  go_loopg [0, 7] k (fun kq v0 v7 w' => ∃ (x0_1 : List Int) (x7_1 : Int), v7 = .int .i64 x7_1 ∧ Aside0 (image_put.l0 kq x0_1 a1 x7_1 = some r) ∧ Aside0 (kq ≤ k) ∧ Aside0 (Kd.R (Kd.int .u8) 5 w' w0.heap.size (fun k_ => (P0_ k_ ∨ w.heap.size ≤ k_)) v0 x0_1) ∧ Aside0 (Kept w w' (fun k_ => P0_ k_)) ∧ Aside0 (Below w0.heap.size w0 w'))
  case atStart => exact ⟨(l0), (wrap64 (a2 - 1)), zF', H', ⟨Nat.le_refl _⟩, ⟨by (with_reducible repeat (first | apply Kd.R_alloc | apply Kd.R_drewN | apply Kd.R_drew)); exact HO0.out⟩, ⟨by repeat (first | (with_reducible first | exact HK.out | apply Kept.alloc | apply Kept.drewN | apply Kept.drew) | exact HK.out)⟩, ⟨by repeat (first | (with_reducible first | exact HB.out | apply below_alloc | apply pw_below_drewN | apply below_drew1) | exact HB.out)⟩⟩
  case round =>
    clear H'
    obtain ⟨x0_1, x7_1, rfl, HA, HK1, HO_0, HK, HB⟩ := hrel
    cases gk with
    | zero => exact absurd HA.out (by simp [image_put.l0])
    | succ k1 =>
      have H := HA.out
      clear HA
      simp only [image_put.l0] at H
      by_cases c4 : x7_1 ≥ 0
      · rw [if_pos c4] at H
        have c4b0 : decide (0 ≤ x7_1) = true := decide_eq_true c4
        clear c4
        obtain ⟨ji5, hji5⟩ : ∃ j_ : Int, (wrap64 (8 * x7_1)) = j_ := ⟨_, rfl⟩
        (first | rw [hji5] at H | simp only [hji5] at H)
        have hji5w : (IntKind.i64.wrap (8 * x7_1)) = ji5 := (i64_w _).trans hji5
        obtain ⟨c6, H⟩ := zG H
        have c6b0 := eq_true c6
        have c6b1 : decide (0 ≤ (ji5)) = true := decide_eq_true c6
        clear c6
        obtain ⟨ji7, hji7⟩ : ∃ j_ : Int, (shr .u64 a1 (ji5)) = j_ := ⟨_, rfl⟩
        (first | rw [hji7] at H | simp only [hji7] at H)
        have hji7_ : (a1 / 2 ^ min (ji5).toNat 64) = ji7 := hji7
        have hji7z : (ji5) ≤ 64 → (a1 / 2 ^ (ji5).toNat) = ji7 := shr_small hji7
        obtain ⟨c8, H⟩ := zG H
        have LMc8 := Aside0.mk c8
        clear c8
        obtain ⟨y134, hy134⟩ : ∃ y_ : List Int, y_ = (x0_1 ++ [(ji7) % 256]) := ⟨_, rfl⟩
        (try rw [← hy134] at H)
        have Ny134 := Aside0.mk hy134
        clear hy134
        have H' := Aside0.mk H
        clear H
        go_wp2_with (first | ((with_reducible refine gate_builtin (b := .append) (xs := #[.tmp 14, .tmp 20]) rfl ?_); at_builtin; refine Kd.R_append (Kd.int .u8) (w0 := w0) w0.heap.size rfl (.tmp 14) (.tmp 20) 64 5 (.int .u8 0) 1 rfl Tryd.underlying64 info5 rfl (by decide) (by omega) u0 x0_1 ((ji7) % 256) [.int .u8 ((ji7) % 256)] (fun k_ => (P0_ k_ ∨ w.heap.size ≤ k_)) (fun _ => False) rfl rfl ?aP (fun _ hk => hk.elim) ?aF ?aO ?aB ?aS ?aL ?_; (case aP => exact rfl); (case aB => exact (by repeat (first | (with_reducible first | exact HB.out | apply below_alloc | apply pw_below_drewN | apply below_drew1) | exact HB.out))); (case aF => exact (fun k_ hk => (.inr (Nat.le_trans (by first | exact HK.out.1 | exact (show Kept w _ (fun k_ => P0_ k_) from by repeat (first | (with_reducible first | exact HK.out | apply Kept.alloc | apply Kept.drewN | apply Kept.drew) | exact HK.out)).1) hk)))); (case aO => exact (by (with_reducible repeat (first | apply Kd.R_alloc | apply Kd.R_drewN | apply Kd.R_drew)); exact HO_0.out)); (case aS => exact (below_size (by repeat (first | (with_reducible first | exact HB.out | apply below_alloc | apply pw_below_drewN | apply below_drew1) | exact HB.out)))); (case aL => have := LMc8.out; omega); intro v135 w9 ho hb hg hat; rw [← Ny134.out] at ho; refine zs hb (zs (Kept.of_grown (S := (fun k_ => P0_ k_)) hg (by repeat (first | (with_reducible first | exact HK.out | apply Kept.alloc | apply Kept.drewN | apply Kept.drew) | exact HK.out)) (fun k_ e_ => (HO_0.out.1 k_ e_))) (zs (ho) ?_)); clear HB HK HO_0; intro HO136 HK HB; clear ho hb hg hat))
        go_roundg k1
        case measure => have := HK1.out; omega
        case rel => exact ⟨(y134), (wrap64 (x7_1 - 1)), zF', H', ⟨by have := HK1.out; omega⟩, ⟨by (with_reducible repeat (first | apply Kd.R_alloc | apply Kd.R_drewN | apply Kd.R_drew)); exact HO136.out⟩, ⟨by repeat (first | (with_reducible first | exact HK.out | apply Kept.alloc | apply Kept.drewN | apply Kept.drew) | exact HK.out)⟩, ⟨by repeat (first | (with_reducible first | exact HB.out | apply below_alloc | apply pw_below_drewN | apply below_drew1) | exact HB.out)⟩⟩
      · rw [if_neg c4] at H
        have c4b0 : decide (0 ≤ x7_1) = false := decide_eq_false c4
        clear c4
        obtain rfl := Option.some.inj H
        go_wp2
        go_ret
        exact ⟨_, zE, by (with_reducible repeat (first | apply Kd.R_alloc | apply Kd.R_drewN | apply Kd.R_drew)); exact HO_0.out, by repeat (first | (with_reducible first | exact HB.out | apply below_alloc | apply pw_below_drewN | apply below_drew1) | exact HB.out), by repeat (first | (with_reducible first | exact HK.out | apply Kept.alloc | apply Kept.drewN | apply Kept.drew) | exact HK.out)⟩

end Go.Proofs.YtfgdjpgdabjpmaaDoor.PImageReads
