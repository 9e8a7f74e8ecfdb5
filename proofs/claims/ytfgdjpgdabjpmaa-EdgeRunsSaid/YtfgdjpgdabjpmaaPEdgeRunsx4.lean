-- Written for this claim by a program of this session (wip/tools/pp.py, over the kit's print).
import Derived.Test.YtfgdjpgdabjpmaaPEdgeRunsx0
import Derived.Test.YtfgdjpgdabjpmaaPEdgeRunsx3
namespace Go.Proofs.Ytfgdjpgdabjpmaa.PEdgeRuns
open Go.RowKit Go.Proofs.YtfgdjpgdabjpmaaW.PrintWords Go.Proofs.YtfgdjpgdabjpmaaW.PrintLast Go.Proofs.YtfgdjpgdabjpmaaW.PrintMore
attribute [local go_sem] max2_int min2_int max_two min_two max_three min_three max_four min_four   -- for this text's walks alone
set_option linter.unusedVariables false
set_option linter.unusedSimpArgs false

/-! ### isa_Target: function 26 -/
def isa_Target.f (k : Nat) (a0 : Int) : Option (Int × Bool) := (isa_Decode.f k a0).bind fun bt108 => ((isa_has.f bt108.1).bind fun t114 => (if (Go.bits .and .i64 t114 16) = 0 then (some (0, false)) else (some (bt108.2.2.2.2, true))))
theorem isa_Target.mono : ∀ a0 k, LeO (isa_Target.f k a0) (isa_Target.f (k + 1) a0) := by
  intro a0 k
  unfold isa_Target.f
  have m0 := @isa_Decode.mono
  exact zMo
set_option maxHeartbeats 8000000 in
set_option maxRecDepth 100000 in
theorem isa_Target.calls (k : Nat) (a0 : Int) (r1 : Int) (r2 : Bool) (w : World) (h : isa_Target.f k a0 = some (r1, r2)) :
    Calls Try.prog 26 #[.int .u32 a0] w fun e w' => e = .returned (.tuple #[.int .i64 r1, .bool r2]) ∧ Below w.heap.size w w' := by
  have hu36 := Try.underlying36
  have HB := Aside0.mk (Below.refl w.heap.size w)
  have H := h
  clear h
  unfold isa_Target.f at H
  replace H := Option.bind_eq_some_iff.mp H
  obtain ⟨⟨t108, t109, t110, t111, t112⟩, A20, H⟩ := H
  (try dsimp only at H)
  have A2 := Aside0.mk A20
  clear A20
  replace H := Option.bind_eq_some_iff.mp H
  obtain ⟨t114, A30, H⟩ := H
  (try dsimp only at H)
  have A3 := Aside0.mk A30
  clear A30
  by_cases c4 : (Go.bits .and .i64 t114 16) = 0
  · rw [if_pos c4] at H
    have c4b0 := beq_iff_eq.mpr c4
    have c4b1 := bne_eq_false_iff_eq.mpr c4
    clear c4
    simp only [Option.some.injEq, Prod.mk.injEq] at H
    obtain ⟨rfl, rfl⟩ := H
    go_enter Try.func26, Try.ntmps26
    go_wp2_with (first | ((with_reducible refine gate_callee (f := 16) rfl ?_); refine zGo (N := (some 6)) Try.func16 #[.int .u32 a0] ?_; (with_reducible refine (isa_Decode.calls k a0 t108 t109 t110 t111 t112 _ A2.out).mono ?_); rintro e w5 ⟨rfl, hb⟩; refine ⟨_, rfl, ?_⟩; refine zs (below_step (zHB) hb) ?_; clear HB; intro HB; clear hb) | ((with_reducible refine gate_dst (N := 4) rfl ?_); refine zBox (N := 4) (cs := #[.int .i8 0, .int .i8 0, .int .i8 0, .int .i8 0, .int .i64 0]) (t := 36) ?_; intro gb113 hg w6 hbox hb; refine zs (below_step (zHB) hb) (zs hbox (zs (zGe hg zHB) (zs (zGe hg zHB) ?_))); clear HB; intro GE113 GW113 BK113 HB; clear hb hbox hg; have hcz7 := blk_cell BK113.out; have hfz7 := blk_frozen BK113.out) | ((with_reducible refine gate_callee (f := 72) rfl ?_); refine zGo (N := (some 9)) Try.func72 #[.int .i8 t108] ?_; (with_reducible refine (isa_has.calls t108 t114 _ A3.out).mono ?_); rintro e w8 ⟨rfl, hb⟩; refine ⟨_, rfl, ?_⟩; refine zs (blk_below (g := gb113) (o := .cells #[.int .i8 t108, .int .i8 t109, .int .i8 t110, .int .i8 t111, .int .i64 t112] 36 (0, 0)) (zBK) hb) (zs (below_step (zHB) hb) ?_); clear BK113 HB; intro HB BK113; clear hb))
    go_ret2
    exact ⟨zE, zHB⟩
  · rw [if_neg c4] at H
    have c4b0 := beq_eq_false_iff_ne.mpr c4
    have c4b1 := bne_iff_ne.mpr c4
    simp only [Option.some.injEq, Prod.mk.injEq] at H
    obtain ⟨rfl, rfl⟩ := H
    go_enter Try.func26, Try.ntmps26
    go_wp2_with (first | ((with_reducible refine gate_callee (f := 16) rfl ?_); refine zGo (N := (some 6)) Try.func16 #[.int .u32 a0] ?_; (with_reducible refine (isa_Decode.calls k a0 t108 t109 t110 t111 t112 _ A2.out).mono ?_); rintro e w9 ⟨rfl, hb⟩; refine ⟨_, rfl, ?_⟩; refine zs (below_step (zHB) hb) ?_; clear HB; intro HB; clear hb) | ((with_reducible refine gate_dst (N := 4) rfl ?_); refine zBox (N := 4) (cs := #[.int .i8 0, .int .i8 0, .int .i8 0, .int .i8 0, .int .i64 0]) (t := 36) ?_; intro gb113 hg w10 hbox hb; refine zs (below_step (zHB) hb) (zs hbox (zs (zGe hg zHB) (zs (zGe hg zHB) ?_))); clear HB; intro GE113 GW113 BK113 HB; clear hb hbox hg; have hcz11 := blk_cell BK113.out; have hfz11 := blk_frozen BK113.out) | ((with_reducible refine gate_callee (f := 72) rfl ?_); refine zGo (N := (some 9)) Try.func72 #[.int .i8 t108] ?_; (with_reducible refine (isa_has.calls t108 t114 _ A3.out).mono ?_); rintro e w12 ⟨rfl, hb⟩; refine ⟨_, rfl, ?_⟩; refine zs (blk_below (g := gb113) (o := .cells #[.int .i8 t108, .int .i8 t109, .int .i8 t110, .int .i8 t111, .int .i64 t112] 36 (0, 0)) (zBK) hb) (zs (below_step (zHB) hb) ?_); clear BK113 HB; intro HB BK113; clear hb; have hcz13 := blk_cell BK113.out; have hfz13 := blk_frozen BK113.out))
    go_ret2
    exact ⟨zE, zHB⟩

/-! ### isa_Ends: function 82 -/
def isa_Ends.f (k : Nat) (a0 : Int) : Option (Bool) := (isa_Decode.f k a0).bind fun bt115 => (if bt115.1 = (-1) then (some true) else (if bt115.1 = 0 then (some true) else (if bt115.1 = 15 then (some true) else (if bt115.1 = 16 then (some true) else (if bt115.1 = 17 then (some true) else (if bt115.1 = 18 then (some true) else (if bt115.1 = 19 then (some true) else (if bt115.1 = 21 then (some true) else (some false)))))))))
theorem isa_Ends.mono : ∀ a0 k, LeO (isa_Ends.f k a0) (isa_Ends.f (k + 1) a0) := by
  intro a0 k
  unfold isa_Ends.f
  have m0 := @isa_Decode.mono
  exact zMo
set_option maxHeartbeats 8000000 in
set_option maxRecDepth 100000 in
theorem isa_Ends.calls (k : Nat) (a0 : Int) (r : Bool) (w : World) (h : isa_Ends.f k a0 = some r) :
    Calls Try.prog 82 #[.int .u32 a0] w fun e w' => e = .returned (.bool r) ∧ Below w.heap.size w w' := by
  have hfd36_0 : ∀ (x0_ x1_ x2_ x3_ x4_ : Value) (W : World), (Instr.field 36 (.agg #[x0_, x1_, x2_, x3_, x4_]) 0).run Try.prog W = .ok (x0_) W := fun _ _ _ _ _ _ => by kernel_rfl
  have HB := Aside0.mk (Below.refl w.heap.size w)
  have H := h
  clear h
  unfold isa_Ends.f at H
  replace H := Option.bind_eq_some_iff.mp H
  obtain ⟨⟨t115, t116, t117, t118, t119⟩, A20, H⟩ := H
  (try dsimp only at H)
  have A2 := Aside0.mk A20
  clear A20
  by_cases c3 : t115 = (-1)
  · rw [if_pos c3] at H
    have c3b0 := beq_iff_eq.mpr c3
    have c3b1 := bne_eq_false_iff_eq.mpr c3
    clear c3
    obtain rfl := Option.some.inj H
    go_enter Try.func82, Try.ntmps82
    go_wp2_with (first | ((with_reducible refine gate_callee (f := 16) rfl ?_); refine zGo (N := (some 4)) Try.func16 #[.int .u32 a0] ?_; (with_reducible refine (isa_Decode.calls k a0 t115 t116 t117 t118 t119 _ A2.out).mono ?_); rintro e w4 ⟨rfl, hb⟩; refine ⟨_, rfl, ?_⟩; refine zs (below_step (zHB) hb) ?_; clear HB; intro HB; clear hb))
    go_ret
    exact ⟨zE, zHB⟩
  · rw [if_neg c3] at H
    have c3b0 := beq_eq_false_iff_ne.mpr c3
    have c3b1 := bne_iff_ne.mpr c3
    by_cases c5 : t115 = 0
    · rw [if_pos c5] at H
      have c5b0 := beq_iff_eq.mpr c5
      have c5b1 := bne_eq_false_iff_eq.mpr c5
      clear c5
      obtain rfl := Option.some.inj H
      go_enter Try.func82, Try.ntmps82
      go_wp2_with (first | ((with_reducible refine gate_callee (f := 16) rfl ?_); refine zGo (N := (some 4)) Try.func16 #[.int .u32 a0] ?_; (with_reducible refine (isa_Decode.calls k a0 t115 t116 t117 t118 t119 _ A2.out).mono ?_); rintro e w6 ⟨rfl, hb⟩; refine ⟨_, rfl, ?_⟩; refine zs (below_step (zHB) hb) ?_; clear HB; intro HB; clear hb))
      go_ret
      exact ⟨zE, zHB⟩
    · rw [if_neg c5] at H
      have c5b0 := beq_eq_false_iff_ne.mpr c5
      have c5b1 := bne_iff_ne.mpr c5
      by_cases c7 : t115 = 15
      · rw [if_pos c7] at H
        have c7b0 := beq_iff_eq.mpr c7
        have c7b1 := bne_eq_false_iff_eq.mpr c7
        clear c7
        obtain rfl := Option.some.inj H
        go_enter Try.func82, Try.ntmps82
        go_wp2_with (first | ((with_reducible refine gate_callee (f := 16) rfl ?_); refine zGo (N := (some 4)) Try.func16 #[.int .u32 a0] ?_; (with_reducible refine (isa_Decode.calls k a0 t115 t116 t117 t118 t119 _ A2.out).mono ?_); rintro e w8 ⟨rfl, hb⟩; refine ⟨_, rfl, ?_⟩; refine zs (below_step (zHB) hb) ?_; clear HB; intro HB; clear hb))
        go_ret
        exact ⟨zE, zHB⟩
      · rw [if_neg c7] at H
        have c7b0 := beq_eq_false_iff_ne.mpr c7
        have c7b1 := bne_iff_ne.mpr c7
        by_cases c9 : t115 = 16
        · rw [if_pos c9] at H
          have c9b0 := beq_iff_eq.mpr c9
          have c9b1 := bne_eq_false_iff_eq.mpr c9
          clear c9
          obtain rfl := Option.some.inj H
          go_enter Try.func82, Try.ntmps82
          go_wp2_with (first | ((with_reducible refine gate_callee (f := 16) rfl ?_); refine zGo (N := (some 4)) Try.func16 #[.int .u32 a0] ?_; (with_reducible refine (isa_Decode.calls k a0 t115 t116 t117 t118 t119 _ A2.out).mono ?_); rintro e w10 ⟨rfl, hb⟩; refine ⟨_, rfl, ?_⟩; refine zs (below_step (zHB) hb) ?_; clear HB; intro HB; clear hb))
          go_ret
          exact ⟨zE, zHB⟩
        · rw [if_neg c9] at H
          have c9b0 := beq_eq_false_iff_ne.mpr c9
          have c9b1 := bne_iff_ne.mpr c9
          by_cases c11 : t115 = 17
          · rw [if_pos c11] at H
            have c11b0 := beq_iff_eq.mpr c11
            have c11b1 := bne_eq_false_iff_eq.mpr c11
            clear c11
            obtain rfl := Option.some.inj H
            go_enter Try.func82, Try.ntmps82
            go_wp2_with (first | ((with_reducible refine gate_callee (f := 16) rfl ?_); refine zGo (N := (some 4)) Try.func16 #[.int .u32 a0] ?_; (with_reducible refine (isa_Decode.calls k a0 t115 t116 t117 t118 t119 _ A2.out).mono ?_); rintro e w12 ⟨rfl, hb⟩; refine ⟨_, rfl, ?_⟩; refine zs (below_step (zHB) hb) ?_; clear HB; intro HB; clear hb))
            go_ret
            exact ⟨zE, zHB⟩
          · rw [if_neg c11] at H
            have c11b0 := beq_eq_false_iff_ne.mpr c11
            have c11b1 := bne_iff_ne.mpr c11
            by_cases c13 : t115 = 18
            · rw [if_pos c13] at H
              have c13b0 := beq_iff_eq.mpr c13
              have c13b1 := bne_eq_false_iff_eq.mpr c13
              clear c13
              obtain rfl := Option.some.inj H
              go_enter Try.func82, Try.ntmps82
              go_wp2_with (first | ((with_reducible refine gate_callee (f := 16) rfl ?_); refine zGo (N := (some 4)) Try.func16 #[.int .u32 a0] ?_; (with_reducible refine (isa_Decode.calls k a0 t115 t116 t117 t118 t119 _ A2.out).mono ?_); rintro e w14 ⟨rfl, hb⟩; refine ⟨_, rfl, ?_⟩; refine zs (below_step (zHB) hb) ?_; clear HB; intro HB; clear hb))
              go_ret
              exact ⟨zE, zHB⟩
            · rw [if_neg c13] at H
              have c13b0 := beq_eq_false_iff_ne.mpr c13
              have c13b1 := bne_iff_ne.mpr c13
              by_cases c15 : t115 = 19
              · rw [if_pos c15] at H
                have c15b0 := beq_iff_eq.mpr c15
                have c15b1 := bne_eq_false_iff_eq.mpr c15
                clear c15
                obtain rfl := Option.some.inj H
                go_enter Try.func82, Try.ntmps82
                go_wp2_with (first | ((with_reducible refine gate_callee (f := 16) rfl ?_); refine zGo (N := (some 4)) Try.func16 #[.int .u32 a0] ?_; (with_reducible refine (isa_Decode.calls k a0 t115 t116 t117 t118 t119 _ A2.out).mono ?_); rintro e w16 ⟨rfl, hb⟩; refine ⟨_, rfl, ?_⟩; refine zs (below_step (zHB) hb) ?_; clear HB; intro HB; clear hb))
                go_ret
                exact ⟨zE, zHB⟩
              · rw [if_neg c15] at H
                have c15b0 := beq_eq_false_iff_ne.mpr c15
                have c15b1 := bne_iff_ne.mpr c15
                by_cases c17 : t115 = 21
                · rw [if_pos c17] at H
                  have c17b0 := beq_iff_eq.mpr c17
                  have c17b1 := bne_eq_false_iff_eq.mpr c17
                  clear c17
                  obtain rfl := Option.some.inj H
                  go_enter Try.func82, Try.ntmps82
                  go_wp2_with (first | ((with_reducible refine gate_callee (f := 16) rfl ?_); refine zGo (N := (some 4)) Try.func16 #[.int .u32 a0] ?_; (with_reducible refine (isa_Decode.calls k a0 t115 t116 t117 t118 t119 _ A2.out).mono ?_); rintro e w18 ⟨rfl, hb⟩; refine ⟨_, rfl, ?_⟩; refine zs (below_step (zHB) hb) ?_; clear HB; intro HB; clear hb))
                  go_ret
                  exact ⟨zE, zHB⟩
                · rw [if_neg c17] at H
                  have c17b0 := beq_eq_false_iff_ne.mpr c17
                  have c17b1 := bne_iff_ne.mpr c17
                  obtain rfl := Option.some.inj H
                  go_enter Try.func82, Try.ntmps82
                  go_wp2_with (first | ((with_reducible refine gate_callee (f := 16) rfl ?_); refine zGo (N := (some 4)) Try.func16 #[.int .u32 a0] ?_; (with_reducible refine (isa_Decode.calls k a0 t115 t116 t117 t118 t119 _ A2.out).mono ?_); rintro e w19 ⟨rfl, hb⟩; refine ⟨_, rfl, ?_⟩; refine zs (below_step (zHB) hb) ?_; clear HB; intro HB; clear hb))
                  go_ret
                  exact ⟨zE, zHB⟩

/-! ### image_Check: function 22 -/
def image_Check.l0 : Nat → Int → List Int → Int → Int → List Int → Int → List Int → Option (Int × Int)
  | 0, _, _, _, _, _, _, _ => none
  | k + 1, x4, x34, x35, x36, x121000, x121001, x121002 => if x36 < x35 then (if 0 ≤ x36 then (if x36 < (x34.length : Int) then ((isa_Target.f k (rd x34 x36)).bind fun bt122 => (if bt122.2 = true then (if bt122.1 ≥ x4 then (some (22, x36)) else (image_Check.l0 k x4 x34 x35 (wrap64 (x36 + 1)) x121000 x121001 x121002)) else (image_Check.l0 k x4 x34 x35 (wrap64 (x36 + 1)) x121000 x121001 x121002))) else (none)) else (none)) else (if 0 ≤ (wrap64 (x4 - 1)) then (if (wrap64 (x4 - 1)) < (x121000.length : Int) then ((isa_Decode.f k (rd x121000 (wrap64 (x4 - 1)))).bind fun bt125 => (if bt125.1 = 0 then (some (0, 0)) else (if bt125.1 = 15 then (some (0, 0)) else (if bt125.1 = 19 then (some (0, 0)) else (if bt125.1 = 21 then (some (0, 0)) else (some (50, wrap64 (x4 - 1)))))))) else (none)) else (none))
def image_Check.f (k : Nat) (l0_0 : List Int) (a0_1 : Int) (l0_2 : List Int) : Option (Int × Int) := if (l0_0.length : Int) = 0 then (some (50, 0)) else (if (l0_0.length : Int) > 16384 then (some (42, 16384)) else (if (l0_2.length : Int) > 4096 then (some (25, 4096)) else (if a0_1 < 0 then (some (41, 0)) else (if a0_1 ≥ (l0_0.length : Int) then (some (41, 0)) else (image_Check.l0 k (l0_0.length : Int) l0_0 (l0_0.length : Int) 0 l0_0 a0_1 l0_2)))))
theorem image_Check.mono_l : ∀ k, (∀ y0 y1 y2 y3 y4 y5 y6, LeO (image_Check.l0 k y0 y1 y2 y3 y4 y5 y6) (image_Check.l0 (k + 1) y0 y1 y2 y3 y4 y5 y6))
  | 0 => fun _ _ _ _ _ _ _ r h => by simp [image_Check.l0] at h
  | k + 1 => by
    have ih0 := image_Check.mono_l k
    · intro y0 y1 y2 y3 y4 y5 y6
      unfold image_Check.l0
      have m0 := @isa_Decode.mono
      have m1 := @isa_Target.mono
      exact zMo
theorem image_Check.mono : ∀ a0 a1 a2 k, LeO (image_Check.f k a0 a1 a2) (image_Check.f (k + 1) a0 a1 a2) := by
  intro a0 a1 a2 k
  have ih0 := image_Check.mono_l k
  unfold image_Check.f
  have m0 := @isa_Decode.mono
  have m1 := @isa_Target.mono
  exact zMo
set_option maxHeartbeats 8000000 in
set_option maxRecDepth 100000 in
theorem image_Check.calls (k : Nat) (A0_0 : Option Addr) (c0_0 : Nat) (l0_0 : List Int) (a0_1 : Int) (A0_2 : Option Addr) (c0_2 : Nat) (l0_2 : List Int) (r1 : Int) (r2 : Int) (w : World) (hr0_0 : Kd.C (Kd.int .u32) w A0_0 l0_0.length l0_0) (hc0_0 : l0_0.length ≤ c0_0) (hr0_2 : Kd.C (Kd.int .i64) w A0_2 l0_2.length l0_2) (hc0_2 : l0_2.length ≤ c0_2) (h : image_Check.f k l0_0 a0_1 l0_2 = some (r1, r2)) :
    Calls Try.prog 22 #[.agg #[.slice A0_0 l0_0.length c0_0, .int .i64 a0_1, .slice A0_2 l0_2.length c0_2]] w fun e w' => e = .returned (.tuple #[.int .i64 r1, .int .i64 r2]) ∧ Below w.heap.size w w' := by
  have hu25 := Try.underlying25
  have hfd36_0 : ∀ (x0_ x1_ x2_ x3_ x4_ : Value) (W : World), (Instr.field 36 (.agg #[x0_, x1_, x2_, x3_, x4_]) 0).run Try.prog W = .ok (x0_) W := fun _ _ _ _ _ _ => by kernel_rfl
  have HR0_0 := Aside0.mk hr0_0
  have HC0_0 := Aside0.mk hc0_0
  clear hr0_0 hc0_0
  have HR0_2 := Aside0.mk hr0_2
  have HC0_2 := Aside0.mk hc0_2
  clear hr0_2 hc0_2
  have HB := Aside0.mk (Below.refl w.heap.size w)
  have H := h
  clear h
  unfold image_Check.f at H
  by_cases c2 : (l0_0.length : Int) = 0
  · rw [if_pos c2] at H
    have c2b0 := beq_iff_eq.mpr c2
    have c2b1 := bne_eq_false_iff_eq.mpr c2
    clear c2
    simp only [Option.some.injEq, Prod.mk.injEq] at H
    obtain ⟨rfl, rfl⟩ := H
    go_enter Try.func22, Try.ntmps22
    go_wp2_with (first | ((with_reducible refine gate_dst (N := 1) rfl ?_); refine zBox (N := 1) (cs := #[.slice A0_0 l0_0.length c0_0, .int .i64 a0_1, .slice A0_2 l0_2.length c0_2]) (t := 25) ?_; intro gb120 hg w3 hbox hb; refine zs (below_step (zHB) hb) (zs hbox (zs (zGe hg zHB) (zs (zGe hg zHB) ?_))); clear HB; intro GE120 GW120 BK120 HB; clear hb hbox hg; have hcz4 := blk_cell BK120.out; have hfz4 := blk_frozen BK120.out))
    go_ret2
    exact ⟨zE, zHB⟩
  · rw [if_neg c2] at H
    have c2b0 := beq_eq_false_iff_ne.mpr c2
    have c2b1 := bne_iff_ne.mpr c2
    have c2b2 : ¬ (l0_0 = []) := fun h_ => c2 (by rw [h_]; rfl)
    by_cases c5 : (l0_0.length : Int) > 16384
    · rw [if_pos c5] at H
      have c5b0 : decide (16384 < (l0_0.length : Int)) = true := decide_eq_true c5
      have c5b1 : decide (16384 < l0_0.length) = true := decide_eq_true (by omega)
      clear c5
      simp only [Option.some.injEq, Prod.mk.injEq] at H
      obtain ⟨rfl, rfl⟩ := H
      go_enter Try.func22, Try.ntmps22
      go_wp2_with (first | ((with_reducible refine gate_dst (N := 1) rfl ?_); refine zBox (N := 1) (cs := #[.slice A0_0 l0_0.length c0_0, .int .i64 a0_1, .slice A0_2 l0_2.length c0_2]) (t := 25) ?_; intro gb120 hg w6 hbox hb; refine zs (below_step (zHB) hb) (zs hbox (zs (zGe hg zHB) (zs (zGe hg zHB) ?_))); clear HB; intro GE120 GW120 BK120 HB; clear hb hbox hg; have hcz7 := blk_cell BK120.out; have hfz7 := blk_frozen BK120.out))
      go_ret2
      exact ⟨zE, zHB⟩
    · rw [if_neg c5] at H
      have c5b0 : decide (16384 < (l0_0.length : Int)) = false := decide_eq_false c5
      have c5b1 : decide (16384 < l0_0.length) = false := decide_eq_false (by omega)
      clear c5
      by_cases c8 : (l0_2.length : Int) > 4096
      · rw [if_pos c8] at H
        have c8b0 : decide (4096 < (l0_2.length : Int)) = true := decide_eq_true c8
        have c8b1 : decide (4096 < l0_2.length) = true := decide_eq_true (by omega)
        clear c8
        simp only [Option.some.injEq, Prod.mk.injEq] at H
        obtain ⟨rfl, rfl⟩ := H
        go_enter Try.func22, Try.ntmps22
        go_wp2_with (first | ((with_reducible refine gate_dst (N := 1) rfl ?_); refine zBox (N := 1) (cs := #[.slice A0_0 l0_0.length c0_0, .int .i64 a0_1, .slice A0_2 l0_2.length c0_2]) (t := 25) ?_; intro gb120 hg w9 hbox hb; refine zs (below_step (zHB) hb) (zs hbox (zs (zGe hg zHB) (zs (zGe hg zHB) ?_))); clear HB; intro GE120 GW120 BK120 HB; clear hb hbox hg; have hcz10 := blk_cell BK120.out; have hfz10 := blk_frozen BK120.out))
        go_ret2
        exact ⟨zE, zHB⟩
      · rw [if_neg c8] at H
        have c8b0 : decide (4096 < (l0_2.length : Int)) = false := decide_eq_false c8
        have c8b1 : decide (4096 < l0_2.length) = false := decide_eq_false (by omega)
        clear c8
        by_cases c11 : a0_1 < 0
        · rw [if_pos c11] at H
          have c11b0 := decide_eq_true c11
          clear c11
          simp only [Option.some.injEq, Prod.mk.injEq] at H
          obtain ⟨rfl, rfl⟩ := H
          go_enter Try.func22, Try.ntmps22
          go_wp2_with (first | ((with_reducible refine gate_dst (N := 1) rfl ?_); refine zBox (N := 1) (cs := #[.slice A0_0 l0_0.length c0_0, .int .i64 a0_1, .slice A0_2 l0_2.length c0_2]) (t := 25) ?_; intro gb120 hg w12 hbox hb; refine zs (below_step (zHB) hb) (zs hbox (zs (zGe hg zHB) (zs (zGe hg zHB) ?_))); clear HB; intro GE120 GW120 BK120 HB; clear hb hbox hg; have hcz13 := blk_cell BK120.out; have hfz13 := blk_frozen BK120.out))
          go_ret2
          exact ⟨zE, zHB⟩
        · rw [if_neg c11] at H
          have c11b0 := decide_eq_false c11
          clear c11
          by_cases c14 : a0_1 ≥ (l0_0.length : Int)
          · rw [if_pos c14] at H
            have c14b0 : decide ((l0_0.length : Int) ≤ a0_1) = true := decide_eq_true c14
            clear c14
            simp only [Option.some.injEq, Prod.mk.injEq] at H
            obtain ⟨rfl, rfl⟩ := H
            go_enter Try.func22, Try.ntmps22
            go_wp2_with (first | ((with_reducible refine gate_dst (N := 1) rfl ?_); refine zBox (N := 1) (cs := #[.slice A0_0 l0_0.length c0_0, .int .i64 a0_1, .slice A0_2 l0_2.length c0_2]) (t := 25) ?_; intro gb120 hg w15 hbox hb; refine zs (below_step (zHB) hb) (zs hbox (zs (zGe hg zHB) (zs (zGe hg zHB) ?_))); clear HB; intro GE120 GW120 BK120 HB; clear hb hbox hg; have hcz16 := blk_cell BK120.out; have hfz16 := blk_frozen BK120.out))
            go_ret2
            exact ⟨zE, zHB⟩
          · rw [if_neg c14] at H
            have c14b0 : decide ((l0_0.length : Int) ≤ a0_1) = false := decide_eq_false c14
            clear c14
            have H' := Aside0.mk H
            clear H
            go_enter Try.func22, Try.ntmps22
            go_wp2_with (first | ((with_reducible refine gate_dst (N := 1) rfl ?_); refine zBox (N := 1) (cs := #[.slice A0_0 l0_0.length c0_0, .int .i64 a0_1, .slice A0_2 l0_2.length c0_2]) (t := 25) ?_; intro gb120 hg w17 hbox hb; refine zs (below_step (zHB) hb) (zs hbox (zs (zGe hg zHB) (zs (zGe hg zHB) ?_))); clear HB; intro GE120 GW120 BK120 HB; clear hb hbox hg; have hcz18 := blk_cell BK120.out; have hfz18 := blk_frozen BK120.out))
            go_loopg [36] k (fun kq v36 w' => ∃ (x36_1 : Int), v36 = .int .i64 x36_1 ∧ Aside0 (image_Check.l0 kq (l0_0.length : Int) l0_0 (l0_0.length : Int) x36_1 l0_0 a0_1 l0_2 = some (r1, r2)) ∧ Aside0 (kq ≤ k) ∧ Aside0 (w'.heap[gb120]? = some (.cells #[(.slice A0_0 l0_0.length c0_0), .int .i64 a0_1, (.slice A0_2 l0_2.length c0_2)] 25 (0, 0))) ∧ Aside0 (Below w.heap.size w w'))
            case atStart => exact ⟨(0), zF', H', ⟨Nat.le_refl _⟩, ⟨zBK⟩, ⟨zHB⟩⟩
            case round =>
              clear H'
              try clear c11b0
              try clear c14b0
              try clear c2b0
              try clear c2b1
              try clear c2b2
              try clear c5b0
              try clear c5b1
              try clear c8b0
              try clear c8b1
              try clear hcz18
              try clear hfz18
              obtain ⟨x36_1, rfl, HA, HK1, BK120, HB⟩ := hrel
              cases gk with
              | zero => exact absurd HA.out (by simp [image_Check.l0])
              | succ k1 =>
                have H := HA.out
                clear HA
                simp only [image_Check.l0] at H
                by_cases c19 : x36_1 < (l0_0.length : Int)
                · rw [if_pos c19] at H
                  have c19b0 := decide_eq_true c19
                  clear c19
                  obtain ⟨c20, H⟩ := zG H
                  have c20b0 := decide_eq_true c20
                  clear c20
                  obtain ⟨c21, H⟩ := zG H
                  have c21b0 := decide_eq_true c21
                  clear c21
                  replace H := Option.bind_eq_some_iff.mp H
                  obtain ⟨⟨t122, t123⟩, A220, H⟩ := H
                  (try dsimp only at H)
                  have A22 := Aside0.mk A220
                  clear A220
                  by_cases c23 : t123 = true
                  · subst c23
                    rw [if_pos rfl] at H
                    by_cases c24 : t122 ≥ (l0_0.length : Int)
                    · rw [if_pos c24] at H
                      have c24b0 : decide ((l0_0.length : Int) ≤ t122) = true := decide_eq_true c24
                      clear c24
                      simp only [Option.some.injEq, Prod.mk.injEq] at H
                      obtain ⟨rfl, rfl⟩ := H
                      have p121 : 0 ≤ (x36_1 : Int) := zOD
                      have q121 : x36_1 < (l0_0.length : Int) := zOD
                      obtain ⟨ad121, e121, hx121_0⟩ := Kd.at_int HR0_0.out x36_1 p121 q121
                      cases e121
                      replace hx121_0 := (HB.out.cell (World.block_lt_of_cell? w _ hx121_0)).trans hx121_0
                      replace p121 := eq_true p121
                      replace q121 := eq_true q121
                      go_wp2_with (first | ((with_reducible refine gate_callee (f := 26) rfl ?_); refine zGo (N := (some 43)) Try.func26 #[.int .u32 (rd l0_0 x36_1)] ?_; (with_reducible refine (isa_Target.calls k1 (rd l0_0 x36_1) t122 true _ A22.out).mono ?_); rintro e w25 ⟨rfl, hb⟩; refine ⟨_, rfl, ?_⟩; refine zs (blk_below (g := gb120) zBK hb) (zs (below_step (zHB) hb) ?_); clear BK120 HB; intro HB BK120; clear hb))
                      go_ret2
                      exact ⟨zE, zHB⟩
                    · rw [if_neg c24] at H
                      have c24b0 : decide ((l0_0.length : Int) ≤ t122) = false := decide_eq_false c24
                      clear c24
                      have H' := Aside0.mk H
                      clear H
                      have p121 : 0 ≤ (x36_1 : Int) := zOD
                      have q121 : x36_1 < (l0_0.length : Int) := zOD
                      obtain ⟨ad121, e121, hx121_0⟩ := Kd.at_int HR0_0.out x36_1 p121 q121
                      cases e121
                      replace hx121_0 := (HB.out.cell (World.block_lt_of_cell? w _ hx121_0)).trans hx121_0
                      replace p121 := eq_true p121
                      replace q121 := eq_true q121
                      go_wp2_with (first | ((with_reducible refine gate_callee (f := 26) rfl ?_); refine zGo (N := (some 43)) Try.func26 #[.int .u32 (rd l0_0 x36_1)] ?_; (with_reducible refine (isa_Target.calls k1 (rd l0_0 x36_1) t122 true _ A22.out).mono ?_); rintro e w26 ⟨rfl, hb⟩; refine ⟨_, rfl, ?_⟩; refine zs (blk_below (g := gb120) zBK hb) (zs (below_step (zHB) hb) ?_); clear BK120 HB; intro HB BK120; clear hb))
                      go_roundg k1
                      case measure => have := HK1.out; omega
                      case rel => exact ⟨(wrap64 (x36_1 + 1)), zF', H', ⟨by have := HK1.out; omega⟩, ⟨zBK⟩, ⟨zHB⟩⟩
                  · replace c23 := Bool.eq_false_iff.mpr c23
                    subst c23
                    rw [if_neg (show ¬ (false = true) by decide)] at H
                    have H' := Aside0.mk H
                    clear H
                    have p121 : 0 ≤ (x36_1 : Int) := zOD
                    have q121 : x36_1 < (l0_0.length : Int) := zOD
                    obtain ⟨ad121, e121, hx121_0⟩ := Kd.at_int HR0_0.out x36_1 p121 q121
                    cases e121
                    replace hx121_0 := (HB.out.cell (World.block_lt_of_cell? w _ hx121_0)).trans hx121_0
                    replace p121 := eq_true p121
                    replace q121 := eq_true q121
                    go_wp2_with (first | ((with_reducible refine gate_callee (f := 26) rfl ?_); refine zGo (N := (some 43)) Try.func26 #[.int .u32 (rd l0_0 x36_1)] ?_; (with_reducible refine (isa_Target.calls k1 (rd l0_0 x36_1) t122 false _ A22.out).mono ?_); rintro e w27 ⟨rfl, hb⟩; refine ⟨_, rfl, ?_⟩; refine zs (blk_below (g := gb120) zBK hb) (zs (below_step (zHB) hb) ?_); clear BK120 HB; intro HB BK120; clear hb))
                    go_roundg k1
                    case measure => have := HK1.out; omega
                    case rel => exact ⟨(wrap64 (x36_1 + 1)), zF', H', ⟨by have := HK1.out; omega⟩, ⟨zBK⟩, ⟨zHB⟩⟩
                · rw [if_neg c19] at H
                  have c19b0 := decide_eq_false c19
                  clear c19
                  obtain ⟨ji28, hji28⟩ : ∃ j_ : Int, (wrap64 ((l0_0.length : Int) - 1)) = j_ := ⟨_, rfl⟩
                  (first | rw [hji28] at H | simp only [hji28] at H)
                  have hji28w : (IntKind.i64.wrap ((l0_0.length : Int) - 1)) = ji28 := (i64_w _).trans hji28
                  obtain ⟨c29, H⟩ := zG H
                  have c29b0 := decide_eq_true c29
                  clear c29
                  obtain ⟨c30, H⟩ := zG H
                  have c30b0 := decide_eq_true c30
                  clear c30
                  replace H := Option.bind_eq_some_iff.mp H
                  obtain ⟨⟨t125, t126, t127, t128, t129⟩, A310, H⟩ := H
                  (try dsimp only at H)
                  have A31 := Aside0.mk A310
                  clear A310
                  by_cases c32 : t125 = 0
                  · rw [if_pos c32] at H
                    have c32b0 := beq_iff_eq.mpr c32
                    have c32b1 := bne_eq_false_iff_eq.mpr c32
                    clear c32
                    simp only [Option.some.injEq, Prod.mk.injEq] at H
                    obtain ⟨rfl, rfl⟩ := H
                    have hcz33 := blk_cell BK120.out
                    have hfz33 := blk_frozen BK120.out
                    have p124 : 0 ≤ ((ji28) : Int) := zOD
                    have q124 : (ji28) < (l0_0.length : Int) := zOD
                    obtain ⟨ad124, e124, hx124_0⟩ := Kd.at_int HR0_0.out (ji28) p124 q124
                    cases e124
                    replace hx124_0 := (HB.out.cell (World.block_lt_of_cell? w _ hx124_0)).trans hx124_0
                    replace p124 := eq_true p124
                    replace q124 := eq_true q124
                    go_wp2_with (first | ((with_reducible refine gate_callee (f := 16) rfl ?_); refine goesL_ (some 60) rfl rfl Try.func16 (by kernel_rfl) rfl #[.int .u32 (rd l0_0 (ji28))] rfl (by (try simp only [List.map_toArray, List.map_cons, List.map_nil]); first | done | (simp only [hji28]; rfl) | rfl | (simp only [List.length_drop, List.length_take]; rfl)) ?_; (with_reducible refine (isa_Decode.calls k1 (rd l0_0 (ji28)) t125 t126 t127 t128 t129 _ A31.out).mono ?_); rintro e w34 ⟨rfl, hb⟩; refine ⟨_, rfl, ?_⟩; refine zs (blk_below (g := gb120) zBK hb) (zs (below_step (zHB) hb) ?_); clear BK120 HB; intro HB BK120; clear hb))
                    go_ret2
                    exact ⟨by first | rfl | (simp [errW_none, errW_some] <;> rfl) | (simp only [← hji28]; first | rfl | (simp [errW_none, errW_some] <;> rfl)) | (simp [*, errW_none, errW_some] <;> rfl), zHB⟩
                  · rw [if_neg c32] at H
                    have c32b0 := beq_eq_false_iff_ne.mpr c32
                    have c32b1 := bne_iff_ne.mpr c32
                    by_cases c35 : t125 = 15
                    · rw [if_pos c35] at H
                      have c35b0 := beq_iff_eq.mpr c35
                      have c35b1 := bne_eq_false_iff_eq.mpr c35
                      clear c35
                      simp only [Option.some.injEq, Prod.mk.injEq] at H
                      obtain ⟨rfl, rfl⟩ := H
                      have hcz36 := blk_cell BK120.out
                      have hfz36 := blk_frozen BK120.out
                      have p124 : 0 ≤ ((ji28) : Int) := zOD
                      have q124 : (ji28) < (l0_0.length : Int) := zOD
                      obtain ⟨ad124, e124, hx124_0⟩ := Kd.at_int HR0_0.out (ji28) p124 q124
                      cases e124
                      replace hx124_0 := (HB.out.cell (World.block_lt_of_cell? w _ hx124_0)).trans hx124_0
                      replace p124 := eq_true p124
                      replace q124 := eq_true q124
                      go_wp2_with (first | ((with_reducible refine gate_callee (f := 16) rfl ?_); refine goesL_ (some 60) rfl rfl Try.func16 (by kernel_rfl) rfl #[.int .u32 (rd l0_0 (ji28))] rfl (by (try simp only [List.map_toArray, List.map_cons, List.map_nil]); first | done | (simp only [hji28]; rfl) | rfl | (simp only [List.length_drop, List.length_take]; rfl)) ?_; (with_reducible refine (isa_Decode.calls k1 (rd l0_0 (ji28)) t125 t126 t127 t128 t129 _ A31.out).mono ?_); rintro e w37 ⟨rfl, hb⟩; refine ⟨_, rfl, ?_⟩; refine zs (blk_below (g := gb120) zBK hb) (zs (below_step (zHB) hb) ?_); clear BK120 HB; intro HB BK120; clear hb))
                      go_ret2
                      exact ⟨by first | rfl | (simp [errW_none, errW_some] <;> rfl) | (simp only [← hji28]; first | rfl | (simp [errW_none, errW_some] <;> rfl)) | (simp [*, errW_none, errW_some] <;> rfl), zHB⟩
                    · rw [if_neg c35] at H
                      have c35b0 := beq_eq_false_iff_ne.mpr c35
                      have c35b1 := bne_iff_ne.mpr c35
                      by_cases c38 : t125 = 19
                      · rw [if_pos c38] at H
                        have c38b0 := beq_iff_eq.mpr c38
                        have c38b1 := bne_eq_false_iff_eq.mpr c38
                        clear c38
                        simp only [Option.some.injEq, Prod.mk.injEq] at H
                        obtain ⟨rfl, rfl⟩ := H
                        have hcz39 := blk_cell BK120.out
                        have hfz39 := blk_frozen BK120.out
                        have p124 : 0 ≤ ((ji28) : Int) := zOD
                        have q124 : (ji28) < (l0_0.length : Int) := zOD
                        obtain ⟨ad124, e124, hx124_0⟩ := Kd.at_int HR0_0.out (ji28) p124 q124
                        cases e124
                        replace hx124_0 := (HB.out.cell (World.block_lt_of_cell? w _ hx124_0)).trans hx124_0
                        replace p124 := eq_true p124
                        replace q124 := eq_true q124
                        go_wp2_with (first | ((with_reducible refine gate_callee (f := 16) rfl ?_); refine goesL_ (some 60) rfl rfl Try.func16 (by kernel_rfl) rfl #[.int .u32 (rd l0_0 (ji28))] rfl (by (try simp only [List.map_toArray, List.map_cons, List.map_nil]); first | done | (simp only [hji28]; rfl) | rfl | (simp only [List.length_drop, List.length_take]; rfl)) ?_; (with_reducible refine (isa_Decode.calls k1 (rd l0_0 (ji28)) t125 t126 t127 t128 t129 _ A31.out).mono ?_); rintro e w40 ⟨rfl, hb⟩; refine ⟨_, rfl, ?_⟩; refine zs (blk_below (g := gb120) zBK hb) (zs (below_step (zHB) hb) ?_); clear BK120 HB; intro HB BK120; clear hb))
                        go_ret2
                        exact ⟨by first | rfl | (simp [errW_none, errW_some] <;> rfl) | (simp only [← hji28]; first | rfl | (simp [errW_none, errW_some] <;> rfl)) | (simp [*, errW_none, errW_some] <;> rfl), zHB⟩
                      · rw [if_neg c38] at H
                        have c38b0 := beq_eq_false_iff_ne.mpr c38
                        have c38b1 := bne_iff_ne.mpr c38
                        by_cases c41 : t125 = 21
                        · rw [if_pos c41] at H
                          have c41b0 := beq_iff_eq.mpr c41
                          have c41b1 := bne_eq_false_iff_eq.mpr c41
                          clear c41
                          simp only [Option.some.injEq, Prod.mk.injEq] at H
                          obtain ⟨rfl, rfl⟩ := H
                          have hcz42 := blk_cell BK120.out
                          have hfz42 := blk_frozen BK120.out
                          have p124 : 0 ≤ ((ji28) : Int) := zOD
                          have q124 : (ji28) < (l0_0.length : Int) := zOD
                          obtain ⟨ad124, e124, hx124_0⟩ := Kd.at_int HR0_0.out (ji28) p124 q124
                          cases e124
                          replace hx124_0 := (HB.out.cell (World.block_lt_of_cell? w _ hx124_0)).trans hx124_0
                          replace p124 := eq_true p124
                          replace q124 := eq_true q124
                          go_wp2_with (first | ((with_reducible refine gate_callee (f := 16) rfl ?_); refine goesL_ (some 60) rfl rfl Try.func16 (by kernel_rfl) rfl #[.int .u32 (rd l0_0 (ji28))] rfl (by (try simp only [List.map_toArray, List.map_cons, List.map_nil]); first | done | (simp only [hji28]; rfl) | rfl | (simp only [List.length_drop, List.length_take]; rfl)) ?_; (with_reducible refine (isa_Decode.calls k1 (rd l0_0 (ji28)) t125 t126 t127 t128 t129 _ A31.out).mono ?_); rintro e w43 ⟨rfl, hb⟩; refine ⟨_, rfl, ?_⟩; refine zs (blk_below (g := gb120) zBK hb) (zs (below_step (zHB) hb) ?_); clear BK120 HB; intro HB BK120; clear hb))
                          go_ret2
                          exact ⟨by first | rfl | (simp [errW_none, errW_some] <;> rfl) | (simp only [← hji28]; first | rfl | (simp [errW_none, errW_some] <;> rfl)) | (simp [*, errW_none, errW_some] <;> rfl), zHB⟩
                        · rw [if_neg c41] at H
                          have c41b0 := beq_eq_false_iff_ne.mpr c41
                          have c41b1 := bne_iff_ne.mpr c41
                          simp only [Option.some.injEq, Prod.mk.injEq] at H
                          obtain ⟨rfl, rfl⟩ := H
                          have hcz44 := blk_cell BK120.out
                          have hfz44 := blk_frozen BK120.out
                          have p124 : 0 ≤ ((ji28) : Int) := zOD
                          have q124 : (ji28) < (l0_0.length : Int) := zOD
                          obtain ⟨ad124, e124, hx124_0⟩ := Kd.at_int HR0_0.out (ji28) p124 q124
                          cases e124
                          replace hx124_0 := (HB.out.cell (World.block_lt_of_cell? w _ hx124_0)).trans hx124_0
                          replace p124 := eq_true p124
                          replace q124 := eq_true q124
                          go_wp2_with (first | ((with_reducible refine gate_callee (f := 16) rfl ?_); refine goesL_ (some 60) rfl rfl Try.func16 (by kernel_rfl) rfl #[.int .u32 (rd l0_0 (ji28))] rfl (by (try simp only [List.map_toArray, List.map_cons, List.map_nil]); first | done | (simp only [hji28]; rfl) | rfl | (simp only [List.length_drop, List.length_take]; rfl)) ?_; (with_reducible refine (isa_Decode.calls k1 (rd l0_0 (ji28)) t125 t126 t127 t128 t129 _ A31.out).mono ?_); rintro e w45 ⟨rfl, hb⟩; refine ⟨_, rfl, ?_⟩; refine zs (blk_below (g := gb120) zBK hb) (zs (below_step (zHB) hb) ?_); clear BK120 HB; intro HB BK120; clear hb))
                          go_ret2
                          exact ⟨by first | rfl | (simp [errW_none, errW_some] <;> rfl) | (simp only [← hji28]; first | rfl | (simp [errW_none, errW_some] <;> rfl)) | (simp [*, errW_none, errW_some] <;> rfl), zHB⟩

end Go.Proofs.Ytfgdjpgdabjpmaa.PEdgeRuns
