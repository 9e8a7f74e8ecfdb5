-- Written for this claim by a program of this session (wip/tools/pp.py, over the kit's print).
import Derived.Test.YtfgdjpgdabjpmaaDoorPImageReadsx0
import Derived.Test.YtfgdjpgdabjpmaaDoorPImageReadsx7
import Derived.Test.YtfgdjpgdabjpmaaDoorPImageReadsx8
namespace Go.Proofs.YtfgdjpgdabjpmaaDoor.PImageReads
open Go.RowKit Go.Proofs.YtfgdjpgdabjpmaaDoorW.PrintWords Go.Proofs.YtfgdjpgdabjpmaaDoorW.PrintLast Go.Proofs.YtfgdjpgdabjpmaaDoorW.PrintMore
attribute [local go_sem] max2_int min2_int max_two min_two max_three min_three max_four min_four   -- for this text's walks alone
set_option linter.unusedVariables false
set_option linter.unusedSimpArgs false

/-! ### pleatref02_Decode: function 67 -/
def pleatref02_Decode.j0 : Nat → Int → Bool → Int → Int → Int → Int → Int → Option (Int × Int × Int × Int × Int)
  | 0, _, _, _, _, _, _, _ => none
  | k + 1, x0, x40, x204000, x204001, x204002, x204003, x204004 => if x40 = true then ((pleatref02_Encode.f k x204000 x204001 x204002 x204003 (wrap64 (x204004 - 32768))).bind fun bt210 => (if bt210.2 = 0 then (if bt210.1 = x0 then (some (x204000, x204001, x204002, x204003, wrap64 (x204004 - 32768))) else (some ((-1), 0, 0, 0, wrap64 (x0)))) else (some ((-1), 0, 0, 0, wrap64 (x0))))) else ((pleatref02_Encode.f k x204000 x204001 x204002 x204003 x204004).bind fun bt212 => (if bt212.2 = 0 then (if bt212.1 = x0 then (some (x204000, x204001, x204002, x204003, x204004)) else (some ((-1), 0, 0, 0, wrap64 (x0)))) else (some ((-1), 0, 0, 0, wrap64 (x0)))))
def pleatref02_Decode.f (k : Nat) (a0 : Int) : Option (Int × Int × Int × Int × Int) := (pleatref02_Has.f k (IntKind.i8.wrap (a0 / 134217728))).bind fun bt204 => (if bt204.2.2.2.1 = true then (if bt204.2.2.2.2 = true then (pleatref02_Decode.j0 k a0 false (IntKind.i8.wrap (a0 / 134217728)) (IntKind.i8.wrap (Go.bits .and .u32 (a0 / 8388608) 15)) (IntKind.i8.wrap (Go.bits .and .u32 (a0 / 524288) 15)) (IntKind.i8.wrap (Go.bits .and .u32 (a0 / 32768) 15)) (wrap64 (Go.bits .and .u32 a0 32767))) else (pleatref02_Decode.j0 k a0 (decide ((wrap64 (Go.bits .and .u32 a0 32767)) ≥ 16384)) (IntKind.i8.wrap (a0 / 134217728)) (IntKind.i8.wrap (Go.bits .and .u32 (a0 / 8388608) 15)) (IntKind.i8.wrap (Go.bits .and .u32 (a0 / 524288) 15)) (IntKind.i8.wrap (Go.bits .and .u32 (a0 / 32768) 15)) (wrap64 (Go.bits .and .u32 a0 32767)))) else (pleatref02_Decode.j0 k a0 false (IntKind.i8.wrap (a0 / 134217728)) (IntKind.i8.wrap (Go.bits .and .u32 (a0 / 8388608) 15)) (IntKind.i8.wrap (Go.bits .and .u32 (a0 / 524288) 15)) (IntKind.i8.wrap (Go.bits .and .u32 (a0 / 32768) 15)) (wrap64 (Go.bits .and .u32 a0 32767))))
theorem pleatref02_Decode.mono_l : ∀ k, (∀ y0 y1 y2 y3 y4 y5 y6, LeO (pleatref02_Decode.j0 k y0 y1 y2 y3 y4 y5 y6) (pleatref02_Decode.j0 (k + 1) y0 y1 y2 y3 y4 y5 y6))
  | 0 => fun _ _ _ _ _ _ _ r h => by simp [pleatref02_Decode.j0] at h
  | k + 1 => by
    have ih0 := pleatref02_Decode.mono_l k
    · intro y0 y1 y2 y3 y4 y5 y6
      unfold pleatref02_Decode.j0
      have m0 := @pleatref02_Encode.mono
      have m1 := @pleatref02_Has.mono
      exact zMo
theorem pleatref02_Decode.mono : ∀ a0 k, LeO (pleatref02_Decode.f k a0) (pleatref02_Decode.f (k + 1) a0) := by
  intro a0 k
  have ih0 := pleatref02_Decode.mono_l k
  unfold pleatref02_Decode.f
  have m0 := @pleatref02_Encode.mono
  have m1 := @pleatref02_Has.mono
  exact zMo
set_option maxHeartbeats 8000000 in
set_option maxRecDepth 100000 in
theorem pleatref02_Decode.calls (k : Nat) (a0 : Int) (r1 : Int) (r2 : Int) (r3 : Int) (r4 : Int) (r5 : Int) (w : World) (h : pleatref02_Decode.f k a0 = some (r1, r2, r3, r4, r5)) :
    Calls Tryd.prog 67 #[.int .u32 a0] w fun e w' => e = .returned (.agg #[.int .i8 r1, .int .i8 r2, .int .i8 r3, .int .i8 r4, .int .i64 r5]) ∧ Below w.heap.size w w' := by
  have hu94 := Tryd.underlying94
  have hu150 := Tryd.underlying150
  have HB := Aside0.mk (Below.refl w.heap.size w)
  have H := h
  clear h
  unfold pleatref02_Decode.f at H
  replace H := Option.bind_eq_some_iff.mp H
  obtain ⟨⟨t204, t205, t206, t207, t208⟩, A20, H⟩ := H
  (try dsimp only at H)
  have A2 := Aside0.mk A20
  clear A20
  have HC3 := Aside0.mk H
  clear H
  go_enter Tryd.func67, Tryd.ntmps67
  go_upto_region 3 with (first | ((with_reducible refine gate_dst (N := 2) rfl ?_); refine zBox (N := 2) (cs := #[.int .i8 0, .int .i8 0, .int .i8 0, .int .i8 0, .int .i64 0]) (t := 94) ?_; intro gb202 hg w4 hbox hb; refine zs (below_step (zHB) hb) (zs hbox (zs (zGe hg zHB) (zs (zGe hg zHB) ?_))); clear HB; intro GE202 GW202 BK202 HB; clear hb hbox hg) | ((with_reducible refine gate_dst (N := 3) rfl ?_); refine zBox (N := 3) (cs := #[.int .i8 0, .int .i8 0, .int .i8 0, .int .i8 0, .int .i64 0]) (t := 94) ?_; intro gb203 hg w5 hbox hb; refine zs (blk_below (g := gb202) zBK hb) (zs (below_step (zHB) hb) (zs hbox (zs (zGe hg zHB) (zs (zGe hg zHB) (zs (zNl hg zBK : gb202 ≠ gb203) (zs ((zNg hg zBK : gb203 ≠ gb202)) ?_)))))); clear BK202 HB; intro NB203_202 NB202_203 GE203 GW203 BK203 HB BK202; clear hb hbox hg; have hnb6 := NB203_202.out; have hnc6 := NB202_203.out; have hcz7 := blk_cell BK203.out; have hfz7 := blk_frozen BK203.out) | ((with_reducible refine gate_callee (f := 86) rfl ?_); refine zGo (N := (some 28)) Tryd.func86 #[.int .i8 (IntKind.i8.wrap (a0 / 134217728))] ?_; (with_reducible refine (pleatref02_Has.calls k (IntKind.i8.wrap (a0 / 134217728)) t204 t205 t206 t207 t208 _ A2.out).mono ?_); rintro e w8 ⟨rfl, hb⟩; refine ⟨_, rfl, ?_⟩; refine zs (blk_below (g := gb202) zBK hb) (zs (blk_below (g := gb203) (o := .cells #[.int .i8 (IntKind.i8.wrap (a0 / 134217728)), .int .i8 (IntKind.i8.wrap (Go.bits .and .u32 (a0 / 8388608) 15)), .int .i8 (IntKind.i8.wrap (Go.bits .and .u32 (a0 / 524288) 15)), .int .i8 (IntKind.i8.wrap (Go.bits .and .u32 (a0 / 32768) 15)), .int .i64 (wrap64 (Go.bits .and .u32 a0 32767))] 94 (0, 0)) (zBK) hb) (zs (below_step (zHB) hb) ?_)); clear BK202 BK203 HB; intro HB BK203 BK202; clear hb) | ((with_reducible refine gate_dst (N := 4) rfl ?_); refine zBox (N := 4) (cs := #[.bool false, .bool false, .bool false, .bool false, .bool false]) (t := 150) ?_; intro gb209 hg w9 hbox hb; refine zs (blk_below (g := gb202) zBK hb) (zs (blk_below (g := gb203) zBK hb) (zs (below_step (zHB) hb) (zs hbox (zs (zGe hg zHB) (zs (zGe hg zHB) (zs (zNl hg zBK : gb202 ≠ gb209) (zs (zNg hg zBK : gb209 ≠ gb202) (zs (zNl hg zBK : gb203 ≠ gb209) (zs ((zNg hg zBK : gb209 ≠ gb203)) ?_))))))))); clear BK202 BK203 HB; intro NB209_203 NB203_209 NB209_202 NB202_209 GE209 GW209 BK209 HB BK203 BK202; clear hb hbox hg; have hnb10 := NB209_202.out; have hnc10 := NB202_209.out; have hnb11 := NB209_203.out; have hnc11 := NB203_209.out; have hcz12 := blk_cell BK209.out; have hfz12 := blk_frozen BK209.out))
  (try simp only [Act.put, List.setIfInBounds_toArray, List.set_cons_zero, List.set_cons_succ])
  go_cut [40] (fun v40 wc => ∃ (kq : Nat) (x40_2 : Bool), v40 = .bool x40_2 ∧ Aside0 (pleatref02_Decode.j0 kq a0 x40_2 (IntKind.i8.wrap (a0 / 134217728)) (IntKind.i8.wrap (Go.bits .and .u32 (a0 / 8388608) 15)) (IntKind.i8.wrap (Go.bits .and .u32 (a0 / 524288) 15)) (IntKind.i8.wrap (Go.bits .and .u32 (a0 / 32768) 15)) (wrap64 (Go.bits .and .u32 a0 32767)) = some (r1, r2, r3, r4, r5)) ∧ Aside0 (kq ≤ k) ∧ Aside0 (wc.heap[gb202]? = some (.cells #[.int .i8 0, .int .i8 0, .int .i8 0, .int .i8 0, .int .i64 0] 94 (0, 0))) ∧ Aside0 (wc.heap[gb203]? = some (.cells #[.int .i8 (IntKind.i8.wrap (a0 / 134217728)), .int .i8 (IntKind.i8.wrap (Go.bits .and .u32 (a0 / 8388608) 15)), .int .i8 (IntKind.i8.wrap (Go.bits .and .u32 (a0 / 524288) 15)), .int .i8 (IntKind.i8.wrap (Go.bits .and .u32 (a0 / 32768) 15)), .int .i64 (wrap64 (Go.bits .and .u32 a0 32767))] 94 (0, 0))) ∧ Aside0 (wc.heap[gb209]? = some (.cells #[.bool t204, .bool t205, .bool t206, .bool t207, .bool t208] 150 (0, 0))) ∧ Aside0 (Below w.heap.size w wc))
  case first =>
    have H := HC3.out
    clear HC3
    by_cases c13 : t207 = true
    · subst c13
      rw [if_pos rfl] at H
      by_cases c14 : t208 = true
      · subst c14
        rw [if_pos rfl] at H
        have H' := Aside0.mk H
        clear H
        have hnb15 := NB209_202.out
        have hnc15 := NB202_209.out
        have hnb16 := NB209_203.out
        have hnc16 := NB203_209.out
        have hcz17 := blk_cell BK209.out
        have hfz17 := blk_frozen BK209.out
        go_wp2
        go_meet
        case rel => exact ⟨_, (false), zF', H', ⟨zL⟩, ⟨zBK⟩, ⟨zBK⟩, ⟨zBK⟩, ⟨zHB⟩⟩
      · replace c14 := Bool.eq_false_iff.mpr c14
        subst c14
        rw [if_neg (show ¬ (false = true) by decide)] at H
        have H' := Aside0.mk H
        clear H
        have hnb18 := NB209_202.out
        have hnc18 := NB202_209.out
        have hnb19 := NB209_203.out
        have hnc19 := NB203_209.out
        have hcz20 := blk_cell BK209.out
        have hfz20 := blk_frozen BK209.out
        have hnb21 := NB203_202.out
        have hnc21 := NB202_203.out
        have hcz22 := blk_cell BK203.out
        have hfz22 := blk_frozen BK203.out
        go_wp2
        go_meet
        case rel => exact ⟨_, (decide ((wrap64 (Go.bits .and .u32 a0 32767)) ≥ 16384)), zF', H', ⟨zL⟩, ⟨zBK⟩, ⟨zBK⟩, ⟨zBK⟩, ⟨zHB⟩⟩
    · replace c13 := Bool.eq_false_iff.mpr c13
      subst c13
      rw [if_neg (show ¬ (false = true) by decide)] at H
      have H' := Aside0.mk H
      clear H
      have hnb23 := NB209_202.out
      have hnc23 := NB202_209.out
      have hnb24 := NB209_203.out
      have hnc24 := NB203_209.out
      have hcz25 := blk_cell BK209.out
      have hfz25 := blk_frozen BK209.out
      go_wp2
      go_meet
      case rel => exact ⟨_, (false), zF', H', ⟨zL⟩, ⟨zBK⟩, ⟨zBK⟩, ⟨zBK⟩, ⟨zHB⟩⟩
  case rest =>
    clear HC3
    try clear hcz12
    try clear hcz7
    try clear hfz12
    try clear hfz7
    obtain ⟨kq, x40_2, rfl, HA, HJ2, BK202, BK203, BK209, HB⟩ := hcut
    cases kq with
    | zero => exact absurd HA.out (by simp [pleatref02_Decode.j0])
    | succ kj2 =>
      have H := HA.out
      clear HA
      simp only [pleatref02_Decode.j0] at H
      by_cases c26 : x40_2 = true
      · subst c26
        rw [if_pos rfl] at H
        replace H := Option.bind_eq_some_iff.mp H
        obtain ⟨⟨t210, t211⟩, A270, H⟩ := H
        (try dsimp only at H)
        have A27 := Aside0.mk A270
        clear A270
        by_cases c28 : t211 = 0
        · rw [if_pos c28] at H
          have c28b0 := beq_iff_eq.mpr c28
          have c28b1 := bne_eq_false_iff_eq.mpr c28
          clear c28
          by_cases c29 : t210 = a0
          · rw [if_pos c29] at H
            have c29b0 := beq_iff_eq.mpr c29
            have c29b1 := bne_eq_false_iff_eq.mpr c29
            clear c29
            simp only [Option.some.injEq, Prod.mk.injEq] at H
            obtain ⟨rfl, rfl, rfl, rfl, rfl⟩ := H
            have hnb30 := NB203_202.out
            have hnc30 := NB202_203.out
            have hnb31 := NB203_209.out
            have hnc31 := NB209_203.out
            have hcz32 := blk_cell BK203.out
            have hfz32 := blk_frozen BK203.out
            go_wp2_with (first | ((with_reducible refine gate_callee (f := 87) rfl ?_); refine zGo (N := (some 47)) Tryd.func87 #[.agg #[.int .i8 (IntKind.i8.wrap (a0 / 134217728)), .int .i8 (IntKind.i8.wrap (Go.bits .and .u32 (a0 / 8388608) 15)), .int .i8 (IntKind.i8.wrap (Go.bits .and .u32 (a0 / 524288) 15)), .int .i8 (IntKind.i8.wrap (Go.bits .and .u32 (a0 / 32768) 15)), .int .i64 (wrap64 ((wrap64 (Go.bits .and .u32 a0 32767)) - 32768))]] ?_; (with_reducible refine (pleatref02_Encode.calls kj2 (IntKind.i8.wrap (a0 / 134217728)) (IntKind.i8.wrap (Go.bits .and .u32 (a0 / 8388608) 15)) (IntKind.i8.wrap (Go.bits .and .u32 (a0 / 524288) 15)) (IntKind.i8.wrap (Go.bits .and .u32 (a0 / 32768) 15)) (wrap64 ((wrap64 (Go.bits .and .u32 a0 32767)) - 32768)) t210 t211 _ A27.out).mono ?_); rintro e w33 ⟨rfl, hb⟩; refine ⟨_, rfl, ?_⟩; refine zs (blk_below (g := gb202) zBK hb) (zs (blk_below (g := gb203) (o := .cells #[.int .i8 (IntKind.i8.wrap (a0 / 134217728)), .int .i8 (IntKind.i8.wrap (Go.bits .and .u32 (a0 / 8388608) 15)), .int .i8 (IntKind.i8.wrap (Go.bits .and .u32 (a0 / 524288) 15)), .int .i8 (IntKind.i8.wrap (Go.bits .and .u32 (a0 / 32768) 15)), .int .i64 (wrap64 ((wrap64 (Go.bits .and .u32 a0 32767)) - 32768))] 94 (0, 0)) (zBK) hb) (zs (blk_below (g := gb209) zBK hb) (zs (below_step (zHB) hb) ?_))); clear BK202 BK203 BK209 HB; intro HB BK209 BK203 BK202; clear hb; have hcz34 := blk_cell BK203.out; have hfz34 := blk_frozen BK203.out; have hnb35 := NB202_209.out; have hnc35 := NB209_202.out; have hcz36 := blk_cell BK202.out; have hfz36 := blk_frozen BK202.out))
            refine zRet gb202 94 #[.int .i8 (IntKind.i8.wrap (a0 / 134217728)), .int .i8 (IntKind.i8.wrap (Go.bits .and .u32 (a0 / 8388608) 15)), .int .i8 (IntKind.i8.wrap (Go.bits .and .u32 (a0 / 524288) 15)), .int .i8 (IntKind.i8.wrap (Go.bits .and .u32 (a0 / 32768) 15)), .int .i64 (wrap64 ((wrap64 (Go.bits .and .u32 a0 32767)) - 32768))] Tryd.underlying94 ?_
            exact ⟨zE, zHB⟩
          · rw [if_neg c29] at H
            have c29b0 := beq_eq_false_iff_ne.mpr c29
            have c29b1 := bne_iff_ne.mpr c29
            simp only [Option.some.injEq, Prod.mk.injEq] at H
            obtain ⟨rfl, rfl, rfl, rfl, rfl⟩ := H
            have hnb37 := NB203_202.out
            have hnc37 := NB202_203.out
            have hnb38 := NB203_209.out
            have hnc38 := NB209_203.out
            have hcz39 := blk_cell BK203.out
            have hfz39 := blk_frozen BK203.out
            go_wp2_with (first | ((with_reducible refine gate_callee (f := 87) rfl ?_); refine zGo (N := (some 47)) Tryd.func87 #[.agg #[.int .i8 (IntKind.i8.wrap (a0 / 134217728)), .int .i8 (IntKind.i8.wrap (Go.bits .and .u32 (a0 / 8388608) 15)), .int .i8 (IntKind.i8.wrap (Go.bits .and .u32 (a0 / 524288) 15)), .int .i8 (IntKind.i8.wrap (Go.bits .and .u32 (a0 / 32768) 15)), .int .i64 (wrap64 ((wrap64 (Go.bits .and .u32 a0 32767)) - 32768))]] ?_; (with_reducible refine (pleatref02_Encode.calls kj2 (IntKind.i8.wrap (a0 / 134217728)) (IntKind.i8.wrap (Go.bits .and .u32 (a0 / 8388608) 15)) (IntKind.i8.wrap (Go.bits .and .u32 (a0 / 524288) 15)) (IntKind.i8.wrap (Go.bits .and .u32 (a0 / 32768) 15)) (wrap64 ((wrap64 (Go.bits .and .u32 a0 32767)) - 32768)) t210 t211 _ A27.out).mono ?_); rintro e w40 ⟨rfl, hb⟩; refine ⟨_, rfl, ?_⟩; refine zs (blk_below (g := gb202) zBK hb) (zs (blk_below (g := gb203) (o := .cells #[.int .i8 (IntKind.i8.wrap (a0 / 134217728)), .int .i8 (IntKind.i8.wrap (Go.bits .and .u32 (a0 / 8388608) 15)), .int .i8 (IntKind.i8.wrap (Go.bits .and .u32 (a0 / 524288) 15)), .int .i8 (IntKind.i8.wrap (Go.bits .and .u32 (a0 / 32768) 15)), .int .i64 (wrap64 ((wrap64 (Go.bits .and .u32 a0 32767)) - 32768))] 94 (0, 0)) (zBK) hb) (zs (blk_below (g := gb209) zBK hb) (zs (below_step (zHB) hb) ?_))); clear BK202 BK203 BK209 HB; intro HB BK209 BK203 BK202; clear hb; have hnb41 := NB202_209.out; have hnc41 := NB209_202.out; have hcz42 := blk_cell BK202.out; have hfz42 := blk_frozen BK202.out))
            refine zRet gb202 94 #[.int .i8 (-1), .int .i8 0, .int .i8 0, .int .i8 0, .int .i64 (wrap64 (a0))] Tryd.underlying94 ?_
            exact ⟨zE, zHB⟩
        · rw [if_neg c28] at H
          have c28b0 := beq_eq_false_iff_ne.mpr c28
          have c28b1 := bne_iff_ne.mpr c28
          simp only [Option.some.injEq, Prod.mk.injEq] at H
          obtain ⟨rfl, rfl, rfl, rfl, rfl⟩ := H
          have hnb43 := NB203_202.out
          have hnc43 := NB202_203.out
          have hnb44 := NB203_209.out
          have hnc44 := NB209_203.out
          have hcz45 := blk_cell BK203.out
          have hfz45 := blk_frozen BK203.out
          go_wp2_with (first | ((with_reducible refine gate_callee (f := 87) rfl ?_); refine zGo (N := (some 47)) Tryd.func87 #[.agg #[.int .i8 (IntKind.i8.wrap (a0 / 134217728)), .int .i8 (IntKind.i8.wrap (Go.bits .and .u32 (a0 / 8388608) 15)), .int .i8 (IntKind.i8.wrap (Go.bits .and .u32 (a0 / 524288) 15)), .int .i8 (IntKind.i8.wrap (Go.bits .and .u32 (a0 / 32768) 15)), .int .i64 (wrap64 ((wrap64 (Go.bits .and .u32 a0 32767)) - 32768))]] ?_; (with_reducible refine (pleatref02_Encode.calls kj2 (IntKind.i8.wrap (a0 / 134217728)) (IntKind.i8.wrap (Go.bits .and .u32 (a0 / 8388608) 15)) (IntKind.i8.wrap (Go.bits .and .u32 (a0 / 524288) 15)) (IntKind.i8.wrap (Go.bits .and .u32 (a0 / 32768) 15)) (wrap64 ((wrap64 (Go.bits .and .u32 a0 32767)) - 32768)) t210 t211 _ A27.out).mono ?_); rintro e w46 ⟨rfl, hb⟩; refine ⟨_, rfl, ?_⟩; refine zs (blk_below (g := gb202) zBK hb) (zs (blk_below (g := gb203) (o := .cells #[.int .i8 (IntKind.i8.wrap (a0 / 134217728)), .int .i8 (IntKind.i8.wrap (Go.bits .and .u32 (a0 / 8388608) 15)), .int .i8 (IntKind.i8.wrap (Go.bits .and .u32 (a0 / 524288) 15)), .int .i8 (IntKind.i8.wrap (Go.bits .and .u32 (a0 / 32768) 15)), .int .i64 (wrap64 ((wrap64 (Go.bits .and .u32 a0 32767)) - 32768))] 94 (0, 0)) (zBK) hb) (zs (blk_below (g := gb209) zBK hb) (zs (below_step (zHB) hb) ?_))); clear BK202 BK203 BK209 HB; intro HB BK209 BK203 BK202; clear hb; have hnb47 := NB202_209.out; have hnc47 := NB209_202.out; have hcz48 := blk_cell BK202.out; have hfz48 := blk_frozen BK202.out))
          refine zRet gb202 94 #[.int .i8 (-1), .int .i8 0, .int .i8 0, .int .i8 0, .int .i64 (wrap64 (a0))] Tryd.underlying94 ?_
          exact ⟨zE, zHB⟩
      · replace c26 := Bool.eq_false_iff.mpr c26
        subst c26
        rw [if_neg (show ¬ (false = true) by decide)] at H
        replace H := Option.bind_eq_some_iff.mp H
        obtain ⟨⟨t212, t213⟩, A490, H⟩ := H
        (try dsimp only at H)
        have A49 := Aside0.mk A490
        clear A490
        by_cases c50 : t213 = 0
        · rw [if_pos c50] at H
          have c50b0 := beq_iff_eq.mpr c50
          have c50b1 := bne_eq_false_iff_eq.mpr c50
          clear c50
          by_cases c51 : t212 = a0
          · rw [if_pos c51] at H
            have c51b0 := beq_iff_eq.mpr c51
            have c51b1 := bne_eq_false_iff_eq.mpr c51
            clear c51
            simp only [Option.some.injEq, Prod.mk.injEq] at H
            obtain ⟨rfl, rfl, rfl, rfl, rfl⟩ := H
            have hnb52 := NB203_202.out
            have hnc52 := NB202_203.out
            have hnb53 := NB203_209.out
            have hnc53 := NB209_203.out
            have hcz54 := blk_cell BK203.out
            have hfz54 := blk_frozen BK203.out
            go_wp2_with (first | ((with_reducible refine gate_callee (f := 87) rfl ?_); refine zGo (N := (some 47)) Tryd.func87 #[.agg #[.int .i8 (IntKind.i8.wrap (a0 / 134217728)), .int .i8 (IntKind.i8.wrap (Go.bits .and .u32 (a0 / 8388608) 15)), .int .i8 (IntKind.i8.wrap (Go.bits .and .u32 (a0 / 524288) 15)), .int .i8 (IntKind.i8.wrap (Go.bits .and .u32 (a0 / 32768) 15)), .int .i64 (wrap64 (Go.bits .and .u32 a0 32767))]] ?_; (with_reducible refine (pleatref02_Encode.calls kj2 (IntKind.i8.wrap (a0 / 134217728)) (IntKind.i8.wrap (Go.bits .and .u32 (a0 / 8388608) 15)) (IntKind.i8.wrap (Go.bits .and .u32 (a0 / 524288) 15)) (IntKind.i8.wrap (Go.bits .and .u32 (a0 / 32768) 15)) (wrap64 (Go.bits .and .u32 a0 32767)) t212 t213 _ A49.out).mono ?_); rintro e w55 ⟨rfl, hb⟩; refine ⟨_, rfl, ?_⟩; refine zs (blk_below (g := gb202) zBK hb) (zs (blk_below (g := gb203) zBK hb) (zs (blk_below (g := gb209) zBK hb) (zs (below_step (zHB) hb) ?_))); clear BK202 BK203 BK209 HB; intro HB BK209 BK203 BK202; clear hb; have hcz56 := blk_cell BK203.out; have hfz56 := blk_frozen BK203.out; have hnb57 := NB202_209.out; have hnc57 := NB209_202.out; have hcz58 := blk_cell BK202.out; have hfz58 := blk_frozen BK202.out))
            refine zRet gb202 94 #[.int .i8 (IntKind.i8.wrap (a0 / 134217728)), .int .i8 (IntKind.i8.wrap (Go.bits .and .u32 (a0 / 8388608) 15)), .int .i8 (IntKind.i8.wrap (Go.bits .and .u32 (a0 / 524288) 15)), .int .i8 (IntKind.i8.wrap (Go.bits .and .u32 (a0 / 32768) 15)), .int .i64 (wrap64 (Go.bits .and .u32 a0 32767))] Tryd.underlying94 ?_
            exact ⟨zE, zHB⟩
          · rw [if_neg c51] at H
            have c51b0 := beq_eq_false_iff_ne.mpr c51
            have c51b1 := bne_iff_ne.mpr c51
            simp only [Option.some.injEq, Prod.mk.injEq] at H
            obtain ⟨rfl, rfl, rfl, rfl, rfl⟩ := H
            have hnb59 := NB203_202.out
            have hnc59 := NB202_203.out
            have hnb60 := NB203_209.out
            have hnc60 := NB209_203.out
            have hcz61 := blk_cell BK203.out
            have hfz61 := blk_frozen BK203.out
            go_wp2_with (first | ((with_reducible refine gate_callee (f := 87) rfl ?_); refine zGo (N := (some 47)) Tryd.func87 #[.agg #[.int .i8 (IntKind.i8.wrap (a0 / 134217728)), .int .i8 (IntKind.i8.wrap (Go.bits .and .u32 (a0 / 8388608) 15)), .int .i8 (IntKind.i8.wrap (Go.bits .and .u32 (a0 / 524288) 15)), .int .i8 (IntKind.i8.wrap (Go.bits .and .u32 (a0 / 32768) 15)), .int .i64 (wrap64 (Go.bits .and .u32 a0 32767))]] ?_; (with_reducible refine (pleatref02_Encode.calls kj2 (IntKind.i8.wrap (a0 / 134217728)) (IntKind.i8.wrap (Go.bits .and .u32 (a0 / 8388608) 15)) (IntKind.i8.wrap (Go.bits .and .u32 (a0 / 524288) 15)) (IntKind.i8.wrap (Go.bits .and .u32 (a0 / 32768) 15)) (wrap64 (Go.bits .and .u32 a0 32767)) t212 t213 _ A49.out).mono ?_); rintro e w62 ⟨rfl, hb⟩; refine ⟨_, rfl, ?_⟩; refine zs (blk_below (g := gb202) zBK hb) (zs (blk_below (g := gb203) zBK hb) (zs (blk_below (g := gb209) zBK hb) (zs (below_step (zHB) hb) ?_))); clear BK202 BK203 BK209 HB; intro HB BK209 BK203 BK202; clear hb; have hnb63 := NB202_209.out; have hnc63 := NB209_202.out; have hcz64 := blk_cell BK202.out; have hfz64 := blk_frozen BK202.out))
            refine zRet gb202 94 #[.int .i8 (-1), .int .i8 0, .int .i8 0, .int .i8 0, .int .i64 (wrap64 (a0))] Tryd.underlying94 ?_
            exact ⟨zE, zHB⟩
        · rw [if_neg c50] at H
          have c50b0 := beq_eq_false_iff_ne.mpr c50
          have c50b1 := bne_iff_ne.mpr c50
          simp only [Option.some.injEq, Prod.mk.injEq] at H
          obtain ⟨rfl, rfl, rfl, rfl, rfl⟩ := H
          have hnb65 := NB203_202.out
          have hnc65 := NB202_203.out
          have hnb66 := NB203_209.out
          have hnc66 := NB209_203.out
          have hcz67 := blk_cell BK203.out
          have hfz67 := blk_frozen BK203.out
          go_wp2_with (first | ((with_reducible refine gate_callee (f := 87) rfl ?_); refine zGo (N := (some 47)) Tryd.func87 #[.agg #[.int .i8 (IntKind.i8.wrap (a0 / 134217728)), .int .i8 (IntKind.i8.wrap (Go.bits .and .u32 (a0 / 8388608) 15)), .int .i8 (IntKind.i8.wrap (Go.bits .and .u32 (a0 / 524288) 15)), .int .i8 (IntKind.i8.wrap (Go.bits .and .u32 (a0 / 32768) 15)), .int .i64 (wrap64 (Go.bits .and .u32 a0 32767))]] ?_; (with_reducible refine (pleatref02_Encode.calls kj2 (IntKind.i8.wrap (a0 / 134217728)) (IntKind.i8.wrap (Go.bits .and .u32 (a0 / 8388608) 15)) (IntKind.i8.wrap (Go.bits .and .u32 (a0 / 524288) 15)) (IntKind.i8.wrap (Go.bits .and .u32 (a0 / 32768) 15)) (wrap64 (Go.bits .and .u32 a0 32767)) t212 t213 _ A49.out).mono ?_); rintro e w68 ⟨rfl, hb⟩; refine ⟨_, rfl, ?_⟩; refine zs (blk_below (g := gb202) zBK hb) (zs (blk_below (g := gb203) zBK hb) (zs (blk_below (g := gb209) zBK hb) (zs (below_step (zHB) hb) ?_))); clear BK202 BK203 BK209 HB; intro HB BK209 BK203 BK202; clear hb; have hnb69 := NB202_209.out; have hnc69 := NB209_202.out; have hcz70 := blk_cell BK202.out; have hfz70 := blk_frozen BK202.out))
          refine zRet gb202 94 #[.int .i8 (-1), .int .i8 0, .int .i8 0, .int .i8 0, .int .i64 (wrap64 (a0))] Tryd.underlying94 ?_
          exact ⟨zE, zHB⟩

/-! ### pleatref02_Target: function 66 -/
def pleatref02_Target.f (k : Nat) (a0 : Int) : Option (Int × Bool) := (pleatref02_Decode.f k a0).bind fun bt214 => (if bt214.1 < 0 then (some (0, false)) else ((pleatref02_Has.f k bt214.1).bind fun bt220 => (if bt220.2.2.2.2 = true then (some (bt214.2.2.2.2, true)) else (some (0, false)))))
theorem pleatref02_Target.mono : ∀ a0 k, LeO (pleatref02_Target.f k a0) (pleatref02_Target.f (k + 1) a0) := by
  intro a0 k
  unfold pleatref02_Target.f
  have m0 := @pleatref02_Decode.mono
  have m1 := @pleatref02_Has.mono
  exact zMo
set_option maxHeartbeats 8000000 in
set_option maxRecDepth 100000 in
theorem pleatref02_Target.calls (k : Nat) (a0 : Int) (r1 : Int) (r2 : Bool) (w : World) (h : pleatref02_Target.f k a0 = some (r1, r2)) :
    Calls Tryd.prog 66 #[.int .u32 a0] w fun e w' => e = .returned (.tuple #[.int .i64 r1, .bool r2]) ∧ Below w.heap.size w w' := by
  have hu94 := Tryd.underlying94
  have hfd150_4 : ∀ (x0_ x1_ x2_ x3_ x4_ : Value) (W : World), (Instr.field 150 (.agg #[x0_, x1_, x2_, x3_, x4_]) 4).run Tryd.prog W = .ok (x4_) W := fun _ _ _ _ _ _ => by kernel_rfl
  have HB := Aside0.mk (Below.refl w.heap.size w)
  have H := h
  clear h
  unfold pleatref02_Target.f at H
  replace H := Option.bind_eq_some_iff.mp H
  obtain ⟨⟨t214, t215, t216, t217, t218⟩, A20, H⟩ := H
  (try dsimp only at H)
  have A2 := Aside0.mk A20
  clear A20
  by_cases c3 : t214 < 0
  · rw [if_pos c3] at H
    have c3b0 := decide_eq_true c3
    clear c3
    simp only [Option.some.injEq, Prod.mk.injEq] at H
    obtain ⟨rfl, rfl⟩ := H
    go_enter Tryd.func66, Tryd.ntmps66
    go_wp2_with (first | ((with_reducible refine gate_callee (f := 67) rfl ?_); refine zGo (N := (some 6)) Tryd.func67 #[.int .u32 a0] ?_; (with_reducible refine (pleatref02_Decode.calls k a0 t214 t215 t216 t217 t218 _ A2.out).mono ?_); rintro e w4 ⟨rfl, hb⟩; refine ⟨_, rfl, ?_⟩; refine zs (below_step (zHB) hb) ?_; clear HB; intro HB; clear hb) | ((with_reducible refine gate_dst (N := 4) rfl ?_); refine zBox (N := 4) (cs := #[.int .i8 0, .int .i8 0, .int .i8 0, .int .i8 0, .int .i64 0]) (t := 94) ?_; intro gb219 hg w5 hbox hb; refine zs (below_step (zHB) hb) (zs hbox (zs (zGe hg zHB) (zs (zGe hg zHB) ?_))); clear HB; intro GE219 GW219 BK219 HB; clear hb hbox hg; have hcz6 := blk_cell BK219.out; have hfz6 := blk_frozen BK219.out))
    go_ret2
    exact ⟨zE, zHB⟩
  · rw [if_neg c3] at H
    have c3b0 := decide_eq_false c3
    clear c3
    replace H := Option.bind_eq_some_iff.mp H
    obtain ⟨⟨t220, t221, t222, t223, t224⟩, A70, H⟩ := H
    (try dsimp only at H)
    have A7 := Aside0.mk A70
    clear A70
    by_cases c8 : t224 = true
    · subst c8
      rw [if_pos rfl] at H
      simp only [Option.some.injEq, Prod.mk.injEq] at H
      obtain ⟨rfl, rfl⟩ := H
      go_enter Tryd.func66, Tryd.ntmps66
      go_wp2_with (first | ((with_reducible refine gate_callee (f := 67) rfl ?_); refine zGo (N := (some 6)) Tryd.func67 #[.int .u32 a0] ?_; (with_reducible refine (pleatref02_Decode.calls k a0 t214 t215 t216 t217 t218 _ A2.out).mono ?_); rintro e w9 ⟨rfl, hb⟩; refine ⟨_, rfl, ?_⟩; refine zs (below_step (zHB) hb) ?_; clear HB; intro HB; clear hb) | ((with_reducible refine gate_dst (N := 4) rfl ?_); refine zBox (N := 4) (cs := #[.int .i8 0, .int .i8 0, .int .i8 0, .int .i8 0, .int .i64 0]) (t := 94) ?_; intro gb219 hg w10 hbox hb; refine zs (below_step (zHB) hb) (zs hbox (zs (zGe hg zHB) (zs (zGe hg zHB) ?_))); clear HB; intro GE219 GW219 BK219 HB; clear hb hbox hg; have hcz11 := blk_cell BK219.out; have hfz11 := blk_frozen BK219.out) | (go_at_call 86; (with_reducible refine (pleatref02_Has.calls k t214 t220 t221 t222 t223 true _ A7.out).mono ?_); rintro e w12 ⟨rfl, hb⟩; refine zs (blk_below (g := gb219) (o := .cells #[.int .i8 t214, .int .i8 t215, .int .i8 t216, .int .i8 t217, .int .i64 t218] 94 (0, 0)) (zBK) hb) (zs (below_step (zHB) hb) ?_); clear BK219 HB; intro HB BK219; clear hb; have hcz13 := blk_cell BK219.out; have hfz13 := blk_frozen BK219.out))
      go_ret2
      exact ⟨zE, zHB⟩
    · replace c8 := Bool.eq_false_iff.mpr c8
      subst c8
      rw [if_neg (show ¬ (false = true) by decide)] at H
      simp only [Option.some.injEq, Prod.mk.injEq] at H
      obtain ⟨rfl, rfl⟩ := H
      go_enter Tryd.func66, Tryd.ntmps66
      go_wp2_with (first | ((with_reducible refine gate_callee (f := 67) rfl ?_); refine zGo (N := (some 6)) Tryd.func67 #[.int .u32 a0] ?_; (with_reducible refine (pleatref02_Decode.calls k a0 t214 t215 t216 t217 t218 _ A2.out).mono ?_); rintro e w14 ⟨rfl, hb⟩; refine ⟨_, rfl, ?_⟩; refine zs (below_step (zHB) hb) ?_; clear HB; intro HB; clear hb) | ((with_reducible refine gate_dst (N := 4) rfl ?_); refine zBox (N := 4) (cs := #[.int .i8 0, .int .i8 0, .int .i8 0, .int .i8 0, .int .i64 0]) (t := 94) ?_; intro gb219 hg w15 hbox hb; refine zs (below_step (zHB) hb) (zs hbox (zs (zGe hg zHB) (zs (zGe hg zHB) ?_))); clear HB; intro GE219 GW219 BK219 HB; clear hb hbox hg; have hcz16 := blk_cell BK219.out; have hfz16 := blk_frozen BK219.out) | (go_at_call 86; (with_reducible refine (pleatref02_Has.calls k t214 t220 t221 t222 t223 false _ A7.out).mono ?_); rintro e w17 ⟨rfl, hb⟩; refine zs (blk_below (g := gb219) (o := .cells #[.int .i8 t214, .int .i8 t215, .int .i8 t216, .int .i8 t217, .int .i64 t218] 94 (0, 0)) (zBK) hb) (zs (below_step (zHB) hb) ?_); clear BK219 HB; intro HB BK219; clear hb))
      go_ret2
      exact ⟨zE, zHB⟩

end Go.Proofs.YtfgdjpgdabjpmaaDoor.PImageReads
