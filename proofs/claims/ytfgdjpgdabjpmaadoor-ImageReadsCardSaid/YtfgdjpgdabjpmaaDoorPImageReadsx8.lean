-- Written for this claim by a program of this session (wip/tools/pp.py, over the kit's print).
import Derived.Test.YtfgdjpgdabjpmaaDoorPImageReadsx0
import Derived.Test.YtfgdjpgdabjpmaaDoorPImageReadsx7
namespace Go.Proofs.YtfgdjpgdabjpmaaDoor.PImageReads
open Go.RowKit Go.Proofs.YtfgdjpgdabjpmaaDoorW.PrintWords Go.Proofs.YtfgdjpgdabjpmaaDoorW.PrintLast Go.Proofs.YtfgdjpgdabjpmaaDoorW.PrintMore
attribute [local go_sem] max2_int min2_int max_two min_two max_three min_three max_four min_four   -- for this text's walks alone
set_option linter.unusedVariables false
set_option linter.unusedSimpArgs false

/-! ### pleatref02_number: function 100 -/
def pleatref02_number.f (a0_0 : Bool) (a0_1 : Bool) (a0_2 : Bool) (a0_3 : Bool) (a0_4 : Bool) (a1 : Int) : Option (Bool) := if a0_3 = true then (if a0_4 = true then (if a1 ≥ 0 then (some (decide (a1 < 16384))) else (some false)) else (if a1 ≥ (-16384) then (some (decide (a1 ≤ 16383))) else (some false))) else (some (a1 == 0))
set_option maxHeartbeats 8000000 in
set_option maxRecDepth 100000 in
theorem pleatref02_number.calls (a0_0 : Bool) (a0_1 : Bool) (a0_2 : Bool) (a0_3 : Bool) (a0_4 : Bool) (a1 : Int) (r : Bool) (w : World) (h : pleatref02_number.f a0_0 a0_1 a0_2 a0_3 a0_4 a1 = some r) :
    Calls Tryd.prog 100 #[.agg #[.bool a0_0, .bool a0_1, .bool a0_2, .bool a0_3, .bool a0_4], .int .i64 a1] w fun e w' => e = .returned (.bool r) ∧ Below w.heap.size w w' := by
  have hu150 := Tryd.underlying150
  have HB := Aside0.mk (Below.refl w.heap.size w)
  have H := h
  clear h
  unfold pleatref02_number.f at H
  by_cases c3 : a0_3 = true
  · subst c3
    rw [if_pos rfl] at H
    by_cases c4 : a0_4 = true
    · subst c4
      rw [if_pos rfl] at H
      by_cases c5 : a1 ≥ 0
      · rw [if_pos c5] at H
        have c5b0 : decide (0 ≤ a1) = true := decide_eq_true c5
        clear c5
        obtain rfl := Option.some.inj H
        go_enter Tryd.func100, Tryd.ntmps100
        go_wp2_with (first | ((with_reducible refine gate_dst (N := 2) rfl ?_); refine zBox (N := 2) (cs := #[.bool a0_0, .bool a0_1, .bool a0_2, .bool true, .bool true]) (t := 150) ?_; intro gb190 hg w6 hbox hb; refine zs (below_step (zHB) hb) (zs hbox (zs (zGe hg zHB) (zs (zGe hg zHB) ?_))); clear HB; intro GE190 GW190 BK190 HB; clear hb hbox hg; have hcz7 := blk_cell BK190.out; have hfz7 := blk_frozen BK190.out))
        go_ret
        exact ⟨zE, zHB⟩
      · rw [if_neg c5] at H
        have c5b0 : decide (0 ≤ a1) = false := decide_eq_false c5
        clear c5
        obtain rfl := Option.some.inj H
        go_enter Tryd.func100, Tryd.ntmps100
        go_wp2_with (first | ((with_reducible refine gate_dst (N := 2) rfl ?_); refine zBox (N := 2) (cs := #[.bool a0_0, .bool a0_1, .bool a0_2, .bool true, .bool true]) (t := 150) ?_; intro gb190 hg w8 hbox hb; refine zs (below_step (zHB) hb) (zs hbox (zs (zGe hg zHB) (zs (zGe hg zHB) ?_))); clear HB; intro GE190 GW190 BK190 HB; clear hb hbox hg; have hcz9 := blk_cell BK190.out; have hfz9 := blk_frozen BK190.out))
        go_ret
        exact ⟨zE, zHB⟩
    · replace c4 := Bool.eq_false_iff.mpr c4
      subst c4
      rw [if_neg (show ¬ (false = true) by decide)] at H
      by_cases c10 : a1 ≥ (-16384)
      · rw [if_pos c10] at H
        have c10b0 : decide ((-16384) ≤ a1) = true := decide_eq_true c10
        clear c10
        obtain rfl := Option.some.inj H
        go_enter Tryd.func100, Tryd.ntmps100
        go_wp2_with (first | ((with_reducible refine gate_dst (N := 2) rfl ?_); refine zBox (N := 2) (cs := #[.bool a0_0, .bool a0_1, .bool a0_2, .bool true, .bool false]) (t := 150) ?_; intro gb190 hg w11 hbox hb; refine zs (below_step (zHB) hb) (zs hbox (zs (zGe hg zHB) (zs (zGe hg zHB) ?_))); clear HB; intro GE190 GW190 BK190 HB; clear hb hbox hg; have hcz12 := blk_cell BK190.out; have hfz12 := blk_frozen BK190.out))
        go_ret
        exact ⟨zE, zHB⟩
      · rw [if_neg c10] at H
        have c10b0 : decide ((-16384) ≤ a1) = false := decide_eq_false c10
        clear c10
        obtain rfl := Option.some.inj H
        go_enter Tryd.func100, Tryd.ntmps100
        go_wp2_with (first | ((with_reducible refine gate_dst (N := 2) rfl ?_); refine zBox (N := 2) (cs := #[.bool a0_0, .bool a0_1, .bool a0_2, .bool true, .bool false]) (t := 150) ?_; intro gb190 hg w13 hbox hb; refine zs (below_step (zHB) hb) (zs hbox (zs (zGe hg zHB) (zs (zGe hg zHB) ?_))); clear HB; intro GE190 GW190 BK190 HB; clear hb hbox hg; have hcz14 := blk_cell BK190.out; have hfz14 := blk_frozen BK190.out))
        go_ret
        exact ⟨zE, zHB⟩
  · replace c3 := Bool.eq_false_iff.mpr c3
    subst c3
    rw [if_neg (show ¬ (false = true) by decide)] at H
    obtain rfl := Option.some.inj H
    go_enter Tryd.func100, Tryd.ntmps100
    go_wp2_with (first | ((with_reducible refine gate_dst (N := 2) rfl ?_); refine zBox (N := 2) (cs := #[.bool a0_0, .bool a0_1, .bool a0_2, .bool false, .bool a0_4]) (t := 150) ?_; intro gb190 hg w15 hbox hb; refine zs (below_step (zHB) hb) (zs hbox (zs (zGe hg zHB) (zs (zGe hg zHB) ?_))); clear HB; intro GE190 GW190 BK190 HB; clear hb hbox hg; have hcz16 := blk_cell BK190.out; have hfz16 := blk_frozen BK190.out))
    go_ret
    exact ⟨zE, zHB⟩

/-! ### pleatref02_Encode: function 87 -/
mutual
def pleatref02_Encode.j0 : Nat → Bool → Int → Int → Int → Int → Int → Option (Int × Int)
  | 0, _, _, _, _, _, _ => none
  | k + 1, x14, x192000, x192001, x192002, x192003, x192004 => if x14 = true then (some (0, 10)) else ((pleatref02_Has.f k x192000).bind fun bt192 => ((pleatref02_register.f bt192.1 x192001).bind fun t198 => (if t198 = true then ((pleatref02_register.f bt192.2.1 x192002).bind fun t199 => (if t199 = true then ((pleatref02_register.f bt192.2.2.1 x192003).bind fun t200 => (if t200 = true then ((pleatref02_number.f bt192.1 bt192.2.1 bt192.2.2.1 bt192.2.2.2.1 bt192.2.2.2.2 x192004).bind fun t201 => (pleatref02_Encode.j1 k (!t201) x192000 x192001 x192002 x192003 x192004)) else (pleatref02_Encode.j1 k true x192000 x192001 x192002 x192003 x192004))) else (pleatref02_Encode.j1 k true x192000 x192001 x192002 x192003 x192004))) else (pleatref02_Encode.j1 k true x192000 x192001 x192002 x192003 x192004))))
def pleatref02_Encode.j1 : Nat → Bool → Int → Int → Int → Int → Int → Option (Int × Int)
  | 0, _, _, _, _, _, _ => none
  | k + 1, x46, x192000, x192001, x192002, x192003, x192004 => if x46 = true then (some (0, 11)) else (if x192004 < 0 then (some ((((((((((((((((((x192000) % 4294967296) * 16) % 4294967296) + ((x192001) % 4294967296)) % 4294967296) * 16) % 4294967296) + ((x192002) % 4294967296)) % 4294967296) * 16) % 4294967296) + ((x192003) % 4294967296)) % 4294967296) * 32768) % 4294967296) + ((wrap64 (x192004 + 32768)) % 4294967296)) % 4294967296, 0)) else (some ((((((((((((((((((x192000) % 4294967296) * 16) % 4294967296) + ((x192001) % 4294967296)) % 4294967296) * 16) % 4294967296) + ((x192002) % 4294967296)) % 4294967296) * 16) % 4294967296) + ((x192003) % 4294967296)) % 4294967296) * 32768) % 4294967296) + ((x192004) % 4294967296)) % 4294967296, 0)))
end
def pleatref02_Encode.f (k : Nat) (a0_0 : Int) (a0_1 : Int) (a0_2 : Int) (a0_3 : Int) (a0_4 : Int) : Option (Int × Int) := if a0_0 < 0 then (pleatref02_Encode.j0 k true a0_0 a0_1 a0_2 a0_3 a0_4) else (pleatref02_Encode.j0 k (decide (a0_0 > 21)) a0_0 a0_1 a0_2 a0_3 a0_4)
theorem pleatref02_Encode.mono_l : ∀ k, (∀ y0 y1 y2 y3 y4 y5, LeO (pleatref02_Encode.j0 k y0 y1 y2 y3 y4 y5) (pleatref02_Encode.j0 (k + 1) y0 y1 y2 y3 y4 y5)) ∧ (∀ y0 y1 y2 y3 y4 y5, LeO (pleatref02_Encode.j1 k y0 y1 y2 y3 y4 y5) (pleatref02_Encode.j1 (k + 1) y0 y1 y2 y3 y4 y5))
  | 0 => ⟨fun _ _ _ _ _ _ r h => by simp [pleatref02_Encode.j0] at h, fun _ _ _ _ _ _ r h => by simp [pleatref02_Encode.j1] at h⟩
  | k + 1 => by
    obtain ⟨ih0, ih1⟩ := pleatref02_Encode.mono_l k
    refine ⟨?_, ?_⟩
    · intro y0 y1 y2 y3 y4 y5
      unfold pleatref02_Encode.j0
      have m0 := @pleatref02_Has.mono
      exact zMo
    · intro y0 y1 y2 y3 y4 y5
      unfold pleatref02_Encode.j1
      have m0 := @pleatref02_Has.mono
      exact zMo
theorem pleatref02_Encode.mono : ∀ a0 a1 a2 a3 a4 k, LeO (pleatref02_Encode.f k a0 a1 a2 a3 a4) (pleatref02_Encode.f (k + 1) a0 a1 a2 a3 a4) := by
  intro a0 a1 a2 a3 a4 k
  obtain ⟨ih0, ih1⟩ := pleatref02_Encode.mono_l k
  unfold pleatref02_Encode.f
  have m0 := @pleatref02_Has.mono
  exact zMo
set_option maxHeartbeats 8000000 in
set_option maxRecDepth 100000 in
theorem pleatref02_Encode.calls (k : Nat) (a0_0 : Int) (a0_1 : Int) (a0_2 : Int) (a0_3 : Int) (a0_4 : Int) (r1 : Int) (r2 : Int) (w : World) (h : pleatref02_Encode.f k a0_0 a0_1 a0_2 a0_3 a0_4 = some (r1, r2)) :
    Calls Tryd.prog 87 #[.agg #[.int .i8 a0_0, .int .i8 a0_1, .int .i8 a0_2, .int .i8 a0_3, .int .i64 a0_4]] w fun e w' => e = .returned (.tuple #[.int .u32 r1, .int .i64 r2]) ∧ Below w.heap.size w w' := by
  have hu94 := Tryd.underlying94
  have hu150 := Tryd.underlying150
  have HB := Aside0.mk (Below.refl w.heap.size w)
  have H := h
  clear h
  unfold pleatref02_Encode.f at H
  have HC2 := Aside0.mk H
  clear H
  go_enter Tryd.func87, Tryd.ntmps87
  go_upto_region 1 with (first | ((with_reducible refine gate_dst (N := 1) rfl ?_); refine zBox (N := 1) (cs := #[.int .i8 a0_0, .int .i8 a0_1, .int .i8 a0_2, .int .i8 a0_3, .int .i64 a0_4]) (t := 94) ?_; intro gb191 hg w3 hbox hb; refine zs (below_step (zHB) hb) (zs hbox (zs (zGe hg zHB) (zs (zGe hg zHB) ?_))); clear HB; intro GE191 GW191 BK191 HB; clear hb hbox hg))
  (try simp only [Act.put, List.setIfInBounds_toArray, List.set_cons_zero, List.set_cons_succ])
  go_cut [14] (fun v14 wc => ∃ (kq : Nat) (x14_1 : Bool), v14 = .bool x14_1 ∧ Aside0 (pleatref02_Encode.j0 kq x14_1 a0_0 a0_1 a0_2 a0_3 a0_4 = some (r1, r2)) ∧ Aside0 (kq ≤ k) ∧ Aside0 (wc.heap[gb191]? = some (.cells #[.int .i8 a0_0, .int .i8 a0_1, .int .i8 a0_2, .int .i8 a0_3, .int .i64 a0_4] 94 (0, 0))) ∧ Aside0 (Below w.heap.size w wc))
  case first =>
    have H := HC2.out
    clear HC2
    by_cases c4 : a0_0 < 0
    · rw [if_pos c4] at H
      have c4b0 := decide_eq_true c4
      clear c4
      (first | rw [c4b0] | (simp only [i64_w, i32_w]; rw [c4b0]) | skip)
      have H' := Aside0.mk H
      clear H
      have hcz5 := blk_cell BK191.out
      have hfz5 := blk_frozen BK191.out
      go_wp2
      go_meet
      case rel => exact ⟨_, (true), zF', H', ⟨zL⟩, ⟨zBK⟩, ⟨zHB⟩⟩
    · rw [if_neg c4] at H
      have c4b0 := decide_eq_false c4
      clear c4
      (first | rw [c4b0] | (simp only [i64_w, i32_w]; rw [c4b0]) | skip)
      have H' := Aside0.mk H
      clear H
      have hcz6 := blk_cell BK191.out
      have hfz6 := blk_frozen BK191.out
      go_wp2
      go_meet
      case rel => exact ⟨_, (decide (a0_0 > 21)), zF', H', ⟨zL⟩, ⟨zBK⟩, ⟨zHB⟩⟩
  case rest =>
    clear HC2
    obtain ⟨kq, x14_1, rfl, HA, HJ1, BK191, HB⟩ := hcut
    cases kq with
    | zero => exact absurd HA.out (by simp [pleatref02_Encode.j0])
    | succ kj1 =>
      have H := HA.out
      clear HA
      simp only [pleatref02_Encode.j0] at H
      by_cases c7 : x14_1 = true
      · subst c7
        rw [if_pos rfl] at H
        simp only [Option.some.injEq, Prod.mk.injEq] at H
        obtain ⟨rfl, rfl⟩ := H
        go_wp2
        go_ret2
        exact ⟨zE, zHB⟩
      · replace c7 := Bool.eq_false_iff.mpr c7
        subst c7
        rw [if_neg (show ¬ (false = true) by decide)] at H
        replace H := Option.bind_eq_some_iff.mp H
        obtain ⟨⟨t192, t193, t194, t195, t196⟩, A80, H⟩ := H
        (try dsimp only at H)
        have A8 := Aside0.mk A80
        clear A80
        have HC9 := Aside0.mk H
        clear H
        have hcz10 := blk_cell BK191.out
        have hfz10 := blk_frozen BK191.out
        go_upto_region 4 with (first | ((with_reducible refine gate_callee (f := 86) rfl ?_); refine zGo (N := (some 17)) Tryd.func86 #[.int .i8 a0_0] ?_; (with_reducible refine (pleatref02_Has.calls kj1 a0_0 t192 t193 t194 t195 t196 _ A8.out).mono ?_); rintro e w11 ⟨rfl, hb⟩; refine ⟨_, rfl, ?_⟩; refine zs (blk_below (g := gb191) zBK hb) (zs (below_step (zHB) hb) ?_); clear BK191 HB; intro HB BK191; clear hb) | ((with_reducible refine gate_dst (N := 4) rfl ?_); refine zBox (N := 4) (cs := #[.bool false, .bool false, .bool false, .bool false, .bool false]) (t := 150) ?_; intro gb197 hg w12 hbox hb; refine zs (blk_below (g := gb191) zBK hb) (zs (below_step (zHB) hb) (zs hbox (zs (zGe hg zHB) (zs (zGe hg zHB) (zs (zNl hg zBK : gb191 ≠ gb197) (zs ((zNg hg zBK : gb197 ≠ gb191)) ?_)))))); clear BK191 HB; intro NB197_191 NB191_197 GE197 GW197 BK197 HB BK191; clear hb hbox hg; have hnb13 := NB197_191.out; have hnc13 := NB191_197.out; have hcz14 := blk_cell BK197.out; have hfz14 := blk_frozen BK197.out))
        (try simp only [Act.put, List.setIfInBounds_toArray, List.set_cons_zero, List.set_cons_succ])
        go_cut [46] (fun v46 wc => ∃ (kq : Nat) (x46_8 : Bool), v46 = .bool x46_8 ∧ Aside0 (pleatref02_Encode.j1 kq x46_8 a0_0 a0_1 a0_2 a0_3 a0_4 = some (r1, r2)) ∧ Aside0 (kq ≤ kj1) ∧ Aside0 (wc.heap[gb191]? = some (.cells #[.int .i8 a0_0, .int .i8 a0_1, .int .i8 a0_2, .int .i8 a0_3, .int .i64 a0_4] 94 (0, 0))) ∧ Aside0 (wc.heap[gb197]? = some (.cells #[.bool t192, .bool t193, .bool t194, .bool t195, .bool t196] 150 (0, 0))) ∧ Aside0 (Below w.heap.size w wc))
        case first =>
          have H := HC9.out
          clear HC9
          replace H := Option.bind_eq_some_iff.mp H
          obtain ⟨t198, A150, H⟩ := H
          (try dsimp only at H)
          have A15 := Aside0.mk A150
          clear A150
          by_cases c16 : t198 = true
          · subst c16
            rw [if_pos rfl] at H
            replace H := Option.bind_eq_some_iff.mp H
            obtain ⟨t199, A170, H⟩ := H
            (try dsimp only at H)
            have A17 := Aside0.mk A170
            clear A170
            by_cases c18 : t199 = true
            · subst c18
              rw [if_pos rfl] at H
              replace H := Option.bind_eq_some_iff.mp H
              obtain ⟨t200, A190, H⟩ := H
              (try dsimp only at H)
              have A19 := Aside0.mk A190
              clear A190
              by_cases c20 : t200 = true
              · subst c20
                rw [if_pos rfl] at H
                replace H := Option.bind_eq_some_iff.mp H
                obtain ⟨t201, A210, H⟩ := H
                (try dsimp only at H)
                have A21 := Aside0.mk A210
                clear A210
                have H' := Aside0.mk H
                clear H
                have hnb22 := NB197_191.out
                have hnc22 := NB191_197.out
                have hcz23 := blk_cell BK197.out
                have hfz23 := blk_frozen BK197.out
                have hcz24 := blk_cell BK191.out
                have hfz24 := blk_frozen BK191.out
                go_wp2_with (first | ((with_reducible refine gate_callee (f := 99) rfl ?_); refine zGo (N := (some 22)) Tryd.func99 #[.bool t192, .int .i8 a0_1] ?_; (with_reducible refine (pleatref02_register.calls t192 a0_1 true _ A15.out).mono ?_); rintro e w' ⟨rfl, ⟨nd, rfl⟩⟩; refine ⟨_, rfl, ?_⟩) | (go_at_call 99; (with_reducible refine (pleatref02_register.calls t193 a0_2 true _ A17.out).mono ?_); rintro e w' ⟨rfl, ⟨nd, rfl⟩⟩) | (go_at_call 99; (with_reducible refine (pleatref02_register.calls t194 a0_3 true _ A19.out).mono ?_); rintro e w' ⟨rfl, ⟨nd, rfl⟩⟩) | (go_at_call 100; (with_reducible refine (pleatref02_number.calls t192 t193 t194 t195 t196 a0_4 t201 _ A21.out).mono ?_); rintro e w25 ⟨rfl, hb⟩; refine zs (blk_below (g := gb191) zBK hb) (zs (blk_below (g := gb197) (o := .cells #[.bool t192, .bool t193, .bool t194, .bool t195, .bool t196] 150 (0, 0)) (zBK) hb) (zs (below_step (zHB) hb) ?_)); clear BK191 BK197 HB; intro HB BK197 BK191; clear hb))
                go_meet
                case rel => exact ⟨_, (!t201), zF', H', ⟨by have := HJ1.out; first | omega | exact Nat.le_refl _⟩, ⟨zBK⟩, ⟨zBK⟩, ⟨zHB⟩⟩
              · replace c20 := Bool.eq_false_iff.mpr c20
                subst c20
                rw [if_neg (show ¬ (false = true) by decide)] at H
                have H' := Aside0.mk H
                clear H
                have hnb26 := NB197_191.out
                have hnc26 := NB191_197.out
                have hcz27 := blk_cell BK197.out
                have hfz27 := blk_frozen BK197.out
                have hcz28 := blk_cell BK191.out
                have hfz28 := blk_frozen BK191.out
                go_wp2_with (first | ((with_reducible refine gate_callee (f := 99) rfl ?_); refine zGo (N := (some 22)) Tryd.func99 #[.bool t192, .int .i8 a0_1] ?_; (with_reducible refine (pleatref02_register.calls t192 a0_1 true _ A15.out).mono ?_); rintro e w' ⟨rfl, ⟨nd, rfl⟩⟩; refine ⟨_, rfl, ?_⟩) | (go_at_call 99; (with_reducible refine (pleatref02_register.calls t193 a0_2 true _ A17.out).mono ?_); rintro e w' ⟨rfl, ⟨nd, rfl⟩⟩) | (go_at_call 99; (with_reducible refine (pleatref02_register.calls t194 a0_3 false _ A19.out).mono ?_); rintro e w' ⟨rfl, ⟨nd, rfl⟩⟩))
                go_meet
                case rel => exact ⟨_, (true), zF', H', ⟨by have := HJ1.out; first | omega | exact Nat.le_refl _⟩, ⟨zBK⟩, ⟨zBK⟩, ⟨zHB⟩⟩
            · replace c18 := Bool.eq_false_iff.mpr c18
              subst c18
              rw [if_neg (show ¬ (false = true) by decide)] at H
              have H' := Aside0.mk H
              clear H
              have hnb29 := NB197_191.out
              have hnc29 := NB191_197.out
              have hcz30 := blk_cell BK197.out
              have hfz30 := blk_frozen BK197.out
              have hcz31 := blk_cell BK191.out
              have hfz31 := blk_frozen BK191.out
              go_wp2_with (first | ((with_reducible refine gate_callee (f := 99) rfl ?_); refine zGo (N := (some 22)) Tryd.func99 #[.bool t192, .int .i8 a0_1] ?_; (with_reducible refine (pleatref02_register.calls t192 a0_1 true _ A15.out).mono ?_); rintro e w' ⟨rfl, ⟨nd, rfl⟩⟩; refine ⟨_, rfl, ?_⟩) | (go_at_call 99; (with_reducible refine (pleatref02_register.calls t193 a0_2 false _ A17.out).mono ?_); rintro e w' ⟨rfl, ⟨nd, rfl⟩⟩))
              go_meet
              case rel => exact ⟨_, (true), zF', H', ⟨by have := HJ1.out; first | omega | exact Nat.le_refl _⟩, ⟨zBK⟩, ⟨zBK⟩, ⟨zHB⟩⟩
          · replace c16 := Bool.eq_false_iff.mpr c16
            subst c16
            rw [if_neg (show ¬ (false = true) by decide)] at H
            have H' := Aside0.mk H
            clear H
            have hnb32 := NB197_191.out
            have hnc32 := NB191_197.out
            have hcz33 := blk_cell BK197.out
            have hfz33 := blk_frozen BK197.out
            have hcz34 := blk_cell BK191.out
            have hfz34 := blk_frozen BK191.out
            go_wp2_with (first | ((with_reducible refine gate_callee (f := 99) rfl ?_); refine zGo (N := (some 22)) Tryd.func99 #[.bool t192, .int .i8 a0_1] ?_; (with_reducible refine (pleatref02_register.calls t192 a0_1 false _ A15.out).mono ?_); rintro e w' ⟨rfl, ⟨nd, rfl⟩⟩; refine ⟨_, rfl, ?_⟩))
            go_meet
            case rel => exact ⟨_, (true), zF', H', ⟨by have := HJ1.out; first | omega | exact Nat.le_refl _⟩, ⟨zBK⟩, ⟨zBK⟩, ⟨zHB⟩⟩
        case rest =>
          clear HC9
          try clear hcz10
          try clear hcz14
          try clear hfz10
          try clear hfz14
          obtain ⟨kq, x46_8, rfl, HA, HJ8, BK191, BK197, HB⟩ := hcut
          cases kq with
          | zero => exact absurd HA.out (by simp [pleatref02_Encode.j1])
          | succ kj8 =>
            have H := HA.out
            clear HA
            simp only [pleatref02_Encode.j1] at H
            by_cases c35 : x46_8 = true
            · subst c35
              rw [if_pos rfl] at H
              simp only [Option.some.injEq, Prod.mk.injEq] at H
              obtain ⟨rfl, rfl⟩ := H
              go_wp2
              go_ret2
              exact ⟨zE, zHB⟩
            · replace c35 := Bool.eq_false_iff.mpr c35
              subst c35
              rw [if_neg (show ¬ (false = true) by decide)] at H
              by_cases c36 : a0_4 < 0
              · rw [if_pos c36] at H
                have c36b0 := decide_eq_true c36
                clear c36
                simp only [Option.some.injEq, Prod.mk.injEq] at H
                obtain ⟨rfl, rfl⟩ := H
                have hnb37 := NB191_197.out
                have hnc37 := NB197_191.out
                have hcz38 := blk_cell BK191.out
                have hfz38 := blk_frozen BK191.out
                go_wp2
                go_ret2
                exact ⟨zE, zHB⟩
              · rw [if_neg c36] at H
                have c36b0 := decide_eq_false c36
                clear c36
                simp only [Option.some.injEq, Prod.mk.injEq] at H
                obtain ⟨rfl, rfl⟩ := H
                have hnb39 := NB191_197.out
                have hnc39 := NB197_191.out
                have hcz40 := blk_cell BK191.out
                have hfz40 := blk_frozen BK191.out
                go_wp2
                go_ret2
                exact ⟨zE, zHB⟩

end Go.Proofs.YtfgdjpgdabjpmaaDoor.PImageReads
