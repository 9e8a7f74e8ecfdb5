-- Written for this claim by a program of this session (wip/tools/pp.py, over the kit's print).
import Derived.Test.YtfgdjpgdabjpmaaDoorPNumberOfx0
import Derived.Test.YtfgdjpgdabjpmaaDoorPNumberOfx7
import Derived.Test.YtfgdjpgdabjpmaaDoorPNumberOfx9
namespace Go.Proofs.YtfgdjpgdabjpmaaDoor.PNumberOf
open Go.RowKit Go.Proofs.YtfgdjpgdabjpmaaDoorW.PrintWords Go.Proofs.YtfgdjpgdabjpmaaDoorW.PrintLast Go.Proofs.YtfgdjpgdabjpmaaDoorW.PrintMore
attribute [local go_sem] max2_int min2_int max_two min_two max_three min_three max_four min_four   -- for this text's walks alone
set_option linter.unusedVariables false
set_option linter.unusedSimpArgs false

/-! ### pleatref13_Alone: function 42 -/
mutual
def pleatref13_Alone.j0 : Nat → Int → Int → Bool → Int → Int → Int → Int → Int → Option (Bool)
  | 0, _, _, _, _, _, _, _, _ => none
  | k + 1, x0, x7, x8, x249000, x249001, x249002, x249003, x249004 => if x8 = true then (some true) else (if x7 = 19 then (pleatref13_Alone.j1 k x0 x7 (x7 == 19) x249000 x249001 x249002 x249003 x249004) else (pleatref13_Alone.j1 k x0 x7 (x7 == 17) x249000 x249001 x249002 x249003 x249004))
def pleatref13_Alone.j1 : Nat → Int → Int → Bool → Int → Int → Int → Int → Int → Option (Bool)
  | 0, _, _, _, _, _, _, _, _ => none
  | k + 1, x0, x7, x11, x249000, x249001, x249002, x249003, x249004 => if x11 = true then (some false) else (if x7 = 18 then (some (x249002 == 15)) else ((pleatref13_Links.f k x0).bind fun t249 => (some t249)))
end
def pleatref13_Alone.f (k : Nat) (a0 : Int) : Option (Bool) := (pleatref02_Decode.f k a0).bind fun bt243 => (if bt243.1 = (-1) then (pleatref13_Alone.j0 k a0 bt243.1 (bt243.1 == (-1)) bt243.1 bt243.2.1 bt243.2.2.1 bt243.2.2.2.1 bt243.2.2.2.2) else (pleatref13_Alone.j0 k a0 bt243.1 (bt243.1 == 16) bt243.1 bt243.2.1 bt243.2.2.1 bt243.2.2.2.1 bt243.2.2.2.2))
theorem pleatref13_Alone.mono_l : ∀ k, (∀ y0 y1 y2 y3 y4 y5 y6 y7, LeO (pleatref13_Alone.j0 k y0 y1 y2 y3 y4 y5 y6 y7) (pleatref13_Alone.j0 (k + 1) y0 y1 y2 y3 y4 y5 y6 y7)) ∧ (∀ y0 y1 y2 y3 y4 y5 y6 y7, LeO (pleatref13_Alone.j1 k y0 y1 y2 y3 y4 y5 y6 y7) (pleatref13_Alone.j1 (k + 1) y0 y1 y2 y3 y4 y5 y6 y7))
  | 0 => ⟨fun _ _ _ _ _ _ _ _ r h => by simp [pleatref13_Alone.j0] at h, fun _ _ _ _ _ _ _ _ r h => by simp [pleatref13_Alone.j1] at h⟩
  | k + 1 => by
    obtain ⟨ih0, ih1⟩ := pleatref13_Alone.mono_l k
    refine ⟨?_, ?_⟩
    · intro y0 y1 y2 y3 y4 y5 y6 y7
      unfold pleatref13_Alone.j0
      have m0 := @pleatref02_Decode.mono
      have m1 := @pleatref13_Links.mono
      exact zMo
    · intro y0 y1 y2 y3 y4 y5 y6 y7
      unfold pleatref13_Alone.j1
      have m0 := @pleatref02_Decode.mono
      have m1 := @pleatref13_Links.mono
      exact zMo
theorem pleatref13_Alone.mono : ∀ a0 k, LeO (pleatref13_Alone.f k a0) (pleatref13_Alone.f (k + 1) a0) := by
  intro a0 k
  obtain ⟨ih0, ih1⟩ := pleatref13_Alone.mono_l k
  unfold pleatref13_Alone.f
  have m0 := @pleatref02_Decode.mono
  have m1 := @pleatref13_Links.mono
  exact zMo
set_option maxHeartbeats 8000000 in
set_option maxRecDepth 100000 in
theorem pleatref13_Alone.calls (k : Nat) (a0 : Int) (r : Bool) (w : World) (h : pleatref13_Alone.f k a0 = some r) :
    Calls Tryd.prog 42 #[.int .u32 a0] w fun e w' => e = .returned (.bool r) ∧ Below w.heap.size w w' := by
  have hu94 := Tryd.underlying94
  have HB := Aside0.mk (Below.refl w.heap.size w)
  have H := h
  clear h
  unfold pleatref13_Alone.f at H
  replace H := Option.bind_eq_some_iff.mp H
  obtain ⟨⟨t243, t244, t245, t246, t247⟩, A20, H⟩ := H
  (try dsimp only at H)
  have A2 := Aside0.mk A20
  clear A20
  have HC3 := Aside0.mk H
  clear H
  go_enter Tryd.func42, Tryd.ntmps42
  go_upto_if 8 with (first | ((with_reducible refine gate_callee (f := 67) rfl ?_); refine zGo (N := (some 5)) Tryd.func67 #[.int .u32 a0] ?_; (with_reducible refine (pleatref02_Decode.calls k a0 t243 t244 t245 t246 t247 _ A2.out).mono ?_); rintro e w4 ⟨rfl, hb⟩; refine ⟨_, rfl, ?_⟩; refine zs (below_step (zHB) hb) ?_; clear HB; intro HB; clear hb) | ((with_reducible refine gate_dst (N := 3) rfl ?_); refine zBox (N := 3) (cs := #[.int .i8 0, .int .i8 0, .int .i8 0, .int .i8 0, .int .i64 0]) (t := 94) ?_; intro gb248 hg w5 hbox hb; refine zs (below_step (zHB) hb) (zs hbox (zs (zGe hg zHB) (zs (zGe hg zHB) ?_))); clear HB; intro GE248 GW248 BK248 HB; clear hb hbox hg; have hcz6 := blk_cell BK248.out; have hfz6 := blk_frozen BK248.out))
  (try simp only [Act.put, List.setIfInBounds_toArray, List.set_cons_zero, List.set_cons_succ])
  go_cut [8] (fun v8 wc => ∃ (kq : Nat) (x8_2 : Bool), v8 = .bool x8_2 ∧ Aside0 (pleatref13_Alone.j0 kq a0 t243 x8_2 t243 t244 t245 t246 t247 = some r) ∧ Aside0 (kq ≤ k) ∧ Aside0 (wc.heap[gb248]? = some (.cells #[.int .i8 t243, .int .i8 t244, .int .i8 t245, .int .i8 t246, .int .i64 t247] 94 (0, 0))) ∧ Aside0 (Below w.heap.size w wc))
  case first =>
    have H := HC3.out
    clear HC3
    by_cases c7 : t243 = (-1)
    · rw [if_pos c7] at H
      have c7b0 := beq_iff_eq.mpr c7
      have c7b1 := bne_eq_false_iff_eq.mpr c7
      clear c7
      (first | rw [c7b0] | (simp only [i64_w, i32_w]; rw [c7b0]) | skip)
      have H' := Aside0.mk H
      clear H
      go_wp2
      go_meet
      case rel => exact ⟨_, ((t243 == (-1))), zF', H', ⟨zL⟩, ⟨zBK⟩, ⟨zHB⟩⟩
    · rw [if_neg c7] at H
      have c7b0 := beq_eq_false_iff_ne.mpr c7
      have c7b1 := bne_iff_ne.mpr c7
      (first | rw [c7b0] | (simp only [i64_w, i32_w]; rw [c7b0]) | skip)
      have H' := Aside0.mk H
      clear H
      go_wp2
      go_meet
      case rel => exact ⟨_, ((t243 == 16)), zF', H', ⟨zL⟩, ⟨zBK⟩, ⟨zHB⟩⟩
  case rest =>
    clear HC3
    try clear hcz6
    try clear hfz6
    obtain ⟨kq, x8_2, rfl, HA, HJ2, BK248, HB⟩ := hcut
    cases kq with
    | zero => exact absurd HA.out (by simp [pleatref13_Alone.j0])
    | succ kj2 =>
      have H := HA.out
      clear HA
      simp only [pleatref13_Alone.j0] at H
      by_cases c8 : x8_2 = true
      · subst c8
        rw [if_pos rfl] at H
        obtain rfl := Option.some.inj H
        go_wp2
        go_ret
        exact ⟨zE, zHB⟩
      · replace c8 := Bool.eq_false_iff.mpr c8
        subst c8
        rw [if_neg (show ¬ (false = true) by decide)] at H
        have HC9 := Aside0.mk H
        clear H
        go_upto_if 11 with (fail)
        go_cut [11] (fun v11 wc => ∃ (kq : Nat) (x11_8 : Bool), v11 = .bool x11_8 ∧ Aside0 (pleatref13_Alone.j1 kq a0 t243 x11_8 t243 t244 t245 t246 t247 = some r) ∧ Aside0 (kq ≤ kj2) ∧ Aside0 (wc.heap[gb248]? = some (.cells #[.int .i8 t243, .int .i8 t244, .int .i8 t245, .int .i8 t246, .int .i64 t247] 94 (0, 0))) ∧ Aside0 (Below w.heap.size w wc))
        case first =>
          have H := HC9.out
          clear HC9
          by_cases c10 : t243 = 19
          · rw [if_pos c10] at H
            have c10b0 := beq_iff_eq.mpr c10
            have c10b1 := bne_eq_false_iff_eq.mpr c10
            clear c10
            (first | rw [c10b0] | (simp only [i64_w, i32_w]; rw [c10b0]) | skip)
            have H' := Aside0.mk H
            clear H
            go_wp2
            go_meet
            case rel => exact ⟨_, ((t243 == 19)), zF', H', ⟨by have := HJ2.out; first | omega | exact Nat.le_refl _⟩, ⟨zBK⟩, ⟨zHB⟩⟩
          · rw [if_neg c10] at H
            have c10b0 := beq_eq_false_iff_ne.mpr c10
            have c10b1 := bne_iff_ne.mpr c10
            (first | rw [c10b0] | (simp only [i64_w, i32_w]; rw [c10b0]) | skip)
            have H' := Aside0.mk H
            clear H
            go_wp2
            go_meet
            case rel => exact ⟨_, ((t243 == 17)), zF', H', ⟨by have := HJ2.out; first | omega | exact Nat.le_refl _⟩, ⟨zBK⟩, ⟨zHB⟩⟩
        case rest =>
          clear HC9
          try clear hcz6
          try clear hfz6
          obtain ⟨kq, x11_8, rfl, HA, HJ8, BK248, HB⟩ := hcut
          cases kq with
          | zero => exact absurd HA.out (by simp [pleatref13_Alone.j1])
          | succ kj8 =>
            have H := HA.out
            clear HA
            simp only [pleatref13_Alone.j1] at H
            by_cases c11 : x11_8 = true
            · subst c11
              rw [if_pos rfl] at H
              obtain rfl := Option.some.inj H
              go_wp2
              go_ret
              exact ⟨zE, zHB⟩
            · replace c11 := Bool.eq_false_iff.mpr c11
              subst c11
              rw [if_neg (show ¬ (false = true) by decide)] at H
              by_cases c12 : t243 = 18
              · rw [if_pos c12] at H
                have c12b0 := beq_iff_eq.mpr c12
                have c12b1 := bne_eq_false_iff_eq.mpr c12
                clear c12
                obtain rfl := Option.some.inj H
                have hcz13 := blk_cell BK248.out
                have hfz13 := blk_frozen BK248.out
                go_wp2
                go_ret
                exact ⟨zE, zHB⟩
              · rw [if_neg c12] at H
                have c12b0 := beq_eq_false_iff_ne.mpr c12
                have c12b1 := bne_iff_ne.mpr c12
                replace H := Option.bind_eq_some_iff.mp H
                obtain ⟨t249, A140, H⟩ := H
                (try dsimp only at H)
                have A14 := Aside0.mk A140
                clear A140
                obtain rfl := Option.some.inj H
                go_wp2_with (first | ((with_reducible refine gate_callee (f := 82) rfl ?_); refine zGo (N := (some 20)) Tryd.func82 #[.int .u32 a0] ?_; (with_reducible refine (pleatref13_Links.calls kj8 a0 t249 _ A14.out).mono ?_); rintro e w15 ⟨rfl, hb⟩; refine ⟨_, rfl, ?_⟩; refine zs (blk_below (g := gb248) zBK hb) (zs (below_step (zHB) hb) ?_); clear BK248 HB; intro HB BK248; clear hb))
                go_ret
                exact ⟨zE, zHB⟩

/-! ### pleatref15_Same: function 13 -/
def pleatref15_Same.f (k : Nat) (a0 : Int) (a1 : Int) : Option (Bool) := if a0 = a1 then ((pleatref13_Alone.f k a0).bind fun t250 => (some (!t250))) else (some false)
theorem pleatref15_Same.mono : ∀ a0 a1 k, LeO (pleatref15_Same.f k a0 a1) (pleatref15_Same.f (k + 1) a0 a1) := by
  intro a0 a1 k
  unfold pleatref15_Same.f
  have m0 := @pleatref13_Alone.mono
  exact zMo
set_option maxHeartbeats 8000000 in
set_option maxRecDepth 100000 in
theorem pleatref15_Same.calls (k : Nat) (a0 : Int) (a1 : Int) (r : Bool) (w : World) (h : pleatref15_Same.f k a0 a1 = some r) :
    Calls Tryd.prog 13 #[.int .u32 a0, .int .u32 a1] w fun e w' => e = .returned (.bool r) ∧ Below w.heap.size w w' := by
  have HB := Aside0.mk (Below.refl w.heap.size w)
  have H := h
  clear h
  unfold pleatref15_Same.f at H
  by_cases c3 : a0 = a1
  · rw [if_pos c3] at H
    have c3b0 := beq_iff_eq.mpr c3
    have c3b1 := bne_eq_false_iff_eq.mpr c3
    clear c3
    replace H := Option.bind_eq_some_iff.mp H
    obtain ⟨t250, A40, H⟩ := H
    (try dsimp only at H)
    have A4 := Aside0.mk A40
    clear A40
    obtain rfl := Option.some.inj H
    go_enter Tryd.func13, Tryd.ntmps13
    go_wp2_with (first | (go_at_call 42; (with_reducible refine (pleatref13_Alone.calls k a0 t250 _ A4.out).mono ?_); rintro e w5 ⟨rfl, hb⟩; refine zs (below_step (zHB) hb) ?_; clear HB; intro HB; clear hb))
    go_ret
    exact ⟨zE, zHB⟩
  · rw [if_neg c3] at H
    have c3b0 := beq_eq_false_iff_ne.mpr c3
    have c3b1 := bne_iff_ne.mpr c3
    obtain rfl := Option.some.inj H
    go_enter Tryd.func13, Tryd.ntmps13
    go_wp2
    go_ret
    exact ⟨zE, zHB⟩

end Go.Proofs.YtfgdjpgdabjpmaaDoor.PNumberOf
