-- Written for this claim by a program of this session (wip/tools/pp.py, over the kit's print).
import Derived.Test.YtfgdjpgdabjpmaaDoorPImageReadsx0
namespace Go.Proofs.YtfgdjpgdabjpmaaDoor.PImageReads
open Go.RowKit Go.Proofs.YtfgdjpgdabjpmaaDoorW.PrintWords Go.Proofs.YtfgdjpgdabjpmaaDoorW.PrintLast Go.Proofs.YtfgdjpgdabjpmaaDoorW.PrintMore
attribute [local go_sem] max2_int min2_int max_two min_two max_three min_three max_four min_four   -- for this text's walks alone
set_option linter.unusedVariables false
set_option linter.unusedSimpArgs false

/-! ### pleatref02_Has: function 86 -/
mutual
def pleatref02_Has.j0 : Nat → Int → Bool → Option (Bool × Bool × Bool × Bool × Bool)
  | 0, _, _ => none
  | k + 1, x3, x10 => if x10 = true then (some (true, true, true, false, false)) else (if x3 = 11 then (some (true, true, false, true, false)) else (if x3 = 12 then (some (false, true, true, true, false)) else (if x3 = 13 then (some (true, false, false, false, false)) else (if x3 = 14 then (some (false, true, false, true, false)) else (if x3 = 15 then (pleatref02_Has.j1 k x3 (x3 == 15)) else (pleatref02_Has.j1 k x3 (x3 == 17)))))))
def pleatref02_Has.j1 : Nat → Int → Bool → Option (Bool × Bool × Bool × Bool × Bool)
  | 0, _, _ => none
  | k + 1, x3, x32 => if x32 = true then (some (false, false, false, true, true)) else (if x3 = 16 then (some (false, true, false, true, true)) else (if x3 = 18 then (pleatref02_Has.j2 k x3 (x3 == 18)) else (pleatref02_Has.j2 k x3 (x3 == 19))))
def pleatref02_Has.j2 : Nat → Int → Bool → Option (Bool × Bool × Bool × Bool × Bool)
  | 0, _, _ => none
  | k + 1, x3, x39 => if x39 = true then (some (false, true, false, false, false)) else (if x3 = 20 then (some (true, false, false, true, true)) else (some (false, false, false, false, false)))
end
def pleatref02_Has.f (k : Nat) (a0 : Int) : Option (Bool × Bool × Bool × Bool × Bool) := if a0 = 1 then (some (true, false, false, true, false)) else (if a0 = 2 then (some (true, true, false, false, false)) else (if a0 = 3 then (pleatref02_Has.j0 k a0 (a0 == 3)) else (if a0 = 4 then (pleatref02_Has.j0 k a0 (a0 == 4)) else (if a0 = 5 then (pleatref02_Has.j0 k a0 (a0 == 5)) else (if a0 = 6 then (pleatref02_Has.j0 k a0 (a0 == 6)) else (if a0 = 7 then (pleatref02_Has.j0 k a0 (a0 == 7)) else (if a0 = 8 then (pleatref02_Has.j0 k a0 (a0 == 8)) else (if a0 = 9 then (pleatref02_Has.j0 k a0 (a0 == 9)) else (pleatref02_Has.j0 k a0 (a0 == 10))))))))))
theorem pleatref02_Has.mono_l : ∀ k, (∀ y0 y1, LeO (pleatref02_Has.j0 k y0 y1) (pleatref02_Has.j0 (k + 1) y0 y1)) ∧ (∀ y0 y1, LeO (pleatref02_Has.j1 k y0 y1) (pleatref02_Has.j1 (k + 1) y0 y1)) ∧ (∀ y0 y1, LeO (pleatref02_Has.j2 k y0 y1) (pleatref02_Has.j2 (k + 1) y0 y1))
  | 0 => ⟨fun _ _ r h => by simp [pleatref02_Has.j0] at h, fun _ _ r h => by simp [pleatref02_Has.j1] at h, fun _ _ r h => by simp [pleatref02_Has.j2] at h⟩
  | k + 1 => by
    obtain ⟨ih0, ih1, ih2⟩ := pleatref02_Has.mono_l k
    refine ⟨?_, ?_, ?_⟩
    · intro y0 y1
      unfold pleatref02_Has.j0
      exact zMo
    · intro y0 y1
      unfold pleatref02_Has.j1
      exact zMo
    · intro y0 y1
      unfold pleatref02_Has.j2
      exact zMo
theorem pleatref02_Has.mono : ∀ a0 k, LeO (pleatref02_Has.f k a0) (pleatref02_Has.f (k + 1) a0) := by
  intro a0 k
  obtain ⟨ih0, ih1, ih2⟩ := pleatref02_Has.mono_l k
  unfold pleatref02_Has.f
  exact zMo
set_option maxHeartbeats 8000000 in
set_option maxRecDepth 100000 in
theorem pleatref02_Has.calls (k : Nat) (a0 : Int) (r1 : Bool) (r2 : Bool) (r3 : Bool) (r4 : Bool) (r5 : Bool) (w : World) (h : pleatref02_Has.f k a0 = some (r1, r2, r3, r4, r5)) :
    Calls Tryd.prog 86 #[.int .i8 a0] w fun e w' => e = .returned (.agg #[.bool r1, .bool r2, .bool r3, .bool r4, .bool r5]) ∧ Below w.heap.size w w' := by
  have hu150 := Tryd.underlying150
  have HB := Aside0.mk (Below.refl w.heap.size w)
  have H := h
  clear h
  unfold pleatref02_Has.f at H
  by_cases c2 : a0 = 1
  · rw [if_pos c2] at H
    have c2b0 := beq_iff_eq.mpr c2
    have c2b1 := bne_eq_false_iff_eq.mpr c2
    clear c2
    simp only [Option.some.injEq, Prod.mk.injEq] at H
    obtain ⟨rfl, rfl, rfl, rfl, rfl⟩ := H
    go_enter Tryd.func86, Tryd.ntmps86
    go_wp2_with (first | ((with_reducible refine gate_dst (N := 2) rfl ?_); refine zBox (N := 2) (cs := #[.bool false, .bool false, .bool false, .bool false, .bool false]) (t := 150) ?_; intro gb189 hg w3 hbox hb; refine zs (below_step (zHB) hb) (zs hbox (zs (zGe hg zHB) (zs (zGe hg zHB) ?_))); clear HB; intro GE189 GW189 BK189 HB; clear hb hbox hg; have hcz4 := blk_cell BK189.out; have hfz4 := blk_frozen BK189.out))
    refine zRet gb189 150 #[.bool true, .bool false, .bool false, .bool true, .bool false] Tryd.underlying150 ?_
    exact ⟨zE, zHB⟩
  · rw [if_neg c2] at H
    have c2b0 := beq_eq_false_iff_ne.mpr c2
    have c2b1 := bne_iff_ne.mpr c2
    by_cases c5 : a0 = 2
    · rw [if_pos c5] at H
      have c5b0 := beq_iff_eq.mpr c5
      have c5b1 := bne_eq_false_iff_eq.mpr c5
      clear c5
      simp only [Option.some.injEq, Prod.mk.injEq] at H
      obtain ⟨rfl, rfl, rfl, rfl, rfl⟩ := H
      go_enter Tryd.func86, Tryd.ntmps86
      go_wp2_with (first | ((with_reducible refine gate_dst (N := 2) rfl ?_); refine zBox (N := 2) (cs := #[.bool false, .bool false, .bool false, .bool false, .bool false]) (t := 150) ?_; intro gb189 hg w6 hbox hb; refine zs (below_step (zHB) hb) (zs hbox (zs (zGe hg zHB) (zs (zGe hg zHB) ?_))); clear HB; intro GE189 GW189 BK189 HB; clear hb hbox hg; have hcz7 := blk_cell BK189.out; have hfz7 := blk_frozen BK189.out))
      refine zRet gb189 150 #[.bool true, .bool true, .bool false, .bool false, .bool false] Tryd.underlying150 ?_
      exact ⟨zE, zHB⟩
    · rw [if_neg c5] at H
      have c5b0 := beq_eq_false_iff_ne.mpr c5
      have c5b1 := bne_iff_ne.mpr c5
      have HC8 := Aside0.mk H
      clear H
      go_enter Tryd.func86, Tryd.ntmps86
      go_upto_if 10 with (first | ((with_reducible refine gate_dst (N := 2) rfl ?_); refine zBox (N := 2) (cs := #[.bool false, .bool false, .bool false, .bool false, .bool false]) (t := 150) ?_; intro gb189 hg w9 hbox hb; refine zs (below_step (zHB) hb) (zs hbox (zs (zGe hg zHB) (zs (zGe hg zHB) ?_))); clear HB; intro GE189 GW189 BK189 HB; clear hb hbox hg))
      (try simp only [Act.put, List.setIfInBounds_toArray, List.set_cons_zero, List.set_cons_succ])
      go_cut [10] (fun v10 wc => ∃ (kq : Nat) (x10_7 : Bool), v10 = .bool x10_7 ∧ Aside0 (pleatref02_Has.j0 kq a0 x10_7 = some (r1, r2, r3, r4, r5)) ∧ Aside0 (kq ≤ k) ∧ Aside0 (wc.heap[gb189]? = some (.cells #[.bool false, .bool false, .bool false, .bool false, .bool false] 150 (0, 0))) ∧ Aside0 (Below w.heap.size w wc))
      case first =>
        have H := HC8.out
        clear HC8
        by_cases c10 : a0 = 3
        · rw [if_pos c10] at H
          have c10b0 := beq_iff_eq.mpr c10
          have c10b1 := bne_eq_false_iff_eq.mpr c10
          clear c10
          (first | rw [c10b0] | (simp only [i64_w, i32_w]; rw [c10b0]) | skip)
          have H' := Aside0.mk H
          clear H
          go_wp2
          go_meet
          case rel => exact ⟨_, ((a0 == 3)), zF', H', ⟨zL⟩, ⟨zBK⟩, ⟨zHB⟩⟩
        · rw [if_neg c10] at H
          have c10b0 := beq_eq_false_iff_ne.mpr c10
          have c10b1 := bne_iff_ne.mpr c10
          (first | rw [c10b0] | (simp only [i64_w, i32_w]; rw [c10b0]) | skip)
          by_cases c11 : a0 = 4
          · rw [if_pos c11] at H
            have c11b0 := beq_iff_eq.mpr c11
            have c11b1 := bne_eq_false_iff_eq.mpr c11
            clear c11
            have H' := Aside0.mk H
            clear H
            go_wp2
            go_meet
            case rel => exact ⟨_, ((a0 == 4)), zF', H', ⟨zL⟩, ⟨zBK⟩, ⟨zHB⟩⟩
          · rw [if_neg c11] at H
            have c11b0 := beq_eq_false_iff_ne.mpr c11
            have c11b1 := bne_iff_ne.mpr c11
            by_cases c12 : a0 = 5
            · rw [if_pos c12] at H
              have c12b0 := beq_iff_eq.mpr c12
              have c12b1 := bne_eq_false_iff_eq.mpr c12
              clear c12
              have H' := Aside0.mk H
              clear H
              go_wp2
              go_meet
              case rel => exact ⟨_, ((a0 == 5)), zF', H', ⟨zL⟩, ⟨zBK⟩, ⟨zHB⟩⟩
            · rw [if_neg c12] at H
              have c12b0 := beq_eq_false_iff_ne.mpr c12
              have c12b1 := bne_iff_ne.mpr c12
              by_cases c13 : a0 = 6
              · rw [if_pos c13] at H
                have c13b0 := beq_iff_eq.mpr c13
                have c13b1 := bne_eq_false_iff_eq.mpr c13
                clear c13
                have H' := Aside0.mk H
                clear H
                go_wp2
                go_meet
                case rel => exact ⟨_, ((a0 == 6)), zF', H', ⟨zL⟩, ⟨zBK⟩, ⟨zHB⟩⟩
              · rw [if_neg c13] at H
                have c13b0 := beq_eq_false_iff_ne.mpr c13
                have c13b1 := bne_iff_ne.mpr c13
                by_cases c14 : a0 = 7
                · rw [if_pos c14] at H
                  have c14b0 := beq_iff_eq.mpr c14
                  have c14b1 := bne_eq_false_iff_eq.mpr c14
                  clear c14
                  have H' := Aside0.mk H
                  clear H
                  go_wp2
                  go_meet
                  case rel => exact ⟨_, ((a0 == 7)), zF', H', ⟨zL⟩, ⟨zBK⟩, ⟨zHB⟩⟩
                · rw [if_neg c14] at H
                  have c14b0 := beq_eq_false_iff_ne.mpr c14
                  have c14b1 := bne_iff_ne.mpr c14
                  by_cases c15 : a0 = 8
                  · rw [if_pos c15] at H
                    have c15b0 := beq_iff_eq.mpr c15
                    have c15b1 := bne_eq_false_iff_eq.mpr c15
                    clear c15
                    have H' := Aside0.mk H
                    clear H
                    go_wp2
                    go_meet
                    case rel => exact ⟨_, ((a0 == 8)), zF', H', ⟨zL⟩, ⟨zBK⟩, ⟨zHB⟩⟩
                  · rw [if_neg c15] at H
                    have c15b0 := beq_eq_false_iff_ne.mpr c15
                    have c15b1 := bne_iff_ne.mpr c15
                    by_cases c16 : a0 = 9
                    · rw [if_pos c16] at H
                      have c16b0 := beq_iff_eq.mpr c16
                      have c16b1 := bne_eq_false_iff_eq.mpr c16
                      clear c16
                      have H' := Aside0.mk H
                      clear H
                      go_wp2
                      go_meet
                      case rel => exact ⟨_, ((a0 == 9)), zF', H', ⟨zL⟩, ⟨zBK⟩, ⟨zHB⟩⟩
                    · rw [if_neg c16] at H
                      have c16b0 := beq_eq_false_iff_ne.mpr c16
                      have c16b1 := bne_iff_ne.mpr c16
                      have H' := Aside0.mk H
                      clear H
                      go_wp2
                      go_meet
                      case rel => exact ⟨_, ((a0 == 10)), zF', H', ⟨zL⟩, ⟨zBK⟩, ⟨zHB⟩⟩
      case rest =>
        clear HC8
        try clear c2b0
        try clear c2b1
        try clear c5b0
        try clear c5b1
        obtain ⟨kq, x10_7, rfl, HA, HJ7, BK189, HB⟩ := hcut
        cases kq with
        | zero => exact absurd HA.out (by simp [pleatref02_Has.j0])
        | succ kj7 =>
          have H := HA.out
          clear HA
          simp only [pleatref02_Has.j0] at H
          by_cases c17 : x10_7 = true
          · subst c17
            rw [if_pos rfl] at H
            simp only [Option.some.injEq, Prod.mk.injEq] at H
            obtain ⟨rfl, rfl, rfl, rfl, rfl⟩ := H
            have hcz18 := blk_cell BK189.out
            have hfz18 := blk_frozen BK189.out
            go_wp2
            refine zRet gb189 150 #[.bool true, .bool true, .bool true, .bool false, .bool false] Tryd.underlying150 ?_
            exact ⟨zE, zHB⟩
          · replace c17 := Bool.eq_false_iff.mpr c17
            subst c17
            rw [if_neg (show ¬ (false = true) by decide)] at H
            by_cases c19 : a0 = 11
            · rw [if_pos c19] at H
              have c19b0 := beq_iff_eq.mpr c19
              have c19b1 := bne_eq_false_iff_eq.mpr c19
              clear c19
              simp only [Option.some.injEq, Prod.mk.injEq] at H
              obtain ⟨rfl, rfl, rfl, rfl, rfl⟩ := H
              have hcz20 := blk_cell BK189.out
              have hfz20 := blk_frozen BK189.out
              go_wp2
              refine zRet gb189 150 #[.bool true, .bool true, .bool false, .bool true, .bool false] Tryd.underlying150 ?_
              exact ⟨zE, zHB⟩
            · rw [if_neg c19] at H
              have c19b0 := beq_eq_false_iff_ne.mpr c19
              have c19b1 := bne_iff_ne.mpr c19
              by_cases c21 : a0 = 12
              · rw [if_pos c21] at H
                have c21b0 := beq_iff_eq.mpr c21
                have c21b1 := bne_eq_false_iff_eq.mpr c21
                clear c21
                simp only [Option.some.injEq, Prod.mk.injEq] at H
                obtain ⟨rfl, rfl, rfl, rfl, rfl⟩ := H
                have hcz22 := blk_cell BK189.out
                have hfz22 := blk_frozen BK189.out
                go_wp2
                refine zRet gb189 150 #[.bool false, .bool true, .bool true, .bool true, .bool false] Tryd.underlying150 ?_
                exact ⟨zE, zHB⟩
              · rw [if_neg c21] at H
                have c21b0 := beq_eq_false_iff_ne.mpr c21
                have c21b1 := bne_iff_ne.mpr c21
                by_cases c23 : a0 = 13
                · rw [if_pos c23] at H
                  have c23b0 := beq_iff_eq.mpr c23
                  have c23b1 := bne_eq_false_iff_eq.mpr c23
                  clear c23
                  simp only [Option.some.injEq, Prod.mk.injEq] at H
                  obtain ⟨rfl, rfl, rfl, rfl, rfl⟩ := H
                  have hcz24 := blk_cell BK189.out
                  have hfz24 := blk_frozen BK189.out
                  go_wp2
                  refine zRet gb189 150 #[.bool true, .bool false, .bool false, .bool false, .bool false] Tryd.underlying150 ?_
                  exact ⟨zE, zHB⟩
                · rw [if_neg c23] at H
                  have c23b0 := beq_eq_false_iff_ne.mpr c23
                  have c23b1 := bne_iff_ne.mpr c23
                  by_cases c25 : a0 = 14
                  · rw [if_pos c25] at H
                    have c25b0 := beq_iff_eq.mpr c25
                    have c25b1 := bne_eq_false_iff_eq.mpr c25
                    clear c25
                    simp only [Option.some.injEq, Prod.mk.injEq] at H
                    obtain ⟨rfl, rfl, rfl, rfl, rfl⟩ := H
                    have hcz26 := blk_cell BK189.out
                    have hfz26 := blk_frozen BK189.out
                    go_wp2
                    refine zRet gb189 150 #[.bool false, .bool true, .bool false, .bool true, .bool false] Tryd.underlying150 ?_
                    exact ⟨zE, zHB⟩
                  · rw [if_neg c25] at H
                    have c25b0 := beq_eq_false_iff_ne.mpr c25
                    have c25b1 := bne_iff_ne.mpr c25
                    have HC27 := Aside0.mk H
                    clear H
                    go_upto_if 32 with (fail)
                    go_cut [32] (fun v32 wc => ∃ (kq : Nat) (x32_26 : Bool), v32 = .bool x32_26 ∧ Aside0 (pleatref02_Has.j1 kq a0 x32_26 = some (r1, r2, r3, r4, r5)) ∧ Aside0 (kq ≤ kj7) ∧ Aside0 (wc.heap[gb189]? = some (.cells #[.bool false, .bool false, .bool false, .bool false, .bool false] 150 (0, 0))) ∧ Aside0 (Below w.heap.size w wc))
                    case first =>
                      have H := HC27.out
                      clear HC27
                      by_cases c28 : a0 = 15
                      · rw [if_pos c28] at H
                        have c28b0 := beq_iff_eq.mpr c28
                        have c28b1 := bne_eq_false_iff_eq.mpr c28
                        clear c28
                        (first | rw [c28b0] | (simp only [i64_w, i32_w]; rw [c28b0]) | skip)
                        have H' := Aside0.mk H
                        clear H
                        go_wp2
                        go_meet
                        case rel => exact ⟨_, ((a0 == 15)), zF', H', ⟨by have := HJ7.out; first | omega | exact Nat.le_refl _⟩, ⟨zBK⟩, ⟨zHB⟩⟩
                      · rw [if_neg c28] at H
                        have c28b0 := beq_eq_false_iff_ne.mpr c28
                        have c28b1 := bne_iff_ne.mpr c28
                        (first | rw [c28b0] | (simp only [i64_w, i32_w]; rw [c28b0]) | skip)
                        have H' := Aside0.mk H
                        clear H
                        go_wp2
                        go_meet
                        case rel => exact ⟨_, ((a0 == 17)), zF', H', ⟨by have := HJ7.out; first | omega | exact Nat.le_refl _⟩, ⟨zBK⟩, ⟨zHB⟩⟩
                    case rest =>
                      clear HC27
                      try clear c19b0
                      try clear c19b1
                      try clear c21b0
                      try clear c21b1
                      try clear c23b0
                      try clear c23b1
                      try clear c25b0
                      try clear c25b1
                      try clear c2b0
                      try clear c2b1
                      try clear c5b0
                      try clear c5b1
                      obtain ⟨kq, x32_26, rfl, HA, HJ26, BK189, HB⟩ := hcut
                      cases kq with
                      | zero => exact absurd HA.out (by simp [pleatref02_Has.j1])
                      | succ kj26 =>
                        have H := HA.out
                        clear HA
                        simp only [pleatref02_Has.j1] at H
                        by_cases c29 : x32_26 = true
                        · subst c29
                          rw [if_pos rfl] at H
                          simp only [Option.some.injEq, Prod.mk.injEq] at H
                          obtain ⟨rfl, rfl, rfl, rfl, rfl⟩ := H
                          have hcz30 := blk_cell BK189.out
                          have hfz30 := blk_frozen BK189.out
                          go_wp2
                          refine zRet gb189 150 #[.bool false, .bool false, .bool false, .bool true, .bool true] Tryd.underlying150 ?_
                          exact ⟨zE, zHB⟩
                        · replace c29 := Bool.eq_false_iff.mpr c29
                          subst c29
                          rw [if_neg (show ¬ (false = true) by decide)] at H
                          by_cases c31 : a0 = 16
                          · rw [if_pos c31] at H
                            have c31b0 := beq_iff_eq.mpr c31
                            have c31b1 := bne_eq_false_iff_eq.mpr c31
                            clear c31
                            simp only [Option.some.injEq, Prod.mk.injEq] at H
                            obtain ⟨rfl, rfl, rfl, rfl, rfl⟩ := H
                            have hcz32 := blk_cell BK189.out
                            have hfz32 := blk_frozen BK189.out
                            go_wp2
                            refine zRet gb189 150 #[.bool false, .bool true, .bool false, .bool true, .bool true] Tryd.underlying150 ?_
                            exact ⟨zE, zHB⟩
                          · rw [if_neg c31] at H
                            have c31b0 := beq_eq_false_iff_ne.mpr c31
                            have c31b1 := bne_iff_ne.mpr c31
                            have HC33 := Aside0.mk H
                            clear H
                            go_upto_if 39 with (fail)
                            go_cut [39] (fun v39 wc => ∃ (kq : Nat) (x39_32 : Bool), v39 = .bool x39_32 ∧ Aside0 (pleatref02_Has.j2 kq a0 x39_32 = some (r1, r2, r3, r4, r5)) ∧ Aside0 (kq ≤ kj26) ∧ Aside0 (wc.heap[gb189]? = some (.cells #[.bool false, .bool false, .bool false, .bool false, .bool false] 150 (0, 0))) ∧ Aside0 (Below w.heap.size w wc))
                            case first =>
                              have H := HC33.out
                              clear HC33
                              by_cases c34 : a0 = 18
                              · rw [if_pos c34] at H
                                have c34b0 := beq_iff_eq.mpr c34
                                have c34b1 := bne_eq_false_iff_eq.mpr c34
                                clear c34
                                (first | rw [c34b0] | (simp only [i64_w, i32_w]; rw [c34b0]) | skip)
                                have H' := Aside0.mk H
                                clear H
                                go_wp2
                                go_meet
                                case rel => exact ⟨_, ((a0 == 18)), zF', H', ⟨by have := HJ7.out; have := HJ26.out; first | omega | exact Nat.le_refl _⟩, ⟨zBK⟩, ⟨zHB⟩⟩
                              · rw [if_neg c34] at H
                                have c34b0 := beq_eq_false_iff_ne.mpr c34
                                have c34b1 := bne_iff_ne.mpr c34
                                (first | rw [c34b0] | (simp only [i64_w, i32_w]; rw [c34b0]) | skip)
                                have H' := Aside0.mk H
                                clear H
                                go_wp2
                                go_meet
                                case rel => exact ⟨_, ((a0 == 19)), zF', H', ⟨by have := HJ7.out; have := HJ26.out; first | omega | exact Nat.le_refl _⟩, ⟨zBK⟩, ⟨zHB⟩⟩
                            case rest =>
                              clear HC33
                              try clear c19b0
                              try clear c19b1
                              try clear c21b0
                              try clear c21b1
                              try clear c23b0
                              try clear c23b1
                              try clear c25b0
                              try clear c25b1
                              try clear c2b0
                              try clear c2b1
                              try clear c31b0
                              try clear c31b1
                              try clear c5b0
                              try clear c5b1
                              obtain ⟨kq, x39_32, rfl, HA, HJ32, BK189, HB⟩ := hcut
                              cases kq with
                              | zero => exact absurd HA.out (by simp [pleatref02_Has.j2])
                              | succ kj32 =>
                                have H := HA.out
                                clear HA
                                simp only [pleatref02_Has.j2] at H
                                by_cases c35 : x39_32 = true
                                · subst c35
                                  rw [if_pos rfl] at H
                                  simp only [Option.some.injEq, Prod.mk.injEq] at H
                                  obtain ⟨rfl, rfl, rfl, rfl, rfl⟩ := H
                                  have hcz36 := blk_cell BK189.out
                                  have hfz36 := blk_frozen BK189.out
                                  go_wp2
                                  refine zRet gb189 150 #[.bool false, .bool true, .bool false, .bool false, .bool false] Tryd.underlying150 ?_
                                  exact ⟨zE, zHB⟩
                                · replace c35 := Bool.eq_false_iff.mpr c35
                                  subst c35
                                  rw [if_neg (show ¬ (false = true) by decide)] at H
                                  by_cases c37 : a0 = 20
                                  · rw [if_pos c37] at H
                                    have c37b0 := beq_iff_eq.mpr c37
                                    have c37b1 := bne_eq_false_iff_eq.mpr c37
                                    clear c37
                                    simp only [Option.some.injEq, Prod.mk.injEq] at H
                                    obtain ⟨rfl, rfl, rfl, rfl, rfl⟩ := H
                                    have hcz38 := blk_cell BK189.out
                                    have hfz38 := blk_frozen BK189.out
                                    go_wp2
                                    refine zRet gb189 150 #[.bool true, .bool false, .bool false, .bool true, .bool true] Tryd.underlying150 ?_
                                    exact ⟨zE, zHB⟩
                                  · rw [if_neg c37] at H
                                    have c37b0 := beq_eq_false_iff_ne.mpr c37
                                    have c37b1 := bne_iff_ne.mpr c37
                                    simp only [Option.some.injEq, Prod.mk.injEq] at H
                                    obtain ⟨rfl, rfl, rfl, rfl, rfl⟩ := H
                                    have hcz39 := blk_cell BK189.out
                                    have hfz39 := blk_frozen BK189.out
                                    go_wp2
                                    refine zRet gb189 150 #[.bool false, .bool false, .bool false, .bool false, .bool false] Tryd.underlying150 ?_
                                    exact ⟨zE, zHB⟩

/-! ### pleatref02_register: function 99 -/
def pleatref02_register.f (a0 : Bool) (a1 : Int) : Option (Bool) := if a0 = true then (if a1 ≥ 0 then (some (decide (a1 < 16))) else (some false)) else (some (a1 == 0))
set_option maxHeartbeats 8000000 in
set_option maxRecDepth 100000 in
theorem pleatref02_register.calls (a0 : Bool) (a1 : Int) (r : Bool) (w : World) (h : pleatref02_register.f a0 a1 = some r) :
    Calls Tryd.prog 99 #[.bool a0, .int .i8 a1] w fun e w' => e = .returned (.bool r) ∧ Drawn0 w w' := by
  have H := h
  clear h
  unfold pleatref02_register.f at H
  by_cases c3 : a0 = true
  · subst c3
    rw [if_pos rfl] at H
    by_cases c4 : a1 ≥ 0
    · rw [if_pos c4] at H
      have c4b0 : decide (0 ≤ a1) = true := decide_eq_true c4
      clear c4
      obtain rfl := Option.some.inj H
      go_enter Tryd.func99, Tryd.ntmps99
      go_wp2
      go_ret
      exact ⟨zF', zDr⟩
    · rw [if_neg c4] at H
      have c4b0 : decide (0 ≤ a1) = false := decide_eq_false c4
      clear c4
      obtain rfl := Option.some.inj H
      go_enter Tryd.func99, Tryd.ntmps99
      go_wp2
      go_ret
      exact ⟨zF', zDr⟩
  · replace c3 := Bool.eq_false_iff.mpr c3
    subst c3
    rw [if_neg (show ¬ (false = true) by decide)] at H
    obtain rfl := Option.some.inj H
    go_enter Tryd.func99, Tryd.ntmps99
    go_wp2
    go_ret
    exact ⟨zF', zDr⟩

end Go.Proofs.YtfgdjpgdabjpmaaDoor.PImageReads
