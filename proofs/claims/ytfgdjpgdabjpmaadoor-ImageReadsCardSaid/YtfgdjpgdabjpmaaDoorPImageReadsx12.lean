-- Written for this claim by a program of this session (wip/tools/pp.py, over the kit's print).
import Derived.Test.YtfgdjpgdabjpmaaDoorPImageReadsx0
import Derived.Test.YtfgdjpgdabjpmaaDoorPImageReadsx10
import Derived.Test.YtfgdjpgdabjpmaaDoorPImageReadsx11
namespace Go.Proofs.YtfgdjpgdabjpmaaDoor.PImageReads
open Go.RowKit Go.Proofs.YtfgdjpgdabjpmaaDoorW.PrintWords Go.Proofs.YtfgdjpgdabjpmaaDoorW.PrintLast Go.Proofs.YtfgdjpgdabjpmaaDoorW.PrintMore
attribute [local go_sem] max2_int min2_int max_two min_two max_three min_three max_four min_four   -- for this text's walks alone
set_option linter.unusedVariables false
set_option linter.unusedSimpArgs false

/-! ### pleatref07_Taker_Count: function 75 -/
def pleatref07_Taker_Count.j0 : Nat → Int → Int → Bool → List Int → Int → Int → Int → Option (Int × Int × Int × Int)
  | 0, _, _, _, _, _, _, _ => none
  | k + 1, x5, x6, x23, x1000, x1001, x1002, x1003 => if x23 = true then ((pleatref07_Taker_Wrong.f x1000 x1001 x1002 x1003 27 x5).bind fun bt254 => (if bt254.2.1 = 0 then (some (wrap64 (x6), bt254.1, bt254.2.1, bt254.2.2)) else (some (0, bt254.1, bt254.2.1, bt254.2.2)))) else (if x1002 = 0 then (some (wrap64 (x6), x1001, x1002, x1003)) else (some (0, x1001, x1002, x1003)))
def pleatref07_Taker_Count.f (k : Nat) (s0_0 : List Int) (s0_1 : Int) (s0_2 : Int) (s0_3 : Int) (a1 : Int) : Option (Int × Int × Int × Int) := (pleatref07_Taker_Four.f k s0_0 s0_1 s0_2 s0_3).bind fun bt250 => (if bt250.2.2.1 = 0 then (pleatref07_Taker_Count.j0 k s0_1 bt250.1 (decide ((wrap64 (bt250.1)) > a1)) s0_0 bt250.2.1 bt250.2.2.1 bt250.2.2.2) else (pleatref07_Taker_Count.j0 k s0_1 bt250.1 false s0_0 bt250.2.1 bt250.2.2.1 bt250.2.2.2))
theorem pleatref07_Taker_Count.mono_l : ∀ k, (∀ y0 y1 y2 y3 y4 y5 y6, LeO (pleatref07_Taker_Count.j0 k y0 y1 y2 y3 y4 y5 y6) (pleatref07_Taker_Count.j0 (k + 1) y0 y1 y2 y3 y4 y5 y6))
  | 0 => fun _ _ _ _ _ _ _ r h => by simp [pleatref07_Taker_Count.j0] at h
  | k + 1 => by
    have ih0 := pleatref07_Taker_Count.mono_l k
    · intro y0 y1 y2 y3 y4 y5 y6
      unfold pleatref07_Taker_Count.j0
      have m0 := @pleatref07_Taker_Four.mono
      exact zMo
theorem pleatref07_Taker_Count.mono : ∀ a0 a1 a2 a3 a4 k, LeO (pleatref07_Taker_Count.f k a0 a1 a2 a3 a4) (pleatref07_Taker_Count.f (k + 1) a0 a1 a2 a3 a4) := by
  intro a0 a1 a2 a3 a4 k
  have ih0 := pleatref07_Taker_Count.mono_l k
  unfold pleatref07_Taker_Count.f
  have m0 := @pleatref07_Taker_Four.mono
  exact zMo
set_option maxHeartbeats 8000000 in
set_option maxRecDepth 100000 in
theorem pleatref07_Taker_Count.calls (k : Nat) (g : Nat) (s0_0 : List Int) (s0_1 : Int) (s0_2 : Int) (s0_3 : Int) (a1 : Int) (r1 : Int) (r2 : Int) (r3 : Int) (r4 : Int) (w0 w : World) (hI : IsS109 w0 w g s0_0 s0_1 s0_2 s0_3) (hB : Below w0.heap.size w0 w) (h : pleatref07_Taker_Count.f k s0_0 s0_1 s0_2 s0_3 a1 = some (r1, r2, r3, r4)) :
    Calls Tryd.prog 75 #[.pointer (some ⟨g, 0, none⟩), .int .i64 a1] w fun e w' => e = .returned (.int .i64 r1) ∧ IsS109 w0 w' g s0_0 r2 r3 r4 ∧ Below w0.heap.size w0 w' ∧ KeepBut w w' g none := by
  have HI0 := Aside0.mk hI
  have HK := Aside0.mk (KeepBut.refl w g none)
  have HL := Aside0.mk hB.size
  clear hI
  have HW0 := Aside0.mk hB.size
  have HB := Aside0.mk hB
  clear hB
  have H := h
  clear h
  unfold pleatref07_Taker_Count.f at H
  replace H := Option.bind_eq_some_iff.mp H
  obtain ⟨⟨t250, t251, t252, t253⟩, A30, H⟩ := H
  (try dsimp only at H)
  have A3 := Aside0.mk A30
  clear A30
  have HC4 := Aside0.mk H
  clear H
  obtain ⟨ASz5_0, cSz5_0, HGz5, hgz5, HSz5_0⟩ := HI0.out
  have hcz5_0 := cellS109_0 HGz5
  have hcz5_1 := cellS109_1 HGz5
  have hcz5_2 := cellS109_2 HGz5
  have hcz5_3 := cellS109_3 HGz5
  have hfz5_1 := blk_frozen HGz5 1
  have hfz5_2 := blk_frozen HGz5 2
  have hfz5_3 := blk_frozen HGz5 3
  clear HGz5 hgz5
  go_enter Tryd.func75, Tryd.ntmps75
  go_upto_region 3 with (first | ((with_reducible refine gate_callee (f := 76) rfl ?_); refine zGo (N := (some 12)) Tryd.func76 #[.pointer (some ⟨g, 0, none⟩)] ?_; (with_reducible refine (pleatref07_Taker_Four.calls k g s0_0 s0_1 s0_2 s0_3 t250 t251 t252 t253 w0 _ ?side1 ?side2 A3.out).mono ?_); (case side1 => repeat (first | (with_reducible first | exact HI0.out | apply IsS109.alloc | apply IsS109.drewN | apply IsS109.drew | apply IsS109.set_1 | apply IsS109.set_2 | apply IsS109.set_3) | exact HI0.out)); (case side2 => repeat (first | (with_reducible first | exact HB.out | apply below_alloc | apply pw_below_drewN | apply below_drew1 | refine below_set ?_ (IsS109.ge HI0.out)) | exact HB.out)); rintro e w6 ⟨rfl, hi, hb, hk⟩; refine ⟨_, rfl, ?_⟩; refine zs (KeepBut.trans (by repeat (first | (with_reducible first | exact HK.out | apply KeepBut.set_ | apply keep_drewN | apply keep_drew | apply keep_alloc) | exact HK.out)) hk (.inl rfl)) (zs hb (zs (hi) ?_)); clear HK HB HI0; intro HI0 HB HK; (try clear hb); (try clear hb2); (try clear hk); (try clear hi)))
  (try simp only [Act.put, List.setIfInBounds_toArray, List.set_cons_zero, List.set_cons_succ])
  go_cut [23] (fun v23 wc => ∃ (kq : Nat) (x23_3 : Bool), v23 = .bool x23_3 ∧ Aside0 (pleatref07_Taker_Count.j0 kq s0_1 t250 x23_3 s0_0 t251 t252 t253 = some (r1, r2, r3, r4)) ∧ Aside0 (kq ≤ k) ∧ Aside0 (IsS109 w0 wc g s0_0 t251 t252 t253) ∧ Aside0 (KeepBut w wc g none) ∧ Aside0 (Below w0.heap.size w0 wc))
  case first =>
    have H := HC4.out
    clear HC4
    by_cases c7 : t252 = 0
    · rw [if_pos c7] at H
      have c7b0 := beq_iff_eq.mpr c7
      have c7b1 := bne_eq_false_iff_eq.mpr c7
      clear c7
      (first | rw [c7b0] | (simp only [i64_w, i32_w]; rw [c7b0]) | skip)
      have H' := Aside0.mk H
      clear H
      obtain ⟨ASz8_0, cSz8_0, HGz8, hgz8, HSz8_0⟩ := HI0.out
      have hcz8_0 := cellS109_0 HGz8
      have hcz8_1 := cellS109_1 HGz8
      have hcz8_2 := cellS109_2 HGz8
      have hcz8_3 := cellS109_3 HGz8
      have hfz8_1 := blk_frozen HGz8 1
      have hfz8_2 := blk_frozen HGz8 2
      have hfz8_3 := blk_frozen HGz8 3
      clear HGz8 hgz8
      go_wp2
      go_meet
      case rel => exact ⟨_, (decide ((wrap64 (t250)) > a1)), zF', H', ⟨zL⟩, ⟨by repeat (first | (with_reducible first | exact HI0.out | apply IsS109.alloc | apply IsS109.drewN | apply IsS109.drew | apply IsS109.set_1 | apply IsS109.set_2 | apply IsS109.set_3) | exact HI0.out)⟩, ⟨by repeat (first | (with_reducible first | exact HK.out | apply KeepBut.set_ | apply keep_drewN | apply keep_drew | apply keep_alloc) | exact HK.out)⟩, ⟨by repeat (first | (with_reducible first | exact HB.out | apply below_alloc | apply pw_below_drewN | apply below_drew1 | refine below_set ?_ (IsS109.ge HI0.out)) | exact HB.out)⟩⟩
    · rw [if_neg c7] at H
      have c7b0 := beq_eq_false_iff_ne.mpr c7
      have c7b1 := bne_iff_ne.mpr c7
      (first | rw [c7b0] | (simp only [i64_w, i32_w]; rw [c7b0]) | skip)
      have H' := Aside0.mk H
      clear H
      obtain ⟨ASz9_0, cSz9_0, HGz9, hgz9, HSz9_0⟩ := HI0.out
      have hcz9_0 := cellS109_0 HGz9
      have hcz9_1 := cellS109_1 HGz9
      have hcz9_2 := cellS109_2 HGz9
      have hcz9_3 := cellS109_3 HGz9
      have hfz9_1 := blk_frozen HGz9 1
      have hfz9_2 := blk_frozen HGz9 2
      have hfz9_3 := blk_frozen HGz9 3
      clear HGz9 hgz9
      go_wp2
      go_meet
      case rel => exact ⟨_, (false), zF', H', ⟨zL⟩, ⟨by repeat (first | (with_reducible first | exact HI0.out | apply IsS109.alloc | apply IsS109.drewN | apply IsS109.drew | apply IsS109.set_1 | apply IsS109.set_2 | apply IsS109.set_3) | exact HI0.out)⟩, ⟨by repeat (first | (with_reducible first | exact HK.out | apply KeepBut.set_ | apply keep_drewN | apply keep_drew | apply keep_alloc) | exact HK.out)⟩, ⟨by repeat (first | (with_reducible first | exact HB.out | apply below_alloc | apply pw_below_drewN | apply below_drew1 | refine below_set ?_ (IsS109.ge HI0.out)) | exact HB.out)⟩⟩
  case rest =>
    clear HC4
    try clear hcz5_0
    try clear hcz5_1
    try clear hcz5_2
    try clear hcz5_3
    try clear hfz5_1
    try clear hfz5_2
    try clear hfz5_3
    obtain ⟨kq, x23_3, rfl, HA, HJ3, HI0, HK, HB⟩ := hcut
    cases kq with
    | zero => exact absurd HA.out (by simp [pleatref07_Taker_Count.j0])
    | succ kj3 =>
      have H := HA.out
      clear HA
      simp only [pleatref07_Taker_Count.j0] at H
      by_cases c10 : x23_3 = true
      · subst c10
        rw [if_pos rfl] at H
        replace H := Option.bind_eq_some_iff.mp H
        obtain ⟨⟨t254, t255, t256⟩, A110, H⟩ := H
        (try dsimp only at H)
        have A11 := Aside0.mk A110
        clear A110
        by_cases c12 : t255 = 0
        · rw [if_pos c12] at H
          have c12b0 := beq_iff_eq.mpr c12
          have c12b1 := bne_eq_false_iff_eq.mpr c12
          clear c12
          simp only [Option.some.injEq, Prod.mk.injEq] at H
          obtain ⟨rfl, rfl, rfl, rfl⟩ := H
          go_wp2_with (first | ((with_reducible refine gate_callee (f := 90) rfl ?_); refine zGo (N := (some 26)) Tryd.func90 #[.pointer (some ⟨g, 0, none⟩), .int .i64 27, .int .i64 s0_1] ?_; (with_reducible refine (pleatref07_Taker_Wrong.calls g s0_0 t251 t252 t253 27 s0_1 t254 t255 t256 w0 _ ?side1 ?side2 A11.out).mono ?_); (case side1 => repeat (first | (with_reducible first | exact HI0.out | apply IsS109.alloc | apply IsS109.drewN | apply IsS109.drew | apply IsS109.set_1 | apply IsS109.set_2 | apply IsS109.set_3) | exact HI0.out)); (case side2 => repeat (first | (with_reducible first | exact HB.out | apply below_alloc | apply pw_below_drewN | apply below_drew1 | refine below_set ?_ (IsS109.ge HI0.out)) | exact HB.out)); rintro e w13 ⟨rfl, hi, hb, hk⟩; refine ⟨_, rfl, ?_⟩; refine zs (KeepBut.trans (by repeat (first | (with_reducible first | exact HK.out | apply KeepBut.set_ | apply keep_drewN | apply keep_drew | apply keep_alloc) | exact HK.out)) hk (.inl rfl)) (zs hb (zs (hi) ?_)); clear HK HB HI0; intro HI0 HB HK; (try clear hb); (try clear hb2); (try clear hk); (try clear hi); obtain ⟨ASz14_0, cSz14_0, HGz14, hgz14, HSz14_0⟩ := HI0.out; have hcz14_0 := cellS109_0 HGz14; have hcz14_1 := cellS109_1 HGz14; have hcz14_2 := cellS109_2 HGz14; have hcz14_3 := cellS109_3 HGz14; have hfz14_1 := blk_frozen HGz14 1; have hfz14_2 := blk_frozen HGz14 2; have hfz14_3 := blk_frozen HGz14 3; clear HGz14 hgz14))
          go_ret
          exact ⟨zE, by repeat (first | (with_reducible first | exact HI0.out | apply IsS109.alloc | apply IsS109.drewN | apply IsS109.drew | apply IsS109.set_1 | apply IsS109.set_2 | apply IsS109.set_3) | exact HI0.out), by repeat (first | (with_reducible first | exact HB.out | apply below_alloc | apply pw_below_drewN | apply below_drew1 | refine below_set ?_ (IsS109.ge HI0.out)) | exact HB.out), by repeat (first | (with_reducible first | exact HK.out | apply KeepBut.set_ | apply keep_drewN | apply keep_drew | apply keep_alloc) | exact HK.out)⟩
        · rw [if_neg c12] at H
          have c12b0 := beq_eq_false_iff_ne.mpr c12
          have c12b1 := bne_iff_ne.mpr c12
          simp only [Option.some.injEq, Prod.mk.injEq] at H
          obtain ⟨rfl, rfl, rfl, rfl⟩ := H
          go_wp2_with (first | ((with_reducible refine gate_callee (f := 90) rfl ?_); refine zGo (N := (some 26)) Tryd.func90 #[.pointer (some ⟨g, 0, none⟩), .int .i64 27, .int .i64 s0_1] ?_; (with_reducible refine (pleatref07_Taker_Wrong.calls g s0_0 t251 t252 t253 27 s0_1 t254 t255 t256 w0 _ ?side1 ?side2 A11.out).mono ?_); (case side1 => repeat (first | (with_reducible first | exact HI0.out | apply IsS109.alloc | apply IsS109.drewN | apply IsS109.drew | apply IsS109.set_1 | apply IsS109.set_2 | apply IsS109.set_3) | exact HI0.out)); (case side2 => repeat (first | (with_reducible first | exact HB.out | apply below_alloc | apply pw_below_drewN | apply below_drew1 | refine below_set ?_ (IsS109.ge HI0.out)) | exact HB.out)); rintro e w15 ⟨rfl, hi, hb, hk⟩; refine ⟨_, rfl, ?_⟩; refine zs (KeepBut.trans (by repeat (first | (with_reducible first | exact HK.out | apply KeepBut.set_ | apply keep_drewN | apply keep_drew | apply keep_alloc) | exact HK.out)) hk (.inl rfl)) (zs hb (zs (hi) ?_)); clear HK HB HI0; intro HI0 HB HK; (try clear hb); (try clear hb2); (try clear hk); (try clear hi); obtain ⟨ASz16_0, cSz16_0, HGz16, hgz16, HSz16_0⟩ := HI0.out; have hcz16_0 := cellS109_0 HGz16; have hcz16_1 := cellS109_1 HGz16; have hcz16_2 := cellS109_2 HGz16; have hcz16_3 := cellS109_3 HGz16; have hfz16_1 := blk_frozen HGz16 1; have hfz16_2 := blk_frozen HGz16 2; have hfz16_3 := blk_frozen HGz16 3; clear HGz16 hgz16))
          go_ret
          exact ⟨zE, by repeat (first | (with_reducible first | exact HI0.out | apply IsS109.alloc | apply IsS109.drewN | apply IsS109.drew | apply IsS109.set_1 | apply IsS109.set_2 | apply IsS109.set_3) | exact HI0.out), by repeat (first | (with_reducible first | exact HB.out | apply below_alloc | apply pw_below_drewN | apply below_drew1 | refine below_set ?_ (IsS109.ge HI0.out)) | exact HB.out), by repeat (first | (with_reducible first | exact HK.out | apply KeepBut.set_ | apply keep_drewN | apply keep_drew | apply keep_alloc) | exact HK.out)⟩
      · replace c10 := Bool.eq_false_iff.mpr c10
        subst c10
        rw [if_neg (show ¬ (false = true) by decide)] at H
        by_cases c17 : t252 = 0
        · rw [if_pos c17] at H
          have c17b0 := beq_iff_eq.mpr c17
          have c17b1 := bne_eq_false_iff_eq.mpr c17
          clear c17
          simp only [Option.some.injEq, Prod.mk.injEq] at H
          obtain ⟨rfl, rfl, rfl, rfl⟩ := H
          obtain ⟨ASz18_0, cSz18_0, HGz18, hgz18, HSz18_0⟩ := HI0.out
          have hcz18_0 := cellS109_0 HGz18
          have hcz18_1 := cellS109_1 HGz18
          have hcz18_2 := cellS109_2 HGz18
          have hcz18_3 := cellS109_3 HGz18
          have hfz18_1 := blk_frozen HGz18 1
          have hfz18_2 := blk_frozen HGz18 2
          have hfz18_3 := blk_frozen HGz18 3
          clear HGz18 hgz18
          go_wp2
          go_ret
          exact ⟨zE, by repeat (first | (with_reducible first | exact HI0.out | apply IsS109.alloc | apply IsS109.drewN | apply IsS109.drew | apply IsS109.set_1 | apply IsS109.set_2 | apply IsS109.set_3) | exact HI0.out), by repeat (first | (with_reducible first | exact HB.out | apply below_alloc | apply pw_below_drewN | apply below_drew1 | refine below_set ?_ (IsS109.ge HI0.out)) | exact HB.out), by repeat (first | (with_reducible first | exact HK.out | apply KeepBut.set_ | apply keep_drewN | apply keep_drew | apply keep_alloc) | exact HK.out)⟩
        · rw [if_neg c17] at H
          have c17b0 := beq_eq_false_iff_ne.mpr c17
          have c17b1 := bne_iff_ne.mpr c17
          simp only [Option.some.injEq, Prod.mk.injEq] at H
          obtain ⟨rfl, rfl, rfl, rfl⟩ := H
          obtain ⟨ASz19_0, cSz19_0, HGz19, hgz19, HSz19_0⟩ := HI0.out
          have hcz19_0 := cellS109_0 HGz19
          have hcz19_1 := cellS109_1 HGz19
          have hcz19_2 := cellS109_2 HGz19
          have hcz19_3 := cellS109_3 HGz19
          have hfz19_1 := blk_frozen HGz19 1
          have hfz19_2 := blk_frozen HGz19 2
          have hfz19_3 := blk_frozen HGz19 3
          clear HGz19 hgz19
          go_wp2
          go_ret
          exact ⟨zE, by repeat (first | (with_reducible first | exact HI0.out | apply IsS109.alloc | apply IsS109.drewN | apply IsS109.drew | apply IsS109.set_1 | apply IsS109.set_2 | apply IsS109.set_3) | exact HI0.out), by repeat (first | (with_reducible first | exact HB.out | apply below_alloc | apply pw_below_drewN | apply below_drew1 | refine below_set ?_ (IsS109.ge HI0.out)) | exact HB.out), by repeat (first | (with_reducible first | exact HK.out | apply KeepBut.set_ | apply keep_drewN | apply keep_drew | apply keep_alloc) | exact HK.out)⟩

/-! ### pleatref07_Taker_Eight: function 77 -/
def pleatref07_Taker_Eight.f (k : Nat) (s0_0 : List Int) (s0_1 : Int) (s0_2 : Int) (s0_3 : Int) : Option (Int × Int × Int × Int) := (pleatref07_Taker_Has.f s0_0 s0_1 s0_2 s0_3 8).bind fun bt257 => (if bt257.1 = true then ((pleatref07_Taker_Four.f k s0_0 bt257.2.1 bt257.2.2.1 bt257.2.2.2).bind fun bt261 => ((pleatref07_Taker_Four.f k s0_0 bt261.2.1 bt261.2.2.1 bt261.2.2.2).bind fun bt265 => (some (wrap64 (Go.bits .or .u64 (IntKind.u64.wrap ((IntKind.u64.wrap (bt261.1)) * 4294967296)) (IntKind.u64.wrap (bt265.1))), bt265.2.1, bt265.2.2.1, bt265.2.2.2)))) else (some (0, bt257.2.1, bt257.2.2.1, bt257.2.2.2)))
theorem pleatref07_Taker_Eight.mono : ∀ a0 a1 a2 a3 k, LeO (pleatref07_Taker_Eight.f k a0 a1 a2 a3) (pleatref07_Taker_Eight.f (k + 1) a0 a1 a2 a3) := by
  intro a0 a1 a2 a3 k
  unfold pleatref07_Taker_Eight.f
  have m0 := @pleatref07_Taker_Four.mono
  exact zMo
set_option maxHeartbeats 8000000 in
set_option maxRecDepth 100000 in
theorem pleatref07_Taker_Eight.calls (k : Nat) (g : Nat) (s0_0 : List Int) (s0_1 : Int) (s0_2 : Int) (s0_3 : Int) (r1 : Int) (r2 : Int) (r3 : Int) (r4 : Int) (w0 w : World) (hI : IsS109 w0 w g s0_0 s0_1 s0_2 s0_3) (hB : Below w0.heap.size w0 w) (h : pleatref07_Taker_Eight.f k s0_0 s0_1 s0_2 s0_3 = some (r1, r2, r3, r4)) :
    Calls Tryd.prog 77 #[.pointer (some ⟨g, 0, none⟩)] w fun e w' => e = .returned (.int .i64 r1) ∧ IsS109 w0 w' g s0_0 r2 r3 r4 ∧ Below w0.heap.size w0 w' ∧ KeepBut w w' g none := by
  have HI0 := Aside0.mk hI
  have HK := Aside0.mk (KeepBut.refl w g none)
  have HL := Aside0.mk hB.size
  clear hI
  have HW0 := Aside0.mk hB.size
  have HB := Aside0.mk hB
  clear hB
  have H := h
  clear h
  unfold pleatref07_Taker_Eight.f at H
  replace H := Option.bind_eq_some_iff.mp H
  obtain ⟨⟨t257, t258, t259, t260⟩, A20, H⟩ := H
  (try dsimp only at H)
  have A2 := Aside0.mk A20
  clear A20
  by_cases c3 : t257 = true
  · subst c3
    rw [if_pos rfl] at H
    replace H := Option.bind_eq_some_iff.mp H
    obtain ⟨⟨t261, t262, t263, t264⟩, A40, H⟩ := H
    (try dsimp only at H)
    have A4 := Aside0.mk A40
    clear A40
    replace H := Option.bind_eq_some_iff.mp H
    obtain ⟨⟨t265, t266, t267, t268⟩, A50, H⟩ := H
    (try dsimp only at H)
    have A5 := Aside0.mk A50
    clear A50
    simp only [Option.some.injEq, Prod.mk.injEq] at H
    obtain ⟨rfl, rfl, rfl, rfl⟩ := H
    go_enter Tryd.func77, Tryd.ntmps77
    go_wp2_with (first | ((with_reducible refine gate_callee (f := 91) rfl ?_); refine zGo (N := (some 6)) Tryd.func91 #[.pointer (some ⟨g, 0, none⟩), .int .i64 8] ?_; (with_reducible refine (pleatref07_Taker_Has.calls g s0_0 s0_1 s0_2 s0_3 8 true t258 t259 t260 w0 _ ?side1 ?side2 A2.out).mono ?_); (case side1 => repeat (first | (with_reducible first | exact HI0.out | apply IsS109.alloc | apply IsS109.drewN | apply IsS109.drew | apply IsS109.set_1 | apply IsS109.set_2 | apply IsS109.set_3) | exact HI0.out)); (case side2 => repeat (first | (with_reducible first | exact HB.out | apply below_alloc | apply pw_below_drewN | apply below_drew1 | refine below_set ?_ (IsS109.ge HI0.out)) | exact HB.out)); rintro e w6 ⟨rfl, hi, hb, hk⟩; refine ⟨_, rfl, ?_⟩; refine zs (KeepBut.trans (by repeat (first | (with_reducible first | exact HK.out | apply KeepBut.set_ | apply keep_drewN | apply keep_drew | apply keep_alloc) | exact HK.out)) hk (.inl rfl)) (zs hb (zs (hi) ?_)); clear HK HB HI0; intro HI0 HB HK; (try clear hb); (try clear hb2); (try clear hk); (try clear hi)) | ((with_reducible refine gate_callee (f := 76) rfl ?_); refine zGo (N := (some 9)) Tryd.func76 #[.pointer (some ⟨g, 0, none⟩)] ?_; (with_reducible refine (pleatref07_Taker_Four.calls k g s0_0 t258 t259 t260 t261 t262 t263 t264 w0 _ ?side1 ?side2 A4.out).mono ?_); (case side1 => repeat (first | (with_reducible first | exact HI0.out | apply IsS109.alloc | apply IsS109.drewN | apply IsS109.drew | apply IsS109.set_1 | apply IsS109.set_2 | apply IsS109.set_3) | exact HI0.out)); (case side2 => repeat (first | (with_reducible first | exact HB.out | apply below_alloc | apply pw_below_drewN | apply below_drew1 | refine below_set ?_ (IsS109.ge HI0.out)) | exact HB.out)); rintro e w7 ⟨rfl, hi, hb, hk⟩; refine ⟨_, rfl, ?_⟩; refine zs (KeepBut.trans (by repeat (first | (with_reducible first | exact HK.out | apply KeepBut.set_ | apply keep_drewN | apply keep_drew | apply keep_alloc) | exact HK.out)) hk (.inl rfl)) (zs hb (zs (hi) ?_)); clear HK HB HI0; intro HI0 HB HK; (try clear hb); (try clear hb2); (try clear hk); (try clear hi)) | ((with_reducible refine gate_callee (f := 76) rfl ?_); refine zGo (N := (some 11)) Tryd.func76 #[.pointer (some ⟨g, 0, none⟩)] ?_; (with_reducible refine (pleatref07_Taker_Four.calls k g s0_0 t262 t263 t264 t265 t266 t267 t268 w0 _ ?side1 ?side2 A5.out).mono ?_); (case side1 => repeat (first | (with_reducible first | exact HI0.out | apply IsS109.alloc | apply IsS109.drewN | apply IsS109.drew | apply IsS109.set_1 | apply IsS109.set_2 | apply IsS109.set_3) | exact HI0.out)); (case side2 => repeat (first | (with_reducible first | exact HB.out | apply below_alloc | apply pw_below_drewN | apply below_drew1 | refine below_set ?_ (IsS109.ge HI0.out)) | exact HB.out)); rintro e w8 ⟨rfl, hi, hb, hk⟩; refine ⟨_, rfl, ?_⟩; refine zs (KeepBut.trans (by repeat (first | (with_reducible first | exact HK.out | apply KeepBut.set_ | apply keep_drewN | apply keep_drew | apply keep_alloc) | exact HK.out)) hk (.inl rfl)) (zs hb (zs (hi) ?_)); clear HK HB HI0; intro HI0 HB HK; (try clear hb); (try clear hb2); (try clear hk); (try clear hi)))
    go_ret
    exact ⟨zE, by repeat (first | (with_reducible first | exact HI0.out | apply IsS109.alloc | apply IsS109.drewN | apply IsS109.drew | apply IsS109.set_1 | apply IsS109.set_2 | apply IsS109.set_3) | exact HI0.out), by repeat (first | (with_reducible first | exact HB.out | apply below_alloc | apply pw_below_drewN | apply below_drew1 | refine below_set ?_ (IsS109.ge HI0.out)) | exact HB.out), by repeat (first | (with_reducible first | exact HK.out | apply KeepBut.set_ | apply keep_drewN | apply keep_drew | apply keep_alloc) | exact HK.out)⟩
  · replace c3 := Bool.eq_false_iff.mpr c3
    subst c3
    rw [if_neg (show ¬ (false = true) by decide)] at H
    simp only [Option.some.injEq, Prod.mk.injEq] at H
    obtain ⟨rfl, rfl, rfl, rfl⟩ := H
    go_enter Tryd.func77, Tryd.ntmps77
    go_wp2_with (first | ((with_reducible refine gate_callee (f := 91) rfl ?_); refine zGo (N := (some 6)) Tryd.func91 #[.pointer (some ⟨g, 0, none⟩), .int .i64 8] ?_; (with_reducible refine (pleatref07_Taker_Has.calls g s0_0 s0_1 s0_2 s0_3 8 false t258 t259 t260 w0 _ ?side1 ?side2 A2.out).mono ?_); (case side1 => repeat (first | (with_reducible first | exact HI0.out | apply IsS109.alloc | apply IsS109.drewN | apply IsS109.drew | apply IsS109.set_1 | apply IsS109.set_2 | apply IsS109.set_3) | exact HI0.out)); (case side2 => repeat (first | (with_reducible first | exact HB.out | apply below_alloc | apply pw_below_drewN | apply below_drew1 | refine below_set ?_ (IsS109.ge HI0.out)) | exact HB.out)); rintro e w9 ⟨rfl, hi, hb, hk⟩; refine ⟨_, rfl, ?_⟩; refine zs (KeepBut.trans (by repeat (first | (with_reducible first | exact HK.out | apply KeepBut.set_ | apply keep_drewN | apply keep_drew | apply keep_alloc) | exact HK.out)) hk (.inl rfl)) (zs hb (zs (hi) ?_)); clear HK HB HI0; intro HI0 HB HK; (try clear hb); (try clear hb2); (try clear hk); (try clear hi)))
    go_ret
    exact ⟨zE, by repeat (first | (with_reducible first | exact HI0.out | apply IsS109.alloc | apply IsS109.drewN | apply IsS109.drew | apply IsS109.set_1 | apply IsS109.set_2 | apply IsS109.set_3) | exact HI0.out), by repeat (first | (with_reducible first | exact HB.out | apply below_alloc | apply pw_below_drewN | apply below_drew1 | refine below_set ?_ (IsS109.ge HI0.out)) | exact HB.out), by repeat (first | (with_reducible first | exact HK.out | apply KeepBut.set_ | apply keep_drewN | apply keep_drew | apply keep_alloc) | exact HK.out)⟩

/-! ### pleatref07_Sum: function 33 -/
def pleatref07_Sum.l0 : Nat → List Int → Int → Int → Option (Int)
  | 0, _, _, _ => none
  | k + 1, x0, x3, x4 => if x4 < (x0.length : Int) then (if 0 ≤ x4 then (pleatref07_Sum.l0 k x0 ((((31 * x3) % 4294967296) + ((rd x0 x4) % 4294967296)) % 4294967296) (wrap64 (x4 + 1))) else (none)) else (some x3)
def pleatref07_Sum.f (k : Nat) (l0 : List Int) : Option (Int) := pleatref07_Sum.l0 k l0 0 0
theorem pleatref07_Sum.mono_l : ∀ k, (∀ y0 y1 y2, LeO (pleatref07_Sum.l0 k y0 y1 y2) (pleatref07_Sum.l0 (k + 1) y0 y1 y2))
  | 0 => fun _ _ _ r h => by simp [pleatref07_Sum.l0] at h
  | k + 1 => by
    have ih0 := pleatref07_Sum.mono_l k
    · intro y0 y1 y2
      unfold pleatref07_Sum.l0
      exact zMo
theorem pleatref07_Sum.mono : ∀ a0 k, LeO (pleatref07_Sum.f k a0) (pleatref07_Sum.f (k + 1) a0) := by
  intro a0 k
  have ih0 := pleatref07_Sum.mono_l k
  unfold pleatref07_Sum.f
  exact zMo
set_option maxHeartbeats 8000000 in
set_option maxRecDepth 100000 in
theorem pleatref07_Sum.calls (k : Nat) (A0 : Option Addr) (c0 : Nat) (l0 : List Int) (r : Int) (w : World) (hr0 : Kd.C (Kd.int .u8) w A0 l0.length l0) (hc0 : l0.length ≤ c0) (h : pleatref07_Sum.f k l0 = some r) :
    Calls Tryd.prog 33 #[.slice A0 l0.length c0] w fun e w' => e = .returned (.int .u32 r) ∧ Drawn0 w w' := by
  have HR0 := Aside0.mk hr0
  have HC0 := Aside0.mk hc0
  clear hr0 hc0
  have H := h
  clear h
  unfold pleatref07_Sum.f at H
  have H' := Aside0.mk H
  clear H
  go_enter Tryd.func33, Tryd.ntmps33
  go_wp2
  go_loopg [3, 4] k (fun kq v3 v4 w' => ∃ (x3_1 : Int) (x4_1 : Int), v3 = .int .u32 x3_1 ∧ v4 = .int .i64 x4_1 ∧ Aside0 (pleatref07_Sum.l0 kq l0 x3_1 x4_1 = some r) ∧ Aside0 (kq ≤ k) ∧ Drawn0 w w')
  case atStart => exact ⟨(0), (0), zF', zF', H', ⟨Nat.le_refl _⟩, zDr⟩
  case round =>
    clear H'
    obtain ⟨x3_1, x4_1, rfl, rfl, HA, HK1, ⟨m1, rfl⟩⟩ := hrel
    cases gk with
    | zero => exact absurd HA.out (by simp [pleatref07_Sum.l0])
    | succ k1 =>
      have H := HA.out
      clear HA
      simp only [pleatref07_Sum.l0] at H
      by_cases c2 : x4_1 < (l0.length : Int)
      · rw [if_pos c2] at H
        have c2b0 := decide_eq_true c2
        clear c2
        obtain ⟨c3, H⟩ := zG H
        have c3b0 := decide_eq_true c3
        clear c3
        have H' := Aside0.mk H
        clear H
        have p269 : 0 ≤ (x4_1 : Int) := zOD
        have q269 : x4_1 < (l0.length : Int) := zOD
        obtain ⟨ad269, e269, hx269_0⟩ := Kd.at_int HR0.out x4_1 p269 q269
        cases e269
        replace p269 := eq_true p269
        replace q269 := eq_true q269
        go_wp2
        go_roundg k1
        case measure => have := HK1.out; omega
        case rel => exact ⟨((((31 * x3_1) % 4294967296) + ((rd l0 x4_1) % 4294967296)) % 4294967296), (wrap64 (x4_1 + 1)), zF', zF', H', ⟨by have := HK1.out; omega⟩, zDr⟩
      · rw [if_neg c2] at H
        have c2b0 := decide_eq_false c2
        clear c2
        obtain rfl := Option.some.inj H
        go_wp2
        go_ret
        exact ⟨zF', zDr⟩

/-! ### pleatref07_Taker_End: function 78, by hand -/
def pleatref07_Taker_End.f (k : Nat) (s0_0 : List Int) (s0_1 : Int) (s0_2 : Int) (s0_3 : Int) : Option (Int × Int × Int) :=
  (pleatref07_Taker_Four.f k s0_0 s0_1 s0_2 s0_3).bind fun v => if v.2.2.1 = 0 then
    (if v.2.1 < (s0_0.length : Int) then pleatref07_Taker_Wrong.f s0_0 v.2.1 v.2.2.1 v.2.2.2 27 v.2.1 else some (v.2.1, v.2.2.1, v.2.2.2)).bind fun u =>
      if 0 ≤ s0_1 ∧ s0_1 ≤ (s0_0.length : Int) then (pleatref07_Sum.f k (s0_0.take s0_1.toNat)).bind fun s => if v.1 = s then some u else pleatref07_Taker_Wrong.f s0_0 u.1 u.2.1 u.2.2 28 s0_1 else none
    else some (v.2.1, v.2.2.1, v.2.2.2)
theorem taker_take {α : Type} {d : Kd α} {w : World} {A : Option Addr} {n : Nat} {xs : List α} (h : Kd.C d w A n xs) (j : Nat) (hj : j ≤ n) : Kd.C d w A (xs.take j).length (xs.take j) := by
  obtain ⟨h1, h2, h3⟩ := h
  have hl : (xs.take j).length = j := by rw [List.length_take]; omega
  refine ⟨rfl, by omega, fun h0 => ?_⟩
  obtain ⟨ad, e, hh⟩ := h3 (by omega)
  refine ⟨ad, e, fun i p hp => hh i p ?_⟩
  rw [List.getElem?_take] at hp
  split at hp
  · exact hp
  · cases hp
theorem taker_cut {α : Type} {d : Kd α} {w : World} {A : Option Addr} {l tt : List α} (h : Kd.C d w A l.length l) (e : tt = l.take tt.length) (hl : tt.length ≤ l.length) : Kd.C d w A tt.length tt := by
  have := taker_take h tt.length hl
  rwa [← e] at this
theorem pleatref07_Taker_End.mono : ∀ a0 a1 a2 a3 k, LeO (pleatref07_Taker_End.f k a0 a1 a2 a3) (pleatref07_Taker_End.f (k + 1) a0 a1 a2 a3) := fun a0 a1 a2 a3 k =>
  LeO.bind (pleatref07_Taker_Four.mono a0 a1 a2 a3 k) fun v => LeO.ite (LeO.bind (LeO.refl _) fun u => LeO.ite (LeO.bind (pleatref07_Sum.mono _ k) fun s => LeO.refl _) (LeO.refl _)) (LeO.refl _)
set_option maxHeartbeats 4000000 in
set_option maxRecDepth 100000 in
theorem pleatref07_Taker_End.calls (k : Nat) (g : Nat) (s0_0 : List Int) (s0_1 : Int) (s0_2 : Int) (s0_3 : Int) (r1 : Int) (r2 : Int) (r3 : Int) (w0 w : World) (hI : IsS109 w0 w g s0_0 s0_1 s0_2 s0_3) (hB : Below w0.heap.size w0 w) (h : pleatref07_Taker_End.f k s0_0 s0_1 s0_2 s0_3 = some (r1, r2, r3)) :
    Calls Tryd.prog 78 #[.pointer (some ⟨g, 0, none⟩)] w fun e w' => e = .returned (.tuple #[]) ∧ IsS109 w0 w' g s0_0 r1 r2 r3 ∧ Below w0.heap.size w0 w' ∧ KeepBut w w' g none := by
  have hu := Tryd.underlying109
  unfold pleatref07_Taker_End.f at h
  obtain ⟨⟨v0, v1, v2, v3⟩, h4, h⟩ := Option.bind_eq_some_iff.1 h
  dsimp only at h
  obtain ⟨A, c, hg, hg2, hr⟩ := hI
  have hc1 := cellS109_1 hg
  have HI := Aside0.mk (show IsS109 w0 w g s0_0 s0_1 s0_2 s0_3 from ⟨A, c, hg, hg2, hr⟩)
  have HB := Aside0.mk hB; have H4 := Lib.hid h4; have HR := Aside0.mk hr
  clear hg hg2 hr hB h4
  by_cases hv2 : v2 = 0
  · rw [if_pos hv2] at h
    subst hv2
    obtain ⟨⟨u1, u2, u3⟩, hu1, h1⟩ := Option.bind_eq_some_iff.1 h
    clear h
    by_cases hr1 : 0 ≤ s0_1 ∧ s0_1 ≤ (s0_0.length : Int)
    · rw [if_pos hr1] at h1
      obtain ⟨s, hs, h2⟩ := Option.bind_eq_some_iff.1 h1
      clear h1
      obtain ⟨a, rfl⟩ := Int.eq_ofNat_of_zero_le hr1.1
      obtain ⟨tt, htt⟩ : ∃ tt, tt = s0_0.take a := ⟨_, rfl⟩
      have hta : a = tt.length := by rw [htt, List.length_take]; omega
      rw [Int.toNat_natCast, ← htt] at hs
      have hct : Kd.C (Kd.int .u8) w0 A tt.length tt := by rw [htt]; exact taker_take HR.out a (by omega)
      subst hta
      have htl : tt.length ≤ s0_0.length := by omega
      dsimp only at h2
      have HTT := Lib.hid (show tt = s0_0.take tt.length from htt)
      have HTL := Lib.hid htl
      have HS := Lib.hid hs
      clear htt hct htl hs hr1 HR
      by_cases hlt : v1 < (s0_0.length : Int)
      · rw [if_pos hlt] at hu1
        have HU := Lib.hid hu1
        have d1 : decide (v1 < (s0_0.length : Int)) = true := decide_eq_true hlt
        clear hu1 hlt
        by_cases hvs : v0 = s
        · rw [if_pos hvs] at h2
          obtain ⟨rfl, rfl, rfl⟩ : u1 = r1 ∧ u2 = r2 ∧ u3 = r3 := by
            have := Option.some.inj h2
            simp only [Prod.mk.injEq] at this
            exact this
          have e2 : (v0 != s) = false := by simp [hvs]
          clear h2 hvs
          have tok1 : True := trivial
          have tok2 : True := trivial
          have e1 : ((0 : Int) != 0) = false := rfl
          go_enter Tryd.func78, Tryd.ntmps78
          go_wp2_with (first | (go_at_call 76; go_loud (refine (pleatref07_Taker_Four.calls k g s0_0 _ _ _ _ _ _ _ w0 _ HI.out HB.out H4.out).mono ?_; rintro e w1 ⟨rfl, hi, hb, hk⟩; clear HI HB hc1; have HI := Aside0.mk hi; have HB := Aside0.mk hb; have HK := Aside0.mk hk; obtain ⟨A1, c1, hg1, hg2, hr1⟩ := hi; have hz0 := cellS109_0 hg1; have hz1 := cellS109_1 hg1; have hz2 := cellS109_2 hg1; have HL1 := Aside0.mk hg2.2; have HC1 := Aside0.mk hr1; have HG1 := Aside0.mk hg1; clear hb hk hg1 hg2 hr1)))
          go_quiet (fail)
          generalize hq : World.drewN w1 _ = w2
          have HI2 := Aside0.mk (IsS109.at_ hq HI.out)
          have HB2 := Aside0.mk (show Below w0.heap.size w0 w2 from by rw [← hq]; exact pw_below_drewN HB.out _)
          have HK2 := Aside0.mk (keep_at hq HK.out)
          clear HI HB HK hz0 hz1 hz2 HL1 HC1 HG1 hq
          have HI := HI2; have HB := HB2; have HK := HK2; clear HI2 HB2 HK2
          obtain ⟨A2, c2, hg1, hg2, hr1⟩ := HI.out
          have hz0 := cellS109_0 hg1; have hz1 := cellS109_1 hg1; have HT := Aside0.mk (taker_cut hr1 HTT.out HTL.out); have hcc : tt.length ≤ c2 := Nat.le_trans HTL.out hg2.2
          have HT2 := Aside0.mk hcc
          have dcc : decide ((tt.length : Int) ≤ (c2 : Int)) = true := decide_eq_true (by omega)
          clear hg1 hg2 hr1
          go_wp2_with (first | (go_at_call 90; have _ := tok1; refine (pleatref07_Taker_Wrong.calls g s0_0 v1 0 v3 27 v1 u1 u2 u3 w0 _ HI.out HB.out HU.out).mono ?_; rintro e w1 ⟨rfl, hi, hb, hk⟩; clear tok1; replace HK := Aside0.mk (HK.out.trans hk (.inl rfl)); clear HI HB; have HI := Aside0.mk hi; have HB := Aside0.mk hb; (try clear hz0 hz1 hz2); (try clear HT HT2 hcc dcc); obtain ⟨A2, c2, hg1, hg2, hr1⟩ := hi; have hz0 := cellS109_0 hg1; have HT := Aside0.mk (taker_cut hr1 HTT.out HTL.out); have hcc : tt.length ≤ c2 := Nat.le_trans HTL.out hg2.2; have HT2 := Aside0.mk hcc; have dcc : decide ((tt.length : Int) ≤ (c2 : Int)) = true := decide_eq_true (by omega); clear hb hk hg1 hg2 hr1) | (go_at_call 33; refine (pleatref07_Sum.calls k _ _ tt s _ (Kd.C_below HT.out (HB.out)) HT2.out HS.out).mono ?_; rintro e w3 ⟨rfl, hd⟩; have hb := hd.below; replace HI := Aside0.mk (IsS109.below HI.out hb); replace HB := Aside0.mk (below_then HB.out HB.out.size hb); replace HK := Aside0.mk (HK.out.trans (KeepBut.of_below hb g none) (.inl rfl)); clear hb hd hz0))
          first | go_end0 | go_ret | refine bodyPost_ret (v := .tuple #[]) (by simp [results, Tryd.results78, go_sem]) rfl ?_
          exact ⟨rfl, HI.out, HB.out, HK.out⟩
        · rw [if_neg hvs] at h2
          have HV := Lib.hid h2
          have e2 : (v0 != s) = true := by simpa using hvs
          clear h2 hvs
          have tok1 : True := trivial
          have tok2 : True := trivial
          have e1 : ((0 : Int) != 0) = false := rfl
          go_enter Tryd.func78, Tryd.ntmps78
          go_wp2_with (first | (go_at_call 76; go_loud (refine (pleatref07_Taker_Four.calls k g s0_0 _ _ _ _ _ _ _ w0 _ HI.out HB.out H4.out).mono ?_; rintro e w1 ⟨rfl, hi, hb, hk⟩; clear HI HB hc1; have HI := Aside0.mk hi; have HB := Aside0.mk hb; have HK := Aside0.mk hk; obtain ⟨A1, c1, hg1, hg2, hr1⟩ := hi; have hz0 := cellS109_0 hg1; have hz1 := cellS109_1 hg1; have hz2 := cellS109_2 hg1; have HL1 := Aside0.mk hg2.2; have HC1 := Aside0.mk hr1; have HG1 := Aside0.mk hg1; clear hb hk hg1 hg2 hr1)))
          go_quiet (fail)
          generalize hq : World.drewN w1 _ = w2
          have HI2 := Aside0.mk (IsS109.at_ hq HI.out)
          have HB2 := Aside0.mk (show Below w0.heap.size w0 w2 from by rw [← hq]; exact pw_below_drewN HB.out _)
          have HK2 := Aside0.mk (keep_at hq HK.out)
          clear HI HB HK hz0 hz1 hz2 HL1 HC1 HG1 hq
          have HI := HI2; have HB := HB2; have HK := HK2; clear HI2 HB2 HK2
          obtain ⟨A2, c2, hg1, hg2, hr1⟩ := HI.out
          have hz0 := cellS109_0 hg1; have hz1 := cellS109_1 hg1; have HT := Aside0.mk (taker_cut hr1 HTT.out HTL.out); have hcc : tt.length ≤ c2 := Nat.le_trans HTL.out hg2.2
          have HT2 := Aside0.mk hcc
          have dcc : decide ((tt.length : Int) ≤ (c2 : Int)) = true := decide_eq_true (by omega)
          clear hg1 hg2 hr1
          go_wp2_with (first | (go_at_call 90; have _ := tok1; refine (pleatref07_Taker_Wrong.calls g s0_0 v1 0 v3 27 v1 u1 u2 u3 w0 _ HI.out HB.out HU.out).mono ?_; rintro e w1 ⟨rfl, hi, hb, hk⟩; clear tok1; replace HK := Aside0.mk (HK.out.trans hk (.inl rfl)); clear HI HB; have HI := Aside0.mk hi; have HB := Aside0.mk hb; (try clear hz0 hz1 hz2); (try clear HT HT2 hcc dcc); obtain ⟨A2, c2, hg1, hg2, hr1⟩ := hi; have hz0 := cellS109_0 hg1; have HT := Aside0.mk (taker_cut hr1 HTT.out HTL.out); have hcc : tt.length ≤ c2 := Nat.le_trans HTL.out hg2.2; have HT2 := Aside0.mk hcc; have dcc : decide ((tt.length : Int) ≤ (c2 : Int)) = true := decide_eq_true (by omega); clear hb hk hg1 hg2 hr1) | (go_at_call 33; refine (pleatref07_Sum.calls k _ _ tt s _ (Kd.C_below HT.out (HB.out)) HT2.out HS.out).mono ?_; rintro e w3 ⟨rfl, hd⟩; have hb := hd.below; replace HI := Aside0.mk (IsS109.below HI.out hb); replace HB := Aside0.mk (below_then HB.out HB.out.size hb); replace HK := Aside0.mk (HK.out.trans (KeepBut.of_below hb g none) (.inl rfl)); clear hb hd hz0) | (go_at_call 90; have _ := tok2; refine (pleatref07_Taker_Wrong.calls g s0_0 u1 u2 u3 28 (tt.length : Int) r1 r2 r3 w0 _ HI.out HB.out HV.out).mono ?_; rintro e w1 ⟨rfl, hi, hb, hk⟩; clear tok2; replace HK := Aside0.mk (HK.out.trans hk (.inl rfl)); clear HI HB; have HI := Aside0.mk hi; have HB := Aside0.mk hb; (try clear hz0 hz1 hz2); (try clear HT HT2 hcc dcc); obtain ⟨A2, c2, hg1, hg2, hr1⟩ := hi; have hz0 := cellS109_0 hg1; have HT := Aside0.mk (taker_cut hr1 HTT.out HTL.out); have hcc : tt.length ≤ c2 := Nat.le_trans HTL.out hg2.2; have HT2 := Aside0.mk hcc; have dcc : decide ((tt.length : Int) ≤ (c2 : Int)) = true := decide_eq_true (by omega); clear hb hk hg1 hg2 hr1))
          first | go_end0 | go_ret | refine bodyPost_ret (v := .tuple #[]) (by simp [results, Tryd.results78, go_sem]) rfl ?_
          exact ⟨rfl, HI.out, HB.out, HK.out⟩
      · rw [if_neg hlt] at hu1
        obtain ⟨rfl, rfl, rfl⟩ : v1 = u1 ∧ (0 : Int) = u2 ∧ v3 = u3 := by
          have := Option.some.inj hu1
          simp only [Prod.mk.injEq] at this
          exact this
        have d1 : decide (v1 < (s0_0.length : Int)) = false := decide_eq_false hlt
        clear hu1 hlt
        by_cases hvs : v0 = s
        · rw [if_pos hvs] at h2
          obtain ⟨rfl, rfl, rfl⟩ : v1 = r1 ∧ (0 : Int) = r2 ∧ v3 = r3 := by
            have := Option.some.inj h2
            simp only [Prod.mk.injEq] at this
            exact this
          have e2 : (v0 != s) = false := by simp [hvs]
          clear h2 hvs
          have tok1 : True := trivial
          have tok2 : True := trivial
          have e1 : ((0 : Int) != 0) = false := rfl
          go_enter Tryd.func78, Tryd.ntmps78
          go_wp2_with (first | (go_at_call 76; go_loud (refine (pleatref07_Taker_Four.calls k g s0_0 _ _ _ _ _ _ _ w0 _ HI.out HB.out H4.out).mono ?_; rintro e w1 ⟨rfl, hi, hb, hk⟩; clear HI HB hc1; have HI := Aside0.mk hi; have HB := Aside0.mk hb; have HK := Aside0.mk hk; obtain ⟨A1, c1, hg1, hg2, hr1⟩ := hi; have hz0 := cellS109_0 hg1; have hz1 := cellS109_1 hg1; have hz2 := cellS109_2 hg1; have HL1 := Aside0.mk hg2.2; have HC1 := Aside0.mk hr1; have HG1 := Aside0.mk hg1; clear hb hk hg1 hg2 hr1)))
          go_quiet (fail)
          generalize hq : World.drewN w1 _ = w2
          have HI2 := Aside0.mk (IsS109.at_ hq HI.out)
          have HB2 := Aside0.mk (show Below w0.heap.size w0 w2 from by rw [← hq]; exact pw_below_drewN HB.out _)
          have HK2 := Aside0.mk (keep_at hq HK.out)
          clear HI HB HK hz0 hz1 hz2 HL1 HC1 HG1 hq
          have HI := HI2; have HB := HB2; have HK := HK2; clear HI2 HB2 HK2
          obtain ⟨A2, c2, hg1, hg2, hr1⟩ := HI.out
          have hz0 := cellS109_0 hg1; have hz1 := cellS109_1 hg1; have HT := Aside0.mk (taker_cut hr1 HTT.out HTL.out); have hcc : tt.length ≤ c2 := Nat.le_trans HTL.out hg2.2
          have HT2 := Aside0.mk hcc
          have dcc : decide ((tt.length : Int) ≤ (c2 : Int)) = true := decide_eq_true (by omega)
          clear hg1 hg2 hr1
          go_wp2_with (first | (go_at_call 33; refine (pleatref07_Sum.calls k _ _ tt s _ (Kd.C_below HT.out (HB.out)) HT2.out HS.out).mono ?_; rintro e w3 ⟨rfl, hd⟩; have hb := hd.below; replace HI := Aside0.mk (IsS109.below HI.out hb); replace HB := Aside0.mk (below_then HB.out HB.out.size hb); replace HK := Aside0.mk (HK.out.trans (KeepBut.of_below hb g none) (.inl rfl)); clear hb hd hz0))
          first | go_end0 | go_ret | refine bodyPost_ret (v := .tuple #[]) (by simp [results, Tryd.results78, go_sem]) rfl ?_
          exact ⟨rfl, HI.out, HB.out, HK.out⟩
        · rw [if_neg hvs] at h2
          have HV := Lib.hid h2
          have e2 : (v0 != s) = true := by simpa using hvs
          clear h2 hvs
          have tok1 : True := trivial
          have tok2 : True := trivial
          have e1 : ((0 : Int) != 0) = false := rfl
          go_enter Tryd.func78, Tryd.ntmps78
          go_wp2_with (first | (go_at_call 76; go_loud (refine (pleatref07_Taker_Four.calls k g s0_0 _ _ _ _ _ _ _ w0 _ HI.out HB.out H4.out).mono ?_; rintro e w1 ⟨rfl, hi, hb, hk⟩; clear HI HB hc1; have HI := Aside0.mk hi; have HB := Aside0.mk hb; have HK := Aside0.mk hk; obtain ⟨A1, c1, hg1, hg2, hr1⟩ := hi; have hz0 := cellS109_0 hg1; have hz1 := cellS109_1 hg1; have hz2 := cellS109_2 hg1; have HL1 := Aside0.mk hg2.2; have HC1 := Aside0.mk hr1; have HG1 := Aside0.mk hg1; clear hb hk hg1 hg2 hr1)))
          go_quiet (fail)
          generalize hq : World.drewN w1 _ = w2
          have HI2 := Aside0.mk (IsS109.at_ hq HI.out)
          have HB2 := Aside0.mk (show Below w0.heap.size w0 w2 from by rw [← hq]; exact pw_below_drewN HB.out _)
          have HK2 := Aside0.mk (keep_at hq HK.out)
          clear HI HB HK hz0 hz1 hz2 HL1 HC1 HG1 hq
          have HI := HI2; have HB := HB2; have HK := HK2; clear HI2 HB2 HK2
          obtain ⟨A2, c2, hg1, hg2, hr1⟩ := HI.out
          have hz0 := cellS109_0 hg1; have hz1 := cellS109_1 hg1; have HT := Aside0.mk (taker_cut hr1 HTT.out HTL.out); have hcc : tt.length ≤ c2 := Nat.le_trans HTL.out hg2.2
          have HT2 := Aside0.mk hcc
          have dcc : decide ((tt.length : Int) ≤ (c2 : Int)) = true := decide_eq_true (by omega)
          clear hg1 hg2 hr1
          go_wp2_with (first | (go_at_call 33; refine (pleatref07_Sum.calls k _ _ tt s _ (Kd.C_below HT.out (HB.out)) HT2.out HS.out).mono ?_; rintro e w3 ⟨rfl, hd⟩; have hb := hd.below; replace HI := Aside0.mk (IsS109.below HI.out hb); replace HB := Aside0.mk (below_then HB.out HB.out.size hb); replace HK := Aside0.mk (HK.out.trans (KeepBut.of_below hb g none) (.inl rfl)); clear hb hd hz0) | (go_at_call 90; have _ := tok2; refine (pleatref07_Taker_Wrong.calls g s0_0 v1 0 v3 28 (tt.length : Int) r1 r2 r3 w0 _ HI.out HB.out HV.out).mono ?_; rintro e w1 ⟨rfl, hi, hb, hk⟩; clear tok2; replace HK := Aside0.mk (HK.out.trans hk (.inl rfl)); clear HI HB; have HI := Aside0.mk hi; have HB := Aside0.mk hb; (try clear hz0 hz1 hz2); (try clear HT HT2 hcc dcc); obtain ⟨A2, c2, hg1, hg2, hr1⟩ := hi; have hz0 := cellS109_0 hg1; have HT := Aside0.mk (taker_cut hr1 HTT.out HTL.out); have hcc : tt.length ≤ c2 := Nat.le_trans HTL.out hg2.2; have HT2 := Aside0.mk hcc; have dcc : decide ((tt.length : Int) ≤ (c2 : Int)) = true := decide_eq_true (by omega); clear hb hk hg1 hg2 hr1))
          first | go_end0 | go_ret | refine bodyPost_ret (v := .tuple #[]) (by simp [results, Tryd.results78, go_sem]) rfl ?_
          exact ⟨rfl, HI.out, HB.out, HK.out⟩
    · rw [if_neg hr1] at h1; cases h1
  · rw [if_neg hv2] at h
    obtain ⟨rfl, rfl, rfl⟩ : v1 = r1 ∧ v2 = r2 ∧ v3 = r3 := by
      have := Option.some.inj h
      simp only [Prod.mk.injEq] at this
      exact this
    have e1 : (v2 != 0) = true := by simpa using hv2
    clear h hv2
    go_enter Tryd.func78, Tryd.ntmps78
    go_wp2_with (first | (go_at_call 76; go_loud (refine (pleatref07_Taker_Four.calls k g s0_0 _ _ _ _ _ _ _ w0 _ HI.out HB.out H4.out).mono ?_; rintro e w1 ⟨rfl, hi, hb, hk⟩; clear HI HB hc1; have HI := Aside0.mk hi; have HB := Aside0.mk hb; have HK := Aside0.mk hk; obtain ⟨A1, c1, hg1, hg2, hr1⟩ := hi; have hz0 := cellS109_0 hg1; have hz1 := cellS109_1 hg1; have hz2 := cellS109_2 hg1; have HL1 := Aside0.mk hg2.2; have HC1 := Aside0.mk hr1; have HG1 := Aside0.mk hg1; clear hb hk hg1 hg2 hr1)))
    first | go_ret | refine bodyPost_ret (v := .tuple #[]) (by simp [results, Tryd.results78, go_sem]) rfl ?_
    exact ⟨rfl, HI.out, HB.out, HK.out⟩


end Go.Proofs.YtfgdjpgdabjpmaaDoor.PImageReads
