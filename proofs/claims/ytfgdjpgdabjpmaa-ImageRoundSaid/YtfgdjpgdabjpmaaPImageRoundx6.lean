-- Written for this claim by a program of this session (wip/tools/pp.py, over the kit's print).
import Derived.Test.YtfgdjpgdabjpmaaPImageRoundx0
import Derived.Test.YtfgdjpgdabjpmaaPImageRoundx3
import Derived.Test.YtfgdjpgdabjpmaaPImageRoundx4
import Derived.Test.YtfgdjpgdabjpmaaPImageRoundx5
namespace Go.Proofs.Ytfgdjpgdabjpmaa.PImageRound
open Go.RowKit Go.Proofs.YtfgdjpgdabjpmaaW.PrintWords Go.Proofs.YtfgdjpgdabjpmaaW.PrintLast Go.Proofs.YtfgdjpgdabjpmaaW.PrintMore
attribute [local go_sem] max2_int min2_int max_two min_two max_three min_three max_four min_four   -- for this text's walks alone
set_option linter.unusedVariables false
set_option linter.unusedSimpArgs false

/-! ### pleatref00_EqWords: function 80 -/
def pleatref00_EqWords.l0 : Nat → List Int → List Int → Int → Option (Bool)
  | 0, _, _, _ => none
  | k + 1, x0, x1, x5 => if x5 < (x0.length : Int) then (if 0 ≤ x5 then (if x5 < (x1.length : Int) then (if (rd x0 x5) = (rd x1 x5) then (pleatref00_EqWords.l0 k x0 x1 (wrap64 (x5 + 1))) else (some false)) else (none)) else (none)) else (some true)
def pleatref00_EqWords.f (k : Nat) (l0 : List Int) (l1 : List Int) : Option (Bool) := if (l0.length : Int) = (l1.length : Int) then (pleatref00_EqWords.l0 k l0 l1 0) else (some false)
theorem pleatref00_EqWords.mono_l : ∀ k, (∀ y0 y1 y2, LeO (pleatref00_EqWords.l0 k y0 y1 y2) (pleatref00_EqWords.l0 (k + 1) y0 y1 y2))
  | 0 => fun _ _ _ r h => by simp [pleatref00_EqWords.l0] at h
  | k + 1 => by
    have ih0 := pleatref00_EqWords.mono_l k
    · intro y0 y1 y2
      unfold pleatref00_EqWords.l0
      exact zMo
theorem pleatref00_EqWords.mono : ∀ a0 a1 k, LeO (pleatref00_EqWords.f k a0 a1) (pleatref00_EqWords.f (k + 1) a0 a1) := by
  intro a0 a1 k
  have ih0 := pleatref00_EqWords.mono_l k
  unfold pleatref00_EqWords.f
  exact zMo
set_option maxHeartbeats 8000000 in
set_option maxRecDepth 100000 in
theorem pleatref00_EqWords.calls (k : Nat) (A0 : Option Addr) (c0 : Nat) (l0 : List Int) (A1 : Option Addr) (c1 : Nat) (l1 : List Int) (r : Bool) (w : World) (hr0 : Kd.C (Kd.int .u32) w A0 l0.length l0) (hc0 : l0.length ≤ c0) (hr1 : Kd.C (Kd.int .u32) w A1 l1.length l1) (hc1 : l1.length ≤ c1) (h : pleatref00_EqWords.f k l0 l1 = some r) :
    Calls Try.prog 80 #[.slice A0 l0.length c0, .slice A1 l1.length c1] w fun e w' => e = .returned (.bool r) ∧ Drawn0 w w' := by
  have HR0 := Aside0.mk hr0
  have HC0 := Aside0.mk hc0
  clear hr0 hc0
  have HR1 := Aside0.mk hr1
  have HC1 := Aside0.mk hc1
  clear hr1 hc1
  have H := h
  clear h
  unfold pleatref00_EqWords.f at H
  by_cases c3 : (l0.length : Int) = (l1.length : Int)
  · rw [if_pos c3] at H
    have c3b0 := beq_iff_eq.mpr c3
    have c3b1 := bne_eq_false_iff_eq.mpr c3
    have c3b2 : (l0.length == l1.length) = true := by first | simpa using c3 | (simp at c3 ⊢; omega)
    clear c3
    have H' := Aside0.mk H
    clear H
    go_enter Try.func80, Try.ntmps80
    go_wp2
    repeat (go_quiet (fail); try go_wp2)
    go_loopg [5] k (fun kq v5 w' => ∃ (x5_1 : Int), v5 = .int .i64 x5_1 ∧ Aside0 (pleatref00_EqWords.l0 kq l0 l1 x5_1 = some r) ∧ Aside0 (kq ≤ k) ∧ Drawn0 w w')
    case atStart => exact ⟨(0), zF', H', ⟨Nat.le_refl _⟩, zDr⟩
    case round =>
      clear H'
      try clear c3b0
      try clear c3b1
      try clear c3b2
      obtain ⟨x5_1, rfl, HA, HK1, ⟨m1, rfl⟩⟩ := hrel
      cases gk with
      | zero => exact absurd HA.out (by simp [pleatref00_EqWords.l0])
      | succ k1 =>
        have H := HA.out
        clear HA
        simp only [pleatref00_EqWords.l0] at H
        by_cases c4 : x5_1 < (l0.length : Int)
        · rw [if_pos c4] at H
          have c4b0 := decide_eq_true c4
          clear c4
          obtain ⟨c5, H⟩ := zG H
          have c5b0 := decide_eq_true c5
          clear c5
          obtain ⟨c6, H⟩ := zG H
          have c6b0 := decide_eq_true c6
          clear c6
          by_cases c7 : (rd l0 x5_1) = (rd l1 x5_1)
          · rw [if_pos c7] at H
            have c7b0 := beq_iff_eq.mpr c7
            have c7b1 := bne_eq_false_iff_eq.mpr c7
            clear c7
            have H' := Aside0.mk H
            clear H
            have p171 : 0 ≤ (x5_1 : Int) := zOD
            have q171 : x5_1 < (l0.length : Int) := zOD
            obtain ⟨ad171, e171, hx171_0⟩ := Kd.at_int HR0.out x5_1 p171 q171
            cases e171
            replace p171 := eq_true p171
            replace q171 := eq_true q171
            have p172 : 0 ≤ (x5_1 : Int) := zOD
            have q172 : x5_1 < (l1.length : Int) := zOD
            obtain ⟨ad172, e172, hx172_0⟩ := Kd.at_int HR1.out x5_1 p172 q172
            cases e172
            replace p172 := eq_true p172
            replace q172 := eq_true q172
            go_wp2
            repeat (go_quiet (fail); try go_wp2)
            go_roundg k1
            case measure => have := HK1.out; omega
            case rel => exact ⟨(wrap64 (x5_1 + 1)), zF', H', ⟨by have := HK1.out; omega⟩, zDr⟩
          · rw [if_neg c7] at H
            have c7b0 := beq_eq_false_iff_ne.mpr c7
            have c7b1 := bne_iff_ne.mpr c7
            obtain rfl := Option.some.inj H
            have p171 : 0 ≤ (x5_1 : Int) := zOD
            have q171 : x5_1 < (l0.length : Int) := zOD
            obtain ⟨ad171, e171, hx171_0⟩ := Kd.at_int HR0.out x5_1 p171 q171
            cases e171
            replace p171 := eq_true p171
            replace q171 := eq_true q171
            have p172 : 0 ≤ (x5_1 : Int) := zOD
            have q172 : x5_1 < (l1.length : Int) := zOD
            obtain ⟨ad172, e172, hx172_0⟩ := Kd.at_int HR1.out x5_1 p172 q172
            cases e172
            replace p172 := eq_true p172
            replace q172 := eq_true q172
            go_wp2
            repeat (go_quiet (fail); try go_wp2)
            go_ret
            exact ⟨zF', zDr⟩
        · rw [if_neg c4] at H
          have c4b0 := decide_eq_false c4
          clear c4
          obtain rfl := Option.some.inj H
          go_wp2
          repeat (go_quiet (fail); try go_wp2)
          go_ret
          exact ⟨zF', zDr⟩
  · rw [if_neg c3] at H
    have c3b0 := beq_eq_false_iff_ne.mpr c3
    have c3b1 := bne_iff_ne.mpr c3
    have c3b2 : (l0.length == l1.length) = false := by first | simpa using c3 | (simp at c3 ⊢; omega)
    obtain rfl := Option.some.inj H
    go_enter Try.func80, Try.ntmps80
    go_wp2
    repeat (go_quiet (fail); try go_wp2)
    go_ret
    exact ⟨zF', zDr⟩

/-! ### pleatref00_EqLongs: function 81 -/
def pleatref00_EqLongs.l0 : Nat → List Int → List Int → Int → Option (Bool)
  | 0, _, _, _ => none
  | k + 1, x0, x1, x5 => if x5 < (x0.length : Int) then (if 0 ≤ x5 then (if x5 < (x1.length : Int) then (if (rd x0 x5) = (rd x1 x5) then (pleatref00_EqLongs.l0 k x0 x1 (wrap64 (x5 + 1))) else (some false)) else (none)) else (none)) else (some true)
def pleatref00_EqLongs.f (k : Nat) (l0 : List Int) (l1 : List Int) : Option (Bool) := if (l0.length : Int) = (l1.length : Int) then (pleatref00_EqLongs.l0 k l0 l1 0) else (some false)
theorem pleatref00_EqLongs.mono_l : ∀ k, (∀ y0 y1 y2, LeO (pleatref00_EqLongs.l0 k y0 y1 y2) (pleatref00_EqLongs.l0 (k + 1) y0 y1 y2))
  | 0 => fun _ _ _ r h => by simp [pleatref00_EqLongs.l0] at h
  | k + 1 => by
    have ih0 := pleatref00_EqLongs.mono_l k
    · intro y0 y1 y2
      unfold pleatref00_EqLongs.l0
      exact zMo
theorem pleatref00_EqLongs.mono : ∀ a0 a1 k, LeO (pleatref00_EqLongs.f k a0 a1) (pleatref00_EqLongs.f (k + 1) a0 a1) := by
  intro a0 a1 k
  have ih0 := pleatref00_EqLongs.mono_l k
  unfold pleatref00_EqLongs.f
  exact zMo
set_option maxHeartbeats 8000000 in
set_option maxRecDepth 100000 in
theorem pleatref00_EqLongs.calls (k : Nat) (A0 : Option Addr) (c0 : Nat) (l0 : List Int) (A1 : Option Addr) (c1 : Nat) (l1 : List Int) (r : Bool) (w : World) (hr0 : Kd.C (Kd.int .i64) w A0 l0.length l0) (hc0 : l0.length ≤ c0) (hr1 : Kd.C (Kd.int .i64) w A1 l1.length l1) (hc1 : l1.length ≤ c1) (h : pleatref00_EqLongs.f k l0 l1 = some r) :
    Calls Try.prog 81 #[.slice A0 l0.length c0, .slice A1 l1.length c1] w fun e w' => e = .returned (.bool r) ∧ Drawn0 w w' := by
  have HR0 := Aside0.mk hr0
  have HC0 := Aside0.mk hc0
  clear hr0 hc0
  have HR1 := Aside0.mk hr1
  have HC1 := Aside0.mk hc1
  clear hr1 hc1
  have H := h
  clear h
  unfold pleatref00_EqLongs.f at H
  by_cases c3 : (l0.length : Int) = (l1.length : Int)
  · rw [if_pos c3] at H
    have c3b0 := beq_iff_eq.mpr c3
    have c3b1 := bne_eq_false_iff_eq.mpr c3
    have c3b2 : (l0.length == l1.length) = true := by first | simpa using c3 | (simp at c3 ⊢; omega)
    clear c3
    have H' := Aside0.mk H
    clear H
    go_enter Try.func81, Try.ntmps81
    go_wp2
    repeat (go_quiet (fail); try go_wp2)
    go_loopg [5] k (fun kq v5 w' => ∃ (x5_1 : Int), v5 = .int .i64 x5_1 ∧ Aside0 (pleatref00_EqLongs.l0 kq l0 l1 x5_1 = some r) ∧ Aside0 (kq ≤ k) ∧ Drawn0 w w')
    case atStart => exact ⟨(0), zF', H', ⟨Nat.le_refl _⟩, zDr⟩
    case round =>
      clear H'
      try clear c3b0
      try clear c3b1
      try clear c3b2
      obtain ⟨x5_1, rfl, HA, HK1, ⟨m1, rfl⟩⟩ := hrel
      cases gk with
      | zero => exact absurd HA.out (by simp [pleatref00_EqLongs.l0])
      | succ k1 =>
        have H := HA.out
        clear HA
        simp only [pleatref00_EqLongs.l0] at H
        by_cases c4 : x5_1 < (l0.length : Int)
        · rw [if_pos c4] at H
          have c4b0 := decide_eq_true c4
          clear c4
          obtain ⟨c5, H⟩ := zG H
          have c5b0 := decide_eq_true c5
          clear c5
          obtain ⟨c6, H⟩ := zG H
          have c6b0 := decide_eq_true c6
          clear c6
          by_cases c7 : (rd l0 x5_1) = (rd l1 x5_1)
          · rw [if_pos c7] at H
            have c7b0 := beq_iff_eq.mpr c7
            have c7b1 := bne_eq_false_iff_eq.mpr c7
            clear c7
            have H' := Aside0.mk H
            clear H
            have p173 : 0 ≤ (x5_1 : Int) := zOD
            have q173 : x5_1 < (l0.length : Int) := zOD
            obtain ⟨ad173, e173, hx173_0⟩ := Kd.at_int HR0.out x5_1 p173 q173
            cases e173
            replace p173 := eq_true p173
            replace q173 := eq_true q173
            have p174 : 0 ≤ (x5_1 : Int) := zOD
            have q174 : x5_1 < (l1.length : Int) := zOD
            obtain ⟨ad174, e174, hx174_0⟩ := Kd.at_int HR1.out x5_1 p174 q174
            cases e174
            replace p174 := eq_true p174
            replace q174 := eq_true q174
            go_wp2
            repeat (go_quiet (fail); try go_wp2)
            go_roundg k1
            case measure => have := HK1.out; omega
            case rel => exact ⟨(wrap64 (x5_1 + 1)), zF', H', ⟨by have := HK1.out; omega⟩, zDr⟩
          · rw [if_neg c7] at H
            have c7b0 := beq_eq_false_iff_ne.mpr c7
            have c7b1 := bne_iff_ne.mpr c7
            obtain rfl := Option.some.inj H
            have p173 : 0 ≤ (x5_1 : Int) := zOD
            have q173 : x5_1 < (l0.length : Int) := zOD
            obtain ⟨ad173, e173, hx173_0⟩ := Kd.at_int HR0.out x5_1 p173 q173
            cases e173
            replace p173 := eq_true p173
            replace q173 := eq_true q173
            have p174 : 0 ≤ (x5_1 : Int) := zOD
            have q174 : x5_1 < (l1.length : Int) := zOD
            obtain ⟨ad174, e174, hx174_0⟩ := Kd.at_int HR1.out x5_1 p174 q174
            cases e174
            replace p174 := eq_true p174
            replace q174 := eq_true q174
            go_wp2
            repeat (go_quiet (fail); try go_wp2)
            go_ret
            exact ⟨zF', zDr⟩
        · rw [if_neg c4] at H
          have c4b0 := decide_eq_false c4
          clear c4
          obtain rfl := Option.some.inj H
          go_wp2
          repeat (go_quiet (fail); try go_wp2)
          go_ret
          exact ⟨zF', zDr⟩
  · rw [if_neg c3] at H
    have c3b0 := beq_eq_false_iff_ne.mpr c3
    have c3b1 := bne_iff_ne.mpr c3
    have c3b2 : (l0.length == l1.length) = false := by first | simpa using c3 | (simp at c3 ⊢; omega)
    obtain rfl := Option.some.inj H
    go_enter Try.func81, Try.ntmps81
    go_wp2
    repeat (go_quiet (fail); try go_wp2)
    go_ret
    exact ⟨zF', zDr⟩

/-! ### pleatref00_EqImage: function 25 -/
def pleatref00_EqImage.f (k : Nat) (l0_0 : List Int) (a0_1 : Int) (l0_2 : List Int) (l1_0 : List Int) (a1_1 : Int) (l1_2 : List Int) : Option (Bool) := if a0_1 = a1_1 then ((pleatref00_EqWords.f k l0_0 l1_0).bind fun t177 => (if t177 = true then ((pleatref00_EqLongs.f k l0_2 l1_2).bind fun t178 => (some t178)) else (some false))) else (some false)
theorem pleatref00_EqImage.mono : ∀ a0 a1 a2 a3 a4 a5 k, LeO (pleatref00_EqImage.f k a0 a1 a2 a3 a4 a5) (pleatref00_EqImage.f (k + 1) a0 a1 a2 a3 a4 a5) := by
  intro a0 a1 a2 a3 a4 a5 k
  unfold pleatref00_EqImage.f
  have m0 := @pleatref00_EqLongs.mono
  have m1 := @pleatref00_EqWords.mono
  exact zMo
set_option maxHeartbeats 8000000 in
set_option maxRecDepth 100000 in
theorem pleatref00_EqImage.calls (k : Nat) (A0_0 : Option Addr) (c0_0 : Nat) (l0_0 : List Int) (a0_1 : Int) (A0_2 : Option Addr) (c0_2 : Nat) (l0_2 : List Int) (A1_0 : Option Addr) (c1_0 : Nat) (l1_0 : List Int) (a1_1 : Int) (A1_2 : Option Addr) (c1_2 : Nat) (l1_2 : List Int) (r : Bool) (w : World) (hr0_0 : Kd.C (Kd.int .u32) w A0_0 l0_0.length l0_0) (hc0_0 : l0_0.length ≤ c0_0) (hr0_2 : Kd.C (Kd.int .i64) w A0_2 l0_2.length l0_2) (hc0_2 : l0_2.length ≤ c0_2) (hr1_0 : Kd.C (Kd.int .u32) w A1_0 l1_0.length l1_0) (hc1_0 : l1_0.length ≤ c1_0) (hr1_2 : Kd.C (Kd.int .i64) w A1_2 l1_2.length l1_2) (hc1_2 : l1_2.length ≤ c1_2) (h : pleatref00_EqImage.f k l0_0 a0_1 l0_2 l1_0 a1_1 l1_2 = some r) :
    Calls Try.prog 25 #[.agg #[.slice A0_0 l0_0.length c0_0, .int .i64 a0_1, .slice A0_2 l0_2.length c0_2], .agg #[.slice A1_0 l1_0.length c1_0, .int .i64 a1_1, .slice A1_2 l1_2.length c1_2]] w fun e w' => e = .returned (.bool r) ∧ Below w.heap.size w w' := by
  have hu25 := Try.underlying25
  have HR0_0 := Aside0.mk hr0_0
  have HC0_0 := Aside0.mk hc0_0
  clear hr0_0 hc0_0
  have HR0_2 := Aside0.mk hr0_2
  have HC0_2 := Aside0.mk hc0_2
  clear hr0_2 hc0_2
  have HR1_0 := Aside0.mk hr1_0
  have HC1_0 := Aside0.mk hc1_0
  clear hr1_0 hc1_0
  have HR1_2 := Aside0.mk hr1_2
  have HC1_2 := Aside0.mk hc1_2
  clear hr1_2 hc1_2
  have HB := Aside0.mk (Below.refl w.heap.size w)
  have H := h
  clear h
  unfold pleatref00_EqImage.f at H
  by_cases c3 : a0_1 = a1_1
  · rw [if_pos c3] at H
    have c3b0 := beq_iff_eq.mpr c3
    have c3b1 := bne_eq_false_iff_eq.mpr c3
    clear c3
    replace H := Option.bind_eq_some_iff.mp H
    obtain ⟨t177, A40, H⟩ := H
    (try dsimp only at H)
    have A4 := Aside0.mk A40
    clear A40
    by_cases c5 : t177 = true
    · subst c5
      rw [if_pos rfl] at H
      replace H := Option.bind_eq_some_iff.mp H
      obtain ⟨t178, A60, H⟩ := H
      (try dsimp only at H)
      have A6 := Aside0.mk A60
      clear A60
      obtain rfl := Option.some.inj H
      go_enter Try.func25, Try.ntmps25
      go_wp2_with (first | ((with_reducible refine gate_dst (N := 2) rfl ?_); refine zBox (N := 2) (cs := #[.slice A0_0 l0_0.length c0_0, .int .i64 a0_1, .slice A0_2 l0_2.length c0_2]) (t := 25) ?_; intro gb175 hg w7 hbox hb; refine zs (below_step (zHB) hb) (zs hbox (zs (zGe hg zHB) (zs (zGe hg zHB) ?_))); clear HB; intro GE175 GW175 BK175 HB; clear hb hbox hg) | ((with_reducible refine gate_dst (N := 3) rfl ?_); refine zBox (N := 3) (cs := #[.slice A1_0 l1_0.length c1_0, .int .i64 a1_1, .slice A1_2 l1_2.length c1_2]) (t := 25) ?_; intro gb176 hg w8 hbox hb; refine zs (blk_below (g := gb175) zBK hb) (zs (below_step (zHB) hb) (zs hbox (zs (zGe hg zHB) (zs (zGe hg zHB) (zs (zNl hg zBK : gb175 ≠ gb176) (zs ((zNg hg zBK : gb176 ≠ gb175)) ?_)))))); clear BK175 HB; intro NB176_175 NB175_176 GE176 GW176 BK176 HB BK175; clear hb hbox hg; have hnb9 := NB175_176.out; have hnc9 := NB176_175.out; have hcz10 := blk_cell BK175.out; have hfz10 := blk_frozen BK175.out; have hcz11 := blk_cell BK176.out; have hfz11 := blk_frozen BK176.out) | (go_at_call 80; (with_reducible refine (pleatref00_EqWords.calls k _ _ l0_0 _ _ l1_0 true _ ?side1 ?side2 ?side3 ?side4 A4.out).mono ?_); (case side1 => exact zS); (case side2 => exact zS); (case side3 => exact zS); (case side4 => exact zS); rintro e w' ⟨rfl, ⟨nd, rfl⟩⟩) | (go_at_call 81; (with_reducible refine (pleatref00_EqLongs.calls k _ _ l0_2 _ _ l1_2 t178 _ ?side1 ?side2 ?side3 ?side4 A6.out).mono ?_); (case side1 => repeat (first | exact (Kd.C_below HR0_2.out (zHB)) | (with_reducible refine Kd.C_alloc ?_ _) | (with_reducible refine Kd.C_drewN ?_ _) | (with_reducible refine Kd.C_drew ?_))); (case side2 => exact zS); (case side3 => repeat (first | exact (Kd.C_below HR1_2.out (zHB)) | (with_reducible refine Kd.C_alloc ?_ _) | (with_reducible refine Kd.C_drewN ?_ _) | (with_reducible refine Kd.C_drew ?_))); (case side4 => exact zS); rintro e w' ⟨rfl, ⟨nd, rfl⟩⟩))
      go_ret
      exact ⟨zE, zHB⟩
    · replace c5 := Bool.eq_false_iff.mpr c5
      subst c5
      rw [if_neg (show ¬ (false = true) by decide)] at H
      obtain rfl := Option.some.inj H
      go_enter Try.func25, Try.ntmps25
      go_wp2_with (first | ((with_reducible refine gate_dst (N := 2) rfl ?_); refine zBox (N := 2) (cs := #[.slice A0_0 l0_0.length c0_0, .int .i64 a0_1, .slice A0_2 l0_2.length c0_2]) (t := 25) ?_; intro gb175 hg w12 hbox hb; refine zs (below_step (zHB) hb) (zs hbox (zs (zGe hg zHB) (zs (zGe hg zHB) ?_))); clear HB; intro GE175 GW175 BK175 HB; clear hb hbox hg) | ((with_reducible refine gate_dst (N := 3) rfl ?_); refine zBox (N := 3) (cs := #[.slice A1_0 l1_0.length c1_0, .int .i64 a1_1, .slice A1_2 l1_2.length c1_2]) (t := 25) ?_; intro gb176 hg w13 hbox hb; refine zs (blk_below (g := gb175) zBK hb) (zs (below_step (zHB) hb) (zs hbox (zs (zGe hg zHB) (zs (zGe hg zHB) (zs (zNl hg zBK : gb175 ≠ gb176) (zs ((zNg hg zBK : gb176 ≠ gb175)) ?_)))))); clear BK175 HB; intro NB176_175 NB175_176 GE176 GW176 BK176 HB BK175; clear hb hbox hg; have hnb14 := NB175_176.out; have hnc14 := NB176_175.out; have hcz15 := blk_cell BK175.out; have hfz15 := blk_frozen BK175.out; have hcz16 := blk_cell BK176.out; have hfz16 := blk_frozen BK176.out) | (go_at_call 80; (with_reducible refine (pleatref00_EqWords.calls k _ _ l0_0 _ _ l1_0 false _ ?side1 ?side2 ?side3 ?side4 A4.out).mono ?_); (case side1 => exact zS); (case side2 => exact zS); (case side3 => exact zS); (case side4 => exact zS); rintro e w' ⟨rfl, ⟨nd, rfl⟩⟩))
      go_ret
      exact ⟨zE, zHB⟩
  · rw [if_neg c3] at H
    have c3b0 := beq_eq_false_iff_ne.mpr c3
    have c3b1 := bne_iff_ne.mpr c3
    obtain rfl := Option.some.inj H
    go_enter Try.func25, Try.ntmps25
    go_wp2_with (first | ((with_reducible refine gate_dst (N := 2) rfl ?_); refine zBox (N := 2) (cs := #[.slice A0_0 l0_0.length c0_0, .int .i64 a0_1, .slice A0_2 l0_2.length c0_2]) (t := 25) ?_; intro gb175 hg w17 hbox hb; refine zs (below_step (zHB) hb) (zs hbox (zs (zGe hg zHB) (zs (zGe hg zHB) ?_))); clear HB; intro GE175 GW175 BK175 HB; clear hb hbox hg) | ((with_reducible refine gate_dst (N := 3) rfl ?_); refine zBox (N := 3) (cs := #[.slice A1_0 l1_0.length c1_0, .int .i64 a1_1, .slice A1_2 l1_2.length c1_2]) (t := 25) ?_; intro gb176 hg w18 hbox hb; refine zs (blk_below (g := gb175) zBK hb) (zs (below_step (zHB) hb) (zs hbox (zs (zGe hg zHB) (zs (zGe hg zHB) (zs (zNl hg zBK : gb175 ≠ gb176) (zs ((zNg hg zBK : gb176 ≠ gb175)) ?_)))))); clear BK175 HB; intro NB176_175 NB175_176 GE176 GW176 BK176 HB BK175; clear hb hbox hg; have hnb19 := NB175_176.out; have hnc19 := NB176_175.out; have hcz20 := blk_cell BK175.out; have hfz20 := blk_frozen BK175.out; have hcz21 := blk_cell BK176.out; have hfz21 := blk_frozen BK176.out))
    go_ret
    exact ⟨zE, zHB⟩

/-! ### pleatlaw07_lives: function 20 -/
def pleatlaw07_lives.f (k : Nat)  : Option (Bool) := (some (([2818572288] : List Int) : List Int)).bind fun y179 => ((image_Check.f k y179 0 ([] : List Int)).bind fun bt183 => ((image_Write.f k y179 0 ([] : List Int)).bind fun bt185 => ((image_Read.f k bt185.1).bind fun bt189 => ((image_Check.f k ([] : List Int) 0 ([] : List Int)).bind fun bt199 => (if bt183.1 = 0 then (if bt183.2 = 0 then (if bt185.2 = 0 then (if bt189.2.2.2.1 = 0 then (if bt199.1 = 50 then (if (bt185.1.length : Int) = 24 then ((pleatref00_EqImage.f k bt189.1 bt189.2.1 bt189.2.2.1 y179 0 ([] : List Int)).bind fun t201 => (some t201)) else (some false)) else (some false)) else (some false)) else (some false)) else (some false)) else (some false))))))
theorem pleatlaw07_lives.mono : ∀ k, LeO (pleatlaw07_lives.f k ) (pleatlaw07_lives.f (k + 1) ) := by
  intro  k
  unfold pleatlaw07_lives.f
  have m0 := @image_Check.mono
  have m1 := @image_Read.mono
  have m2 := @image_Write.mono
  have m3 := @pleatref00_EqImage.mono
  exact zMo
set_option maxHeartbeats 8000000 in
set_option maxRecDepth 100000 in
theorem pleatlaw07_lives.calls (k : Nat)  (r : Bool) (w : World) (h : pleatlaw07_lives.f k  = some r) :
    Calls Try.prog 20 #[] w fun e w' => e = .returned (.bool r) ∧ Below w.heap.size w w' := by
  have hu25 := Try.underlying25
  have HB := Aside0.mk (Below.refl w.heap.size w)
  have H := h
  clear h
  unfold pleatlaw07_lives.f at H
  obtain ⟨y179, hy179⟩ : ∃ y_ : List Int, y_ = (([2818572288] : List Int)) := ⟨_, rfl⟩
  replace H := (Option.bind_some _ _).symm.trans H
  (try rw [← hy179] at H)
  have Ny179 := Aside0.mk hy179
  clear hy179
  replace H := Option.bind_eq_some_iff.mp H
  obtain ⟨⟨t183, t184⟩, A10, H⟩ := H
  (try dsimp only at H)
  have A1 := Aside0.mk A10
  clear A10
  replace H := Option.bind_eq_some_iff.mp H
  obtain ⟨⟨t185, t188⟩, A20, H⟩ := H
  (try dsimp only at H)
  have A2 := Aside0.mk A20
  clear A20
  replace H := Option.bind_eq_some_iff.mp H
  obtain ⟨⟨t189, t192, t193, t196, t197⟩, A30, H⟩ := H
  (try dsimp only at H)
  have A3 := Aside0.mk A30
  clear A30
  replace H := Option.bind_eq_some_iff.mp H
  obtain ⟨⟨t199, t200⟩, A40, H⟩ := H
  (try dsimp only at H)
  have A4 := Aside0.mk A40
  clear A40
  by_cases c5 : t183 = 0
  · rw [if_pos c5] at H
    have c5b0 := beq_iff_eq.mpr c5
    have c5b1 := bne_eq_false_iff_eq.mpr c5
    clear c5
    by_cases c6 : t184 = 0
    · rw [if_pos c6] at H
      have c6b0 := beq_iff_eq.mpr c6
      have c6b1 := bne_eq_false_iff_eq.mpr c6
      clear c6
      by_cases c7 : t188 = 0
      · rw [if_pos c7] at H
        have c7b0 := beq_iff_eq.mpr c7
        have c7b1 := bne_eq_false_iff_eq.mpr c7
        clear c7
        by_cases c8 : t196 = 0
        · rw [if_pos c8] at H
          have c8b0 := beq_iff_eq.mpr c8
          have c8b1 := bne_eq_false_iff_eq.mpr c8
          clear c8
          by_cases c9 : t199 = 50
          · rw [if_pos c9] at H
            have c9b0 := beq_iff_eq.mpr c9
            have c9b1 := bne_eq_false_iff_eq.mpr c9
            clear c9
            by_cases c10 : (t185.length : Int) = 24
            · rw [if_pos c10] at H
              have c10b0 := beq_iff_eq.mpr c10
              have c10b1 := bne_eq_false_iff_eq.mpr c10
              clear c10
              replace H := Option.bind_eq_some_iff.mp H
              obtain ⟨t201, A110, H⟩ := H
              (try dsimp only at H)
              have A11 := Aside0.mk A110
              clear A110
              obtain rfl := Option.some.inj H
              go_enter Try.func20, Try.ntmps20
              go_wp2_with (first | ((with_reducible refine gate_dst (N := 11) rfl ?_); (try (refine gate_guard (by rfl) ?_; dsimp only)); refine Kd.R_lit (Kd.int .u32) _ 38 ?hg (N := 11) ?hd (xs := ([2818572288] : List Int)) (inner := [.int .u32 2818572288]) (ok := fun _ => True) (okp := fun _ => True) ?hr ?hp (fun _ hk => hk) trivial (Below.refl _ _) (Nat.le_refl _) (by simp) ?_; (case hd => rfl); (case hg => rfl); (case hr => first | (go_simp; done) | (go_simp; rfl)); (case hp => exact (Reps.one (show Kd.M (Kd.int .u32) _ _ _ 2818572288 [.int .u32 2818572288] from rfl) (Reps.none _ _))); intro v180 w12 ho13 hb hg_ hnew_; clear hg_ hnew_; (first | rw [← Ny179.out] at ho13 | (simp only [Int.reduceToNat] at ho13; rw [← Ny179.out] at ho13)); refine zs (Kd.R_lower ho13 (below_size (zHB))) (zs (below_step (zHB) hb) ?_); clear HB; intro HB HO181; clear hb ho13; obtain ⟨Ao14, co14, eo14⟩ := Kd.R_slice HO181.out; subst eo14) | ((with_reducible refine gate_dst (N := 1) rfl ?_); (try (refine gate_guard (by rfl) ?_; dsimp only)); refine zBox (N := 1) (cs := #[.slice none 0 0, .int .i64 0, .slice none 0 0]) (t := 25) ?_; intro gb182 hg w15 hbox hb; refine zs (Kd.R_below (by (with_reducible repeat (first | apply Kd.R_alloc | apply Kd.R_drewN | apply Kd.R_drew)); exact HO181.out) hb) (zs (below_step (zHB) hb) (zs hbox (zs (zGe hg zHB) (zs (zGe hg zHB) ?_)))); clear HO181 HB; intro GE182 GW182 BK182 HB HO181; clear hb hbox hg; have hcz16 := blk_cell BK182.out; have hfz16 := blk_frozen BK182.out) | ((with_reducible refine gate_callee (f := 22) rfl ?_); refine zGo (N := (some 15)) Try.func22 #[.agg #[.slice Ao14 y179.length co14, .int .i64 0, .slice none 0 0]] ?_; (refine (image_Check.calls k _ _ y179 0 _ _ ([] : List Int) t183 t184 _ ?side1 ?side2 ?side3 ?side4 A1.out).mono ?_); (case side1 => refine (Kd.R_reads' (e := 38) (base := w.heap.size) (ok := fun k_ => True) (n := y179.length) (c := co14) ?_).2.2; exact (by (with_reducible repeat (first | apply Kd.R_alloc | apply Kd.R_drewN | apply Kd.R_drew)); exact (Kd.R_mono (Kd.R_far (p := ⟨gb182, 2, none⟩) (Kd.R_far (p := ⟨gb182, 1, none⟩) (Kd.R_far (p := ⟨gb182, 0, none⟩) (Kd.R_types HO181.out BK182.out (by decide)) (fun _ hk => hk.2) (.slice Ao14 y179.length co14)) (fun _ hk => hk.2) (.int .i64 0)) (fun _ hk => hk.2) (.slice none 0 0)) (fun _ h_ => h_.1)))); (case side2 => exact zS); (case side3 => exact zS); (case side4 => exact zS); rintro e w17 ⟨rfl, hb⟩; refine ⟨_, rfl, ?_⟩; refine zs (Kd.R_below (by (with_reducible repeat (first | apply Kd.R_alloc | apply Kd.R_drewN | apply Kd.R_drew)); exact (Kd.R_mono (Kd.R_far (p := ⟨gb182, 2, none⟩) (Kd.R_far (p := ⟨gb182, 1, none⟩) (Kd.R_far (p := ⟨gb182, 0, none⟩) (Kd.R_types HO181.out BK182.out (by decide)) (fun _ hk => hk.2) (.slice Ao14 y179.length co14)) (fun _ hk => hk.2) (.int .i64 0)) (fun _ hk => hk.2) (.slice none 0 0)) (fun _ h_ => h_.1))) hb) (zs (blk_below (g := gb182) (o := .cells #[.slice Ao14 y179.length co14, .int .i64 0, .slice none 0 0] 25 (0, 0)) (zBK) hb) (zs (below_step (zHB) hb) ?_)); clear HO181 BK182 HB; intro HB BK182 HO181; clear hb; have hcz18 := blk_cell BK182.out; have hfz18 := blk_frozen BK182.out) | ((with_reducible refine gate_callee (f := 21) rfl ?_); refine zGo (N := (some 20)) Try.func21 #[.agg #[.slice Ao14 y179.length co14, .int .i64 0, .slice none 0 0]] ?_; (refine (image_Write.calls k _ _ y179 0 _ _ ([] : List Int) t185 t188 _ ?side1 ?side2 ?side3 ?side4 A2.out).mono ?_); (case side1 => exact zS); (case side2 => exact zS); (case side3 => exact zS); (case side4 => exact zS); rintro e w19 ⟨v186, rfl, ho0, hb⟩; refine ⟨_, rfl, ?_⟩; refine zs (Kd.R_below (by (with_reducible repeat (first | apply Kd.R_alloc | apply Kd.R_drewN | apply Kd.R_drew)); exact HO181.out) hb) (zs (Kd.R_lower ho0 (below_size (zHB))) (zs (blk_below (g := gb182) zBK hb) (zs (below_step (zHB) hb) ?_))); clear HO181 BK182 HB; intro HB BK182 HO187 HO181; clear hb ho0; obtain ⟨Ao20, co20, eo20⟩ := Kd.R_slice HO187.out; subst eo20) | ((with_reducible refine gate_callee (f := 23) rfl ?_); refine zGo (N := (some 25)) Try.func23 #[.slice Ao20 t185.length co20] ?_; (with_reducible refine (image_Read.calls k _ _ t185 t189 t192 t193 t196 t197 _ ?side1 ?side2 A3.out).mono ?_); (case side1 => exact zS); (case side2 => exact zS); rintro e w21 ⟨v190, v194, rfl, ho0, ho1, hb⟩; refine ⟨_, rfl, ?_⟩; refine zs (Kd.R_elder' (by (with_reducible repeat (first | apply Kd.R_alloc | apply Kd.R_drewN | apply Kd.R_drew)); exact HO181.out) (Kd.R_base ho0) hb) (zs (Kd.R_below (by (with_reducible repeat (first | apply Kd.R_alloc | apply Kd.R_drewN | apply Kd.R_drew)); exact HO187.out) hb) (zs (Kd.R_lower (Kd.R_new' ho0 (Kd.R_lt (by (with_reducible repeat (first | apply Kd.R_alloc | apply Kd.R_drewN | apply Kd.R_drew)); exact HO181.out))) (below_size (zHB))) (zs (Kd.R_lower ho1 (below_size (zHB))) (zs (blk_below (g := gb182) zBK hb) (zs (below_step (zHB) hb) ?_))))); clear HO181 HO187 BK182 HB; intro HB BK182 HO195 HO191 HO187 HO181; clear hb ho0 ho1) | ((with_reducible refine gate_dst (N := 6) rfl ?_); (try (refine gate_guard (by rfl) ?_; dsimp only)); refine zBox (N := 6) (cs := #[.slice none 0 0, .int .i64 0, .slice none 0 0]) (t := 25) ?_; intro gb198 hg w22 hbox hb; refine zs (Kd.R_below (by (with_reducible repeat (first | apply Kd.R_alloc | apply Kd.R_drewN | apply Kd.R_drew)); exact HO181.out) hb) (zs (Kd.R_below (by (with_reducible repeat (first | apply Kd.R_alloc | apply Kd.R_drewN | apply Kd.R_drew)); exact HO187.out) hb) (zs (Kd.R_below (by (with_reducible repeat (first | apply Kd.R_alloc | apply Kd.R_drewN | apply Kd.R_drew)); exact HO191.out) hb) (zs (Kd.R_below (by (with_reducible repeat (first | apply Kd.R_alloc | apply Kd.R_drewN | apply Kd.R_drew)); exact HO195.out) hb) (zs (blk_below (g := gb182) zBK hb) (zs (below_step (zHB) hb) (zs hbox (zs (zGe hg zHB) (zs (zGe hg zHB) (zs (zNl hg zBK : gb182 ≠ gb198) (zs ((zNg hg zBK : gb198 ≠ gb182)) ?_)))))))))); clear HO181 HO187 HO191 HO195 BK182 HB; intro NB198_182 NB182_198 GE198 GW198 BK198 HB BK182 HO195 HO191 HO187 HO181; clear hb hbox hg; obtain ⟨Ao23, co23, eo23⟩ := Kd.R_slice HO191.out; subst eo23; have hnb24 := NB198_182.out; have hnc24 := NB182_198.out; have hcz25 := blk_cell BK198.out; have hfz25 := blk_frozen BK198.out; obtain ⟨Ao26, co26, eo26⟩ := Kd.R_slice HO195.out; subst eo26) | ((with_reducible refine gate_callee (f := 22) rfl ?_); refine zGo (N := (some 31)) Try.func22 #[.agg #[.slice none 0 0, .int .i64 0, .slice none 0 0]] ?_; (refine (image_Check.calls k _ _ ([] : List Int) 0 _ _ ([] : List Int) t199 t200 _ ?side1 ?side2 ?side3 ?side4 A4.out).mono ?_); (case side1 => exact zS); (case side2 => exact zS); (case side3 => exact zS); (case side4 => exact zS); rintro e w27 ⟨rfl, hb⟩; refine ⟨_, rfl, ?_⟩; refine zs (Kd.R_below (by (with_reducible repeat (first | apply Kd.R_alloc | apply Kd.R_drewN | apply Kd.R_drew)); exact (Kd.R_mono (Kd.R_far (p := ⟨gb198, 2, none⟩) (Kd.R_far (p := ⟨gb198, 1, none⟩) (Kd.R_far (p := ⟨gb198, 0, none⟩) (Kd.R_types HO181.out BK198.out (by decide)) (fun _ hk => hk.2) (.slice Ao23 t189.length co23)) (fun _ hk => hk.2) (.int .i64 t192)) (fun _ hk => hk.2) (.slice Ao26 t193.length co26)) (fun _ h_ => h_.1))) hb) (zs (Kd.R_below (by (with_reducible repeat (first | apply Kd.R_alloc | apply Kd.R_drewN | apply Kd.R_drew)); exact (Kd.R_mono (Kd.R_far (p := ⟨gb198, 2, none⟩) (Kd.R_far (p := ⟨gb198, 1, none⟩) (Kd.R_far (p := ⟨gb198, 0, none⟩) (Kd.R_types HO187.out BK198.out (by decide)) (fun _ hk => hk.2) (.slice Ao23 t189.length co23)) (fun _ hk => hk.2) (.int .i64 t192)) (fun _ hk => hk.2) (.slice Ao26 t193.length co26)) (fun _ h_ => h_.1))) hb) (zs (Kd.R_below (by (with_reducible repeat (first | apply Kd.R_alloc | apply Kd.R_drewN | apply Kd.R_drew)); exact (Kd.R_mono (Kd.R_far (p := ⟨gb198, 2, none⟩) (Kd.R_far (p := ⟨gb198, 1, none⟩) (Kd.R_far (p := ⟨gb198, 0, none⟩) (Kd.R_types HO191.out BK198.out (by decide)) (fun _ hk => hk.2) (.slice Ao23 t189.length co23)) (fun _ hk => hk.2) (.int .i64 t192)) (fun _ hk => hk.2) (.slice Ao26 t193.length co26)) (fun _ h_ => h_.1))) hb) (zs (Kd.R_below (by (with_reducible repeat (first | apply Kd.R_alloc | apply Kd.R_drewN | apply Kd.R_drew)); exact (Kd.R_mono (Kd.R_far (p := ⟨gb198, 2, none⟩) (Kd.R_far (p := ⟨gb198, 1, none⟩) (Kd.R_far (p := ⟨gb198, 0, none⟩) (Kd.R_types HO195.out BK198.out (by decide)) (fun _ hk => hk.2) (.slice Ao23 t189.length co23)) (fun _ hk => hk.2) (.int .i64 t192)) (fun _ hk => hk.2) (.slice Ao26 t193.length co26)) (fun _ h_ => h_.1))) hb) (zs (blk_below (g := gb182) zBK hb) (zs (blk_below (g := gb198) (o := .cells #[.slice Ao23 t189.length co23, .int .i64 t192, .slice Ao26 t193.length co26] 25 (0, 0)) (zBK) hb) (zs (below_step (zHB) hb) ?_)))))); clear HO181 HO187 HO191 HO195 BK182 BK198 HB; intro HB BK198 BK182 HO195 HO191 HO187 HO181; clear hb; have hcz28 := blk_cell BK198.out; have hfz28 := blk_frozen BK198.out; have hcz29 := blk_cell BK182.out; have hfz29 := blk_frozen BK182.out) | (go_at_call 25; (refine (pleatref00_EqImage.calls k _ _ t189 t192 _ _ t193 _ _ y179 0 _ _ ([] : List Int) t201 _ ?side1 ?side2 ?side3 ?side4 ?side5 ?side6 ?side7 ?side8 A11.out).mono ?_); (case side1 => exact zS); (case side2 => exact zS); (case side3 => exact zS); (case side4 => exact zS); (case side5 => exact zS); (case side6 => exact zS); (case side7 => exact zS); (case side8 => exact zS); rintro e w30 ⟨rfl, hb⟩; refine zs (Kd.R_below (by (with_reducible repeat (first | apply Kd.R_alloc | apply Kd.R_drewN | apply Kd.R_drew)); exact HO181.out) hb) (zs (Kd.R_below (by (with_reducible repeat (first | apply Kd.R_alloc | apply Kd.R_drewN | apply Kd.R_drew)); exact HO187.out) hb) (zs (Kd.R_below (by (with_reducible repeat (first | apply Kd.R_alloc | apply Kd.R_drewN | apply Kd.R_drew)); exact HO191.out) hb) (zs (Kd.R_below (by (with_reducible repeat (first | apply Kd.R_alloc | apply Kd.R_drewN | apply Kd.R_drew)); exact HO195.out) hb) (zs (blk_below (g := gb182) zBK hb) (zs (blk_below (g := gb198) zBK hb) (zs (below_step (zHB) hb) ?_)))))); clear HO181 HO187 HO191 HO195 BK182 BK198 HB; intro HB BK198 BK182 HO195 HO191 HO187 HO181; clear hb))
              go_ret
              exact ⟨zE, zHB⟩
            · rw [if_neg c10] at H
              have c10b0 := beq_eq_false_iff_ne.mpr c10
              have c10b1 := bne_iff_ne.mpr c10
              obtain rfl := Option.some.inj H
              go_enter Try.func20, Try.ntmps20
              go_wp2_with (first | ((with_reducible refine gate_dst (N := 11) rfl ?_); (try (refine gate_guard (by rfl) ?_; dsimp only)); refine Kd.R_lit (Kd.int .u32) _ 38 ?hg (N := 11) ?hd (xs := ([2818572288] : List Int)) (inner := [.int .u32 2818572288]) (ok := fun _ => True) (okp := fun _ => True) ?hr ?hp (fun _ hk => hk) trivial (Below.refl _ _) (Nat.le_refl _) (by simp) ?_; (case hd => rfl); (case hg => rfl); (case hr => first | (go_simp; done) | (go_simp; rfl)); (case hp => exact (Reps.one (show Kd.M (Kd.int .u32) _ _ _ 2818572288 [.int .u32 2818572288] from rfl) (Reps.none _ _))); intro v180 w31 ho32 hb hg_ hnew_; clear hg_ hnew_; (first | rw [← Ny179.out] at ho32 | (simp only [Int.reduceToNat] at ho32; rw [← Ny179.out] at ho32)); refine zs (Kd.R_lower ho32 (below_size (zHB))) (zs (below_step (zHB) hb) ?_); clear HB; intro HB HO181; clear hb ho32; obtain ⟨Ao33, co33, eo33⟩ := Kd.R_slice HO181.out; subst eo33) | ((with_reducible refine gate_dst (N := 1) rfl ?_); (try (refine gate_guard (by rfl) ?_; dsimp only)); refine zBox (N := 1) (cs := #[.slice none 0 0, .int .i64 0, .slice none 0 0]) (t := 25) ?_; intro gb182 hg w34 hbox hb; refine zs (Kd.R_below (by (with_reducible repeat (first | apply Kd.R_alloc | apply Kd.R_drewN | apply Kd.R_drew)); exact HO181.out) hb) (zs (below_step (zHB) hb) (zs hbox (zs (zGe hg zHB) (zs (zGe hg zHB) ?_)))); clear HO181 HB; intro GE182 GW182 BK182 HB HO181; clear hb hbox hg; have hcz35 := blk_cell BK182.out; have hfz35 := blk_frozen BK182.out) | ((with_reducible refine gate_callee (f := 22) rfl ?_); refine zGo (N := (some 15)) Try.func22 #[.agg #[.slice Ao33 y179.length co33, .int .i64 0, .slice none 0 0]] ?_; (refine (image_Check.calls k _ _ y179 0 _ _ ([] : List Int) t183 t184 _ ?side1 ?side2 ?side3 ?side4 A1.out).mono ?_); (case side1 => refine (Kd.R_reads' (e := 38) (base := w.heap.size) (ok := fun k_ => True) (n := y179.length) (c := co33) ?_).2.2; exact (by (with_reducible repeat (first | apply Kd.R_alloc | apply Kd.R_drewN | apply Kd.R_drew)); exact (Kd.R_mono (Kd.R_far (p := ⟨gb182, 2, none⟩) (Kd.R_far (p := ⟨gb182, 1, none⟩) (Kd.R_far (p := ⟨gb182, 0, none⟩) (Kd.R_types HO181.out BK182.out (by decide)) (fun _ hk => hk.2) (.slice Ao33 y179.length co33)) (fun _ hk => hk.2) (.int .i64 0)) (fun _ hk => hk.2) (.slice none 0 0)) (fun _ h_ => h_.1)))); (case side2 => exact zS); (case side3 => exact zS); (case side4 => exact zS); rintro e w36 ⟨rfl, hb⟩; refine ⟨_, rfl, ?_⟩; refine zs (Kd.R_below (by (with_reducible repeat (first | apply Kd.R_alloc | apply Kd.R_drewN | apply Kd.R_drew)); exact (Kd.R_mono (Kd.R_far (p := ⟨gb182, 2, none⟩) (Kd.R_far (p := ⟨gb182, 1, none⟩) (Kd.R_far (p := ⟨gb182, 0, none⟩) (Kd.R_types HO181.out BK182.out (by decide)) (fun _ hk => hk.2) (.slice Ao33 y179.length co33)) (fun _ hk => hk.2) (.int .i64 0)) (fun _ hk => hk.2) (.slice none 0 0)) (fun _ h_ => h_.1))) hb) (zs (blk_below (g := gb182) (o := .cells #[.slice Ao33 y179.length co33, .int .i64 0, .slice none 0 0] 25 (0, 0)) (zBK) hb) (zs (below_step (zHB) hb) ?_)); clear HO181 BK182 HB; intro HB BK182 HO181; clear hb; have hcz37 := blk_cell BK182.out; have hfz37 := blk_frozen BK182.out) | ((with_reducible refine gate_callee (f := 21) rfl ?_); refine zGo (N := (some 20)) Try.func21 #[.agg #[.slice Ao33 y179.length co33, .int .i64 0, .slice none 0 0]] ?_; (refine (image_Write.calls k _ _ y179 0 _ _ ([] : List Int) t185 t188 _ ?side1 ?side2 ?side3 ?side4 A2.out).mono ?_); (case side1 => exact zS); (case side2 => exact zS); (case side3 => exact zS); (case side4 => exact zS); rintro e w38 ⟨v186, rfl, ho0, hb⟩; refine ⟨_, rfl, ?_⟩; refine zs (Kd.R_below (by (with_reducible repeat (first | apply Kd.R_alloc | apply Kd.R_drewN | apply Kd.R_drew)); exact HO181.out) hb) (zs (Kd.R_lower ho0 (below_size (zHB))) (zs (blk_below (g := gb182) zBK hb) (zs (below_step (zHB) hb) ?_))); clear HO181 BK182 HB; intro HB BK182 HO187 HO181; clear hb ho0; obtain ⟨Ao39, co39, eo39⟩ := Kd.R_slice HO187.out; subst eo39) | ((with_reducible refine gate_callee (f := 23) rfl ?_); refine zGo (N := (some 25)) Try.func23 #[.slice Ao39 t185.length co39] ?_; (with_reducible refine (image_Read.calls k _ _ t185 t189 t192 t193 t196 t197 _ ?side1 ?side2 A3.out).mono ?_); (case side1 => exact zS); (case side2 => exact zS); rintro e w40 ⟨v190, v194, rfl, ho0, ho1, hb⟩; refine ⟨_, rfl, ?_⟩; refine zs (Kd.R_elder' (by (with_reducible repeat (first | apply Kd.R_alloc | apply Kd.R_drewN | apply Kd.R_drew)); exact HO181.out) (Kd.R_base ho0) hb) (zs (Kd.R_below (by (with_reducible repeat (first | apply Kd.R_alloc | apply Kd.R_drewN | apply Kd.R_drew)); exact HO187.out) hb) (zs (Kd.R_lower (Kd.R_new' ho0 (Kd.R_lt (by (with_reducible repeat (first | apply Kd.R_alloc | apply Kd.R_drewN | apply Kd.R_drew)); exact HO181.out))) (below_size (zHB))) (zs (Kd.R_lower ho1 (below_size (zHB))) (zs (blk_below (g := gb182) zBK hb) (zs (below_step (zHB) hb) ?_))))); clear HO181 HO187 BK182 HB; intro HB BK182 HO195 HO191 HO187 HO181; clear hb ho0 ho1) | ((with_reducible refine gate_dst (N := 6) rfl ?_); (try (refine gate_guard (by rfl) ?_; dsimp only)); refine zBox (N := 6) (cs := #[.slice none 0 0, .int .i64 0, .slice none 0 0]) (t := 25) ?_; intro gb198 hg w41 hbox hb; refine zs (Kd.R_below (by (with_reducible repeat (first | apply Kd.R_alloc | apply Kd.R_drewN | apply Kd.R_drew)); exact HO181.out) hb) (zs (Kd.R_below (by (with_reducible repeat (first | apply Kd.R_alloc | apply Kd.R_drewN | apply Kd.R_drew)); exact HO187.out) hb) (zs (Kd.R_below (by (with_reducible repeat (first | apply Kd.R_alloc | apply Kd.R_drewN | apply Kd.R_drew)); exact HO191.out) hb) (zs (Kd.R_below (by (with_reducible repeat (first | apply Kd.R_alloc | apply Kd.R_drewN | apply Kd.R_drew)); exact HO195.out) hb) (zs (blk_below (g := gb182) zBK hb) (zs (below_step (zHB) hb) (zs hbox (zs (zGe hg zHB) (zs (zGe hg zHB) (zs (zNl hg zBK : gb182 ≠ gb198) (zs ((zNg hg zBK : gb198 ≠ gb182)) ?_)))))))))); clear HO181 HO187 HO191 HO195 BK182 HB; intro NB198_182 NB182_198 GE198 GW198 BK198 HB BK182 HO195 HO191 HO187 HO181; clear hb hbox hg; obtain ⟨Ao42, co42, eo42⟩ := Kd.R_slice HO191.out; subst eo42; have hnb43 := NB198_182.out; have hnc43 := NB182_198.out; have hcz44 := blk_cell BK198.out; have hfz44 := blk_frozen BK198.out; obtain ⟨Ao45, co45, eo45⟩ := Kd.R_slice HO195.out; subst eo45) | ((with_reducible refine gate_callee (f := 22) rfl ?_); refine zGo (N := (some 31)) Try.func22 #[.agg #[.slice none 0 0, .int .i64 0, .slice none 0 0]] ?_; (refine (image_Check.calls k _ _ ([] : List Int) 0 _ _ ([] : List Int) t199 t200 _ ?side1 ?side2 ?side3 ?side4 A4.out).mono ?_); (case side1 => exact zS); (case side2 => exact zS); (case side3 => exact zS); (case side4 => exact zS); rintro e w46 ⟨rfl, hb⟩; refine ⟨_, rfl, ?_⟩; refine zs (Kd.R_below (by (with_reducible repeat (first | apply Kd.R_alloc | apply Kd.R_drewN | apply Kd.R_drew)); exact (Kd.R_mono (Kd.R_far (p := ⟨gb198, 2, none⟩) (Kd.R_far (p := ⟨gb198, 1, none⟩) (Kd.R_far (p := ⟨gb198, 0, none⟩) (Kd.R_types HO181.out BK198.out (by decide)) (fun _ hk => hk.2) (.slice Ao42 t189.length co42)) (fun _ hk => hk.2) (.int .i64 t192)) (fun _ hk => hk.2) (.slice Ao45 t193.length co45)) (fun _ h_ => h_.1))) hb) (zs (Kd.R_below (by (with_reducible repeat (first | apply Kd.R_alloc | apply Kd.R_drewN | apply Kd.R_drew)); exact (Kd.R_mono (Kd.R_far (p := ⟨gb198, 2, none⟩) (Kd.R_far (p := ⟨gb198, 1, none⟩) (Kd.R_far (p := ⟨gb198, 0, none⟩) (Kd.R_types HO187.out BK198.out (by decide)) (fun _ hk => hk.2) (.slice Ao42 t189.length co42)) (fun _ hk => hk.2) (.int .i64 t192)) (fun _ hk => hk.2) (.slice Ao45 t193.length co45)) (fun _ h_ => h_.1))) hb) (zs (Kd.R_below (by (with_reducible repeat (first | apply Kd.R_alloc | apply Kd.R_drewN | apply Kd.R_drew)); exact (Kd.R_mono (Kd.R_far (p := ⟨gb198, 2, none⟩) (Kd.R_far (p := ⟨gb198, 1, none⟩) (Kd.R_far (p := ⟨gb198, 0, none⟩) (Kd.R_types HO191.out BK198.out (by decide)) (fun _ hk => hk.2) (.slice Ao42 t189.length co42)) (fun _ hk => hk.2) (.int .i64 t192)) (fun _ hk => hk.2) (.slice Ao45 t193.length co45)) (fun _ h_ => h_.1))) hb) (zs (Kd.R_below (by (with_reducible repeat (first | apply Kd.R_alloc | apply Kd.R_drewN | apply Kd.R_drew)); exact (Kd.R_mono (Kd.R_far (p := ⟨gb198, 2, none⟩) (Kd.R_far (p := ⟨gb198, 1, none⟩) (Kd.R_far (p := ⟨gb198, 0, none⟩) (Kd.R_types HO195.out BK198.out (by decide)) (fun _ hk => hk.2) (.slice Ao42 t189.length co42)) (fun _ hk => hk.2) (.int .i64 t192)) (fun _ hk => hk.2) (.slice Ao45 t193.length co45)) (fun _ h_ => h_.1))) hb) (zs (blk_below (g := gb182) zBK hb) (zs (blk_below (g := gb198) (o := .cells #[.slice Ao42 t189.length co42, .int .i64 t192, .slice Ao45 t193.length co45] 25 (0, 0)) (zBK) hb) (zs (below_step (zHB) hb) ?_)))))); clear HO181 HO187 HO191 HO195 BK182 BK198 HB; intro HB BK198 BK182 HO195 HO191 HO187 HO181; clear hb))
              go_ret
              exact ⟨zE, zHB⟩
          · rw [if_neg c9] at H
            have c9b0 := beq_eq_false_iff_ne.mpr c9
            have c9b1 := bne_iff_ne.mpr c9
            obtain rfl := Option.some.inj H
            go_enter Try.func20, Try.ntmps20
            go_wp2_with (first | ((with_reducible refine gate_dst (N := 11) rfl ?_); (try (refine gate_guard (by rfl) ?_; dsimp only)); refine Kd.R_lit (Kd.int .u32) _ 38 ?hg (N := 11) ?hd (xs := ([2818572288] : List Int)) (inner := [.int .u32 2818572288]) (ok := fun _ => True) (okp := fun _ => True) ?hr ?hp (fun _ hk => hk) trivial (Below.refl _ _) (Nat.le_refl _) (by simp) ?_; (case hd => rfl); (case hg => rfl); (case hr => first | (go_simp; done) | (go_simp; rfl)); (case hp => exact (Reps.one (show Kd.M (Kd.int .u32) _ _ _ 2818572288 [.int .u32 2818572288] from rfl) (Reps.none _ _))); intro v180 w47 ho48 hb hg_ hnew_; clear hg_ hnew_; (first | rw [← Ny179.out] at ho48 | (simp only [Int.reduceToNat] at ho48; rw [← Ny179.out] at ho48)); refine zs (Kd.R_lower ho48 (below_size (zHB))) (zs (below_step (zHB) hb) ?_); clear HB; intro HB HO181; clear hb ho48; obtain ⟨Ao49, co49, eo49⟩ := Kd.R_slice HO181.out; subst eo49) | ((with_reducible refine gate_dst (N := 1) rfl ?_); (try (refine gate_guard (by rfl) ?_; dsimp only)); refine zBox (N := 1) (cs := #[.slice none 0 0, .int .i64 0, .slice none 0 0]) (t := 25) ?_; intro gb182 hg w50 hbox hb; refine zs (Kd.R_below (by (with_reducible repeat (first | apply Kd.R_alloc | apply Kd.R_drewN | apply Kd.R_drew)); exact HO181.out) hb) (zs (below_step (zHB) hb) (zs hbox (zs (zGe hg zHB) (zs (zGe hg zHB) ?_)))); clear HO181 HB; intro GE182 GW182 BK182 HB HO181; clear hb hbox hg; have hcz51 := blk_cell BK182.out; have hfz51 := blk_frozen BK182.out) | ((with_reducible refine gate_callee (f := 22) rfl ?_); refine zGo (N := (some 15)) Try.func22 #[.agg #[.slice Ao49 y179.length co49, .int .i64 0, .slice none 0 0]] ?_; (refine (image_Check.calls k _ _ y179 0 _ _ ([] : List Int) t183 t184 _ ?side1 ?side2 ?side3 ?side4 A1.out).mono ?_); (case side1 => refine (Kd.R_reads' (e := 38) (base := w.heap.size) (ok := fun k_ => True) (n := y179.length) (c := co49) ?_).2.2; exact (by (with_reducible repeat (first | apply Kd.R_alloc | apply Kd.R_drewN | apply Kd.R_drew)); exact (Kd.R_mono (Kd.R_far (p := ⟨gb182, 2, none⟩) (Kd.R_far (p := ⟨gb182, 1, none⟩) (Kd.R_far (p := ⟨gb182, 0, none⟩) (Kd.R_types HO181.out BK182.out (by decide)) (fun _ hk => hk.2) (.slice Ao49 y179.length co49)) (fun _ hk => hk.2) (.int .i64 0)) (fun _ hk => hk.2) (.slice none 0 0)) (fun _ h_ => h_.1)))); (case side2 => exact zS); (case side3 => exact zS); (case side4 => exact zS); rintro e w52 ⟨rfl, hb⟩; refine ⟨_, rfl, ?_⟩; refine zs (Kd.R_below (by (with_reducible repeat (first | apply Kd.R_alloc | apply Kd.R_drewN | apply Kd.R_drew)); exact (Kd.R_mono (Kd.R_far (p := ⟨gb182, 2, none⟩) (Kd.R_far (p := ⟨gb182, 1, none⟩) (Kd.R_far (p := ⟨gb182, 0, none⟩) (Kd.R_types HO181.out BK182.out (by decide)) (fun _ hk => hk.2) (.slice Ao49 y179.length co49)) (fun _ hk => hk.2) (.int .i64 0)) (fun _ hk => hk.2) (.slice none 0 0)) (fun _ h_ => h_.1))) hb) (zs (blk_below (g := gb182) (o := .cells #[.slice Ao49 y179.length co49, .int .i64 0, .slice none 0 0] 25 (0, 0)) (zBK) hb) (zs (below_step (zHB) hb) ?_)); clear HO181 BK182 HB; intro HB BK182 HO181; clear hb; have hcz53 := blk_cell BK182.out; have hfz53 := blk_frozen BK182.out) | ((with_reducible refine gate_callee (f := 21) rfl ?_); refine zGo (N := (some 20)) Try.func21 #[.agg #[.slice Ao49 y179.length co49, .int .i64 0, .slice none 0 0]] ?_; (refine (image_Write.calls k _ _ y179 0 _ _ ([] : List Int) t185 t188 _ ?side1 ?side2 ?side3 ?side4 A2.out).mono ?_); (case side1 => exact zS); (case side2 => exact zS); (case side3 => exact zS); (case side4 => exact zS); rintro e w54 ⟨v186, rfl, ho0, hb⟩; refine ⟨_, rfl, ?_⟩; refine zs (Kd.R_below (by (with_reducible repeat (first | apply Kd.R_alloc | apply Kd.R_drewN | apply Kd.R_drew)); exact HO181.out) hb) (zs (Kd.R_lower ho0 (below_size (zHB))) (zs (blk_below (g := gb182) zBK hb) (zs (below_step (zHB) hb) ?_))); clear HO181 BK182 HB; intro HB BK182 HO187 HO181; clear hb ho0; obtain ⟨Ao55, co55, eo55⟩ := Kd.R_slice HO187.out; subst eo55) | ((with_reducible refine gate_callee (f := 23) rfl ?_); refine zGo (N := (some 25)) Try.func23 #[.slice Ao55 t185.length co55] ?_; (with_reducible refine (image_Read.calls k _ _ t185 t189 t192 t193 t196 t197 _ ?side1 ?side2 A3.out).mono ?_); (case side1 => exact zS); (case side2 => exact zS); rintro e w56 ⟨v190, v194, rfl, ho0, ho1, hb⟩; refine ⟨_, rfl, ?_⟩; refine zs (Kd.R_elder' (by (with_reducible repeat (first | apply Kd.R_alloc | apply Kd.R_drewN | apply Kd.R_drew)); exact HO181.out) (Kd.R_base ho0) hb) (zs (Kd.R_below (by (with_reducible repeat (first | apply Kd.R_alloc | apply Kd.R_drewN | apply Kd.R_drew)); exact HO187.out) hb) (zs (Kd.R_lower (Kd.R_new' ho0 (Kd.R_lt (by (with_reducible repeat (first | apply Kd.R_alloc | apply Kd.R_drewN | apply Kd.R_drew)); exact HO181.out))) (below_size (zHB))) (zs (Kd.R_lower ho1 (below_size (zHB))) (zs (blk_below (g := gb182) zBK hb) (zs (below_step (zHB) hb) ?_))))); clear HO181 HO187 BK182 HB; intro HB BK182 HO195 HO191 HO187 HO181; clear hb ho0 ho1) | ((with_reducible refine gate_dst (N := 6) rfl ?_); (try (refine gate_guard (by rfl) ?_; dsimp only)); refine zBox (N := 6) (cs := #[.slice none 0 0, .int .i64 0, .slice none 0 0]) (t := 25) ?_; intro gb198 hg w57 hbox hb; refine zs (Kd.R_below (by (with_reducible repeat (first | apply Kd.R_alloc | apply Kd.R_drewN | apply Kd.R_drew)); exact HO181.out) hb) (zs (Kd.R_below (by (with_reducible repeat (first | apply Kd.R_alloc | apply Kd.R_drewN | apply Kd.R_drew)); exact HO187.out) hb) (zs (Kd.R_below (by (with_reducible repeat (first | apply Kd.R_alloc | apply Kd.R_drewN | apply Kd.R_drew)); exact HO191.out) hb) (zs (Kd.R_below (by (with_reducible repeat (first | apply Kd.R_alloc | apply Kd.R_drewN | apply Kd.R_drew)); exact HO195.out) hb) (zs (blk_below (g := gb182) zBK hb) (zs (below_step (zHB) hb) (zs hbox (zs (zGe hg zHB) (zs (zGe hg zHB) (zs (zNl hg zBK : gb182 ≠ gb198) (zs ((zNg hg zBK : gb198 ≠ gb182)) ?_)))))))))); clear HO181 HO187 HO191 HO195 BK182 HB; intro NB198_182 NB182_198 GE198 GW198 BK198 HB BK182 HO195 HO191 HO187 HO181; clear hb hbox hg; obtain ⟨Ao58, co58, eo58⟩ := Kd.R_slice HO191.out; subst eo58; have hnb59 := NB198_182.out; have hnc59 := NB182_198.out; have hcz60 := blk_cell BK198.out; have hfz60 := blk_frozen BK198.out; obtain ⟨Ao61, co61, eo61⟩ := Kd.R_slice HO195.out; subst eo61) | ((with_reducible refine gate_callee (f := 22) rfl ?_); refine zGo (N := (some 31)) Try.func22 #[.agg #[.slice none 0 0, .int .i64 0, .slice none 0 0]] ?_; (refine (image_Check.calls k _ _ ([] : List Int) 0 _ _ ([] : List Int) t199 t200 _ ?side1 ?side2 ?side3 ?side4 A4.out).mono ?_); (case side1 => exact zS); (case side2 => exact zS); (case side3 => exact zS); (case side4 => exact zS); rintro e w62 ⟨rfl, hb⟩; refine ⟨_, rfl, ?_⟩; refine zs (Kd.R_below (by (with_reducible repeat (first | apply Kd.R_alloc | apply Kd.R_drewN | apply Kd.R_drew)); exact (Kd.R_mono (Kd.R_far (p := ⟨gb198, 2, none⟩) (Kd.R_far (p := ⟨gb198, 1, none⟩) (Kd.R_far (p := ⟨gb198, 0, none⟩) (Kd.R_types HO181.out BK198.out (by decide)) (fun _ hk => hk.2) (.slice Ao58 t189.length co58)) (fun _ hk => hk.2) (.int .i64 t192)) (fun _ hk => hk.2) (.slice Ao61 t193.length co61)) (fun _ h_ => h_.1))) hb) (zs (Kd.R_below (by (with_reducible repeat (first | apply Kd.R_alloc | apply Kd.R_drewN | apply Kd.R_drew)); exact (Kd.R_mono (Kd.R_far (p := ⟨gb198, 2, none⟩) (Kd.R_far (p := ⟨gb198, 1, none⟩) (Kd.R_far (p := ⟨gb198, 0, none⟩) (Kd.R_types HO187.out BK198.out (by decide)) (fun _ hk => hk.2) (.slice Ao58 t189.length co58)) (fun _ hk => hk.2) (.int .i64 t192)) (fun _ hk => hk.2) (.slice Ao61 t193.length co61)) (fun _ h_ => h_.1))) hb) (zs (Kd.R_below (by (with_reducible repeat (first | apply Kd.R_alloc | apply Kd.R_drewN | apply Kd.R_drew)); exact (Kd.R_mono (Kd.R_far (p := ⟨gb198, 2, none⟩) (Kd.R_far (p := ⟨gb198, 1, none⟩) (Kd.R_far (p := ⟨gb198, 0, none⟩) (Kd.R_types HO191.out BK198.out (by decide)) (fun _ hk => hk.2) (.slice Ao58 t189.length co58)) (fun _ hk => hk.2) (.int .i64 t192)) (fun _ hk => hk.2) (.slice Ao61 t193.length co61)) (fun _ h_ => h_.1))) hb) (zs (Kd.R_below (by (with_reducible repeat (first | apply Kd.R_alloc | apply Kd.R_drewN | apply Kd.R_drew)); exact (Kd.R_mono (Kd.R_far (p := ⟨gb198, 2, none⟩) (Kd.R_far (p := ⟨gb198, 1, none⟩) (Kd.R_far (p := ⟨gb198, 0, none⟩) (Kd.R_types HO195.out BK198.out (by decide)) (fun _ hk => hk.2) (.slice Ao58 t189.length co58)) (fun _ hk => hk.2) (.int .i64 t192)) (fun _ hk => hk.2) (.slice Ao61 t193.length co61)) (fun _ h_ => h_.1))) hb) (zs (blk_below (g := gb182) zBK hb) (zs (blk_below (g := gb198) (o := .cells #[.slice Ao58 t189.length co58, .int .i64 t192, .slice Ao61 t193.length co61] 25 (0, 0)) (zBK) hb) (zs (below_step (zHB) hb) ?_)))))); clear HO181 HO187 HO191 HO195 BK182 BK198 HB; intro HB BK198 BK182 HO195 HO191 HO187 HO181; clear hb))
            go_ret
            exact ⟨zE, zHB⟩
        · rw [if_neg c8] at H
          have c8b0 := beq_eq_false_iff_ne.mpr c8
          have c8b1 := bne_iff_ne.mpr c8
          obtain rfl := Option.some.inj H
          go_enter Try.func20, Try.ntmps20
          go_wp2_with (first | ((with_reducible refine gate_dst (N := 11) rfl ?_); (try (refine gate_guard (by rfl) ?_; dsimp only)); refine Kd.R_lit (Kd.int .u32) _ 38 ?hg (N := 11) ?hd (xs := ([2818572288] : List Int)) (inner := [.int .u32 2818572288]) (ok := fun _ => True) (okp := fun _ => True) ?hr ?hp (fun _ hk => hk) trivial (Below.refl _ _) (Nat.le_refl _) (by simp) ?_; (case hd => rfl); (case hg => rfl); (case hr => first | (go_simp; done) | (go_simp; rfl)); (case hp => exact (Reps.one (show Kd.M (Kd.int .u32) _ _ _ 2818572288 [.int .u32 2818572288] from rfl) (Reps.none _ _))); intro v180 w63 ho64 hb hg_ hnew_; clear hg_ hnew_; (first | rw [← Ny179.out] at ho64 | (simp only [Int.reduceToNat] at ho64; rw [← Ny179.out] at ho64)); refine zs (Kd.R_lower ho64 (below_size (zHB))) (zs (below_step (zHB) hb) ?_); clear HB; intro HB HO181; clear hb ho64; obtain ⟨Ao65, co65, eo65⟩ := Kd.R_slice HO181.out; subst eo65) | ((with_reducible refine gate_dst (N := 1) rfl ?_); (try (refine gate_guard (by rfl) ?_; dsimp only)); refine zBox (N := 1) (cs := #[.slice none 0 0, .int .i64 0, .slice none 0 0]) (t := 25) ?_; intro gb182 hg w66 hbox hb; refine zs (Kd.R_below (by (with_reducible repeat (first | apply Kd.R_alloc | apply Kd.R_drewN | apply Kd.R_drew)); exact HO181.out) hb) (zs (below_step (zHB) hb) (zs hbox (zs (zGe hg zHB) (zs (zGe hg zHB) ?_)))); clear HO181 HB; intro GE182 GW182 BK182 HB HO181; clear hb hbox hg; have hcz67 := blk_cell BK182.out; have hfz67 := blk_frozen BK182.out) | ((with_reducible refine gate_callee (f := 22) rfl ?_); refine zGo (N := (some 15)) Try.func22 #[.agg #[.slice Ao65 y179.length co65, .int .i64 0, .slice none 0 0]] ?_; (refine (image_Check.calls k _ _ y179 0 _ _ ([] : List Int) t183 t184 _ ?side1 ?side2 ?side3 ?side4 A1.out).mono ?_); (case side1 => refine (Kd.R_reads' (e := 38) (base := w.heap.size) (ok := fun k_ => True) (n := y179.length) (c := co65) ?_).2.2; exact (by (with_reducible repeat (first | apply Kd.R_alloc | apply Kd.R_drewN | apply Kd.R_drew)); exact (Kd.R_mono (Kd.R_far (p := ⟨gb182, 2, none⟩) (Kd.R_far (p := ⟨gb182, 1, none⟩) (Kd.R_far (p := ⟨gb182, 0, none⟩) (Kd.R_types HO181.out BK182.out (by decide)) (fun _ hk => hk.2) (.slice Ao65 y179.length co65)) (fun _ hk => hk.2) (.int .i64 0)) (fun _ hk => hk.2) (.slice none 0 0)) (fun _ h_ => h_.1)))); (case side2 => exact zS); (case side3 => exact zS); (case side4 => exact zS); rintro e w68 ⟨rfl, hb⟩; refine ⟨_, rfl, ?_⟩; refine zs (Kd.R_below (by (with_reducible repeat (first | apply Kd.R_alloc | apply Kd.R_drewN | apply Kd.R_drew)); exact (Kd.R_mono (Kd.R_far (p := ⟨gb182, 2, none⟩) (Kd.R_far (p := ⟨gb182, 1, none⟩) (Kd.R_far (p := ⟨gb182, 0, none⟩) (Kd.R_types HO181.out BK182.out (by decide)) (fun _ hk => hk.2) (.slice Ao65 y179.length co65)) (fun _ hk => hk.2) (.int .i64 0)) (fun _ hk => hk.2) (.slice none 0 0)) (fun _ h_ => h_.1))) hb) (zs (blk_below (g := gb182) (o := .cells #[.slice Ao65 y179.length co65, .int .i64 0, .slice none 0 0] 25 (0, 0)) (zBK) hb) (zs (below_step (zHB) hb) ?_)); clear HO181 BK182 HB; intro HB BK182 HO181; clear hb; have hcz69 := blk_cell BK182.out; have hfz69 := blk_frozen BK182.out) | ((with_reducible refine gate_callee (f := 21) rfl ?_); refine zGo (N := (some 20)) Try.func21 #[.agg #[.slice Ao65 y179.length co65, .int .i64 0, .slice none 0 0]] ?_; (refine (image_Write.calls k _ _ y179 0 _ _ ([] : List Int) t185 t188 _ ?side1 ?side2 ?side3 ?side4 A2.out).mono ?_); (case side1 => exact zS); (case side2 => exact zS); (case side3 => exact zS); (case side4 => exact zS); rintro e w70 ⟨v186, rfl, ho0, hb⟩; refine ⟨_, rfl, ?_⟩; refine zs (Kd.R_below (by (with_reducible repeat (first | apply Kd.R_alloc | apply Kd.R_drewN | apply Kd.R_drew)); exact HO181.out) hb) (zs (Kd.R_lower ho0 (below_size (zHB))) (zs (blk_below (g := gb182) zBK hb) (zs (below_step (zHB) hb) ?_))); clear HO181 BK182 HB; intro HB BK182 HO187 HO181; clear hb ho0; obtain ⟨Ao71, co71, eo71⟩ := Kd.R_slice HO187.out; subst eo71) | ((with_reducible refine gate_callee (f := 23) rfl ?_); refine zGo (N := (some 25)) Try.func23 #[.slice Ao71 t185.length co71] ?_; (with_reducible refine (image_Read.calls k _ _ t185 t189 t192 t193 t196 t197 _ ?side1 ?side2 A3.out).mono ?_); (case side1 => exact zS); (case side2 => exact zS); rintro e w72 ⟨v190, v194, rfl, ho0, ho1, hb⟩; refine ⟨_, rfl, ?_⟩; refine zs (Kd.R_elder' (by (with_reducible repeat (first | apply Kd.R_alloc | apply Kd.R_drewN | apply Kd.R_drew)); exact HO181.out) (Kd.R_base ho0) hb) (zs (Kd.R_below (by (with_reducible repeat (first | apply Kd.R_alloc | apply Kd.R_drewN | apply Kd.R_drew)); exact HO187.out) hb) (zs (Kd.R_lower (Kd.R_new' ho0 (Kd.R_lt (by (with_reducible repeat (first | apply Kd.R_alloc | apply Kd.R_drewN | apply Kd.R_drew)); exact HO181.out))) (below_size (zHB))) (zs (Kd.R_lower ho1 (below_size (zHB))) (zs (blk_below (g := gb182) zBK hb) (zs (below_step (zHB) hb) ?_))))); clear HO181 HO187 BK182 HB; intro HB BK182 HO195 HO191 HO187 HO181; clear hb ho0 ho1) | ((with_reducible refine gate_dst (N := 6) rfl ?_); (try (refine gate_guard (by rfl) ?_; dsimp only)); refine zBox (N := 6) (cs := #[.slice none 0 0, .int .i64 0, .slice none 0 0]) (t := 25) ?_; intro gb198 hg w73 hbox hb; refine zs (Kd.R_below (by (with_reducible repeat (first | apply Kd.R_alloc | apply Kd.R_drewN | apply Kd.R_drew)); exact HO181.out) hb) (zs (Kd.R_below (by (with_reducible repeat (first | apply Kd.R_alloc | apply Kd.R_drewN | apply Kd.R_drew)); exact HO187.out) hb) (zs (Kd.R_below (by (with_reducible repeat (first | apply Kd.R_alloc | apply Kd.R_drewN | apply Kd.R_drew)); exact HO191.out) hb) (zs (Kd.R_below (by (with_reducible repeat (first | apply Kd.R_alloc | apply Kd.R_drewN | apply Kd.R_drew)); exact HO195.out) hb) (zs (blk_below (g := gb182) zBK hb) (zs (below_step (zHB) hb) (zs hbox (zs (zGe hg zHB) (zs (zGe hg zHB) (zs (zNl hg zBK : gb182 ≠ gb198) (zs ((zNg hg zBK : gb198 ≠ gb182)) ?_)))))))))); clear HO181 HO187 HO191 HO195 BK182 HB; intro NB198_182 NB182_198 GE198 GW198 BK198 HB BK182 HO195 HO191 HO187 HO181; clear hb hbox hg; obtain ⟨Ao74, co74, eo74⟩ := Kd.R_slice HO191.out; subst eo74; have hnb75 := NB198_182.out; have hnc75 := NB182_198.out; have hcz76 := blk_cell BK198.out; have hfz76 := blk_frozen BK198.out; obtain ⟨Ao77, co77, eo77⟩ := Kd.R_slice HO195.out; subst eo77) | ((with_reducible refine gate_callee (f := 22) rfl ?_); refine zGo (N := (some 31)) Try.func22 #[.agg #[.slice none 0 0, .int .i64 0, .slice none 0 0]] ?_; (refine (image_Check.calls k _ _ ([] : List Int) 0 _ _ ([] : List Int) t199 t200 _ ?side1 ?side2 ?side3 ?side4 A4.out).mono ?_); (case side1 => exact zS); (case side2 => exact zS); (case side3 => exact zS); (case side4 => exact zS); rintro e w78 ⟨rfl, hb⟩; refine ⟨_, rfl, ?_⟩; refine zs (Kd.R_below (by (with_reducible repeat (first | apply Kd.R_alloc | apply Kd.R_drewN | apply Kd.R_drew)); exact (Kd.R_mono (Kd.R_far (p := ⟨gb198, 2, none⟩) (Kd.R_far (p := ⟨gb198, 1, none⟩) (Kd.R_far (p := ⟨gb198, 0, none⟩) (Kd.R_types HO181.out BK198.out (by decide)) (fun _ hk => hk.2) (.slice Ao74 t189.length co74)) (fun _ hk => hk.2) (.int .i64 t192)) (fun _ hk => hk.2) (.slice Ao77 t193.length co77)) (fun _ h_ => h_.1))) hb) (zs (Kd.R_below (by (with_reducible repeat (first | apply Kd.R_alloc | apply Kd.R_drewN | apply Kd.R_drew)); exact (Kd.R_mono (Kd.R_far (p := ⟨gb198, 2, none⟩) (Kd.R_far (p := ⟨gb198, 1, none⟩) (Kd.R_far (p := ⟨gb198, 0, none⟩) (Kd.R_types HO187.out BK198.out (by decide)) (fun _ hk => hk.2) (.slice Ao74 t189.length co74)) (fun _ hk => hk.2) (.int .i64 t192)) (fun _ hk => hk.2) (.slice Ao77 t193.length co77)) (fun _ h_ => h_.1))) hb) (zs (Kd.R_below (by (with_reducible repeat (first | apply Kd.R_alloc | apply Kd.R_drewN | apply Kd.R_drew)); exact (Kd.R_mono (Kd.R_far (p := ⟨gb198, 2, none⟩) (Kd.R_far (p := ⟨gb198, 1, none⟩) (Kd.R_far (p := ⟨gb198, 0, none⟩) (Kd.R_types HO191.out BK198.out (by decide)) (fun _ hk => hk.2) (.slice Ao74 t189.length co74)) (fun _ hk => hk.2) (.int .i64 t192)) (fun _ hk => hk.2) (.slice Ao77 t193.length co77)) (fun _ h_ => h_.1))) hb) (zs (Kd.R_below (by (with_reducible repeat (first | apply Kd.R_alloc | apply Kd.R_drewN | apply Kd.R_drew)); exact (Kd.R_mono (Kd.R_far (p := ⟨gb198, 2, none⟩) (Kd.R_far (p := ⟨gb198, 1, none⟩) (Kd.R_far (p := ⟨gb198, 0, none⟩) (Kd.R_types HO195.out BK198.out (by decide)) (fun _ hk => hk.2) (.slice Ao74 t189.length co74)) (fun _ hk => hk.2) (.int .i64 t192)) (fun _ hk => hk.2) (.slice Ao77 t193.length co77)) (fun _ h_ => h_.1))) hb) (zs (blk_below (g := gb182) zBK hb) (zs (blk_below (g := gb198) (o := .cells #[.slice Ao74 t189.length co74, .int .i64 t192, .slice Ao77 t193.length co77] 25 (0, 0)) (zBK) hb) (zs (below_step (zHB) hb) ?_)))))); clear HO181 HO187 HO191 HO195 BK182 BK198 HB; intro HB BK198 BK182 HO195 HO191 HO187 HO181; clear hb))
          go_ret
          exact ⟨zE, zHB⟩
      · rw [if_neg c7] at H
        have c7b0 := beq_eq_false_iff_ne.mpr c7
        have c7b1 := bne_iff_ne.mpr c7
        obtain rfl := Option.some.inj H
        go_enter Try.func20, Try.ntmps20
        go_wp2_with (first | ((with_reducible refine gate_dst (N := 11) rfl ?_); (try (refine gate_guard (by rfl) ?_; dsimp only)); refine Kd.R_lit (Kd.int .u32) _ 38 ?hg (N := 11) ?hd (xs := ([2818572288] : List Int)) (inner := [.int .u32 2818572288]) (ok := fun _ => True) (okp := fun _ => True) ?hr ?hp (fun _ hk => hk) trivial (Below.refl _ _) (Nat.le_refl _) (by simp) ?_; (case hd => rfl); (case hg => rfl); (case hr => first | (go_simp; done) | (go_simp; rfl)); (case hp => exact (Reps.one (show Kd.M (Kd.int .u32) _ _ _ 2818572288 [.int .u32 2818572288] from rfl) (Reps.none _ _))); intro v180 w79 ho80 hb hg_ hnew_; clear hg_ hnew_; (first | rw [← Ny179.out] at ho80 | (simp only [Int.reduceToNat] at ho80; rw [← Ny179.out] at ho80)); refine zs (Kd.R_lower ho80 (below_size (zHB))) (zs (below_step (zHB) hb) ?_); clear HB; intro HB HO181; clear hb ho80; obtain ⟨Ao81, co81, eo81⟩ := Kd.R_slice HO181.out; subst eo81) | ((with_reducible refine gate_dst (N := 1) rfl ?_); (try (refine gate_guard (by rfl) ?_; dsimp only)); refine zBox (N := 1) (cs := #[.slice none 0 0, .int .i64 0, .slice none 0 0]) (t := 25) ?_; intro gb182 hg w82 hbox hb; refine zs (Kd.R_below (by (with_reducible repeat (first | apply Kd.R_alloc | apply Kd.R_drewN | apply Kd.R_drew)); exact HO181.out) hb) (zs (below_step (zHB) hb) (zs hbox (zs (zGe hg zHB) (zs (zGe hg zHB) ?_)))); clear HO181 HB; intro GE182 GW182 BK182 HB HO181; clear hb hbox hg; have hcz83 := blk_cell BK182.out; have hfz83 := blk_frozen BK182.out) | ((with_reducible refine gate_callee (f := 22) rfl ?_); refine zGo (N := (some 15)) Try.func22 #[.agg #[.slice Ao81 y179.length co81, .int .i64 0, .slice none 0 0]] ?_; (refine (image_Check.calls k _ _ y179 0 _ _ ([] : List Int) t183 t184 _ ?side1 ?side2 ?side3 ?side4 A1.out).mono ?_); (case side1 => refine (Kd.R_reads' (e := 38) (base := w.heap.size) (ok := fun k_ => True) (n := y179.length) (c := co81) ?_).2.2; exact (by (with_reducible repeat (first | apply Kd.R_alloc | apply Kd.R_drewN | apply Kd.R_drew)); exact (Kd.R_mono (Kd.R_far (p := ⟨gb182, 2, none⟩) (Kd.R_far (p := ⟨gb182, 1, none⟩) (Kd.R_far (p := ⟨gb182, 0, none⟩) (Kd.R_types HO181.out BK182.out (by decide)) (fun _ hk => hk.2) (.slice Ao81 y179.length co81)) (fun _ hk => hk.2) (.int .i64 0)) (fun _ hk => hk.2) (.slice none 0 0)) (fun _ h_ => h_.1)))); (case side2 => exact zS); (case side3 => exact zS); (case side4 => exact zS); rintro e w84 ⟨rfl, hb⟩; refine ⟨_, rfl, ?_⟩; refine zs (Kd.R_below (by (with_reducible repeat (first | apply Kd.R_alloc | apply Kd.R_drewN | apply Kd.R_drew)); exact (Kd.R_mono (Kd.R_far (p := ⟨gb182, 2, none⟩) (Kd.R_far (p := ⟨gb182, 1, none⟩) (Kd.R_far (p := ⟨gb182, 0, none⟩) (Kd.R_types HO181.out BK182.out (by decide)) (fun _ hk => hk.2) (.slice Ao81 y179.length co81)) (fun _ hk => hk.2) (.int .i64 0)) (fun _ hk => hk.2) (.slice none 0 0)) (fun _ h_ => h_.1))) hb) (zs (blk_below (g := gb182) (o := .cells #[.slice Ao81 y179.length co81, .int .i64 0, .slice none 0 0] 25 (0, 0)) (zBK) hb) (zs (below_step (zHB) hb) ?_)); clear HO181 BK182 HB; intro HB BK182 HO181; clear hb; have hcz85 := blk_cell BK182.out; have hfz85 := blk_frozen BK182.out) | ((with_reducible refine gate_callee (f := 21) rfl ?_); refine zGo (N := (some 20)) Try.func21 #[.agg #[.slice Ao81 y179.length co81, .int .i64 0, .slice none 0 0]] ?_; (refine (image_Write.calls k _ _ y179 0 _ _ ([] : List Int) t185 t188 _ ?side1 ?side2 ?side3 ?side4 A2.out).mono ?_); (case side1 => exact zS); (case side2 => exact zS); (case side3 => exact zS); (case side4 => exact zS); rintro e w86 ⟨v186, rfl, ho0, hb⟩; refine ⟨_, rfl, ?_⟩; refine zs (Kd.R_below (by (with_reducible repeat (first | apply Kd.R_alloc | apply Kd.R_drewN | apply Kd.R_drew)); exact HO181.out) hb) (zs (Kd.R_lower ho0 (below_size (zHB))) (zs (blk_below (g := gb182) zBK hb) (zs (below_step (zHB) hb) ?_))); clear HO181 BK182 HB; intro HB BK182 HO187 HO181; clear hb ho0; obtain ⟨Ao87, co87, eo87⟩ := Kd.R_slice HO187.out; subst eo87) | ((with_reducible refine gate_callee (f := 23) rfl ?_); refine zGo (N := (some 25)) Try.func23 #[.slice Ao87 t185.length co87] ?_; (with_reducible refine (image_Read.calls k _ _ t185 t189 t192 t193 t196 t197 _ ?side1 ?side2 A3.out).mono ?_); (case side1 => exact zS); (case side2 => exact zS); rintro e w88 ⟨v190, v194, rfl, ho0, ho1, hb⟩; refine ⟨_, rfl, ?_⟩; refine zs (Kd.R_elder' (by (with_reducible repeat (first | apply Kd.R_alloc | apply Kd.R_drewN | apply Kd.R_drew)); exact HO181.out) (Kd.R_base ho0) hb) (zs (Kd.R_below (by (with_reducible repeat (first | apply Kd.R_alloc | apply Kd.R_drewN | apply Kd.R_drew)); exact HO187.out) hb) (zs (Kd.R_lower (Kd.R_new' ho0 (Kd.R_lt (by (with_reducible repeat (first | apply Kd.R_alloc | apply Kd.R_drewN | apply Kd.R_drew)); exact HO181.out))) (below_size (zHB))) (zs (Kd.R_lower ho1 (below_size (zHB))) (zs (blk_below (g := gb182) zBK hb) (zs (below_step (zHB) hb) ?_))))); clear HO181 HO187 BK182 HB; intro HB BK182 HO195 HO191 HO187 HO181; clear hb ho0 ho1) | ((with_reducible refine gate_dst (N := 6) rfl ?_); (try (refine gate_guard (by rfl) ?_; dsimp only)); refine zBox (N := 6) (cs := #[.slice none 0 0, .int .i64 0, .slice none 0 0]) (t := 25) ?_; intro gb198 hg w89 hbox hb; refine zs (Kd.R_below (by (with_reducible repeat (first | apply Kd.R_alloc | apply Kd.R_drewN | apply Kd.R_drew)); exact HO181.out) hb) (zs (Kd.R_below (by (with_reducible repeat (first | apply Kd.R_alloc | apply Kd.R_drewN | apply Kd.R_drew)); exact HO187.out) hb) (zs (Kd.R_below (by (with_reducible repeat (first | apply Kd.R_alloc | apply Kd.R_drewN | apply Kd.R_drew)); exact HO191.out) hb) (zs (Kd.R_below (by (with_reducible repeat (first | apply Kd.R_alloc | apply Kd.R_drewN | apply Kd.R_drew)); exact HO195.out) hb) (zs (blk_below (g := gb182) zBK hb) (zs (below_step (zHB) hb) (zs hbox (zs (zGe hg zHB) (zs (zGe hg zHB) (zs (zNl hg zBK : gb182 ≠ gb198) (zs ((zNg hg zBK : gb198 ≠ gb182)) ?_)))))))))); clear HO181 HO187 HO191 HO195 BK182 HB; intro NB198_182 NB182_198 GE198 GW198 BK198 HB BK182 HO195 HO191 HO187 HO181; clear hb hbox hg; obtain ⟨Ao90, co90, eo90⟩ := Kd.R_slice HO191.out; subst eo90; have hnb91 := NB198_182.out; have hnc91 := NB182_198.out; have hcz92 := blk_cell BK198.out; have hfz92 := blk_frozen BK198.out; obtain ⟨Ao93, co93, eo93⟩ := Kd.R_slice HO195.out; subst eo93) | ((with_reducible refine gate_callee (f := 22) rfl ?_); refine zGo (N := (some 31)) Try.func22 #[.agg #[.slice none 0 0, .int .i64 0, .slice none 0 0]] ?_; (refine (image_Check.calls k _ _ ([] : List Int) 0 _ _ ([] : List Int) t199 t200 _ ?side1 ?side2 ?side3 ?side4 A4.out).mono ?_); (case side1 => exact zS); (case side2 => exact zS); (case side3 => exact zS); (case side4 => exact zS); rintro e w94 ⟨rfl, hb⟩; refine ⟨_, rfl, ?_⟩; refine zs (Kd.R_below (by (with_reducible repeat (first | apply Kd.R_alloc | apply Kd.R_drewN | apply Kd.R_drew)); exact (Kd.R_mono (Kd.R_far (p := ⟨gb198, 2, none⟩) (Kd.R_far (p := ⟨gb198, 1, none⟩) (Kd.R_far (p := ⟨gb198, 0, none⟩) (Kd.R_types HO181.out BK198.out (by decide)) (fun _ hk => hk.2) (.slice Ao90 t189.length co90)) (fun _ hk => hk.2) (.int .i64 t192)) (fun _ hk => hk.2) (.slice Ao93 t193.length co93)) (fun _ h_ => h_.1))) hb) (zs (Kd.R_below (by (with_reducible repeat (first | apply Kd.R_alloc | apply Kd.R_drewN | apply Kd.R_drew)); exact (Kd.R_mono (Kd.R_far (p := ⟨gb198, 2, none⟩) (Kd.R_far (p := ⟨gb198, 1, none⟩) (Kd.R_far (p := ⟨gb198, 0, none⟩) (Kd.R_types HO187.out BK198.out (by decide)) (fun _ hk => hk.2) (.slice Ao90 t189.length co90)) (fun _ hk => hk.2) (.int .i64 t192)) (fun _ hk => hk.2) (.slice Ao93 t193.length co93)) (fun _ h_ => h_.1))) hb) (zs (Kd.R_below (by (with_reducible repeat (first | apply Kd.R_alloc | apply Kd.R_drewN | apply Kd.R_drew)); exact (Kd.R_mono (Kd.R_far (p := ⟨gb198, 2, none⟩) (Kd.R_far (p := ⟨gb198, 1, none⟩) (Kd.R_far (p := ⟨gb198, 0, none⟩) (Kd.R_types HO191.out BK198.out (by decide)) (fun _ hk => hk.2) (.slice Ao90 t189.length co90)) (fun _ hk => hk.2) (.int .i64 t192)) (fun _ hk => hk.2) (.slice Ao93 t193.length co93)) (fun _ h_ => h_.1))) hb) (zs (Kd.R_below (by (with_reducible repeat (first | apply Kd.R_alloc | apply Kd.R_drewN | apply Kd.R_drew)); exact (Kd.R_mono (Kd.R_far (p := ⟨gb198, 2, none⟩) (Kd.R_far (p := ⟨gb198, 1, none⟩) (Kd.R_far (p := ⟨gb198, 0, none⟩) (Kd.R_types HO195.out BK198.out (by decide)) (fun _ hk => hk.2) (.slice Ao90 t189.length co90)) (fun _ hk => hk.2) (.int .i64 t192)) (fun _ hk => hk.2) (.slice Ao93 t193.length co93)) (fun _ h_ => h_.1))) hb) (zs (blk_below (g := gb182) zBK hb) (zs (blk_below (g := gb198) (o := .cells #[.slice Ao90 t189.length co90, .int .i64 t192, .slice Ao93 t193.length co93] 25 (0, 0)) (zBK) hb) (zs (below_step (zHB) hb) ?_)))))); clear HO181 HO187 HO191 HO195 BK182 BK198 HB; intro HB BK198 BK182 HO195 HO191 HO187 HO181; clear hb))
        go_ret
        exact ⟨zE, zHB⟩
    · rw [if_neg c6] at H
      have c6b0 := beq_eq_false_iff_ne.mpr c6
      have c6b1 := bne_iff_ne.mpr c6
      obtain rfl := Option.some.inj H
      go_enter Try.func20, Try.ntmps20
      go_wp2_with (first | ((with_reducible refine gate_dst (N := 11) rfl ?_); (try (refine gate_guard (by rfl) ?_; dsimp only)); refine Kd.R_lit (Kd.int .u32) _ 38 ?hg (N := 11) ?hd (xs := ([2818572288] : List Int)) (inner := [.int .u32 2818572288]) (ok := fun _ => True) (okp := fun _ => True) ?hr ?hp (fun _ hk => hk) trivial (Below.refl _ _) (Nat.le_refl _) (by simp) ?_; (case hd => rfl); (case hg => rfl); (case hr => first | (go_simp; done) | (go_simp; rfl)); (case hp => exact (Reps.one (show Kd.M (Kd.int .u32) _ _ _ 2818572288 [.int .u32 2818572288] from rfl) (Reps.none _ _))); intro v180 w95 ho96 hb hg_ hnew_; clear hg_ hnew_; (first | rw [← Ny179.out] at ho96 | (simp only [Int.reduceToNat] at ho96; rw [← Ny179.out] at ho96)); refine zs (Kd.R_lower ho96 (below_size (zHB))) (zs (below_step (zHB) hb) ?_); clear HB; intro HB HO181; clear hb ho96; obtain ⟨Ao97, co97, eo97⟩ := Kd.R_slice HO181.out; subst eo97) | ((with_reducible refine gate_dst (N := 1) rfl ?_); (try (refine gate_guard (by rfl) ?_; dsimp only)); refine zBox (N := 1) (cs := #[.slice none 0 0, .int .i64 0, .slice none 0 0]) (t := 25) ?_; intro gb182 hg w98 hbox hb; refine zs (Kd.R_below (by (with_reducible repeat (first | apply Kd.R_alloc | apply Kd.R_drewN | apply Kd.R_drew)); exact HO181.out) hb) (zs (below_step (zHB) hb) (zs hbox (zs (zGe hg zHB) (zs (zGe hg zHB) ?_)))); clear HO181 HB; intro GE182 GW182 BK182 HB HO181; clear hb hbox hg; have hcz99 := blk_cell BK182.out; have hfz99 := blk_frozen BK182.out) | ((with_reducible refine gate_callee (f := 22) rfl ?_); refine zGo (N := (some 15)) Try.func22 #[.agg #[.slice Ao97 y179.length co97, .int .i64 0, .slice none 0 0]] ?_; (refine (image_Check.calls k _ _ y179 0 _ _ ([] : List Int) t183 t184 _ ?side1 ?side2 ?side3 ?side4 A1.out).mono ?_); (case side1 => refine (Kd.R_reads' (e := 38) (base := w.heap.size) (ok := fun k_ => True) (n := y179.length) (c := co97) ?_).2.2; exact (by (with_reducible repeat (first | apply Kd.R_alloc | apply Kd.R_drewN | apply Kd.R_drew)); exact (Kd.R_mono (Kd.R_far (p := ⟨gb182, 2, none⟩) (Kd.R_far (p := ⟨gb182, 1, none⟩) (Kd.R_far (p := ⟨gb182, 0, none⟩) (Kd.R_types HO181.out BK182.out (by decide)) (fun _ hk => hk.2) (.slice Ao97 y179.length co97)) (fun _ hk => hk.2) (.int .i64 0)) (fun _ hk => hk.2) (.slice none 0 0)) (fun _ h_ => h_.1)))); (case side2 => exact zS); (case side3 => exact zS); (case side4 => exact zS); rintro e w100 ⟨rfl, hb⟩; refine ⟨_, rfl, ?_⟩; refine zs (Kd.R_below (by (with_reducible repeat (first | apply Kd.R_alloc | apply Kd.R_drewN | apply Kd.R_drew)); exact (Kd.R_mono (Kd.R_far (p := ⟨gb182, 2, none⟩) (Kd.R_far (p := ⟨gb182, 1, none⟩) (Kd.R_far (p := ⟨gb182, 0, none⟩) (Kd.R_types HO181.out BK182.out (by decide)) (fun _ hk => hk.2) (.slice Ao97 y179.length co97)) (fun _ hk => hk.2) (.int .i64 0)) (fun _ hk => hk.2) (.slice none 0 0)) (fun _ h_ => h_.1))) hb) (zs (blk_below (g := gb182) (o := .cells #[.slice Ao97 y179.length co97, .int .i64 0, .slice none 0 0] 25 (0, 0)) (zBK) hb) (zs (below_step (zHB) hb) ?_)); clear HO181 BK182 HB; intro HB BK182 HO181; clear hb; have hcz101 := blk_cell BK182.out; have hfz101 := blk_frozen BK182.out) | ((with_reducible refine gate_callee (f := 21) rfl ?_); refine zGo (N := (some 20)) Try.func21 #[.agg #[.slice Ao97 y179.length co97, .int .i64 0, .slice none 0 0]] ?_; (refine (image_Write.calls k _ _ y179 0 _ _ ([] : List Int) t185 t188 _ ?side1 ?side2 ?side3 ?side4 A2.out).mono ?_); (case side1 => exact zS); (case side2 => exact zS); (case side3 => exact zS); (case side4 => exact zS); rintro e w102 ⟨v186, rfl, ho0, hb⟩; refine ⟨_, rfl, ?_⟩; refine zs (Kd.R_below (by (with_reducible repeat (first | apply Kd.R_alloc | apply Kd.R_drewN | apply Kd.R_drew)); exact HO181.out) hb) (zs (Kd.R_lower ho0 (below_size (zHB))) (zs (blk_below (g := gb182) zBK hb) (zs (below_step (zHB) hb) ?_))); clear HO181 BK182 HB; intro HB BK182 HO187 HO181; clear hb ho0; obtain ⟨Ao103, co103, eo103⟩ := Kd.R_slice HO187.out; subst eo103) | ((with_reducible refine gate_callee (f := 23) rfl ?_); refine zGo (N := (some 25)) Try.func23 #[.slice Ao103 t185.length co103] ?_; (with_reducible refine (image_Read.calls k _ _ t185 t189 t192 t193 t196 t197 _ ?side1 ?side2 A3.out).mono ?_); (case side1 => exact zS); (case side2 => exact zS); rintro e w104 ⟨v190, v194, rfl, ho0, ho1, hb⟩; refine ⟨_, rfl, ?_⟩; refine zs (Kd.R_elder' (by (with_reducible repeat (first | apply Kd.R_alloc | apply Kd.R_drewN | apply Kd.R_drew)); exact HO181.out) (Kd.R_base ho0) hb) (zs (Kd.R_below (by (with_reducible repeat (first | apply Kd.R_alloc | apply Kd.R_drewN | apply Kd.R_drew)); exact HO187.out) hb) (zs (Kd.R_lower (Kd.R_new' ho0 (Kd.R_lt (by (with_reducible repeat (first | apply Kd.R_alloc | apply Kd.R_drewN | apply Kd.R_drew)); exact HO181.out))) (below_size (zHB))) (zs (Kd.R_lower ho1 (below_size (zHB))) (zs (blk_below (g := gb182) zBK hb) (zs (below_step (zHB) hb) ?_))))); clear HO181 HO187 BK182 HB; intro HB BK182 HO195 HO191 HO187 HO181; clear hb ho0 ho1) | ((with_reducible refine gate_dst (N := 6) rfl ?_); (try (refine gate_guard (by rfl) ?_; dsimp only)); refine zBox (N := 6) (cs := #[.slice none 0 0, .int .i64 0, .slice none 0 0]) (t := 25) ?_; intro gb198 hg w105 hbox hb; refine zs (Kd.R_below (by (with_reducible repeat (first | apply Kd.R_alloc | apply Kd.R_drewN | apply Kd.R_drew)); exact HO181.out) hb) (zs (Kd.R_below (by (with_reducible repeat (first | apply Kd.R_alloc | apply Kd.R_drewN | apply Kd.R_drew)); exact HO187.out) hb) (zs (Kd.R_below (by (with_reducible repeat (first | apply Kd.R_alloc | apply Kd.R_drewN | apply Kd.R_drew)); exact HO191.out) hb) (zs (Kd.R_below (by (with_reducible repeat (first | apply Kd.R_alloc | apply Kd.R_drewN | apply Kd.R_drew)); exact HO195.out) hb) (zs (blk_below (g := gb182) zBK hb) (zs (below_step (zHB) hb) (zs hbox (zs (zGe hg zHB) (zs (zGe hg zHB) (zs (zNl hg zBK : gb182 ≠ gb198) (zs ((zNg hg zBK : gb198 ≠ gb182)) ?_)))))))))); clear HO181 HO187 HO191 HO195 BK182 HB; intro NB198_182 NB182_198 GE198 GW198 BK198 HB BK182 HO195 HO191 HO187 HO181; clear hb hbox hg; obtain ⟨Ao106, co106, eo106⟩ := Kd.R_slice HO191.out; subst eo106; have hnb107 := NB198_182.out; have hnc107 := NB182_198.out; have hcz108 := blk_cell BK198.out; have hfz108 := blk_frozen BK198.out; obtain ⟨Ao109, co109, eo109⟩ := Kd.R_slice HO195.out; subst eo109) | ((with_reducible refine gate_callee (f := 22) rfl ?_); refine zGo (N := (some 31)) Try.func22 #[.agg #[.slice none 0 0, .int .i64 0, .slice none 0 0]] ?_; (refine (image_Check.calls k _ _ ([] : List Int) 0 _ _ ([] : List Int) t199 t200 _ ?side1 ?side2 ?side3 ?side4 A4.out).mono ?_); (case side1 => exact zS); (case side2 => exact zS); (case side3 => exact zS); (case side4 => exact zS); rintro e w110 ⟨rfl, hb⟩; refine ⟨_, rfl, ?_⟩; refine zs (Kd.R_below (by (with_reducible repeat (first | apply Kd.R_alloc | apply Kd.R_drewN | apply Kd.R_drew)); exact (Kd.R_mono (Kd.R_far (p := ⟨gb198, 2, none⟩) (Kd.R_far (p := ⟨gb198, 1, none⟩) (Kd.R_far (p := ⟨gb198, 0, none⟩) (Kd.R_types HO181.out BK198.out (by decide)) (fun _ hk => hk.2) (.slice Ao106 t189.length co106)) (fun _ hk => hk.2) (.int .i64 t192)) (fun _ hk => hk.2) (.slice Ao109 t193.length co109)) (fun _ h_ => h_.1))) hb) (zs (Kd.R_below (by (with_reducible repeat (first | apply Kd.R_alloc | apply Kd.R_drewN | apply Kd.R_drew)); exact (Kd.R_mono (Kd.R_far (p := ⟨gb198, 2, none⟩) (Kd.R_far (p := ⟨gb198, 1, none⟩) (Kd.R_far (p := ⟨gb198, 0, none⟩) (Kd.R_types HO187.out BK198.out (by decide)) (fun _ hk => hk.2) (.slice Ao106 t189.length co106)) (fun _ hk => hk.2) (.int .i64 t192)) (fun _ hk => hk.2) (.slice Ao109 t193.length co109)) (fun _ h_ => h_.1))) hb) (zs (Kd.R_below (by (with_reducible repeat (first | apply Kd.R_alloc | apply Kd.R_drewN | apply Kd.R_drew)); exact (Kd.R_mono (Kd.R_far (p := ⟨gb198, 2, none⟩) (Kd.R_far (p := ⟨gb198, 1, none⟩) (Kd.R_far (p := ⟨gb198, 0, none⟩) (Kd.R_types HO191.out BK198.out (by decide)) (fun _ hk => hk.2) (.slice Ao106 t189.length co106)) (fun _ hk => hk.2) (.int .i64 t192)) (fun _ hk => hk.2) (.slice Ao109 t193.length co109)) (fun _ h_ => h_.1))) hb) (zs (Kd.R_below (by (with_reducible repeat (first | apply Kd.R_alloc | apply Kd.R_drewN | apply Kd.R_drew)); exact (Kd.R_mono (Kd.R_far (p := ⟨gb198, 2, none⟩) (Kd.R_far (p := ⟨gb198, 1, none⟩) (Kd.R_far (p := ⟨gb198, 0, none⟩) (Kd.R_types HO195.out BK198.out (by decide)) (fun _ hk => hk.2) (.slice Ao106 t189.length co106)) (fun _ hk => hk.2) (.int .i64 t192)) (fun _ hk => hk.2) (.slice Ao109 t193.length co109)) (fun _ h_ => h_.1))) hb) (zs (blk_below (g := gb182) zBK hb) (zs (blk_below (g := gb198) (o := .cells #[.slice Ao106 t189.length co106, .int .i64 t192, .slice Ao109 t193.length co109] 25 (0, 0)) (zBK) hb) (zs (below_step (zHB) hb) ?_)))))); clear HO181 HO187 HO191 HO195 BK182 BK198 HB; intro HB BK198 BK182 HO195 HO191 HO187 HO181; clear hb))
      go_ret
      exact ⟨zE, zHB⟩
  · rw [if_neg c5] at H
    have c5b0 := beq_eq_false_iff_ne.mpr c5
    have c5b1 := bne_iff_ne.mpr c5
    obtain rfl := Option.some.inj H
    go_enter Try.func20, Try.ntmps20
    go_wp2_with (first | ((with_reducible refine gate_dst (N := 11) rfl ?_); (try (refine gate_guard (by rfl) ?_; dsimp only)); refine Kd.R_lit (Kd.int .u32) _ 38 ?hg (N := 11) ?hd (xs := ([2818572288] : List Int)) (inner := [.int .u32 2818572288]) (ok := fun _ => True) (okp := fun _ => True) ?hr ?hp (fun _ hk => hk) trivial (Below.refl _ _) (Nat.le_refl _) (by simp) ?_; (case hd => rfl); (case hg => rfl); (case hr => first | (go_simp; done) | (go_simp; rfl)); (case hp => exact (Reps.one (show Kd.M (Kd.int .u32) _ _ _ 2818572288 [.int .u32 2818572288] from rfl) (Reps.none _ _))); intro v180 w111 ho112 hb hg_ hnew_; clear hg_ hnew_; (first | rw [← Ny179.out] at ho112 | (simp only [Int.reduceToNat] at ho112; rw [← Ny179.out] at ho112)); refine zs (Kd.R_lower ho112 (below_size (zHB))) (zs (below_step (zHB) hb) ?_); clear HB; intro HB HO181; clear hb ho112; obtain ⟨Ao113, co113, eo113⟩ := Kd.R_slice HO181.out; subst eo113) | ((with_reducible refine gate_dst (N := 1) rfl ?_); (try (refine gate_guard (by rfl) ?_; dsimp only)); refine zBox (N := 1) (cs := #[.slice none 0 0, .int .i64 0, .slice none 0 0]) (t := 25) ?_; intro gb182 hg w114 hbox hb; refine zs (Kd.R_below (by (with_reducible repeat (first | apply Kd.R_alloc | apply Kd.R_drewN | apply Kd.R_drew)); exact HO181.out) hb) (zs (below_step (zHB) hb) (zs hbox (zs (zGe hg zHB) (zs (zGe hg zHB) ?_)))); clear HO181 HB; intro GE182 GW182 BK182 HB HO181; clear hb hbox hg; have hcz115 := blk_cell BK182.out; have hfz115 := blk_frozen BK182.out) | ((with_reducible refine gate_callee (f := 22) rfl ?_); refine zGo (N := (some 15)) Try.func22 #[.agg #[.slice Ao113 y179.length co113, .int .i64 0, .slice none 0 0]] ?_; (refine (image_Check.calls k _ _ y179 0 _ _ ([] : List Int) t183 t184 _ ?side1 ?side2 ?side3 ?side4 A1.out).mono ?_); (case side1 => refine (Kd.R_reads' (e := 38) (base := w.heap.size) (ok := fun k_ => True) (n := y179.length) (c := co113) ?_).2.2; exact (by (with_reducible repeat (first | apply Kd.R_alloc | apply Kd.R_drewN | apply Kd.R_drew)); exact (Kd.R_mono (Kd.R_far (p := ⟨gb182, 2, none⟩) (Kd.R_far (p := ⟨gb182, 1, none⟩) (Kd.R_far (p := ⟨gb182, 0, none⟩) (Kd.R_types HO181.out BK182.out (by decide)) (fun _ hk => hk.2) (.slice Ao113 y179.length co113)) (fun _ hk => hk.2) (.int .i64 0)) (fun _ hk => hk.2) (.slice none 0 0)) (fun _ h_ => h_.1)))); (case side2 => exact zS); (case side3 => exact zS); (case side4 => exact zS); rintro e w116 ⟨rfl, hb⟩; refine ⟨_, rfl, ?_⟩; refine zs (Kd.R_below (by (with_reducible repeat (first | apply Kd.R_alloc | apply Kd.R_drewN | apply Kd.R_drew)); exact (Kd.R_mono (Kd.R_far (p := ⟨gb182, 2, none⟩) (Kd.R_far (p := ⟨gb182, 1, none⟩) (Kd.R_far (p := ⟨gb182, 0, none⟩) (Kd.R_types HO181.out BK182.out (by decide)) (fun _ hk => hk.2) (.slice Ao113 y179.length co113)) (fun _ hk => hk.2) (.int .i64 0)) (fun _ hk => hk.2) (.slice none 0 0)) (fun _ h_ => h_.1))) hb) (zs (blk_below (g := gb182) (o := .cells #[.slice Ao113 y179.length co113, .int .i64 0, .slice none 0 0] 25 (0, 0)) (zBK) hb) (zs (below_step (zHB) hb) ?_)); clear HO181 BK182 HB; intro HB BK182 HO181; clear hb; have hcz117 := blk_cell BK182.out; have hfz117 := blk_frozen BK182.out) | ((with_reducible refine gate_callee (f := 21) rfl ?_); refine zGo (N := (some 20)) Try.func21 #[.agg #[.slice Ao113 y179.length co113, .int .i64 0, .slice none 0 0]] ?_; (refine (image_Write.calls k _ _ y179 0 _ _ ([] : List Int) t185 t188 _ ?side1 ?side2 ?side3 ?side4 A2.out).mono ?_); (case side1 => exact zS); (case side2 => exact zS); (case side3 => exact zS); (case side4 => exact zS); rintro e w118 ⟨v186, rfl, ho0, hb⟩; refine ⟨_, rfl, ?_⟩; refine zs (Kd.R_below (by (with_reducible repeat (first | apply Kd.R_alloc | apply Kd.R_drewN | apply Kd.R_drew)); exact HO181.out) hb) (zs (Kd.R_lower ho0 (below_size (zHB))) (zs (blk_below (g := gb182) zBK hb) (zs (below_step (zHB) hb) ?_))); clear HO181 BK182 HB; intro HB BK182 HO187 HO181; clear hb ho0; obtain ⟨Ao119, co119, eo119⟩ := Kd.R_slice HO187.out; subst eo119) | ((with_reducible refine gate_callee (f := 23) rfl ?_); refine zGo (N := (some 25)) Try.func23 #[.slice Ao119 t185.length co119] ?_; (with_reducible refine (image_Read.calls k _ _ t185 t189 t192 t193 t196 t197 _ ?side1 ?side2 A3.out).mono ?_); (case side1 => exact zS); (case side2 => exact zS); rintro e w120 ⟨v190, v194, rfl, ho0, ho1, hb⟩; refine ⟨_, rfl, ?_⟩; refine zs (Kd.R_elder' (by (with_reducible repeat (first | apply Kd.R_alloc | apply Kd.R_drewN | apply Kd.R_drew)); exact HO181.out) (Kd.R_base ho0) hb) (zs (Kd.R_below (by (with_reducible repeat (first | apply Kd.R_alloc | apply Kd.R_drewN | apply Kd.R_drew)); exact HO187.out) hb) (zs (Kd.R_lower (Kd.R_new' ho0 (Kd.R_lt (by (with_reducible repeat (first | apply Kd.R_alloc | apply Kd.R_drewN | apply Kd.R_drew)); exact HO181.out))) (below_size (zHB))) (zs (Kd.R_lower ho1 (below_size (zHB))) (zs (blk_below (g := gb182) zBK hb) (zs (below_step (zHB) hb) ?_))))); clear HO181 HO187 BK182 HB; intro HB BK182 HO195 HO191 HO187 HO181; clear hb ho0 ho1) | ((with_reducible refine gate_dst (N := 6) rfl ?_); (try (refine gate_guard (by rfl) ?_; dsimp only)); refine zBox (N := 6) (cs := #[.slice none 0 0, .int .i64 0, .slice none 0 0]) (t := 25) ?_; intro gb198 hg w121 hbox hb; refine zs (Kd.R_below (by (with_reducible repeat (first | apply Kd.R_alloc | apply Kd.R_drewN | apply Kd.R_drew)); exact HO181.out) hb) (zs (Kd.R_below (by (with_reducible repeat (first | apply Kd.R_alloc | apply Kd.R_drewN | apply Kd.R_drew)); exact HO187.out) hb) (zs (Kd.R_below (by (with_reducible repeat (first | apply Kd.R_alloc | apply Kd.R_drewN | apply Kd.R_drew)); exact HO191.out) hb) (zs (Kd.R_below (by (with_reducible repeat (first | apply Kd.R_alloc | apply Kd.R_drewN | apply Kd.R_drew)); exact HO195.out) hb) (zs (blk_below (g := gb182) zBK hb) (zs (below_step (zHB) hb) (zs hbox (zs (zGe hg zHB) (zs (zGe hg zHB) (zs (zNl hg zBK : gb182 ≠ gb198) (zs ((zNg hg zBK : gb198 ≠ gb182)) ?_)))))))))); clear HO181 HO187 HO191 HO195 BK182 HB; intro NB198_182 NB182_198 GE198 GW198 BK198 HB BK182 HO195 HO191 HO187 HO181; clear hb hbox hg; obtain ⟨Ao122, co122, eo122⟩ := Kd.R_slice HO191.out; subst eo122; have hnb123 := NB198_182.out; have hnc123 := NB182_198.out; have hcz124 := blk_cell BK198.out; have hfz124 := blk_frozen BK198.out; obtain ⟨Ao125, co125, eo125⟩ := Kd.R_slice HO195.out; subst eo125) | ((with_reducible refine gate_callee (f := 22) rfl ?_); refine zGo (N := (some 31)) Try.func22 #[.agg #[.slice none 0 0, .int .i64 0, .slice none 0 0]] ?_; (refine (image_Check.calls k _ _ ([] : List Int) 0 _ _ ([] : List Int) t199 t200 _ ?side1 ?side2 ?side3 ?side4 A4.out).mono ?_); (case side1 => exact zS); (case side2 => exact zS); (case side3 => exact zS); (case side4 => exact zS); rintro e w126 ⟨rfl, hb⟩; refine ⟨_, rfl, ?_⟩; refine zs (Kd.R_below (by (with_reducible repeat (first | apply Kd.R_alloc | apply Kd.R_drewN | apply Kd.R_drew)); exact (Kd.R_mono (Kd.R_far (p := ⟨gb198, 2, none⟩) (Kd.R_far (p := ⟨gb198, 1, none⟩) (Kd.R_far (p := ⟨gb198, 0, none⟩) (Kd.R_types HO181.out BK198.out (by decide)) (fun _ hk => hk.2) (.slice Ao122 t189.length co122)) (fun _ hk => hk.2) (.int .i64 t192)) (fun _ hk => hk.2) (.slice Ao125 t193.length co125)) (fun _ h_ => h_.1))) hb) (zs (Kd.R_below (by (with_reducible repeat (first | apply Kd.R_alloc | apply Kd.R_drewN | apply Kd.R_drew)); exact (Kd.R_mono (Kd.R_far (p := ⟨gb198, 2, none⟩) (Kd.R_far (p := ⟨gb198, 1, none⟩) (Kd.R_far (p := ⟨gb198, 0, none⟩) (Kd.R_types HO187.out BK198.out (by decide)) (fun _ hk => hk.2) (.slice Ao122 t189.length co122)) (fun _ hk => hk.2) (.int .i64 t192)) (fun _ hk => hk.2) (.slice Ao125 t193.length co125)) (fun _ h_ => h_.1))) hb) (zs (Kd.R_below (by (with_reducible repeat (first | apply Kd.R_alloc | apply Kd.R_drewN | apply Kd.R_drew)); exact (Kd.R_mono (Kd.R_far (p := ⟨gb198, 2, none⟩) (Kd.R_far (p := ⟨gb198, 1, none⟩) (Kd.R_far (p := ⟨gb198, 0, none⟩) (Kd.R_types HO191.out BK198.out (by decide)) (fun _ hk => hk.2) (.slice Ao122 t189.length co122)) (fun _ hk => hk.2) (.int .i64 t192)) (fun _ hk => hk.2) (.slice Ao125 t193.length co125)) (fun _ h_ => h_.1))) hb) (zs (Kd.R_below (by (with_reducible repeat (first | apply Kd.R_alloc | apply Kd.R_drewN | apply Kd.R_drew)); exact (Kd.R_mono (Kd.R_far (p := ⟨gb198, 2, none⟩) (Kd.R_far (p := ⟨gb198, 1, none⟩) (Kd.R_far (p := ⟨gb198, 0, none⟩) (Kd.R_types HO195.out BK198.out (by decide)) (fun _ hk => hk.2) (.slice Ao122 t189.length co122)) (fun _ hk => hk.2) (.int .i64 t192)) (fun _ hk => hk.2) (.slice Ao125 t193.length co125)) (fun _ h_ => h_.1))) hb) (zs (blk_below (g := gb182) zBK hb) (zs (blk_below (g := gb198) (o := .cells #[.slice Ao122 t189.length co122, .int .i64 t192, .slice Ao125 t193.length co125] 25 (0, 0)) (zBK) hb) (zs (below_step (zHB) hb) ?_)))))); clear HO181 HO187 HO191 HO195 BK182 BK198 HB; intro HB BK198 BK182 HO195 HO191 HO187 HO181; clear hb))
    go_ret
    exact ⟨zE, zHB⟩

/-! ### pleatref00_CopyBytes: function 24 -/
def pleatref00_CopyBytes.f (l0 : List Int) : Option (List Int) := if ([] : List Int).length + l0.length < 140737488355328 then (some (([] : List Int) ++ l0)) else (none)
set_option maxHeartbeats 8000000 in
set_option maxRecDepth 100000 in
theorem pleatref00_CopyBytes.calls (A0 : Option Addr) (c0 : Nat) (l0 : List Int) (r : List Int) (w : World) (hr0 : Kd.C (Kd.int .u8) w A0 l0.length l0) (hc0 : l0.length ≤ c0) (h : pleatref00_CopyBytes.f l0 = some r) :
    Calls Try.prog 24 #[.slice A0 l0.length c0] w fun e w' => ∃ v0_ : Value, e = .returned (v0_) ∧ Kd.R (Kd.int .u8) 5 w' w.heap.size (fun _ => True) v0_ r ∧ Below w.heap.size w w' := by
  have HR0 := Aside0.mk hr0
  have HC0 := Aside0.mk hc0
  clear hr0 hc0
  have HB := Aside0.mk (Below.refl w.heap.size w)
  have H := h
  clear h
  unfold pleatref00_CopyBytes.f at H
  obtain ⟨c2, H⟩ := zG H
  have LMc2 := Aside0.mk c2
  clear c2
  obtain ⟨y202, hy202⟩ : ∃ y_ : List Int, y_ = (([] : List Int) ++ l0) := ⟨_, rfl⟩
  (try rw [← hy202] at H)
  have Ny202 := Aside0.mk hy202
  clear hy202
  obtain rfl := Option.some.inj H
  go_enter Try.func24, Try.ntmps24
  go_wp2_with (first | ((with_reducible refine gate_builtin (b := .append) (xs := #[.tmp 4, .tmp 5]) rfl ?_); at_builtin; refine Kd.R_append_rows (Kd.int .u8) (w0 := w) w.heap.size rfl (.tmp 4) (.tmp 5) 42 5 (.int .u8 0) 1 rfl Try.underlying42 info5 rfl (by decide) (by omega) (.slice none 0 0) ([] : List Int) l0 _ _ _ (fun _ => True) (fun _ => False) rfl rfl ?aO ?aR (fun _ _ h => h) (fun _ h => h.elim) ?aF ?aB ?aS ?aL ?_; (case aR => repeat (first | exact HR0.out | (with_reducible refine Kd.C_alloc ?_ _) | (with_reducible refine Kd.C_drewN ?_ _) | (with_reducible refine Kd.C_drew ?_))); (case aB => exact (zHB)); (case aF => exact (fun _ _ => trivial)); (case aO => exact ((Kd.R_nil _ _ _ _ (fun _ => True)))); (case aS => exact (below_size (zHB))); (case aL => have := LMc2.out; omega); intro v203 w3 ho hb hg hat; rw [← Ny202.out] at ho; refine zs hb (zs (ho) ?_); clear HB; intro HO204 HB; clear ho hb hg hat))
  go_ret
  exact ⟨_, zE, by (with_reducible repeat (first | apply Kd.R_alloc | apply Kd.R_drewN | apply Kd.R_drew)); exact HO204.out, zHB⟩

end Go.Proofs.Ytfgdjpgdabjpmaa.PImageRound
