-- Written for this claim by a program of this session (wip/tools/pp.py, over the kit's print).
import Derived.Test.YtfgdjpgdabjpmaaDoorPImageReadsx0
import Derived.Test.YtfgdjpgdabjpmaaDoorPImageReadsx3
namespace Go.Proofs.YtfgdjpgdabjpmaaDoor.PImageReads
open Go.RowKit Go.Proofs.YtfgdjpgdabjpmaaDoorW.PrintWords Go.Proofs.YtfgdjpgdabjpmaaDoorW.PrintLast Go.Proofs.YtfgdjpgdabjpmaaDoorW.PrintMore
attribute [local go_sem] max2_int min2_int max_two min_two max_three min_three max_four min_four   -- for this text's walks alone
set_option linter.unusedVariables false
set_option linter.unusedSimpArgs false

/-! ### image_Write: function 25 -/
mutual
def image_Write.l0 : Nat → List Int → List Int → Int → Int → List Int → Int → List Int → Option (List Int × Int)
  | 0, _, _, _, _, _, _, _ => none
  | k + 1, x7, x31, x32, x33, x138000, x138001, x138002 => if x33 < x32 then (if 0 ≤ x33 then (if x33 < (x31.length : Int) then ((image_put.f k x7 (IntKind.u64.wrap (rd x31 x33)) 4).bind fun t147 => (image_Write.l0 k t147 x31 x32 (wrap64 (x33 + 1)) x138000 x138001 x138002)) else (none)) else (none)) else ((image_put.f k x7 (IntKind.u64.wrap (x138001)) 4).bind fun t150 => ((image_put.f k t150 (IntKind.u64.wrap ((x138002.length : Int))) 4).bind fun t153 => (image_Write.l1 k t153 x138002 (x138002.length : Int) 0)))
def image_Write.l1 : Nat → List Int → List Int → Int → Int → Option (List Int × Int)
  | 0, _, _, _, _ => none
  | k + 1, x7, x54, x55, x56 => if x56 < x55 then (if 0 ≤ x56 then (if x56 < (x54.length : Int) then ((image_put.f k x7 (IntKind.u64.wrap (rd x54 x56)) 8).bind fun t157 => (image_Write.l1 k t157 x54 x55 (wrap64 (x56 + 1)))) else (none)) else (none)) else ((image_Sum.f k x7).bind fun t160 => ((image_put.f k x7 (IntKind.u64.wrap (t160)) 4).bind fun t161 => (some (t161, 0))))
end
def image_Write.f (k : Nat) (l0_0 : List Int) (a0_1 : Int) (l0_2 : List Int) : Option (List Int × Int) := (image_Check.f k l0_0 a0_1 l0_2).bind fun bt138 => (if bt138.1 = 0 then ((image_put.f k (([80, 76, 73, 49] : List Int)) (IntKind.u64.wrap ((l0_0.length : Int))) 4).bind fun t143 => (image_Write.l0 k t143 l0_0 (l0_0.length : Int) 0 l0_0 a0_1 l0_2)) else (some (([] : List Int), bt138.1)))
theorem image_Write.mono_l : ∀ k, (∀ y0 y1 y2 y3 y4 y5 y6, LeO (image_Write.l0 k y0 y1 y2 y3 y4 y5 y6) (image_Write.l0 (k + 1) y0 y1 y2 y3 y4 y5 y6)) ∧ (∀ y0 y1 y2 y3, LeO (image_Write.l1 k y0 y1 y2 y3) (image_Write.l1 (k + 1) y0 y1 y2 y3))
  | 0 => ⟨fun _ _ _ _ _ _ _ r h => by simp [image_Write.l0] at h, fun _ _ _ _ r h => by simp [image_Write.l1] at h⟩
  | k + 1 => by
    obtain ⟨ih0, ih1⟩ := image_Write.mono_l k
    refine ⟨?_, ?_⟩
    · intro y0 y1 y2 y3 y4 y5 y6
      unfold image_Write.l0
      have m0 := @image_Check.mono
      have m1 := @image_Sum.mono
      have m2 := @image_put.mono
      exact zMo
    · intro y0 y1 y2 y3
      unfold image_Write.l1
      have m0 := @image_Check.mono
      have m1 := @image_Sum.mono
      have m2 := @image_put.mono
      exact zMo
theorem image_Write.mono : ∀ a0 a1 a2 k, LeO (image_Write.f k a0 a1 a2) (image_Write.f (k + 1) a0 a1 a2) := by
  intro a0 a1 a2 k
  obtain ⟨ih0, ih1⟩ := image_Write.mono_l k
  unfold image_Write.f
  have m0 := @image_Check.mono
  have m1 := @image_Sum.mono
  have m2 := @image_put.mono
  exact zMo
set_option maxHeartbeats 8000000 in
set_option maxRecDepth 100000 in
theorem image_Write.calls (k : Nat) (A0_0 : Option Addr) (c0_0 : Nat) (l0_0 : List Int) (a0_1 : Int) (A0_2 : Option Addr) (c0_2 : Nat) (l0_2 : List Int) (r1 : List Int) (r2 : Int) (w : World) (hr0_0 : Kd.C (Kd.int .u32) w A0_0 l0_0.length l0_0) (hc0_0 : l0_0.length ≤ c0_0) (hr0_2 : Kd.C (Kd.int .i64) w A0_2 l0_2.length l0_2) (hc0_2 : l0_2.length ≤ c0_2) (h : image_Write.f k l0_0 a0_1 l0_2 = some (r1, r2)) :
    Calls Tryd.prog 25 #[.agg #[.slice A0_0 l0_0.length c0_0, .int .i64 a0_1, .slice A0_2 l0_2.length c0_2]] w fun e w' => ∃ v0_ : Value, e = .returned (.tuple #[v0_, .int .i64 r2]) ∧ Kd.R (Kd.int .u8) 5 w' w.heap.size (fun _ => True) v0_ r1 ∧ Below w.heap.size w w' := by
  have hu25 := Tryd.underlying25
  have HR0_0 := Aside0.mk hr0_0
  have HC0_0 := Aside0.mk hc0_0
  clear hr0_0 hc0_0
  have HR0_2 := Aside0.mk hr0_2
  have HC0_2 := Aside0.mk hc0_2
  clear hr0_2 hc0_2
  have HB := Aside0.mk (Below.refl w.heap.size w)
  have H := h
  clear h
  unfold image_Write.f at H
  replace H := Option.bind_eq_some_iff.mp H
  obtain ⟨⟨t138, t139⟩, A20, H⟩ := H
  (try dsimp only at H)
  have A2 := Aside0.mk A20
  clear A20
  by_cases c3 : t138 = 0
  · rw [if_pos c3] at H
    have c3b0 := beq_iff_eq.mpr c3
    have c3b1 := bne_eq_false_iff_eq.mpr c3
    clear c3
    obtain ⟨y140, hy140⟩ : ∃ y_ : List Int, y_ = (([80, 76, 73, 49] : List Int)) := ⟨_, rfl⟩
    (try rw [← hy140] at H)
    have Ny140 := Aside0.mk hy140
    clear hy140
    replace H := Option.bind_eq_some_iff.mp H
    obtain ⟨t143, A40, H⟩ := H
    (try dsimp only at H)
    have A4 := Aside0.mk A40
    clear A40
    have H' := Aside0.mk H
    clear H
    go_enter Tryd.func25, Tryd.ntmps25
    go_wp2_with (first | ((with_reducible refine gate_dst (N := 1) rfl ?_); refine zBox (N := 1) (cs := #[.slice A0_0 l0_0.length c0_0, .int .i64 a0_1, .slice A0_2 l0_2.length c0_2]) (t := 25) ?_; intro gb137 hg w5 hbox hb; refine zs (below_step (zHB) hb) (zs hbox (zs (zGe hg zHB) (zs (zGe hg zHB) ?_))); clear HB; intro GE137 GW137 BK137 HB; clear hb hbox hg; have hcz6 := blk_cell BK137.out; have hfz6 := blk_frozen BK137.out) | ((with_reducible refine gate_callee (f := 23) rfl ?_); refine zGo (N := (some 14)) Tryd.func23 #[.agg #[.slice A0_0 l0_0.length c0_0, .int .i64 a0_1, .slice A0_2 l0_2.length c0_2]] ?_; (with_reducible refine (image_Check.calls k _ _ l0_0 a0_1 _ _ l0_2 t138 t139 _ ?side1 ?side2 ?side3 ?side4 A2.out).mono ?_); (case side1 => exact zS); (case side2 => exact zS); (case side3 => exact zS); (case side4 => exact zS); rintro e w7 ⟨rfl, hb⟩; refine ⟨_, rfl, ?_⟩; refine zs (blk_below (g := gb137) zBK hb) (zs (below_step (zHB) hb) ?_); clear BK137 HB; intro HB BK137; clear hb) | (go_at_call 68; refine (image_begins.calls _).mono ?_; rintro e wq1 ⟨rfl, hb⟩; refine zs (blk_below (g := gb137) zBK hb) (zs (below_step (zHB) hb) ?_); clear BK137 HB; intro HB BK137; clear hb) | ((with_reducible refine gate_dst (N := 6) rfl ?_); refine zBox (N := 6) (cs := #[.int .u8 0, .int .u8 0, .int .u8 0, .int .u8 0]) (t := 96) ?_; intro gbq hg wq2 hbox hb; refine zs (blk_below (g := gb137) zBK hb) (zs (below_step (zHB) hb) (zs hbox (zs (zGe hg zHB) (zs (zNl hg zBK : gb137 ≠ gbq) (zs (zNg hg zBK : gbq ≠ gb137) ?_))))); clear BK137 HB; intro NBq2 NBq1 GEq BKq HB BK137; clear hb hbox hg; have hnbq := NBq1.out; have hnbr := NBq2.out; have hczq := blk_cell BKq.out; have hfzq := blk_frozen BKq.out) | ((with_reducible refine gate_dst (N := 21) rfl ?_); refine Kd.R_lit (Kd.int .u8) _ 5 ?hg (N := 21) ?hd (xs := ([] : List Int)) (inner := []) (ok := fun _ => True) (okp := fun _ => True) ?hr ?hp (fun _ hk => hk) trivial (Below.refl _ _) (Nat.le_refl _) (by simp) ?_; (case hd => rfl); (case hg => rfl); (case hr => first | (go_simp; done) | (go_simp; rfl)); (case hp => exact Reps.none _ _); intro vq wq3 hoq hb hg_ hnew_; clear hg_ hnew_; refine zs (Kd.R_lower hoq (below_size (zHB))) (zs (blk_below (g := gbq) (o := .cells #[.int .u8 80, .int .u8 76, .int .u8 73, .int .u8 49] 96 (0, 0)) zBK hb) (zs (blk_below (g := gb137) zBK hb) (zs (below_step (zHB) hb) ?_))); clear BK137 HB BKq; intro HB BK137 BKq HOq; clear hb hoq; have hczq2 := blk_cell BKq.out; have hczq3 := blk_cell BK137.out; have hfzq3 := blk_frozen BK137.out; obtain ⟨Aq, cq, eq_⟩ := Kd.R_slice HOq.out; subst eq_) | ((with_reducible refine gate_dst (N := 23) rfl ?_); at_builtin; refine Kd.R_append_rows (Kd.int .u8) (w0 := w) w.heap.size rfl (.tmp 21) (.tmp 22) 64 5 (.int .u8 0) 1 rfl Tryd.underlying64 info5 rfl (by decide) (by omega) (.slice Aq ([] : List Int).length cq) ([] : List Int) [80, 76, 73, 49] _ _ _ (fun _ => True) (fun _ => False) rfl rfl ?aO ?aR (fun _ _ h => h) (fun _ h => h.elim) ?aF ?aB ?aS ?aL ?_; (case aR => exact begins_C BKq.out); (case aB => exact (zHB)); (case aF => exact (fun _ _ => trivial)); (case aO => exact HOq.out); (case aS => exact (below_size (zHB))); (case aL => simp); intro v141 w8 ho9 hb hg hat; rw [List.nil_append, ← Ny140.out] at ho9; refine zs (blk_grown BK137.out hg (fun e_ => Kd.R_ne HOq.out BK137.out (by decide) e_)) (zs hb (zs (ho9) ?_)); clear HB BK137; intro HO142 HB BK137; clear hb hg hat ho9; have hczq4 := blk_cell BK137.out; have hfzq4 := blk_frozen BK137.out; obtain ⟨Ao11, co11, eo11⟩ := Kd.R_slice HO142.out; subst eo11) | ((with_reducible refine gate_callee (f := 69) rfl ?_); refine zGo (N := (some 29)) Tryd.func69 #[.slice Ao11 y140.length co11, .int .u64 (IntKind.u64.wrap ((l0_0.length : Int))), .int .i64 4] ?_; (with_reducible refine (image_put.calls k (fun k_ => some k_ = (.slice Ao11 y140.length co11 : Value).ownBlock) (.slice Ao11 y140.length co11) y140 (IntKind.u64.wrap ((l0_0.length : Int))) 4 t143 w _ ?side1 ?side2 A4.out).mono ?_); (case side1 => repeat (first | (with_reducible first | exact HB.out | apply below_alloc | apply pw_below_drewN | apply below_drew1 | refine below_set ?_ GE137.out) | exact HB.out)); (case side2 => exact Kd.R_tight rfl HO142.out); rintro e w12 ⟨v144, rfl, ho0, hb, hkp⟩; refine ⟨_, rfl, ?_⟩; refine zs (blk_kept (zBK) hkp (fun hs_ => (fun e_ => (Kd.R_ne HO142.out BK137.out (by decide)) e_) hs_)) (zs (Kd.R_mono (ok' := fun k_ => True) ho0 (fun k_ hk_ => trivial)) (zs (hb) ?_)); clear BK137 HB HO142; intro HB HO145 BK137; (try clear hb); (try clear hkp); (try clear ho0); have hcz13 := blk_cell BK137.out; have hfz13 := blk_frozen BK137.out))
    go_loopg [7, 33] k (fun kq v7 v33 w' => ∃ (x7_1 : List Int) (x33_1 : Int), v33 = .int .i64 x33_1 ∧ Aside0 (image_Write.l0 kq x7_1 l0_0 (l0_0.length : Int) x33_1 l0_0 a0_1 l0_2 = some (r1, r2)) ∧ Aside0 (kq ≤ k) ∧ Aside0 (Kd.R (Kd.int .u8) 5 w' w.heap.size (fun _ => True) v7 x7_1) ∧ Aside0 (w'.heap[gb137]? = some (.cells #[(.slice A0_0 l0_0.length c0_0), .int .i64 a0_1, (.slice A0_2 l0_2.length c0_2)] 25 (0, 0))) ∧ Aside0 (Below w.heap.size w w'))
    case atStart => exact ⟨(t143), (0), zF', H', ⟨Nat.le_refl _⟩, ⟨by (with_reducible repeat (first | apply Kd.R_alloc | apply Kd.R_drewN | apply Kd.R_drew)); exact HO145.out⟩, ⟨zBK⟩, ⟨zHB⟩⟩
    case round =>
      clear H'
      try clear c3b0
      try clear c3b1
      try clear hcz10
      try clear hcz13
      try clear hcz6
      try clear hfz10
      try clear hfz13
      try clear hfz6
      obtain ⟨x7_1, x33_1, rfl, HA, HK1, HO_7, BK137, HB⟩ := hrel
      cases gk with
      | zero => exact absurd HA.out (by simp [image_Write.l0])
      | succ k1 =>
        have H := HA.out
        clear HA
        simp only [image_Write.l0] at H
        by_cases c14 : x33_1 < (l0_0.length : Int)
        · rw [if_pos c14] at H
          have c14b0 := decide_eq_true c14
          clear c14
          obtain ⟨c15, H⟩ := zG H
          have c15b0 := decide_eq_true c15
          clear c15
          obtain ⟨c16, H⟩ := zG H
          have c16b0 := decide_eq_true c16
          clear c16
          replace H := Option.bind_eq_some_iff.mp H
          obtain ⟨t147, A170, H⟩ := H
          (try dsimp only at H)
          have A17 := Aside0.mk A170
          clear A170
          have H' := Aside0.mk H
          clear H
          have p146 : 0 ≤ (x33_1 : Int) := zOD
          have q146 : x33_1 < (l0_0.length : Int) := zOD
          obtain ⟨ad146, e146, hx146_0⟩ := Kd.at_int HR0_0.out x33_1 p146 q146
          cases e146
          replace hx146_0 := (HB.out.cell (World.block_lt_of_cell? w _ hx146_0)).trans hx146_0
          replace p146 := eq_true p146
          replace q146 := eq_true q146
          obtain ⟨Ao18, co18, eo18⟩ := Kd.R_slice HO_7.out
          subst eo18
          go_wp2_with (first | ((with_reducible refine gate_callee (f := 69) rfl ?_); refine zGo (N := (some 40)) Tryd.func69 #[.slice Ao18 x7_1.length co18, .int .u64 (IntKind.u64.wrap (rd l0_0 x33_1)), .int .i64 4] ?_; (with_reducible refine (image_put.calls k1 (fun k_ => some k_ = (.slice Ao18 x7_1.length co18 : Value).ownBlock) (.slice Ao18 x7_1.length co18) x7_1 (IntKind.u64.wrap (rd l0_0 x33_1)) 4 t147 w _ ?side1 ?side2 A17.out).mono ?_); (case side1 => repeat (first | (with_reducible first | exact HB.out | apply below_alloc | apply pw_below_drewN | apply below_drew1 | refine below_set ?_ GE137.out) | exact HB.out)); (case side2 => exact Kd.R_tight rfl HO_7.out); rintro e w19 ⟨v148, rfl, ho0, hb, hkp⟩; refine ⟨_, rfl, ?_⟩; refine zs (blk_kept (zBK) hkp (fun hs_ => (fun e_ => (Kd.R_ne HO_7.out BK137.out (by decide)) e_) hs_)) (zs (Kd.R_mono (ok' := fun k_ => True) ho0 (fun k_ hk_ => trivial)) (zs (hb) ?_)); clear BK137 HB HO_7; intro HB HO149 BK137; (try clear hb); (try clear hkp); (try clear ho0)))
          go_roundg k1
          case measure => have := HK1.out; omega
          case rel => exact ⟨(t147), (wrap64 (x33_1 + 1)), zF', H', ⟨by have := HK1.out; omega⟩, ⟨by (with_reducible repeat (first | apply Kd.R_alloc | apply Kd.R_drewN | apply Kd.R_drew)); exact HO149.out⟩, ⟨zBK⟩, ⟨zHB⟩⟩
        · rw [if_neg c14] at H
          have c14b0 := decide_eq_false c14
          clear c14
          replace H := Option.bind_eq_some_iff.mp H
          obtain ⟨t150, A200, H⟩ := H
          (try dsimp only at H)
          have A20 := Aside0.mk A200
          clear A200
          replace H := Option.bind_eq_some_iff.mp H
          obtain ⟨t153, A210, H⟩ := H
          (try dsimp only at H)
          have A21 := Aside0.mk A210
          clear A210
          have H' := Aside0.mk H
          clear H
          have hcz22 := blk_cell BK137.out
          have hfz22 := blk_frozen BK137.out
          obtain ⟨Ao23, co23, eo23⟩ := Kd.R_slice HO_7.out
          subst eo23
          go_wp2_with (first | ((with_reducible refine gate_callee (f := 69) rfl ?_); refine zGo (N := (some 46)) Tryd.func69 #[.slice Ao23 x7_1.length co23, .int .u64 (IntKind.u64.wrap (a0_1)), .int .i64 4] ?_; (with_reducible refine (image_put.calls k1 (fun k_ => some k_ = (.slice Ao23 x7_1.length co23 : Value).ownBlock) (.slice Ao23 x7_1.length co23) x7_1 (IntKind.u64.wrap (a0_1)) 4 t150 w _ ?side1 ?side2 A20.out).mono ?_); (case side1 => repeat (first | (with_reducible first | exact HB.out | apply below_alloc | apply pw_below_drewN | apply below_drew1 | refine below_set ?_ GE137.out) | exact HB.out)); (case side2 => exact Kd.R_tight rfl HO_7.out); rintro e w24 ⟨v151, rfl, ho0, hb, hkp⟩; refine ⟨_, rfl, ?_⟩; refine zs (blk_kept (zBK) hkp (fun hs_ => (fun e_ => (Kd.R_ne HO_7.out BK137.out (by decide)) e_) hs_)) (zs (Kd.R_mono (ok' := fun k_ => True) ho0 (fun k_ hk_ => trivial)) (zs (hb) ?_)); clear BK137 HB HO_7; intro HB HO152 BK137; (try clear hb); (try clear hkp); (try clear ho0); have hcz25 := blk_cell BK137.out; have hfz25 := blk_frozen BK137.out; obtain ⟨Ao26, co26, eo26⟩ := Kd.R_slice HO152.out; subst eo26) | ((with_reducible refine gate_callee (f := 69) rfl ?_); refine zGo (N := (some 52)) Tryd.func69 #[.slice Ao26 t150.length co26, .int .u64 (IntKind.u64.wrap ((l0_2.length : Int))), .int .i64 4] ?_; (with_reducible refine (image_put.calls k1 (fun k_ => some k_ = (.slice Ao26 t150.length co26 : Value).ownBlock) (.slice Ao26 t150.length co26) t150 (IntKind.u64.wrap ((l0_2.length : Int))) 4 t153 w _ ?side1 ?side2 A21.out).mono ?_); (case side1 => repeat (first | (with_reducible first | exact HB.out | apply below_alloc | apply pw_below_drewN | apply below_drew1 | refine below_set ?_ GE137.out) | exact HB.out)); (case side2 => exact Kd.R_tight rfl HO152.out); rintro e w27 ⟨v154, rfl, ho0, hb, hkp⟩; refine ⟨_, rfl, ?_⟩; refine zs (blk_kept (zBK) hkp (fun hs_ => (fun e_ => (Kd.R_ne HO152.out BK137.out (by decide)) e_) hs_)) (zs (Kd.R_mono (ok' := fun k_ => True) ho0 (fun k_ hk_ => trivial)) (zs (hb) ?_)); clear BK137 HB HO152; intro HB HO155 BK137; (try clear hb); (try clear hkp); (try clear ho0); have hcz28 := blk_cell BK137.out; have hfz28 := blk_frozen BK137.out))
          go_loopg [7, 56] k1 (fun kq v7 v56 w' => ∃ (x7_2 : List Int) (x56_2 : Int), v56 = .int .i64 x56_2 ∧ Aside0 (image_Write.l1 kq x7_2 l0_2 (l0_2.length : Int) x56_2 = some (r1, r2)) ∧ Aside0 (kq ≤ k1) ∧ Aside0 (Kd.R (Kd.int .u8) 5 w' w.heap.size (fun _ => True) v7 x7_2) ∧ Aside0 (w'.heap[gb137]? = some (.cells #[(.slice A0_0 l0_0.length c0_0), .int .i64 a0_1, (.slice A0_2 l0_2.length c0_2)] 25 (0, 0))) ∧ Aside0 (Below w.heap.size w w'))
          case atStart => exact ⟨(t153), (0), zF', H', ⟨Nat.le_refl _⟩, ⟨by (with_reducible repeat (first | apply Kd.R_alloc | apply Kd.R_drewN | apply Kd.R_drew)); exact HO155.out⟩, ⟨zBK⟩, ⟨zHB⟩⟩
          case round =>
            clear H'
            try clear c14b0
            try clear c3b0
            try clear c3b1
            try clear hcz10
            try clear hcz13
            try clear hcz22
            try clear hcz25
            try clear hcz28
            try clear hcz6
            try clear hfz10
            try clear hfz13
            try clear hfz22
            try clear hfz25
            try clear hfz28
            try clear hfz6
            obtain ⟨x7_2, x56_2, rfl, HA, HK2, HO_7, BK137, HB⟩ := hrel
            cases gk with
            | zero => exact absurd HA.out (by simp [image_Write.l1])
            | succ k2 =>
              have H := HA.out
              clear HA
              simp only [image_Write.l1] at H
              by_cases c29 : x56_2 < (l0_2.length : Int)
              · rw [if_pos c29] at H
                have c29b0 := decide_eq_true c29
                clear c29
                obtain ⟨c30, H⟩ := zG H
                have c30b0 := decide_eq_true c30
                clear c30
                obtain ⟨c31, H⟩ := zG H
                have c31b0 := decide_eq_true c31
                clear c31
                replace H := Option.bind_eq_some_iff.mp H
                obtain ⟨t157, A320, H⟩ := H
                (try dsimp only at H)
                have A32 := Aside0.mk A320
                clear A320
                have H' := Aside0.mk H
                clear H
                have p156 : 0 ≤ (x56_2 : Int) := zOD
                have q156 : x56_2 < (l0_2.length : Int) := zOD
                obtain ⟨ad156, e156, hx156_0⟩ := Kd.at_int HR0_2.out x56_2 p156 q156
                cases e156
                replace hx156_0 := (HB.out.cell (World.block_lt_of_cell? w _ hx156_0)).trans hx156_0
                replace p156 := eq_true p156
                replace q156 := eq_true q156
                obtain ⟨Ao33, co33, eo33⟩ := Kd.R_slice HO_7.out
                subst eo33
                go_wp2_with (first | ((with_reducible refine gate_callee (f := 69) rfl ?_); refine zGo (N := (some 63)) Tryd.func69 #[.slice Ao33 x7_2.length co33, .int .u64 (IntKind.u64.wrap (rd l0_2 x56_2)), .int .i64 8] ?_; (with_reducible refine (image_put.calls k2 (fun k_ => some k_ = (.slice Ao33 x7_2.length co33 : Value).ownBlock) (.slice Ao33 x7_2.length co33) x7_2 (IntKind.u64.wrap (rd l0_2 x56_2)) 8 t157 w _ ?side1 ?side2 A32.out).mono ?_); (case side1 => repeat (first | (with_reducible first | exact HB.out | apply below_alloc | apply pw_below_drewN | apply below_drew1 | refine below_set ?_ GE137.out) | exact HB.out)); (case side2 => exact Kd.R_tight rfl HO_7.out); rintro e w34 ⟨v158, rfl, ho0, hb, hkp⟩; refine ⟨_, rfl, ?_⟩; refine zs (blk_kept (zBK) hkp (fun hs_ => (fun e_ => (Kd.R_ne HO_7.out BK137.out (by decide)) e_) hs_)) (zs (Kd.R_mono (ok' := fun k_ => True) ho0 (fun k_ hk_ => trivial)) (zs (hb) ?_)); clear BK137 HB HO_7; intro HB HO159 BK137; (try clear hb); (try clear hkp); (try clear ho0)))
                go_roundg k2
                case measure => have := HK1.out; have := HK2.out; omega
                case rel => exact ⟨(t157), (wrap64 (x56_2 + 1)), zF', H', ⟨by have := HK1.out; have := HK2.out; omega⟩, ⟨by (with_reducible repeat (first | apply Kd.R_alloc | apply Kd.R_drewN | apply Kd.R_drew)); exact HO159.out⟩, ⟨zBK⟩, ⟨zHB⟩⟩
              · rw [if_neg c29] at H
                have c29b0 := decide_eq_false c29
                clear c29
                replace H := Option.bind_eq_some_iff.mp H
                obtain ⟨t160, A350, H⟩ := H
                (try dsimp only at H)
                have A35 := Aside0.mk A350
                clear A350
                replace H := Option.bind_eq_some_iff.mp H
                obtain ⟨t161, A360, H⟩ := H
                (try dsimp only at H)
                have A36 := Aside0.mk A360
                clear A360
                simp only [Option.some.injEq, Prod.mk.injEq] at H
                obtain ⟨rfl, rfl⟩ := H
                obtain ⟨Ao37, co37, eo37⟩ := Kd.R_slice HO_7.out
                subst eo37
                go_wp2_with (first | ((with_reducible refine gate_callee (f := 32) rfl ?_); refine zGo (N := (some 67)) Tryd.func32 #[.slice Ao37 x7_2.length co37] ?_; (with_reducible refine (image_Sum.calls k2 _ _ x7_2 t160 _ ?side1 ?side2 A35.out).mono ?_); (case side1 => exact zS); (case side2 => exact zS); rintro e w' ⟨rfl, ⟨nd, rfl⟩⟩; refine ⟨_, rfl, ?_⟩) | ((with_reducible refine gate_callee (f := 69) rfl ?_); refine zGo (N := (some 69)) Tryd.func69 #[.slice Ao37 x7_2.length co37, .int .u64 (IntKind.u64.wrap (t160)), .int .i64 4] ?_; (with_reducible refine (image_put.calls k2 (fun k_ => some k_ = (.slice Ao37 x7_2.length co37 : Value).ownBlock) (.slice Ao37 x7_2.length co37) x7_2 (IntKind.u64.wrap (t160)) 4 t161 w _ ?side1 ?side2 A36.out).mono ?_); (case side1 => repeat (first | (with_reducible first | exact HB.out | apply below_alloc | apply pw_below_drewN | apply below_drew1 | refine below_set ?_ GE137.out) | exact HB.out)); (case side2 => exact Kd.R_tight rfl HO_7.out); rintro e w38 ⟨v162, rfl, ho0, hb, hkp⟩; refine ⟨_, rfl, ?_⟩; refine zs (blk_kept (zBK) hkp (fun hs_ => (fun e_ => (Kd.R_ne HO_7.out BK137.out (by decide)) e_) hs_)) (zs (Kd.R_mono (ok' := fun k_ => True) ho0 (fun k_ hk_ => trivial)) (zs (hb) ?_)); clear BK137 HB HO_7; intro HB HO163 BK137; (try clear hb); (try clear hkp); (try clear ho0)))
                go_ret2
                exact ⟨_, zE, by (with_reducible repeat (first | apply Kd.R_alloc | apply Kd.R_drewN | apply Kd.R_drew)); exact HO163.out, zHB⟩
  · rw [if_neg c3] at H
    have c3b0 := beq_eq_false_iff_ne.mpr c3
    have c3b1 := bne_iff_ne.mpr c3
    simp only [Option.some.injEq, Prod.mk.injEq] at H
    obtain ⟨rfl, rfl⟩ := H
    go_enter Tryd.func25, Tryd.ntmps25
    go_wp2_with (first | ((with_reducible refine gate_dst (N := 1) rfl ?_); refine zBox (N := 1) (cs := #[.slice A0_0 l0_0.length c0_0, .int .i64 a0_1, .slice A0_2 l0_2.length c0_2]) (t := 25) ?_; intro gb137 hg w39 hbox hb; refine zs (below_step (zHB) hb) (zs hbox (zs (zGe hg zHB) (zs (zGe hg zHB) ?_))); clear HB; intro GE137 GW137 BK137 HB; clear hb hbox hg; have hcz40 := blk_cell BK137.out; have hfz40 := blk_frozen BK137.out) | ((with_reducible refine gate_callee (f := 23) rfl ?_); refine zGo (N := (some 14)) Tryd.func23 #[.agg #[.slice A0_0 l0_0.length c0_0, .int .i64 a0_1, .slice A0_2 l0_2.length c0_2]] ?_; (with_reducible refine (image_Check.calls k _ _ l0_0 a0_1 _ _ l0_2 t138 t139 _ ?side1 ?side2 ?side3 ?side4 A2.out).mono ?_); (case side1 => exact zS); (case side2 => exact zS); (case side3 => exact zS); (case side4 => exact zS); rintro e w41 ⟨rfl, hb⟩; refine ⟨_, rfl, ?_⟩; refine zs (blk_below (g := gb137) zBK hb) (zs (below_step (zHB) hb) ?_); clear BK137 HB; intro HB BK137; clear hb))
    go_ret2
    exact ⟨_, zE, by first | exact Kd.R_nil _ _ _ _ _ | exact Kd.N_nil _ _ _ _ _ | exact Kd.V_nil _ _ _ _ _ | exact Kd.Q_nil _ _ _ _ _ | exact Kd.S_nil _ _ _ _ _, zHB⟩

end Go.Proofs.YtfgdjpgdabjpmaaDoor.PImageReads
