-- Written for this claim by a program of this session (wip/tools/pp.py, over the kit's print).
import Derived.Test.YtfgdjpgdabjpmaaPImageRoundx0
import Derived.Test.YtfgdjpgdabjpmaaPImageRoundx1
import Derived.Test.YtfgdjpgdabjpmaaPImageRoundx2
import Derived.Test.YtfgdjpgdabjpmaaPImageRoundx3
import Derived.Test.YtfgdjpgdabjpmaaPImageRoundx4
import Derived.Test.YtfgdjpgdabjpmaaPImageRoundx5
import Derived.Test.YtfgdjpgdabjpmaaPImageRoundx6
import Derived.Test.YtfgdjpgdabjpmaaPImageRoundx7
namespace Go.Proofs.Ytfgdjpgdabjpmaa.PImageRound
open Go.RowKit Go.Proofs.YtfgdjpgdabjpmaaW.PrintWords Go.Proofs.YtfgdjpgdabjpmaaW.PrintLast Go.Proofs.YtfgdjpgdabjpmaaW.PrintMore
attribute [local go_sem] max2_int min2_int max_two min_two max_three min_three max_four min_four   -- for this text's walks alone
set_option linter.unusedVariables false
set_option linter.unusedSimpArgs false

/-! ### pleatlaw07_ImageRound: function 4 -/
mutual
def pleatlaw07_ImageRound.j0 : Nat → Int → Int → List Int → Bool → List Int → Int → List Int → Option (Bool)
  | 0, _, _, _, _, _, _, _ => none
  | k + 1, x1, x2, x7, x78, x217000, x217001, x217002 => if x78 = true then (some false) else (pleatlaw07_ImageRound.l0 k x1 x2 x7 0 x217000 x217001 x217002)
def pleatlaw07_ImageRound.l0 : Nat → Int → Int → List Int → Int → List Int → Int → List Int → Option (Bool)
  | 0, _, _, _, _, _, _, _ => none
  | k + 1, x1, x2, x7, x14, x217000, x217001, x217002 => if x14 < (x217000.length : Int) then (if 0 ≤ x14 then ((isa_Target.f k (rd x217000 x14)).bind fun bt255 => (if bt255.2 = true then (if bt255.1 < 0 then (pleatlaw07_ImageRound.j2 k x1 x2 x7 x14 ((wrap64 (x14 + 1)) == (x217000.length : Int)) true x217000 x217001 x217002) else (if bt255.1 ≥ (x217000.length : Int) then (pleatlaw07_ImageRound.j2 k x1 x2 x7 x14 ((wrap64 (x14 + 1)) == (x217000.length : Int)) true x217000 x217001 x217002) else (if (wrap64 (x14 + 1)) = (x217000.length : Int) then ((isa_Falls.f k (rd x217000 x14)).bind fun t258 => (pleatlaw07_ImageRound.j2 k x1 x2 x7 x14 ((wrap64 (x14 + 1)) == (x217000.length : Int)) t258 x217000 x217001 x217002)) else (pleatlaw07_ImageRound.j2 k x1 x2 x7 x14 ((wrap64 (x14 + 1)) == (x217000.length : Int)) false x217000 x217001 x217002)))) else (if (wrap64 (x14 + 1)) = (x217000.length : Int) then ((isa_Falls.f k (rd x217000 x14)).bind fun t260 => (pleatlaw07_ImageRound.j2 k x1 x2 x7 x14 ((wrap64 (x14 + 1)) == (x217000.length : Int)) t260 x217000 x217001 x217002)) else (pleatlaw07_ImageRound.j2 k x1 x2 x7 x14 ((wrap64 (x14 + 1)) == (x217000.length : Int)) false x217000 x217001 x217002)))) else (none)) else (if x1 < 0 then (pleatlaw07_ImageRound.j3 k x1 x2 x7 true) else (if x1 ≥ (x7.length : Int) then (pleatlaw07_ImageRound.j3 k x1 x2 x7 true) else (if 0 ≤ x1 then (if x1 < (x7.length : Int) then (pleatlaw07_ImageRound.j3 k x1 x2 x7 ((rd x7 x1) == x2)) else (none)) else (none))))
def pleatlaw07_ImageRound.j2 : Nat → Int → Int → List Int → Int → Bool → Bool → List Int → Int → List Int → Option (Bool)
  | 0, _, _, _, _, _, _, _, _, _ => none
  | k + 1, x1, x2, x7, x14, x17, x123, x217000, x217001, x217002 => if x123 = true then (some false) else (if 0 ≤ x14 then (if x14 < (x217000.length : Int) then ((isa_Decode.f k (rd x217000 x14)).bind fun bt262 => (if x17 = true then (if bt262.1 = 17 then (some false) else (if bt262.1 = 18 then (some false) else (pleatlaw07_ImageRound.l0 k x1 x2 x7 (wrap64 (x14 + 1)) x217000 x217001 x217002))) else (pleatlaw07_ImageRound.l0 k x1 x2 x7 (wrap64 (x14 + 1)) x217000 x217001 x217002))) else (none)) else (none))
def pleatlaw07_ImageRound.j3 : Nat → Int → Int → List Int → Bool → Option (Bool)
  | 0, _, _, _, _ => none
  | k + 1, x1, x2, x7, x155 => if x155 = true then ((pleatlaw07_lives.f k).bind fun t268 => (some t268)) else ((pleatref00_CopyBytes.f x7).bind fun t269 => (if 0 ≤ x1 then (if x1 < (t269.length : Int) then ((image_Read.f k (t269.set (x1 : Int).toNat x2)).bind fun bt273 => (if bt273.2.2.2.1 = 0 then (some false) else ((pleatlaw07_lives.f k).bind fun t283 => (some t283)))) else (none)) else (none)))
end
def pleatlaw07_ImageRound.f (k : Nat) (l0_0 : List Int) (a0_1 : Int) (l0_2 : List Int) (a1 : Int) (a2 : Int) : Option (Bool) := (pleatlaw07_heavy.f l0_0 a0_1 l0_2).bind fun t217 => (if t217 = true then ((pleatlaw07_lives.f k).bind fun t218 => (some t218)) else ((pleatref00_CopyImage.f l0_0 a0_1 l0_2).bind fun bt219 => ((image_Write.f k bt219.1 bt219.2.1 bt219.2.2).bind fun bt226 => (if bt226.2 = 0 then ((pleatref00_CopyBytes.f bt226.1).bind fun t240 => ((image_Read.f k t240).bind fun bt243 => (if bt243.2.2.2.1 = 0 then ((pleatref00_EqImage.f k bt243.1 bt243.2.1 bt243.2.2.1 l0_0 a0_1 l0_2).bind fun t253 => (if t253 = true then (if a0_1 < 0 then (pleatlaw07_ImageRound.j0 k a1 a2 bt226.1 true l0_0 a0_1 l0_2) else (pleatlaw07_ImageRound.j0 k a1 a2 bt226.1 (decide (a0_1 ≥ (l0_0.length : Int))) l0_0 a0_1 l0_2)) else (pleatlaw07_ImageRound.j0 k a1 a2 bt226.1 true l0_0 a0_1 l0_2))) else (pleatlaw07_ImageRound.j0 k a1 a2 bt226.1 true l0_0 a0_1 l0_2)))) else ((pleatref00_CopyImage.f l0_0 a0_1 l0_2).bind fun bt230 => ((image_Check.f k bt230.1 bt230.2.1 bt230.2.2).bind fun bt237 => (if bt237.1 = bt226.2 then (if (bt226.1.length : Int) = 0 then ((pleatlaw07_lives.f k).bind fun t239 => (some t239)) else (some false)) else (some false))))))))
theorem pleatlaw07_ImageRound.mono_l : ∀ k, (∀ y0 y1 y2 y3 y4 y5 y6, LeO (pleatlaw07_ImageRound.j0 k y0 y1 y2 y3 y4 y5 y6) (pleatlaw07_ImageRound.j0 (k + 1) y0 y1 y2 y3 y4 y5 y6)) ∧ (∀ y0 y1 y2 y3 y4 y5 y6, LeO (pleatlaw07_ImageRound.l0 k y0 y1 y2 y3 y4 y5 y6) (pleatlaw07_ImageRound.l0 (k + 1) y0 y1 y2 y3 y4 y5 y6)) ∧ (∀ y0 y1 y2 y3 y4 y5 y6 y7 y8, LeO (pleatlaw07_ImageRound.j2 k y0 y1 y2 y3 y4 y5 y6 y7 y8) (pleatlaw07_ImageRound.j2 (k + 1) y0 y1 y2 y3 y4 y5 y6 y7 y8)) ∧ (∀ y0 y1 y2 y3, LeO (pleatlaw07_ImageRound.j3 k y0 y1 y2 y3) (pleatlaw07_ImageRound.j3 (k + 1) y0 y1 y2 y3))
  | 0 => ⟨fun _ _ _ _ _ _ _ r h => by simp [pleatlaw07_ImageRound.j0] at h, fun _ _ _ _ _ _ _ r h => by simp [pleatlaw07_ImageRound.l0] at h, fun _ _ _ _ _ _ _ _ _ r h => by simp [pleatlaw07_ImageRound.j2] at h, fun _ _ _ _ r h => by simp [pleatlaw07_ImageRound.j3] at h⟩
  | k + 1 => by
    obtain ⟨ih0, ih1, ih2, ih3⟩ := pleatlaw07_ImageRound.mono_l k
    refine ⟨?_, ?_, ?_, ?_⟩
    · intro y0 y1 y2 y3 y4 y5 y6
      unfold pleatlaw07_ImageRound.j0
      have m0 := @image_Check.mono
      have m1 := @image_Read.mono
      have m2 := @image_Write.mono
      have m3 := @isa_Decode.mono
      have m4 := @isa_Falls.mono
      have m5 := @isa_Target.mono
      have m6 := @pleatlaw07_lives.mono
      have m7 := @pleatref00_EqImage.mono
      exact zMo
    · intro y0 y1 y2 y3 y4 y5 y6
      unfold pleatlaw07_ImageRound.l0
      have m0 := @image_Check.mono
      have m1 := @image_Read.mono
      have m2 := @image_Write.mono
      have m3 := @isa_Decode.mono
      have m4 := @isa_Falls.mono
      have m5 := @isa_Target.mono
      have m6 := @pleatlaw07_lives.mono
      have m7 := @pleatref00_EqImage.mono
      exact zMo
    · intro y0 y1 y2 y3 y4 y5 y6 y7 y8
      unfold pleatlaw07_ImageRound.j2
      have m0 := @image_Check.mono
      have m1 := @image_Read.mono
      have m2 := @image_Write.mono
      have m3 := @isa_Decode.mono
      have m4 := @isa_Falls.mono
      have m5 := @isa_Target.mono
      have m6 := @pleatlaw07_lives.mono
      have m7 := @pleatref00_EqImage.mono
      exact zMo
    · intro y0 y1 y2 y3
      unfold pleatlaw07_ImageRound.j3
      have m0 := @image_Check.mono
      have m1 := @image_Read.mono
      have m2 := @image_Write.mono
      have m3 := @isa_Decode.mono
      have m4 := @isa_Falls.mono
      have m5 := @isa_Target.mono
      have m6 := @pleatlaw07_lives.mono
      have m7 := @pleatref00_EqImage.mono
      exact zMo
theorem pleatlaw07_ImageRound.mono : ∀ a0 a1 a2 a3 a4 k, LeO (pleatlaw07_ImageRound.f k a0 a1 a2 a3 a4) (pleatlaw07_ImageRound.f (k + 1) a0 a1 a2 a3 a4) := by
  intro a0 a1 a2 a3 a4 k
  obtain ⟨ih0, ih1, ih2, ih3⟩ := pleatlaw07_ImageRound.mono_l k
  unfold pleatlaw07_ImageRound.f
  have m0 := @image_Check.mono
  have m1 := @image_Read.mono
  have m2 := @image_Write.mono
  have m3 := @isa_Decode.mono
  have m4 := @isa_Falls.mono
  have m5 := @isa_Target.mono
  have m6 := @pleatlaw07_lives.mono
  have m7 := @pleatref00_EqImage.mono
  exact zMo
set_option maxHeartbeats 8000000 in
set_option maxRecDepth 100000 in
theorem pleatlaw07_ImageRound.calls (k : Nat) (A0_0 : Option Addr) (c0_0 : Nat) (l0_0 : List Int) (a0_1 : Int) (A0_2 : Option Addr) (c0_2 : Nat) (l0_2 : List Int) (a1 : Int) (a2 : Int) (r : Bool) (w : World) (hr0_0 : Kd.C (Kd.int .u32) w A0_0 l0_0.length l0_0) (hc0_0 : l0_0.length ≤ c0_0) (hr0_2 : Kd.C (Kd.int .i64) w A0_2 l0_2.length l0_2) (hc0_2 : l0_2.length ≤ c0_2) (h : pleatlaw07_ImageRound.f k l0_0 a0_1 l0_2 a1 a2 = some r) :
    Calls Try.prog 4 #[.agg #[.slice A0_0 l0_0.length c0_0, .int .i64 a0_1, .slice A0_2 l0_2.length c0_2], .int .i64 a1, .int .u8 a2] w fun e w' => e = .returned (.bool r) ∧ Below w.heap.size w w' := by
  have hu25 := Try.underlying25
  have hfd36_0 : ∀ (x0_ x1_ x2_ x3_ x4_ : Value) (W : World), (Instr.field 36 (.agg #[x0_, x1_, x2_, x3_, x4_]) 0).run Try.prog W = .ok (x0_) W := fun _ _ _ _ _ _ => by kernel_rfl
  have HR0_0 := Aside0.mk hr0_0
  have HC0_0 := Aside0.mk hc0_0
  clear hr0_0 hc0_0
  have HR0_2 := Aside0.mk hr0_2
  have HC0_2 := Aside0.mk hc0_2
  clear hr0_2 hc0_2
  have HB := Aside0.mk (Below.refl w.heap.size w)
  have H := h
  clear h
  unfold pleatlaw07_ImageRound.f at H
  replace H := Option.bind_eq_some_iff.mp H
  obtain ⟨t217, A40, H⟩ := H
  (try dsimp only at H)
  have A4 := Aside0.mk A40
  clear A40
  by_cases c5 : t217 = true
  · subst c5
    rw [if_pos rfl] at H
    replace H := Option.bind_eq_some_iff.mp H
    obtain ⟨t218, A60, H⟩ := H
    (try dsimp only at H)
    have A6 := Aside0.mk A60
    clear A60
    obtain rfl := Option.some.inj H
    go_enter Try.func4, Try.ntmps4
    go_wp2_with (first | ((with_reducible refine gate_dst (N := 3) rfl ?_); (try (refine gate_guard (by rfl) ?_; dsimp only)); refine zBox (N := 3) (cs := #[.slice A0_0 l0_0.length c0_0, .int .i64 a0_1, .slice A0_2 l0_2.length c0_2]) (t := 25) ?_; intro gb216 hg w7 hbox hb; refine zs (below_step (zHB) hb) (zs hbox (zs (zGe hg zHB) (zs (zGe hg zHB) ?_))); clear HB; intro GE216 GW216 BK216 HB; clear hb hbox hg; have hcz8 := blk_cell BK216.out; have hfz8 := blk_frozen BK216.out) | ((with_reducible refine gate_callee (f := 19) rfl ?_); refine zGo (N := (some 24)) Try.func19 #[.agg #[.slice A0_0 l0_0.length c0_0, .int .i64 a0_1, .slice A0_2 l0_2.length c0_2]] ?_; (with_reducible refine (pleatlaw07_heavy.calls _ _ l0_0 a0_1 _ _ l0_2 true _ ?side1 ?side2 ?side3 ?side4 A4.out).mono ?_); (case side1 => exact zS); (case side2 => exact zS); (case side3 => exact zS); (case side4 => exact zS); rintro e w9 ⟨rfl, hb⟩; refine ⟨_, rfl, ?_⟩; refine zs (blk_below (g := gb216) zBK hb) (zs (below_step (zHB) hb) ?_); clear BK216 HB; intro HB BK216; clear hb) | ((with_reducible refine gate_callee (f := 20) rfl ?_); refine zGo (N := (some 25)) Try.func20 #[] ?_; (with_reducible refine (pleatlaw07_lives.calls k  t218 _ A6.out).mono ?_); rintro e w10 ⟨rfl, hb⟩; refine ⟨_, rfl, ?_⟩; refine zs (blk_below (g := gb216) zBK hb) (zs (below_step (zHB) hb) ?_); clear BK216 HB; intro HB BK216; clear hb))
    go_ret
    exact ⟨zE, zHB⟩
  · replace c5 := Bool.eq_false_iff.mpr c5
    subst c5
    rw [if_neg (show ¬ (false = true) by decide)] at H
    replace H := Option.bind_eq_some_iff.mp H
    obtain ⟨⟨t219, t222, t223⟩, A110, H⟩ := H
    (try dsimp only at H)
    have A11 := Aside0.mk A110
    clear A110
    replace H := Option.bind_eq_some_iff.mp H
    obtain ⟨⟨t226, t229⟩, A120, H⟩ := H
    (try dsimp only at H)
    have A12 := Aside0.mk A120
    clear A120
    by_cases c13 : t229 = 0
    · rw [if_pos c13] at H
      have c13b0 := beq_iff_eq.mpr c13
      have c13b1 := bne_eq_false_iff_eq.mpr c13
      clear c13
      replace H := Option.bind_eq_some_iff.mp H
      obtain ⟨t240, A140, H⟩ := H
      (try dsimp only at H)
      have A14 := Aside0.mk A140
      clear A140
      replace H := Option.bind_eq_some_iff.mp H
      obtain ⟨⟨t243, t246, t247, t250, t251⟩, A150, H⟩ := H
      (try dsimp only at H)
      have A15 := Aside0.mk A150
      clear A150
      have HC16 := Aside0.mk H
      clear H
      go_enter Try.func4, Try.ntmps4
      go_upto_region 8 with (first | ((with_reducible refine gate_dst (N := 3) rfl ?_); (try (refine gate_guard (by rfl) ?_; dsimp only)); refine zBox (N := 3) (cs := #[.slice A0_0 l0_0.length c0_0, .int .i64 a0_1, .slice A0_2 l0_2.length c0_2]) (t := 25) ?_; intro gb216 hg w17 hbox hb; refine zs (below_step (zHB) hb) (zs hbox (zs (zGe hg zHB) (zs (zGe hg zHB) ?_))); clear HB; intro GE216 GW216 BK216 HB; clear hb hbox hg; have hcz18 := blk_cell BK216.out; have hfz18 := blk_frozen BK216.out) | ((with_reducible refine gate_callee (f := 19) rfl ?_); refine zGo (N := (some 24)) Try.func19 #[.agg #[.slice A0_0 l0_0.length c0_0, .int .i64 a0_1, .slice A0_2 l0_2.length c0_2]] ?_; (with_reducible refine (pleatlaw07_heavy.calls _ _ l0_0 a0_1 _ _ l0_2 false _ ?side1 ?side2 ?side3 ?side4 A4.out).mono ?_); (case side1 => exact zS); (case side2 => exact zS); (case side3 => exact zS); (case side4 => exact zS); rintro e w19 ⟨rfl, hb⟩; refine ⟨_, rfl, ?_⟩; refine zs (blk_below (g := gb216) zBK hb) (zs (below_step (zHB) hb) ?_); clear BK216 HB; intro HB BK216; clear hb; have hcz20 := blk_cell BK216.out; have hfz20 := blk_frozen BK216.out) | ((with_reducible refine gate_callee (f := 15) rfl ?_); refine zGo (N := (some 28)) Try.func15 #[.agg #[.slice A0_0 l0_0.length c0_0, .int .i64 a0_1, .slice A0_2 l0_2.length c0_2]] ?_; (with_reducible refine (pleatref00_CopyImage.calls _ _ l0_0 a0_1 _ _ l0_2 t219 t222 t223 _ ?side1 ?side2 ?side3 ?side4 A11.out).mono ?_); (case side1 => exact zS); (case side2 => exact zS); (case side3 => exact zS); (case side4 => exact zS); rintro e w21 ⟨v220, v224, rfl, ho0, ho1, hb⟩; refine ⟨_, rfl, ?_⟩; refine zs (Kd.R_lower ho0 (below_size (zHB))) (zs (Kd.R_lower ho1 (below_size (zHB))) (zs (blk_below (g := gb216) zBK hb) (zs (below_step (zHB) hb) ?_))); clear BK216 HB; intro HB BK216 HO225 HO221; clear hb ho0 ho1; obtain ⟨Ao22, co22, eo22⟩ := Kd.R_slice HO221.out; subst eo22; obtain ⟨Ao23, co23, eo23⟩ := Kd.R_slice HO225.out; subst eo23) | ((with_reducible refine gate_callee (f := 21) rfl ?_); refine zGo (N := (some 29)) Try.func21 #[.agg #[.slice Ao22 t219.length co22, .int .i64 t222, .slice Ao23 t223.length co23]] ?_; (with_reducible refine (image_Write.calls k _ _ t219 t222 _ _ t223 t226 t229 _ ?side1 ?side2 ?side3 ?side4 A12.out).mono ?_); (case side1 => exact zS); (case side2 => exact zS); (case side3 => exact zS); (case side4 => exact zS); rintro e w24 ⟨v227, rfl, ho0, hb⟩; refine ⟨_, rfl, ?_⟩; refine zs (Kd.R_below (by (with_reducible repeat (first | apply Kd.R_alloc | apply Kd.R_drewN | apply Kd.R_drew)); exact HO221.out) hb) (zs (Kd.R_below (by (with_reducible repeat (first | apply Kd.R_alloc | apply Kd.R_drewN | apply Kd.R_drew)); exact HO225.out) hb) (zs (Kd.R_lower ho0 (below_size (zHB))) (zs (blk_below (g := gb216) zBK hb) (zs (below_step (zHB) hb) ?_)))); clear HO221 HO225 BK216 HB; intro HB BK216 HO228 HO225 HO221; clear hb ho0; obtain ⟨Ao25, co25, eo25⟩ := Kd.R_slice HO228.out; subst eo25) | ((with_reducible refine gate_callee (f := 24) rfl ?_); refine zGo (N := (some 53)) Try.func24 #[.slice Ao25 t226.length co25] ?_; (with_reducible refine (pleatref00_CopyBytes.calls _ _ t226 t240 _ ?side1 ?side2 A14.out).mono ?_); (case side1 => exact zS); (case side2 => exact zS); rintro e w26 ⟨v241, rfl, ho0, hb⟩; refine ⟨_, rfl, ?_⟩; refine zs (Kd.R_below (by (with_reducible repeat (first | apply Kd.R_alloc | apply Kd.R_drewN | apply Kd.R_drew)); exact HO221.out) hb) (zs (Kd.R_below (by (with_reducible repeat (first | apply Kd.R_alloc | apply Kd.R_drewN | apply Kd.R_drew)); exact HO225.out) hb) (zs (Kd.R_elder' (by (with_reducible repeat (first | apply Kd.R_alloc | apply Kd.R_drewN | apply Kd.R_drew)); exact HO228.out) (Kd.R_base ho0) hb) (zs (Kd.R_lower (Kd.R_new' ho0 (Kd.R_lt (by (with_reducible repeat (first | apply Kd.R_alloc | apply Kd.R_drewN | apply Kd.R_drew)); exact HO228.out))) (below_size (zHB))) (zs (blk_below (g := gb216) zBK hb) (zs (below_step (zHB) hb) ?_))))); clear HO221 HO225 HO228 BK216 HB; intro HB BK216 HO242 HO228 HO225 HO221; clear hb ho0; obtain ⟨Ao27, co27, eo27⟩ := Kd.R_slice HO242.out; subst eo27) | ((with_reducible refine gate_callee (f := 23) rfl ?_); refine zGo (N := (some 54)) Try.func23 #[.slice Ao27 t240.length co27] ?_; (with_reducible refine (image_Read.calls k _ _ t240 t243 t246 t247 t250 t251 _ ?side1 ?side2 A15.out).mono ?_); (case side1 => exact zS); (case side2 => exact zS); rintro e w28 ⟨v244, v248, rfl, ho0, ho1, hb⟩; refine ⟨_, rfl, ?_⟩; refine zs (Kd.R_elder' (by (with_reducible repeat (first | apply Kd.R_alloc | apply Kd.R_drewN | apply Kd.R_drew)); exact HO221.out) (Kd.R_base ho0) hb) (zs (Kd.R_elder' (by (with_reducible repeat (first | apply Kd.R_alloc | apply Kd.R_drewN | apply Kd.R_drew)); exact HO225.out) (Kd.R_base ho1) hb) (zs (Kd.R_below (by (with_reducible repeat (first | apply Kd.R_alloc | apply Kd.R_drewN | apply Kd.R_drew)); exact HO228.out) hb) (zs (Kd.R_below (by (with_reducible repeat (first | apply Kd.R_alloc | apply Kd.R_drewN | apply Kd.R_drew)); exact HO242.out) hb) (zs (Kd.R_lower (Kd.R_new' ho0 (Kd.R_lt (by (with_reducible repeat (first | apply Kd.R_alloc | apply Kd.R_drewN | apply Kd.R_drew)); exact HO221.out))) (below_size (zHB))) (zs (Kd.R_lower (Kd.R_new' ho1 (Kd.R_lt (by (with_reducible repeat (first | apply Kd.R_alloc | apply Kd.R_drewN | apply Kd.R_drew)); exact HO225.out))) (below_size (zHB))) (zs (blk_below (g := gb216) zBK hb) (zs (below_step (zHB) hb) ?_))))))); clear HO221 HO225 HO228 HO242 BK216 HB; intro HB BK216 HO249 HO245 HO242 HO228 HO225 HO221; clear hb ho0 ho1) | ((with_reducible refine gate_dst (N := 11) rfl ?_); (try (refine gate_guard (by rfl) ?_; dsimp only)); refine zBox (N := 11) (cs := #[.slice none 0 0, .int .i64 0, .slice none 0 0]) (t := 25) ?_; intro gb252 hg w29 hbox hb; refine zs (Kd.R_below (by (with_reducible repeat (first | apply Kd.R_alloc | apply Kd.R_drewN | apply Kd.R_drew)); exact HO221.out) hb) (zs (Kd.R_below (by (with_reducible repeat (first | apply Kd.R_alloc | apply Kd.R_drewN | apply Kd.R_drew)); exact HO225.out) hb) (zs (Kd.R_below (by (with_reducible repeat (first | apply Kd.R_alloc | apply Kd.R_drewN | apply Kd.R_drew)); exact HO228.out) hb) (zs (Kd.R_below (by (with_reducible repeat (first | apply Kd.R_alloc | apply Kd.R_drewN | apply Kd.R_drew)); exact HO242.out) hb) (zs (Kd.R_below (by (with_reducible repeat (first | apply Kd.R_alloc | apply Kd.R_drewN | apply Kd.R_drew)); exact HO245.out) hb) (zs (Kd.R_below (by (with_reducible repeat (first | apply Kd.R_alloc | apply Kd.R_drewN | apply Kd.R_drew)); exact HO249.out) hb) (zs (blk_below (g := gb216) zBK hb) (zs (below_step (zHB) hb) (zs hbox (zs (zGe hg zHB) (zs (zGe hg zHB) (zs (zNl hg zBK : gb216 ≠ gb252) (zs ((zNg hg zBK : gb252 ≠ gb216)) ?_)))))))))))); clear HO221 HO225 HO228 HO242 HO245 HO249 BK216 HB; intro NB252_216 NB216_252 GE252 GW252 BK252 HB BK216 HO249 HO245 HO242 HO228 HO225 HO221; clear hb hbox hg; obtain ⟨Ao30, co30, eo30⟩ := Kd.R_slice HO245.out; subst eo30; have hnb31 := NB252_216.out; have hnc31 := NB216_252.out; have hcz32 := blk_cell BK252.out; have hfz32 := blk_frozen BK252.out; obtain ⟨Ao33, co33, eo33⟩ := Kd.R_slice HO249.out; subst eo33))
      (try simp only [Act.put, List.setIfInBounds_toArray, List.set_cons_zero, List.set_cons_succ])
      go_cut [78] (fun v78 wc => ∃ (kq : Nat) (x78_15 : Bool), v78 = .bool x78_15 ∧ Aside0 (pleatlaw07_ImageRound.j0 kq a1 a2 t226 x78_15 l0_0 a0_1 l0_2 = some r) ∧ Aside0 (kq ≤ k) ∧ Aside0 (Kd.R (Kd.int .u8) 5 wc w.heap.size (fun _ => True) (.slice Ao25 t226.length co25) t226) ∧ Aside0 (Kd.R (Kd.int .u32) 38 wc w.heap.size (fun _ => True) (.slice Ao30 t243.length co30) t243) ∧ Aside0 (Kd.R (Kd.int .i64) 2 wc w.heap.size (fun _ => True) (.slice Ao33 t247.length co33) t247) ∧ Aside0 (wc.heap[gb216]? = some (.cells #[(.slice A0_0 l0_0.length c0_0), .int .i64 a0_1, (.slice A0_2 l0_2.length c0_2)] 25 (0, 0))) ∧ Aside0 (wc.heap[gb252]? = some (.cells #[(.slice Ao30 t243.length co30), .int .i64 t246, (.slice Ao33 t247.length co33)] 25 (0, 0))) ∧ Aside0 (Below w.heap.size w wc))
      case first =>
        have H := HC16.out
        clear HC16
        by_cases c34 : t250 = 0
        · rw [if_pos c34] at H
          have c34b0 := beq_iff_eq.mpr c34
          have c34b1 := bne_eq_false_iff_eq.mpr c34
          clear c34
          (first | rw [c34b0] | (simp only [i64_w, i32_w]; rw [c34b0]) | skip)
          replace H := Option.bind_eq_some_iff.mp H
          obtain ⟨t253, A350, H⟩ := H
          (try dsimp only at H)
          have A35 := Aside0.mk A350
          clear A350
          by_cases c36 : t253 = true
          · subst c36
            rw [if_pos rfl] at H
            by_cases c37 : a0_1 < 0
            · rw [if_pos c37] at H
              have c37b0 := decide_eq_true c37
              clear c37
              have H' := Aside0.mk H
              clear H
              have hnb38 := NB252_216.out
              have hnc38 := NB216_252.out
              have hcz39 := blk_cell BK252.out
              have hfz39 := blk_frozen BK252.out
              have hcz40 := blk_cell BK216.out
              have hfz40 := blk_frozen BK216.out
              go_wp2_with (first | (go_at_call 25; (with_reducible refine (pleatref00_EqImage.calls k _ _ t243 t246 _ _ t247 _ _ l0_0 a0_1 _ _ l0_2 true _ ?side1 ?side2 ?side3 ?side4 ?side5 ?side6 ?side7 ?side8 A35.out).mono ?_); (case side1 => refine (Kd.R_reads' (e := 38) (base := w.heap.size) (ok := fun k_ => (True ∧ some k_ ≠ (.slice Ao22 t219.length co22 : Value).ownBlock)) (n := t243.length) (c := co30) ?_).2.2; exact (by (with_reducible repeat (first | apply Kd.R_alloc | apply Kd.R_drewN | apply Kd.R_drew)); exact (Kd.R_mono (Kd.R_far (p := ⟨gb252, 2, none⟩) (Kd.R_far (p := ⟨gb252, 1, none⟩) (Kd.R_far (p := ⟨gb252, 0, none⟩) (Kd.R_types HO245.out BK252.out (by decide)) (fun _ hk => hk.2) (.slice Ao30 t243.length co30)) (fun _ hk => hk.2) (.int .i64 t246)) (fun _ hk => hk.2) (.slice Ao33 t247.length co33)) (fun _ h_ => h_.1)))); (case side2 => exact zS); (case side3 => refine (Kd.R_reads' (e := 2) (base := w.heap.size) (ok := fun k_ => (True ∧ some k_ ≠ (.slice Ao23 t223.length co23 : Value).ownBlock)) (n := t247.length) (c := co33) ?_).2.2; exact (by (with_reducible repeat (first | apply Kd.R_alloc | apply Kd.R_drewN | apply Kd.R_drew)); exact (Kd.R_mono (Kd.R_far (p := ⟨gb252, 2, none⟩) (Kd.R_far (p := ⟨gb252, 1, none⟩) (Kd.R_far (p := ⟨gb252, 0, none⟩) (Kd.R_types HO249.out BK252.out (by decide)) (fun _ hk => hk.2) (.slice Ao30 t243.length co30)) (fun _ hk => hk.2) (.int .i64 t246)) (fun _ hk => hk.2) (.slice Ao33 t247.length co33)) (fun _ h_ => h_.1)))); (case side4 => exact zS); (case side5 => exact Kd.C_below HR0_0.out (zHB)); (case side6 => exact zS); (case side7 => exact Kd.C_below HR0_2.out (zHB)); (case side8 => exact zS); rintro e w41 ⟨rfl, hb⟩; refine zs (Kd.R_below (by (with_reducible repeat (first | apply Kd.R_alloc | apply Kd.R_drewN | apply Kd.R_drew)); exact (Kd.R_mono (Kd.R_far (p := ⟨gb252, 2, none⟩) (Kd.R_far (p := ⟨gb252, 1, none⟩) (Kd.R_far (p := ⟨gb252, 0, none⟩) (Kd.R_types HO221.out BK252.out (by decide)) (fun _ hk => hk.2) (.slice Ao30 t243.length co30)) (fun _ hk => hk.2) (.int .i64 t246)) (fun _ hk => hk.2) (.slice Ao33 t247.length co33)) (fun _ h_ => h_.1))) hb) (zs (Kd.R_below (by (with_reducible repeat (first | apply Kd.R_alloc | apply Kd.R_drewN | apply Kd.R_drew)); exact (Kd.R_mono (Kd.R_far (p := ⟨gb252, 2, none⟩) (Kd.R_far (p := ⟨gb252, 1, none⟩) (Kd.R_far (p := ⟨gb252, 0, none⟩) (Kd.R_types HO225.out BK252.out (by decide)) (fun _ hk => hk.2) (.slice Ao30 t243.length co30)) (fun _ hk => hk.2) (.int .i64 t246)) (fun _ hk => hk.2) (.slice Ao33 t247.length co33)) (fun _ h_ => h_.1))) hb) (zs (Kd.R_below (by (with_reducible repeat (first | apply Kd.R_alloc | apply Kd.R_drewN | apply Kd.R_drew)); exact (Kd.R_mono (Kd.R_far (p := ⟨gb252, 2, none⟩) (Kd.R_far (p := ⟨gb252, 1, none⟩) (Kd.R_far (p := ⟨gb252, 0, none⟩) (Kd.R_types HO228.out BK252.out (by decide)) (fun _ hk => hk.2) (.slice Ao30 t243.length co30)) (fun _ hk => hk.2) (.int .i64 t246)) (fun _ hk => hk.2) (.slice Ao33 t247.length co33)) (fun _ h_ => h_.1))) hb) (zs (Kd.R_below (by (with_reducible repeat (first | apply Kd.R_alloc | apply Kd.R_drewN | apply Kd.R_drew)); exact (Kd.R_mono (Kd.R_far (p := ⟨gb252, 2, none⟩) (Kd.R_far (p := ⟨gb252, 1, none⟩) (Kd.R_far (p := ⟨gb252, 0, none⟩) (Kd.R_types HO242.out BK252.out (by decide)) (fun _ hk => hk.2) (.slice Ao30 t243.length co30)) (fun _ hk => hk.2) (.int .i64 t246)) (fun _ hk => hk.2) (.slice Ao33 t247.length co33)) (fun _ h_ => h_.1))) hb) (zs (Kd.R_below (by (with_reducible repeat (first | apply Kd.R_alloc | apply Kd.R_drewN | apply Kd.R_drew)); exact (Kd.R_mono (Kd.R_far (p := ⟨gb252, 2, none⟩) (Kd.R_far (p := ⟨gb252, 1, none⟩) (Kd.R_far (p := ⟨gb252, 0, none⟩) (Kd.R_types HO245.out BK252.out (by decide)) (fun _ hk => hk.2) (.slice Ao30 t243.length co30)) (fun _ hk => hk.2) (.int .i64 t246)) (fun _ hk => hk.2) (.slice Ao33 t247.length co33)) (fun _ h_ => h_.1))) hb) (zs (Kd.R_below (by (with_reducible repeat (first | apply Kd.R_alloc | apply Kd.R_drewN | apply Kd.R_drew)); exact (Kd.R_mono (Kd.R_far (p := ⟨gb252, 2, none⟩) (Kd.R_far (p := ⟨gb252, 1, none⟩) (Kd.R_far (p := ⟨gb252, 0, none⟩) (Kd.R_types HO249.out BK252.out (by decide)) (fun _ hk => hk.2) (.slice Ao30 t243.length co30)) (fun _ hk => hk.2) (.int .i64 t246)) (fun _ hk => hk.2) (.slice Ao33 t247.length co33)) (fun _ h_ => h_.1))) hb) (zs (blk_below (g := gb216) zBK hb) (zs (blk_below (g := gb252) (o := .cells #[.slice Ao30 t243.length co30, .int .i64 t246, .slice Ao33 t247.length co33] 25 (0, 0)) (zBK) hb) (zs (below_step (zHB) hb) ?_)))))))); clear HO221 HO225 HO228 HO242 HO245 HO249 BK216 BK252 HB; intro HB BK252 BK216 HO249 HO245 HO242 HO228 HO225 HO221; clear hb; have hcz42 := blk_cell BK216.out; have hfz42 := blk_frozen BK216.out))
              go_meet
              case rel => exact ⟨_, (true), zF', H', ⟨zL⟩, ⟨by (with_reducible repeat (first | apply Kd.R_alloc | apply Kd.R_drewN | apply Kd.R_drew)); exact Kd.R_mono HO228.out (fun _ hk => trivial)⟩, ⟨by (with_reducible repeat (first | apply Kd.R_alloc | apply Kd.R_drewN | apply Kd.R_drew)); exact Kd.R_mono HO245.out (fun _ hk => trivial)⟩, ⟨by (with_reducible repeat (first | apply Kd.R_alloc | apply Kd.R_drewN | apply Kd.R_drew)); exact Kd.R_mono HO249.out (fun _ hk => trivial)⟩, ⟨zBK⟩, ⟨zBK⟩, ⟨zHB⟩⟩
            · rw [if_neg c37] at H
              have c37b0 := decide_eq_false c37
              clear c37
              have H' := Aside0.mk H
              clear H
              have hnb43 := NB252_216.out
              have hnc43 := NB216_252.out
              have hcz44 := blk_cell BK252.out
              have hfz44 := blk_frozen BK252.out
              have hcz45 := blk_cell BK216.out
              have hfz45 := blk_frozen BK216.out
              go_wp2_with (first | (go_at_call 25; (with_reducible refine (pleatref00_EqImage.calls k _ _ t243 t246 _ _ t247 _ _ l0_0 a0_1 _ _ l0_2 true _ ?side1 ?side2 ?side3 ?side4 ?side5 ?side6 ?side7 ?side8 A35.out).mono ?_); (case side1 => refine (Kd.R_reads' (e := 38) (base := w.heap.size) (ok := fun k_ => (True ∧ some k_ ≠ (.slice Ao22 t219.length co22 : Value).ownBlock)) (n := t243.length) (c := co30) ?_).2.2; exact (by (with_reducible repeat (first | apply Kd.R_alloc | apply Kd.R_drewN | apply Kd.R_drew)); exact (Kd.R_mono (Kd.R_far (p := ⟨gb252, 2, none⟩) (Kd.R_far (p := ⟨gb252, 1, none⟩) (Kd.R_far (p := ⟨gb252, 0, none⟩) (Kd.R_types HO245.out BK252.out (by decide)) (fun _ hk => hk.2) (.slice Ao30 t243.length co30)) (fun _ hk => hk.2) (.int .i64 t246)) (fun _ hk => hk.2) (.slice Ao33 t247.length co33)) (fun _ h_ => h_.1)))); (case side2 => exact zS); (case side3 => refine (Kd.R_reads' (e := 2) (base := w.heap.size) (ok := fun k_ => (True ∧ some k_ ≠ (.slice Ao23 t223.length co23 : Value).ownBlock)) (n := t247.length) (c := co33) ?_).2.2; exact (by (with_reducible repeat (first | apply Kd.R_alloc | apply Kd.R_drewN | apply Kd.R_drew)); exact (Kd.R_mono (Kd.R_far (p := ⟨gb252, 2, none⟩) (Kd.R_far (p := ⟨gb252, 1, none⟩) (Kd.R_far (p := ⟨gb252, 0, none⟩) (Kd.R_types HO249.out BK252.out (by decide)) (fun _ hk => hk.2) (.slice Ao30 t243.length co30)) (fun _ hk => hk.2) (.int .i64 t246)) (fun _ hk => hk.2) (.slice Ao33 t247.length co33)) (fun _ h_ => h_.1)))); (case side4 => exact zS); (case side5 => exact Kd.C_below HR0_0.out (zHB)); (case side6 => exact zS); (case side7 => exact Kd.C_below HR0_2.out (zHB)); (case side8 => exact zS); rintro e w46 ⟨rfl, hb⟩; refine zs (Kd.R_below (by (with_reducible repeat (first | apply Kd.R_alloc | apply Kd.R_drewN | apply Kd.R_drew)); exact (Kd.R_mono (Kd.R_far (p := ⟨gb252, 2, none⟩) (Kd.R_far (p := ⟨gb252, 1, none⟩) (Kd.R_far (p := ⟨gb252, 0, none⟩) (Kd.R_types HO221.out BK252.out (by decide)) (fun _ hk => hk.2) (.slice Ao30 t243.length co30)) (fun _ hk => hk.2) (.int .i64 t246)) (fun _ hk => hk.2) (.slice Ao33 t247.length co33)) (fun _ h_ => h_.1))) hb) (zs (Kd.R_below (by (with_reducible repeat (first | apply Kd.R_alloc | apply Kd.R_drewN | apply Kd.R_drew)); exact (Kd.R_mono (Kd.R_far (p := ⟨gb252, 2, none⟩) (Kd.R_far (p := ⟨gb252, 1, none⟩) (Kd.R_far (p := ⟨gb252, 0, none⟩) (Kd.R_types HO225.out BK252.out (by decide)) (fun _ hk => hk.2) (.slice Ao30 t243.length co30)) (fun _ hk => hk.2) (.int .i64 t246)) (fun _ hk => hk.2) (.slice Ao33 t247.length co33)) (fun _ h_ => h_.1))) hb) (zs (Kd.R_below (by (with_reducible repeat (first | apply Kd.R_alloc | apply Kd.R_drewN | apply Kd.R_drew)); exact (Kd.R_mono (Kd.R_far (p := ⟨gb252, 2, none⟩) (Kd.R_far (p := ⟨gb252, 1, none⟩) (Kd.R_far (p := ⟨gb252, 0, none⟩) (Kd.R_types HO228.out BK252.out (by decide)) (fun _ hk => hk.2) (.slice Ao30 t243.length co30)) (fun _ hk => hk.2) (.int .i64 t246)) (fun _ hk => hk.2) (.slice Ao33 t247.length co33)) (fun _ h_ => h_.1))) hb) (zs (Kd.R_below (by (with_reducible repeat (first | apply Kd.R_alloc | apply Kd.R_drewN | apply Kd.R_drew)); exact (Kd.R_mono (Kd.R_far (p := ⟨gb252, 2, none⟩) (Kd.R_far (p := ⟨gb252, 1, none⟩) (Kd.R_far (p := ⟨gb252, 0, none⟩) (Kd.R_types HO242.out BK252.out (by decide)) (fun _ hk => hk.2) (.slice Ao30 t243.length co30)) (fun _ hk => hk.2) (.int .i64 t246)) (fun _ hk => hk.2) (.slice Ao33 t247.length co33)) (fun _ h_ => h_.1))) hb) (zs (Kd.R_below (by (with_reducible repeat (first | apply Kd.R_alloc | apply Kd.R_drewN | apply Kd.R_drew)); exact (Kd.R_mono (Kd.R_far (p := ⟨gb252, 2, none⟩) (Kd.R_far (p := ⟨gb252, 1, none⟩) (Kd.R_far (p := ⟨gb252, 0, none⟩) (Kd.R_types HO245.out BK252.out (by decide)) (fun _ hk => hk.2) (.slice Ao30 t243.length co30)) (fun _ hk => hk.2) (.int .i64 t246)) (fun _ hk => hk.2) (.slice Ao33 t247.length co33)) (fun _ h_ => h_.1))) hb) (zs (Kd.R_below (by (with_reducible repeat (first | apply Kd.R_alloc | apply Kd.R_drewN | apply Kd.R_drew)); exact (Kd.R_mono (Kd.R_far (p := ⟨gb252, 2, none⟩) (Kd.R_far (p := ⟨gb252, 1, none⟩) (Kd.R_far (p := ⟨gb252, 0, none⟩) (Kd.R_types HO249.out BK252.out (by decide)) (fun _ hk => hk.2) (.slice Ao30 t243.length co30)) (fun _ hk => hk.2) (.int .i64 t246)) (fun _ hk => hk.2) (.slice Ao33 t247.length co33)) (fun _ h_ => h_.1))) hb) (zs (blk_below (g := gb216) zBK hb) (zs (blk_below (g := gb252) (o := .cells #[.slice Ao30 t243.length co30, .int .i64 t246, .slice Ao33 t247.length co33] 25 (0, 0)) (zBK) hb) (zs (below_step (zHB) hb) ?_)))))))); clear HO221 HO225 HO228 HO242 HO245 HO249 BK216 BK252 HB; intro HB BK252 BK216 HO249 HO245 HO242 HO228 HO225 HO221; clear hb; have hcz47 := blk_cell BK216.out; have hfz47 := blk_frozen BK216.out))
              go_meet
              case rel => exact ⟨_, (decide (a0_1 ≥ (l0_0.length : Int))), zF', H', ⟨zL⟩, ⟨by (with_reducible repeat (first | apply Kd.R_alloc | apply Kd.R_drewN | apply Kd.R_drew)); exact Kd.R_mono HO228.out (fun _ hk => trivial)⟩, ⟨by (with_reducible repeat (first | apply Kd.R_alloc | apply Kd.R_drewN | apply Kd.R_drew)); exact Kd.R_mono HO245.out (fun _ hk => trivial)⟩, ⟨by (with_reducible repeat (first | apply Kd.R_alloc | apply Kd.R_drewN | apply Kd.R_drew)); exact Kd.R_mono HO249.out (fun _ hk => trivial)⟩, ⟨zBK⟩, ⟨zBK⟩, ⟨zHB⟩⟩
          · replace c36 := Bool.eq_false_iff.mpr c36
            subst c36
            rw [if_neg (show ¬ (false = true) by decide)] at H
            have H' := Aside0.mk H
            clear H
            have hnb48 := NB252_216.out
            have hnc48 := NB216_252.out
            have hcz49 := blk_cell BK252.out
            have hfz49 := blk_frozen BK252.out
            have hcz50 := blk_cell BK216.out
            have hfz50 := blk_frozen BK216.out
            go_wp2_with (first | (go_at_call 25; (with_reducible refine (pleatref00_EqImage.calls k _ _ t243 t246 _ _ t247 _ _ l0_0 a0_1 _ _ l0_2 false _ ?side1 ?side2 ?side3 ?side4 ?side5 ?side6 ?side7 ?side8 A35.out).mono ?_); (case side1 => refine (Kd.R_reads' (e := 38) (base := w.heap.size) (ok := fun k_ => (True ∧ some k_ ≠ (.slice Ao22 t219.length co22 : Value).ownBlock)) (n := t243.length) (c := co30) ?_).2.2; exact (by (with_reducible repeat (first | apply Kd.R_alloc | apply Kd.R_drewN | apply Kd.R_drew)); exact (Kd.R_mono (Kd.R_far (p := ⟨gb252, 2, none⟩) (Kd.R_far (p := ⟨gb252, 1, none⟩) (Kd.R_far (p := ⟨gb252, 0, none⟩) (Kd.R_types HO245.out BK252.out (by decide)) (fun _ hk => hk.2) (.slice Ao30 t243.length co30)) (fun _ hk => hk.2) (.int .i64 t246)) (fun _ hk => hk.2) (.slice Ao33 t247.length co33)) (fun _ h_ => h_.1)))); (case side2 => exact zS); (case side3 => refine (Kd.R_reads' (e := 2) (base := w.heap.size) (ok := fun k_ => (True ∧ some k_ ≠ (.slice Ao23 t223.length co23 : Value).ownBlock)) (n := t247.length) (c := co33) ?_).2.2; exact (by (with_reducible repeat (first | apply Kd.R_alloc | apply Kd.R_drewN | apply Kd.R_drew)); exact (Kd.R_mono (Kd.R_far (p := ⟨gb252, 2, none⟩) (Kd.R_far (p := ⟨gb252, 1, none⟩) (Kd.R_far (p := ⟨gb252, 0, none⟩) (Kd.R_types HO249.out BK252.out (by decide)) (fun _ hk => hk.2) (.slice Ao30 t243.length co30)) (fun _ hk => hk.2) (.int .i64 t246)) (fun _ hk => hk.2) (.slice Ao33 t247.length co33)) (fun _ h_ => h_.1)))); (case side4 => exact zS); (case side5 => exact Kd.C_below HR0_0.out (zHB)); (case side6 => exact zS); (case side7 => exact Kd.C_below HR0_2.out (zHB)); (case side8 => exact zS); rintro e w51 ⟨rfl, hb⟩; refine zs (Kd.R_below (by (with_reducible repeat (first | apply Kd.R_alloc | apply Kd.R_drewN | apply Kd.R_drew)); exact (Kd.R_mono (Kd.R_far (p := ⟨gb252, 2, none⟩) (Kd.R_far (p := ⟨gb252, 1, none⟩) (Kd.R_far (p := ⟨gb252, 0, none⟩) (Kd.R_types HO221.out BK252.out (by decide)) (fun _ hk => hk.2) (.slice Ao30 t243.length co30)) (fun _ hk => hk.2) (.int .i64 t246)) (fun _ hk => hk.2) (.slice Ao33 t247.length co33)) (fun _ h_ => h_.1))) hb) (zs (Kd.R_below (by (with_reducible repeat (first | apply Kd.R_alloc | apply Kd.R_drewN | apply Kd.R_drew)); exact (Kd.R_mono (Kd.R_far (p := ⟨gb252, 2, none⟩) (Kd.R_far (p := ⟨gb252, 1, none⟩) (Kd.R_far (p := ⟨gb252, 0, none⟩) (Kd.R_types HO225.out BK252.out (by decide)) (fun _ hk => hk.2) (.slice Ao30 t243.length co30)) (fun _ hk => hk.2) (.int .i64 t246)) (fun _ hk => hk.2) (.slice Ao33 t247.length co33)) (fun _ h_ => h_.1))) hb) (zs (Kd.R_below (by (with_reducible repeat (first | apply Kd.R_alloc | apply Kd.R_drewN | apply Kd.R_drew)); exact (Kd.R_mono (Kd.R_far (p := ⟨gb252, 2, none⟩) (Kd.R_far (p := ⟨gb252, 1, none⟩) (Kd.R_far (p := ⟨gb252, 0, none⟩) (Kd.R_types HO228.out BK252.out (by decide)) (fun _ hk => hk.2) (.slice Ao30 t243.length co30)) (fun _ hk => hk.2) (.int .i64 t246)) (fun _ hk => hk.2) (.slice Ao33 t247.length co33)) (fun _ h_ => h_.1))) hb) (zs (Kd.R_below (by (with_reducible repeat (first | apply Kd.R_alloc | apply Kd.R_drewN | apply Kd.R_drew)); exact (Kd.R_mono (Kd.R_far (p := ⟨gb252, 2, none⟩) (Kd.R_far (p := ⟨gb252, 1, none⟩) (Kd.R_far (p := ⟨gb252, 0, none⟩) (Kd.R_types HO242.out BK252.out (by decide)) (fun _ hk => hk.2) (.slice Ao30 t243.length co30)) (fun _ hk => hk.2) (.int .i64 t246)) (fun _ hk => hk.2) (.slice Ao33 t247.length co33)) (fun _ h_ => h_.1))) hb) (zs (Kd.R_below (by (with_reducible repeat (first | apply Kd.R_alloc | apply Kd.R_drewN | apply Kd.R_drew)); exact (Kd.R_mono (Kd.R_far (p := ⟨gb252, 2, none⟩) (Kd.R_far (p := ⟨gb252, 1, none⟩) (Kd.R_far (p := ⟨gb252, 0, none⟩) (Kd.R_types HO245.out BK252.out (by decide)) (fun _ hk => hk.2) (.slice Ao30 t243.length co30)) (fun _ hk => hk.2) (.int .i64 t246)) (fun _ hk => hk.2) (.slice Ao33 t247.length co33)) (fun _ h_ => h_.1))) hb) (zs (Kd.R_below (by (with_reducible repeat (first | apply Kd.R_alloc | apply Kd.R_drewN | apply Kd.R_drew)); exact (Kd.R_mono (Kd.R_far (p := ⟨gb252, 2, none⟩) (Kd.R_far (p := ⟨gb252, 1, none⟩) (Kd.R_far (p := ⟨gb252, 0, none⟩) (Kd.R_types HO249.out BK252.out (by decide)) (fun _ hk => hk.2) (.slice Ao30 t243.length co30)) (fun _ hk => hk.2) (.int .i64 t246)) (fun _ hk => hk.2) (.slice Ao33 t247.length co33)) (fun _ h_ => h_.1))) hb) (zs (blk_below (g := gb216) zBK hb) (zs (blk_below (g := gb252) (o := .cells #[.slice Ao30 t243.length co30, .int .i64 t246, .slice Ao33 t247.length co33] 25 (0, 0)) (zBK) hb) (zs (below_step (zHB) hb) ?_)))))))); clear HO221 HO225 HO228 HO242 HO245 HO249 BK216 BK252 HB; intro HB BK252 BK216 HO249 HO245 HO242 HO228 HO225 HO221; clear hb))
            go_meet
            case rel => exact ⟨_, (true), zF', H', ⟨zL⟩, ⟨by (with_reducible repeat (first | apply Kd.R_alloc | apply Kd.R_drewN | apply Kd.R_drew)); exact Kd.R_mono HO228.out (fun _ hk => trivial)⟩, ⟨by (with_reducible repeat (first | apply Kd.R_alloc | apply Kd.R_drewN | apply Kd.R_drew)); exact Kd.R_mono HO245.out (fun _ hk => trivial)⟩, ⟨by (with_reducible repeat (first | apply Kd.R_alloc | apply Kd.R_drewN | apply Kd.R_drew)); exact Kd.R_mono HO249.out (fun _ hk => trivial)⟩, ⟨zBK⟩, ⟨zBK⟩, ⟨zHB⟩⟩
        · rw [if_neg c34] at H
          have c34b0 := beq_eq_false_iff_ne.mpr c34
          have c34b1 := bne_iff_ne.mpr c34
          (first | rw [c34b0] | (simp only [i64_w, i32_w]; rw [c34b0]) | skip)
          have H' := Aside0.mk H
          clear H
          go_wp2
          go_meet
          case rel => exact ⟨_, (true), zF', H', ⟨zL⟩, ⟨by (with_reducible repeat (first | apply Kd.R_alloc | apply Kd.R_drewN | apply Kd.R_drew)); exact Kd.R_mono (Kd.R_far (p := ⟨gb252, 2, none⟩) (Kd.R_far (p := ⟨gb252, 1, none⟩) (Kd.R_far (p := ⟨gb252, 0, none⟩) (Kd.R_types HO228.out BK252.out (by decide)) (fun _ hk => hk.2) (.slice Ao30 t243.length co30)) (fun _ hk => hk.2) (.int .i64 t246)) (fun _ hk => hk.2) (.slice Ao33 t247.length co33)) (fun _ hk => trivial)⟩, ⟨by (with_reducible repeat (first | apply Kd.R_alloc | apply Kd.R_drewN | apply Kd.R_drew)); exact Kd.R_mono (Kd.R_far (p := ⟨gb252, 2, none⟩) (Kd.R_far (p := ⟨gb252, 1, none⟩) (Kd.R_far (p := ⟨gb252, 0, none⟩) (Kd.R_types HO245.out BK252.out (by decide)) (fun _ hk => hk.2) (.slice Ao30 t243.length co30)) (fun _ hk => hk.2) (.int .i64 t246)) (fun _ hk => hk.2) (.slice Ao33 t247.length co33)) (fun _ hk => trivial)⟩, ⟨by (with_reducible repeat (first | apply Kd.R_alloc | apply Kd.R_drewN | apply Kd.R_drew)); exact Kd.R_mono (Kd.R_far (p := ⟨gb252, 2, none⟩) (Kd.R_far (p := ⟨gb252, 1, none⟩) (Kd.R_far (p := ⟨gb252, 0, none⟩) (Kd.R_types HO249.out BK252.out (by decide)) (fun _ hk => hk.2) (.slice Ao30 t243.length co30)) (fun _ hk => hk.2) (.int .i64 t246)) (fun _ hk => hk.2) (.slice Ao33 t247.length co33)) (fun _ hk => trivial)⟩, ⟨zBK⟩, ⟨zBK⟩, ⟨zHB⟩⟩
      case rest =>
        clear HC16
        try clear c13b0
        try clear c13b1
        try clear hcz18
        try clear hcz20
        try clear hcz32
        try clear hfz18
        try clear hfz20
        try clear hfz32
        obtain ⟨kq, x78_15, rfl, HA, HJ15, HO_7, HO_253000, HO_253002, BK216, BK252, HB⟩ := hcut
        cases kq with
        | zero => exact absurd HA.out (by simp [pleatlaw07_ImageRound.j0])
        | succ kj15 =>
          have H := HA.out
          clear HA
          simp only [pleatlaw07_ImageRound.j0] at H
          by_cases c52 : x78_15 = true
          · subst c52
            rw [if_pos rfl] at H
            obtain rfl := Option.some.inj H
            go_wp2
            go_ret
            exact ⟨zE, zHB⟩
          · replace c52 := Bool.eq_false_iff.mpr c52
            subst c52
            rw [if_neg (show ¬ (false = true) by decide)] at H
            have H' := Aside0.mk H
            clear H
            go_wp2
            go_loopg [14] kj15 (fun kq v14 w' => ∃ (x14_2 : Int), v14 = .int .i64 x14_2 ∧ Aside0 (pleatlaw07_ImageRound.l0 kq a1 a2 t226 x14_2 l0_0 a0_1 l0_2 = some r) ∧ Aside0 (kq ≤ kj15) ∧ Aside0 (Kd.R (Kd.int .u8) 5 w' w.heap.size (fun _ => True) (.slice Ao25 t226.length co25) t226) ∧ Aside0 (Kd.R (Kd.int .u32) 38 w' w.heap.size (fun _ => True) (.slice Ao30 t243.length co30) t243) ∧ Aside0 (Kd.R (Kd.int .i64) 2 w' w.heap.size (fun _ => True) (.slice Ao33 t247.length co33) t247) ∧ Aside0 (w'.heap[gb216]? = some (.cells #[(.slice A0_0 l0_0.length c0_0), .int .i64 a0_1, (.slice A0_2 l0_2.length c0_2)] 25 (0, 0))) ∧ Aside0 (w'.heap[gb252]? = some (.cells #[(.slice Ao30 t243.length co30), .int .i64 t246, (.slice Ao33 t247.length co33)] 25 (0, 0))) ∧ Aside0 (Below w.heap.size w w'))
            case atStart => exact ⟨(0), zF', H', ⟨Nat.le_refl _⟩, ⟨by (with_reducible repeat (first | apply Kd.R_alloc | apply Kd.R_drewN | apply Kd.R_drew)); exact HO_7.out⟩, ⟨by (with_reducible repeat (first | apply Kd.R_alloc | apply Kd.R_drewN | apply Kd.R_drew)); exact HO_253000.out⟩, ⟨by (with_reducible repeat (first | apply Kd.R_alloc | apply Kd.R_drewN | apply Kd.R_drew)); exact HO_253002.out⟩, ⟨zBK⟩, ⟨zBK⟩, ⟨zHB⟩⟩
            case round =>
              clear H'
              try clear c13b0
              try clear c13b1
              try clear hcz18
              try clear hcz20
              try clear hcz32
              try clear hfz18
              try clear hfz20
              try clear hfz32
              obtain ⟨x14_2, rfl, HA, HK2, HO_7, HO_253000, HO_253002, BK216, BK252, HB⟩ := hrel
              cases gk with
              | zero => exact absurd HA.out (by simp [pleatlaw07_ImageRound.l0])
              | succ k2 =>
                have H := HA.out
                clear HA
                simp only [pleatlaw07_ImageRound.l0] at H
                by_cases c53 : x14_2 < (l0_0.length : Int)
                · rw [if_pos c53] at H
                  have c53b0 := decide_eq_true c53
                  clear c53
                  obtain ⟨c54, H⟩ := zG H
                  have c54b0 := decide_eq_true c54
                  clear c54
                  replace H := Option.bind_eq_some_iff.mp H
                  obtain ⟨⟨t255, t256⟩, A550, H⟩ := H
                  (try dsimp only at H)
                  have A55 := Aside0.mk A550
                  clear A550
                  have HC56 := Aside0.mk H
                  clear H
                  have hnb57 := NB216_252.out
                  have hnc57 := NB252_216.out
                  have hcz58 := blk_cell BK216.out
                  have hfz58 := blk_frozen BK216.out
                  have p254 : 0 ≤ (x14_2 : Int) := zOD
                  have q254 : x14_2 < (l0_0.length : Int) := zOD
                  obtain ⟨ad254, e254, hx254_0⟩ := Kd.at_int HR0_0.out x14_2 p254 q254
                  cases e254
                  replace hx254_0 := (HB.out.cell (World.block_lt_of_cell? w _ hx254_0)).trans hx254_0
                  replace p254 := eq_true p254
                  replace q254 := eq_true q254
                  go_upto_region 15 with (first | ((with_reducible refine gate_callee (f := 26) rfl ?_); refine zGo (N := (some 92)) Try.func26 #[.int .u32 (rd l0_0 x14_2)] ?_; (with_reducible refine (isa_Target.calls k2 (rd l0_0 x14_2) t255 t256 _ A55.out).mono ?_); rintro e w59 ⟨rfl, hb⟩; refine ⟨_, rfl, ?_⟩; refine zs (Kd.R_below (by (with_reducible repeat (first | apply Kd.R_alloc | apply Kd.R_drewN | apply Kd.R_drew)); exact HO_7.out) hb) (zs (Kd.R_below (by (with_reducible repeat (first | apply Kd.R_alloc | apply Kd.R_drewN | apply Kd.R_drew)); exact HO_253000.out) hb) (zs (Kd.R_below (by (with_reducible repeat (first | apply Kd.R_alloc | apply Kd.R_drewN | apply Kd.R_drew)); exact HO_253002.out) hb) (zs (blk_below (g := gb216) zBK hb) (zs (blk_below (g := gb252) zBK hb) (zs (below_step (zHB) hb) ?_))))); clear HO_7 HO_253000 HO_253002 BK216 BK252 HB; intro HB BK252 BK216 HO_253002 HO_253000 HO_7; clear hb; have hcz60 := blk_cell BK216.out; have hfz60 := blk_frozen BK216.out))
                  (try simp only [Act.put, List.setIfInBounds_toArray, List.set_cons_zero, List.set_cons_succ])
                  go_cut [123] (fun v123 wc => ∃ (kq : Nat) (x123_55 : Bool), v123 = .bool x123_55 ∧ Aside0 (pleatlaw07_ImageRound.j2 kq a1 a2 t226 x14_2 ((wrap64 (x14_2 + 1)) == (l0_0.length : Int)) x123_55 l0_0 a0_1 l0_2 = some r) ∧ Aside0 (kq ≤ k2) ∧ Aside0 (Kd.R (Kd.int .u8) 5 wc w.heap.size (fun _ => True) (.slice Ao25 t226.length co25) t226) ∧ Aside0 (Kd.R (Kd.int .u32) 38 wc w.heap.size (fun _ => True) (.slice Ao30 t243.length co30) t243) ∧ Aside0 (Kd.R (Kd.int .i64) 2 wc w.heap.size (fun _ => True) (.slice Ao33 t247.length co33) t247) ∧ Aside0 (wc.heap[gb216]? = some (.cells #[(.slice (some ad254) l0_0.length c0_0), .int .i64 a0_1, (.slice A0_2 l0_2.length c0_2)] 25 (0, 0))) ∧ Aside0 (wc.heap[gb252]? = some (.cells #[(.slice Ao30 t243.length co30), .int .i64 t246, (.slice Ao33 t247.length co33)] 25 (0, 0))) ∧ Aside0 (Below w.heap.size w wc))
                  case first =>
                    have H := HC56.out
                    clear HC56
                    by_cases c61 : t256 = true
                    · subst c61
                      rw [if_pos rfl] at H
                      by_cases c62 : t255 < 0
                      · rw [if_pos c62] at H
                        have c62b0 := decide_eq_true c62
                        clear c62
                        (first | rw [c62b0] | (simp only [i64_w, i32_w]; rw [c62b0]) | skip)
                        have H' := Aside0.mk H
                        clear H
                        go_wp2
                        go_meet
                        case rel => exact ⟨_, (true), zF', H', ⟨by have := HJ15.out; have := HK2.out; first | omega | exact Nat.le_refl _⟩, ⟨by (with_reducible repeat (first | apply Kd.R_alloc | apply Kd.R_drewN | apply Kd.R_drew)); exact HO_7.out⟩, ⟨by (with_reducible repeat (first | apply Kd.R_alloc | apply Kd.R_drewN | apply Kd.R_drew)); exact HO_253000.out⟩, ⟨by (with_reducible repeat (first | apply Kd.R_alloc | apply Kd.R_drewN | apply Kd.R_drew)); exact HO_253002.out⟩, ⟨zBK⟩, ⟨zBK⟩, ⟨zHB⟩⟩
                      · rw [if_neg c62] at H
                        have c62b0 := decide_eq_false c62
                        clear c62
                        (first | rw [c62b0] | (simp only [i64_w, i32_w]; rw [c62b0]) | skip)
                        by_cases c63 : t255 ≥ (l0_0.length : Int)
                        · rw [if_pos c63] at H
                          have c63b0 : decide ((l0_0.length : Int) ≤ t255) = true := decide_eq_true c63
                          clear c63
                          have H' := Aside0.mk H
                          clear H
                          have hnb64 := NB216_252.out
                          have hnc64 := NB252_216.out
                          have hcz65 := blk_cell BK216.out
                          have hfz65 := blk_frozen BK216.out
                          go_wp2
                          go_meet
                          case rel => exact ⟨_, (true), zF', H', ⟨by have := HJ15.out; have := HK2.out; first | omega | exact Nat.le_refl _⟩, ⟨by (with_reducible repeat (first | apply Kd.R_alloc | apply Kd.R_drewN | apply Kd.R_drew)); exact HO_7.out⟩, ⟨by (with_reducible repeat (first | apply Kd.R_alloc | apply Kd.R_drewN | apply Kd.R_drew)); exact HO_253000.out⟩, ⟨by (with_reducible repeat (first | apply Kd.R_alloc | apply Kd.R_drewN | apply Kd.R_drew)); exact HO_253002.out⟩, ⟨zBK⟩, ⟨zBK⟩, ⟨zHB⟩⟩
                        · rw [if_neg c63] at H
                          have c63b0 : decide ((l0_0.length : Int) ≤ t255) = false := decide_eq_false c63
                          clear c63
                          by_cases c66 : (wrap64 (x14_2 + 1)) = (l0_0.length : Int)
                          · rw [if_pos c66] at H
                            have c66b0 := beq_iff_eq.mpr c66
                            have c66b1 := bne_eq_false_iff_eq.mpr c66
                            clear c66
                            replace H := Option.bind_eq_some_iff.mp H
                            obtain ⟨t258, A670, H⟩ := H
                            (try dsimp only at H)
                            have A67 := Aside0.mk A670
                            clear A670
                            have H' := Aside0.mk H
                            clear H
                            have hnb68 := NB216_252.out
                            have hnc68 := NB252_216.out
                            have hcz69 := blk_cell BK216.out
                            have hfz69 := blk_frozen BK216.out
                            have p257 : 0 ≤ (x14_2 : Int) := zOD
                            have q257 : x14_2 < (l0_0.length : Int) := zOD
                            obtain ⟨ad257, e257, hx257_0⟩ := Kd.at_int HR0_0.out x14_2 p257 q257
                            obtain rfl : ad254 = ad257 := (by injection e257)
                            replace hx257_0 := (HB.out.cell (World.block_lt_of_cell? w _ hx257_0)).trans hx257_0
                            replace p257 := eq_true p257
                            replace q257 := eq_true q257
                            go_wp2_with (first | (go_at_call 27; (with_reducible refine (isa_Falls.calls k2 (rd l0_0 x14_2) t258 _ A67.out).mono ?_); rintro e w70 ⟨rfl, hb⟩; refine zs (Kd.R_below (by (with_reducible repeat (first | apply Kd.R_alloc | apply Kd.R_drewN | apply Kd.R_drew)); exact HO_7.out) hb) (zs (Kd.R_below (by (with_reducible repeat (first | apply Kd.R_alloc | apply Kd.R_drewN | apply Kd.R_drew)); exact HO_253000.out) hb) (zs (Kd.R_below (by (with_reducible repeat (first | apply Kd.R_alloc | apply Kd.R_drewN | apply Kd.R_drew)); exact HO_253002.out) hb) (zs (blk_below (g := gb216) zBK hb) (zs (blk_below (g := gb252) zBK hb) (zs (below_step (zHB) hb) ?_))))); clear HO_7 HO_253000 HO_253002 BK216 BK252 HB; intro HB BK252 BK216 HO_253002 HO_253000 HO_7; clear hb))
                            (try simp only [c66b0] at *)
                            go_meet
                            case rel => exact ⟨_, (t258), zF', H', ⟨by have := HJ15.out; have := HK2.out; first | omega | exact Nat.le_refl _⟩, ⟨by (with_reducible repeat (first | apply Kd.R_alloc | apply Kd.R_drewN | apply Kd.R_drew)); exact HO_7.out⟩, ⟨by (with_reducible repeat (first | apply Kd.R_alloc | apply Kd.R_drewN | apply Kd.R_drew)); exact HO_253000.out⟩, ⟨by (with_reducible repeat (first | apply Kd.R_alloc | apply Kd.R_drewN | apply Kd.R_drew)); exact HO_253002.out⟩, ⟨zBK⟩, ⟨zBK⟩, ⟨zHB⟩⟩
                          · rw [if_neg c66] at H
                            have c66b0 := beq_eq_false_iff_ne.mpr c66
                            have c66b1 := bne_iff_ne.mpr c66
                            have H' := Aside0.mk H
                            clear H
                            have hnb71 := NB216_252.out
                            have hnc71 := NB252_216.out
                            have hcz72 := blk_cell BK216.out
                            have hfz72 := blk_frozen BK216.out
                            go_wp2
                            (try simp only [c66b0] at *)
                            go_meet
                            case rel => exact ⟨_, (false), zF', H', ⟨by have := HJ15.out; have := HK2.out; first | omega | exact Nat.le_refl _⟩, ⟨by (with_reducible repeat (first | apply Kd.R_alloc | apply Kd.R_drewN | apply Kd.R_drew)); exact HO_7.out⟩, ⟨by (with_reducible repeat (first | apply Kd.R_alloc | apply Kd.R_drewN | apply Kd.R_drew)); exact HO_253000.out⟩, ⟨by (with_reducible repeat (first | apply Kd.R_alloc | apply Kd.R_drewN | apply Kd.R_drew)); exact HO_253002.out⟩, ⟨zBK⟩, ⟨zBK⟩, ⟨zHB⟩⟩
                    · replace c61 := Bool.eq_false_iff.mpr c61
                      subst c61
                      rw [if_neg (show ¬ (false = true) by decide)] at H
                      by_cases c73 : (wrap64 (x14_2 + 1)) = (l0_0.length : Int)
                      · rw [if_pos c73] at H
                        have c73b0 := beq_iff_eq.mpr c73
                        have c73b1 := bne_eq_false_iff_eq.mpr c73
                        clear c73
                        replace H := Option.bind_eq_some_iff.mp H
                        obtain ⟨t260, A740, H⟩ := H
                        (try dsimp only at H)
                        have A74 := Aside0.mk A740
                        clear A740
                        have H' := Aside0.mk H
                        clear H
                        have hnb75 := NB216_252.out
                        have hnc75 := NB252_216.out
                        have hcz76 := blk_cell BK216.out
                        have hfz76 := blk_frozen BK216.out
                        have p259 : 0 ≤ (x14_2 : Int) := zOD
                        have q259 : x14_2 < (l0_0.length : Int) := zOD
                        obtain ⟨ad259, e259, hx259_0⟩ := Kd.at_int HR0_0.out x14_2 p259 q259
                        obtain rfl : ad254 = ad259 := (by injection e259)
                        replace hx259_0 := (HB.out.cell (World.block_lt_of_cell? w _ hx259_0)).trans hx259_0
                        replace p259 := eq_true p259
                        replace q259 := eq_true q259
                        go_wp2_with (first | (go_at_call 27; (with_reducible refine (isa_Falls.calls k2 (rd l0_0 x14_2) t260 _ A74.out).mono ?_); rintro e w77 ⟨rfl, hb⟩; refine zs (Kd.R_below (by (with_reducible repeat (first | apply Kd.R_alloc | apply Kd.R_drewN | apply Kd.R_drew)); exact HO_7.out) hb) (zs (Kd.R_below (by (with_reducible repeat (first | apply Kd.R_alloc | apply Kd.R_drewN | apply Kd.R_drew)); exact HO_253000.out) hb) (zs (Kd.R_below (by (with_reducible repeat (first | apply Kd.R_alloc | apply Kd.R_drewN | apply Kd.R_drew)); exact HO_253002.out) hb) (zs (blk_below (g := gb216) zBK hb) (zs (blk_below (g := gb252) zBK hb) (zs (below_step (zHB) hb) ?_))))); clear HO_7 HO_253000 HO_253002 BK216 BK252 HB; intro HB BK252 BK216 HO_253002 HO_253000 HO_7; clear hb))
                        (try simp only [c73b0] at *)
                        go_meet
                        case rel => exact ⟨_, (t260), zF', H', ⟨by have := HJ15.out; have := HK2.out; first | omega | exact Nat.le_refl _⟩, ⟨by (with_reducible repeat (first | apply Kd.R_alloc | apply Kd.R_drewN | apply Kd.R_drew)); exact HO_7.out⟩, ⟨by (with_reducible repeat (first | apply Kd.R_alloc | apply Kd.R_drewN | apply Kd.R_drew)); exact HO_253000.out⟩, ⟨by (with_reducible repeat (first | apply Kd.R_alloc | apply Kd.R_drewN | apply Kd.R_drew)); exact HO_253002.out⟩, ⟨zBK⟩, ⟨zBK⟩, ⟨zHB⟩⟩
                      · rw [if_neg c73] at H
                        have c73b0 := beq_eq_false_iff_ne.mpr c73
                        have c73b1 := bne_iff_ne.mpr c73
                        have H' := Aside0.mk H
                        clear H
                        go_wp2
                        (try simp only [c73b0] at *)
                        go_meet
                        case rel => exact ⟨_, (false), zF', H', ⟨by have := HJ15.out; have := HK2.out; first | omega | exact Nat.le_refl _⟩, ⟨by (with_reducible repeat (first | apply Kd.R_alloc | apply Kd.R_drewN | apply Kd.R_drew)); exact HO_7.out⟩, ⟨by (with_reducible repeat (first | apply Kd.R_alloc | apply Kd.R_drewN | apply Kd.R_drew)); exact HO_253000.out⟩, ⟨by (with_reducible repeat (first | apply Kd.R_alloc | apply Kd.R_drewN | apply Kd.R_drew)); exact HO_253002.out⟩, ⟨zBK⟩, ⟨zBK⟩, ⟨zHB⟩⟩
                  case rest =>
                    clear HC56
                    try clear c13b0
                    try clear c13b1
                    try clear c53b0
                    try clear c54
                    try clear c54b0
                    try clear hcz18
                    try clear hcz20
                    try clear hcz32
                    try clear hcz58
                    try clear hcz60
                    try clear hfz18
                    try clear hfz20
                    try clear hfz32
                    try clear hfz58
                    try clear hfz60
                    try clear hx254_0
                    try clear p254
                    try clear q254
                    obtain ⟨kq, x123_55, rfl, HA, HJ55, HO_7, HO_253000, HO_253002, BK216, BK252, HB⟩ := hcut
                    cases kq with
                    | zero => exact absurd HA.out (by simp [pleatlaw07_ImageRound.j2])
                    | succ kj55 =>
                      have H := HA.out
                      clear HA
                      simp only [pleatlaw07_ImageRound.j2] at H
                      by_cases c78 : x123_55 = true
                      · subst c78
                        rw [if_pos rfl] at H
                        obtain rfl := Option.some.inj H
                        go_wp2
                        go_ret
                        exact ⟨zE, zHB⟩
                      · replace c78 := Bool.eq_false_iff.mpr c78
                        subst c78
                        rw [if_neg (show ¬ (false = true) by decide)] at H
                        obtain ⟨c79, H⟩ := zG H
                        have c79b0 := decide_eq_true c79
                        clear c79
                        obtain ⟨c80, H⟩ := zG H
                        have c80b0 := decide_eq_true c80
                        clear c80
                        replace H := Option.bind_eq_some_iff.mp H
                        obtain ⟨⟨t262, t263, t264, t265, t266⟩, A810, H⟩ := H
                        (try dsimp only at H)
                        have A81 := Aside0.mk A810
                        clear A810
                        by_cases c82 : ((wrap64 (x14_2 + 1)) == (l0_0.length : Int)) = true
                        · rw [if_pos c82] at H
                          have c82b0 : ((wrap64 (x14_2 + 1)) == (l0_0.length : Int)) = true := c82
                          (try (have c82b1 : decide ((wrap64 (x14_2 + 1)) = (l0_0.length : Int)) = true := by simpa using c82))
                          (try (have c82b2 : ((wrap64 (x14_2 + 1)) == (l0_0.length : Int)) = true := by simpa using c82))
                          (try (have c82b3 : (!((wrap64 (x14_2 + 1)) == (l0_0.length : Int))) = false := by have h_ : ∀ P_ Q_ : Bool, (!(P_ == Q_)) = (P_ != Q_) := (by decide); first | exact (h_ _ _).trans c82 | exact (h_ _ _).trans (Bool.eq_false_iff.mpr c82) | (rw [h_]; simpa using c82)))
                          clear c82
                          by_cases c83 : t262 = 17
                          · rw [if_pos c83] at H
                            have c83b0 := beq_iff_eq.mpr c83
                            have c83b1 := bne_eq_false_iff_eq.mpr c83
                            clear c83
                            obtain rfl := Option.some.inj H
                            have hnb84 := NB216_252.out
                            have hnc84 := NB252_216.out
                            have hcz85 := blk_cell BK216.out
                            have hfz85 := blk_frozen BK216.out
                            have p261 : 0 ≤ (x14_2 : Int) := zOD
                            have q261 : x14_2 < (l0_0.length : Int) := zOD
                            obtain ⟨ad261, e261, hx261_0⟩ := Kd.at_int HR0_0.out x14_2 p261 q261
                            obtain rfl : ad254 = ad261 := (by injection e261)
                            replace hx261_0 := (HB.out.cell (World.block_lt_of_cell? w _ hx261_0)).trans hx261_0
                            replace p261 := eq_true p261
                            replace q261 := eq_true q261
                            go_wp2_with (first | ((with_reducible refine gate_callee (f := 16) rfl ?_); refine zGo (N := (some 129)) Try.func16 #[.int .u32 (rd l0_0 x14_2)] ?_; (with_reducible refine (isa_Decode.calls kj55 (rd l0_0 x14_2) t262 t263 t264 t265 t266 _ A81.out).mono ?_); rintro e w86 ⟨rfl, hb⟩; refine ⟨_, rfl, ?_⟩; refine zs (Kd.R_below (by (with_reducible repeat (first | apply Kd.R_alloc | apply Kd.R_drewN | apply Kd.R_drew)); exact HO_7.out) hb) (zs (Kd.R_below (by (with_reducible repeat (first | apply Kd.R_alloc | apply Kd.R_drewN | apply Kd.R_drew)); exact HO_253000.out) hb) (zs (Kd.R_below (by (with_reducible repeat (first | apply Kd.R_alloc | apply Kd.R_drewN | apply Kd.R_drew)); exact HO_253002.out) hb) (zs (blk_below (g := gb216) zBK hb) (zs (blk_below (g := gb252) zBK hb) (zs (below_step (zHB) hb) ?_))))); clear HO_7 HO_253000 HO_253002 BK216 BK252 HB; intro HB BK252 BK216 HO_253002 HO_253000 HO_7; clear hb))
                            go_ret
                            exact ⟨zE, zHB⟩
                          · rw [if_neg c83] at H
                            have c83b0 := beq_eq_false_iff_ne.mpr c83
                            have c83b1 := bne_iff_ne.mpr c83
                            by_cases c87 : t262 = 18
                            · rw [if_pos c87] at H
                              have c87b0 := beq_iff_eq.mpr c87
                              have c87b1 := bne_eq_false_iff_eq.mpr c87
                              clear c87
                              obtain rfl := Option.some.inj H
                              have hnb88 := NB216_252.out
                              have hnc88 := NB252_216.out
                              have hcz89 := blk_cell BK216.out
                              have hfz89 := blk_frozen BK216.out
                              have p261 : 0 ≤ (x14_2 : Int) := zOD
                              have q261 : x14_2 < (l0_0.length : Int) := zOD
                              obtain ⟨ad261, e261, hx261_0⟩ := Kd.at_int HR0_0.out x14_2 p261 q261
                              obtain rfl : ad254 = ad261 := (by injection e261)
                              replace hx261_0 := (HB.out.cell (World.block_lt_of_cell? w _ hx261_0)).trans hx261_0
                              replace p261 := eq_true p261
                              replace q261 := eq_true q261
                              go_wp2_with (first | ((with_reducible refine gate_callee (f := 16) rfl ?_); refine zGo (N := (some 129)) Try.func16 #[.int .u32 (rd l0_0 x14_2)] ?_; (with_reducible refine (isa_Decode.calls kj55 (rd l0_0 x14_2) t262 t263 t264 t265 t266 _ A81.out).mono ?_); rintro e w90 ⟨rfl, hb⟩; refine ⟨_, rfl, ?_⟩; refine zs (Kd.R_below (by (with_reducible repeat (first | apply Kd.R_alloc | apply Kd.R_drewN | apply Kd.R_drew)); exact HO_7.out) hb) (zs (Kd.R_below (by (with_reducible repeat (first | apply Kd.R_alloc | apply Kd.R_drewN | apply Kd.R_drew)); exact HO_253000.out) hb) (zs (Kd.R_below (by (with_reducible repeat (first | apply Kd.R_alloc | apply Kd.R_drewN | apply Kd.R_drew)); exact HO_253002.out) hb) (zs (blk_below (g := gb216) zBK hb) (zs (blk_below (g := gb252) zBK hb) (zs (below_step (zHB) hb) ?_))))); clear HO_7 HO_253000 HO_253002 BK216 BK252 HB; intro HB BK252 BK216 HO_253002 HO_253000 HO_7; clear hb))
                              go_ret
                              exact ⟨zE, zHB⟩
                            · rw [if_neg c87] at H
                              have c87b0 := beq_eq_false_iff_ne.mpr c87
                              have c87b1 := bne_iff_ne.mpr c87
                              have H' := Aside0.mk H
                              clear H
                              have hnb91 := NB216_252.out
                              have hnc91 := NB252_216.out
                              have hcz92 := blk_cell BK216.out
                              have hfz92 := blk_frozen BK216.out
                              have p261 : 0 ≤ (x14_2 : Int) := zOD
                              have q261 : x14_2 < (l0_0.length : Int) := zOD
                              obtain ⟨ad261, e261, hx261_0⟩ := Kd.at_int HR0_0.out x14_2 p261 q261
                              obtain rfl : ad254 = ad261 := (by injection e261)
                              replace hx261_0 := (HB.out.cell (World.block_lt_of_cell? w _ hx261_0)).trans hx261_0
                              replace p261 := eq_true p261
                              replace q261 := eq_true q261
                              go_wp2_with (first | ((with_reducible refine gate_callee (f := 16) rfl ?_); refine zGo (N := (some 129)) Try.func16 #[.int .u32 (rd l0_0 x14_2)] ?_; (with_reducible refine (isa_Decode.calls kj55 (rd l0_0 x14_2) t262 t263 t264 t265 t266 _ A81.out).mono ?_); rintro e w93 ⟨rfl, hb⟩; refine ⟨_, rfl, ?_⟩; refine zs (Kd.R_below (by (with_reducible repeat (first | apply Kd.R_alloc | apply Kd.R_drewN | apply Kd.R_drew)); exact HO_7.out) hb) (zs (Kd.R_below (by (with_reducible repeat (first | apply Kd.R_alloc | apply Kd.R_drewN | apply Kd.R_drew)); exact HO_253000.out) hb) (zs (Kd.R_below (by (with_reducible repeat (first | apply Kd.R_alloc | apply Kd.R_drewN | apply Kd.R_drew)); exact HO_253002.out) hb) (zs (blk_below (g := gb216) zBK hb) (zs (blk_below (g := gb252) zBK hb) (zs (below_step (zHB) hb) ?_))))); clear HO_7 HO_253000 HO_253002 BK216 BK252 HB; intro HB BK252 BK216 HO_253002 HO_253000 HO_7; clear hb))
                              go_roundg kj55
                              case measure => have := HJ15.out; have := HK2.out; have := HJ55.out; omega
                              case rel => exact ⟨(wrap64 (x14_2 + 1)), zF', H', ⟨by have := HJ15.out; have := HK2.out; have := HJ55.out; omega⟩, ⟨by (with_reducible repeat (first | apply Kd.R_alloc | apply Kd.R_drewN | apply Kd.R_drew)); exact HO_7.out⟩, ⟨by (with_reducible repeat (first | apply Kd.R_alloc | apply Kd.R_drewN | apply Kd.R_drew)); exact HO_253000.out⟩, ⟨by (with_reducible repeat (first | apply Kd.R_alloc | apply Kd.R_drewN | apply Kd.R_drew)); exact HO_253002.out⟩, ⟨zBK⟩, ⟨zBK⟩, ⟨zHB⟩⟩
                        · rw [if_neg c82] at H
                          have c82b0 : ((wrap64 (x14_2 + 1)) == (l0_0.length : Int)) = false := by simpa using c82
                          (try (have c82b1 : decide ((wrap64 (x14_2 + 1)) = (l0_0.length : Int)) = false := by simpa using c82))
                          (try (have c82b2 : ((wrap64 (x14_2 + 1)) == (l0_0.length : Int)) = false := by simpa using c82))
                          (try (have c82b3 : ¬ ((wrap64 (x14_2 + 1)) = (l0_0.length : Int)) := by simpa using c82))
                          (try (have c82b4 : (!((wrap64 (x14_2 + 1)) == (l0_0.length : Int))) = true := by have h_ : ∀ P_ Q_ : Bool, (!(P_ == Q_)) = (P_ != Q_) := (by decide); first | exact (h_ _ _).trans c82 | exact (h_ _ _).trans (Bool.eq_false_iff.mpr c82) | (rw [h_]; simpa using c82)))
                          clear c82
                          have H' := Aside0.mk H
                          clear H
                          have hnb94 := NB216_252.out
                          have hnc94 := NB252_216.out
                          have hcz95 := blk_cell BK216.out
                          have hfz95 := blk_frozen BK216.out
                          have p261 : 0 ≤ (x14_2 : Int) := zOD
                          have q261 : x14_2 < (l0_0.length : Int) := zOD
                          obtain ⟨ad261, e261, hx261_0⟩ := Kd.at_int HR0_0.out x14_2 p261 q261
                          obtain rfl : ad254 = ad261 := (by injection e261)
                          replace hx261_0 := (HB.out.cell (World.block_lt_of_cell? w _ hx261_0)).trans hx261_0
                          replace p261 := eq_true p261
                          replace q261 := eq_true q261
                          go_wp2_with (first | ((with_reducible refine gate_callee (f := 16) rfl ?_); refine zGo (N := (some 129)) Try.func16 #[.int .u32 (rd l0_0 x14_2)] ?_; (with_reducible refine (isa_Decode.calls kj55 (rd l0_0 x14_2) t262 t263 t264 t265 t266 _ A81.out).mono ?_); rintro e w96 ⟨rfl, hb⟩; refine ⟨_, rfl, ?_⟩; refine zs (Kd.R_below (by (with_reducible repeat (first | apply Kd.R_alloc | apply Kd.R_drewN | apply Kd.R_drew)); exact HO_7.out) hb) (zs (Kd.R_below (by (with_reducible repeat (first | apply Kd.R_alloc | apply Kd.R_drewN | apply Kd.R_drew)); exact HO_253000.out) hb) (zs (Kd.R_below (by (with_reducible repeat (first | apply Kd.R_alloc | apply Kd.R_drewN | apply Kd.R_drew)); exact HO_253002.out) hb) (zs (blk_below (g := gb216) zBK hb) (zs (blk_below (g := gb252) zBK hb) (zs (below_step (zHB) hb) ?_))))); clear HO_7 HO_253000 HO_253002 BK216 BK252 HB; intro HB BK252 BK216 HO_253002 HO_253000 HO_7; clear hb))
                          go_roundg kj55
                          case measure => have := HJ15.out; have := HK2.out; have := HJ55.out; omega
                          case rel => exact ⟨(wrap64 (x14_2 + 1)), zF', H', ⟨by have := HJ15.out; have := HK2.out; have := HJ55.out; omega⟩, ⟨by (with_reducible repeat (first | apply Kd.R_alloc | apply Kd.R_drewN | apply Kd.R_drew)); exact HO_7.out⟩, ⟨by (with_reducible repeat (first | apply Kd.R_alloc | apply Kd.R_drewN | apply Kd.R_drew)); exact HO_253000.out⟩, ⟨by (with_reducible repeat (first | apply Kd.R_alloc | apply Kd.R_drewN | apply Kd.R_drew)); exact HO_253002.out⟩, ⟨zBK⟩, ⟨zBK⟩, ⟨zHB⟩⟩
                · rw [if_neg c53] at H
                  have c53b0 := decide_eq_false c53
                  clear c53
                  have HC97 := Aside0.mk H
                  clear H
                  have hnb98 := NB216_252.out
                  have hnc98 := NB252_216.out
                  have hcz99 := blk_cell BK216.out
                  have hfz99 := blk_frozen BK216.out
                  go_upto_region 20 with (fail)
                  go_cut [155] (fun v155 wc => ∃ (kq : Nat) (x155_96 : Bool), v155 = .bool x155_96 ∧ Aside0 (pleatlaw07_ImageRound.j3 kq a1 a2 t226 x155_96 = some r) ∧ Aside0 (kq ≤ k2) ∧ Aside0 (Kd.R (Kd.int .u8) 5 wc w.heap.size (fun _ => True) (.slice Ao25 t226.length co25) t226) ∧ Aside0 (Kd.R (Kd.int .u32) 38 wc w.heap.size (fun _ => True) (.slice Ao30 t243.length co30) t243) ∧ Aside0 (Kd.R (Kd.int .i64) 2 wc w.heap.size (fun _ => True) (.slice Ao33 t247.length co33) t247) ∧ Aside0 (wc.heap[gb216]? = some (.cells #[(.slice A0_0 l0_0.length c0_0), .int .i64 a0_1, (.slice A0_2 l0_2.length c0_2)] 25 (0, 0))) ∧ Aside0 (wc.heap[gb252]? = some (.cells #[(.slice Ao30 t243.length co30), .int .i64 t246, (.slice Ao33 t247.length co33)] 25 (0, 0))) ∧ Aside0 (Below w.heap.size w wc))
                  case first =>
                    have H := HC97.out
                    clear HC97
                    by_cases c100 : a1 < 0
                    · rw [if_pos c100] at H
                      have c100b0 := decide_eq_true c100
                      clear c100
                      (first | rw [c100b0] | (simp only [i64_w, i32_w]; rw [c100b0]) | skip)
                      have H' := Aside0.mk H
                      clear H
                      go_wp2
                      go_meet
                      case rel => exact ⟨_, (true), zF', H', ⟨by have := HJ15.out; have := HK2.out; first | omega | exact Nat.le_refl _⟩, ⟨by (with_reducible repeat (first | apply Kd.R_alloc | apply Kd.R_drewN | apply Kd.R_drew)); exact HO_7.out⟩, ⟨by (with_reducible repeat (first | apply Kd.R_alloc | apply Kd.R_drewN | apply Kd.R_drew)); exact HO_253000.out⟩, ⟨by (with_reducible repeat (first | apply Kd.R_alloc | apply Kd.R_drewN | apply Kd.R_drew)); exact HO_253002.out⟩, ⟨zBK⟩, ⟨zBK⟩, ⟨zHB⟩⟩
                    · rw [if_neg c100] at H
                      have c100b0 := decide_eq_false c100
                      clear c100
                      (first | rw [c100b0] | (simp only [i64_w, i32_w]; rw [c100b0]) | skip)
                      by_cases c101 : a1 ≥ (t226.length : Int)
                      · rw [if_pos c101] at H
                        have c101b0 : decide ((t226.length : Int) ≤ a1) = true := decide_eq_true c101
                        clear c101
                        have H' := Aside0.mk H
                        clear H
                        go_wp2
                        go_meet
                        case rel => exact ⟨_, (true), zF', H', ⟨by have := HJ15.out; have := HK2.out; first | omega | exact Nat.le_refl _⟩, ⟨by (with_reducible repeat (first | apply Kd.R_alloc | apply Kd.R_drewN | apply Kd.R_drew)); exact HO_7.out⟩, ⟨by (with_reducible repeat (first | apply Kd.R_alloc | apply Kd.R_drewN | apply Kd.R_drew)); exact HO_253000.out⟩, ⟨by (with_reducible repeat (first | apply Kd.R_alloc | apply Kd.R_drewN | apply Kd.R_drew)); exact HO_253002.out⟩, ⟨zBK⟩, ⟨zBK⟩, ⟨zHB⟩⟩
                      · rw [if_neg c101] at H
                        have c101b0 : decide ((t226.length : Int) ≤ a1) = false := decide_eq_false c101
                        clear c101
                        obtain ⟨c102, H⟩ := zG H
                        have c102b0 := decide_eq_true c102
                        clear c102
                        obtain ⟨c103, H⟩ := zG H
                        have c103b0 := decide_eq_true c103
                        clear c103
                        have H' := Aside0.mk H
                        clear H
                        have p267 : 0 ≤ (a1 : Int) := zOD
                        have q267 : a1 < (t226.length : Int) := zOD
                        obtain ⟨ad267, e267, hx267_0⟩ := Kd.at_int (Kd.R_reads' HO_7.out).2.2 a1 p267 q267
                        cases e267
                        replace p267 := eq_true p267
                        replace q267 := eq_true q267
                        go_wp2
                        go_meet
                        case rel => exact ⟨_, (((rd t226 a1) == a2)), zF', H', ⟨by have := HJ15.out; have := HK2.out; first | omega | exact Nat.le_refl _⟩, ⟨by (with_reducible repeat (first | apply Kd.R_alloc | apply Kd.R_drewN | apply Kd.R_drew)); exact HO_7.out⟩, ⟨by (with_reducible repeat (first | apply Kd.R_alloc | apply Kd.R_drewN | apply Kd.R_drew)); exact HO_253000.out⟩, ⟨by (with_reducible repeat (first | apply Kd.R_alloc | apply Kd.R_drewN | apply Kd.R_drew)); exact HO_253002.out⟩, ⟨zBK⟩, ⟨zBK⟩, ⟨zHB⟩⟩
                  case rest =>
                    clear HC97
                    try clear c13b0
                    try clear c13b1
                    try clear c53b0
                    try clear hcz18
                    try clear hcz20
                    try clear hcz32
                    try clear hcz99
                    try clear hfz18
                    try clear hfz20
                    try clear hfz32
                    try clear hfz99
                    obtain ⟨kq, x155_96, rfl, HA, HJ96, HO_7, HO_253000, HO_253002, BK216, BK252, HB⟩ := hcut
                    cases kq with
                    | zero => exact absurd HA.out (by simp [pleatlaw07_ImageRound.j3])
                    | succ kj96 =>
                      have H := HA.out
                      clear HA
                      simp only [pleatlaw07_ImageRound.j3] at H
                      by_cases c104 : x155_96 = true
                      · subst c104
                        rw [if_pos rfl] at H
                        replace H := Option.bind_eq_some_iff.mp H
                        obtain ⟨t268, A1050, H⟩ := H
                        (try dsimp only at H)
                        have A105 := Aside0.mk A1050
                        clear A1050
                        obtain rfl := Option.some.inj H
                        go_wp2_with (first | ((with_reducible refine gate_callee (f := 20) rfl ?_); refine zGo (N := (some 156)) Try.func20 #[] ?_; (with_reducible refine (pleatlaw07_lives.calls kj96  t268 _ A105.out).mono ?_); rintro e w106 ⟨rfl, hb⟩; refine ⟨_, rfl, ?_⟩; refine zs (Kd.R_below (by (with_reducible repeat (first | apply Kd.R_alloc | apply Kd.R_drewN | apply Kd.R_drew)); exact HO_7.out) hb) (zs (Kd.R_below (by (with_reducible repeat (first | apply Kd.R_alloc | apply Kd.R_drewN | apply Kd.R_drew)); exact HO_253000.out) hb) (zs (Kd.R_below (by (with_reducible repeat (first | apply Kd.R_alloc | apply Kd.R_drewN | apply Kd.R_drew)); exact HO_253002.out) hb) (zs (blk_below (g := gb216) zBK hb) (zs (blk_below (g := gb252) zBK hb) (zs (below_step (zHB) hb) ?_))))); clear HO_7 HO_253000 HO_253002 BK216 BK252 HB; intro HB BK252 BK216 HO_253002 HO_253000 HO_7; clear hb))
                        go_ret
                        exact ⟨zE, zHB⟩
                      · replace c104 := Bool.eq_false_iff.mpr c104
                        subst c104
                        rw [if_neg (show ¬ (false = true) by decide)] at H
                        replace H := Option.bind_eq_some_iff.mp H
                        obtain ⟨t269, A1070, H⟩ := H
                        (try dsimp only at H)
                        have A107 := Aside0.mk A1070
                        clear A1070
                        obtain ⟨c108, H⟩ := zG H
                        have c108b0 := decide_eq_true c108
                        clear c108
                        obtain ⟨c109, H⟩ := zG H
                        have c109b0 := decide_eq_true c109
                        clear c109
                        obtain ⟨y272, hy272⟩ : ∃ y_ : List Int, y_ = (t269.set (a1 : Int).toNat a2) := ⟨_, rfl⟩
                        (try rw [← hy272] at H)
                        have Ny272 := Aside0.mk hy272
                        clear hy272
                        replace H := Option.bind_eq_some_iff.mp H
                        obtain ⟨⟨t273, t276, t277, t280, t281⟩, A1110, H⟩ := H
                        (try dsimp only at H)
                        have A111 := Aside0.mk A1110
                        clear A1110
                        by_cases c112 : t280 = 0
                        · rw [if_pos c112] at H
                          have c112b0 := beq_iff_eq.mpr c112
                          have c112b1 := bne_eq_false_iff_eq.mpr c112
                          clear c112
                          obtain rfl := Option.some.inj H
                          go_wp2_with (first | ((with_reducible refine gate_callee (f := 24) rfl ?_); refine zGo (N := (some 158)) Try.func24 #[.slice Ao25 t226.length co25] ?_; (with_reducible refine (pleatref00_CopyBytes.calls _ _ t226 t269 _ ?side1 ?side2 A107.out).mono ?_); (case side1 => exact zS); (case side2 => exact zS); rintro e w113 ⟨v270, rfl, ho0, hb⟩; refine ⟨_, rfl, ?_⟩; refine zs (Kd.R_elder' (by (with_reducible repeat (first | apply Kd.R_alloc | apply Kd.R_drewN | apply Kd.R_drew)); exact HO_7.out) (Kd.R_base ho0) hb) (zs (Kd.R_below (by (with_reducible repeat (first | apply Kd.R_alloc | apply Kd.R_drewN | apply Kd.R_drew)); exact HO_253000.out) hb) (zs (Kd.R_below (by (with_reducible repeat (first | apply Kd.R_alloc | apply Kd.R_drewN | apply Kd.R_drew)); exact HO_253002.out) hb) (zs (Kd.R_lower (Kd.R_new' ho0 (Kd.R_lt (by (with_reducible repeat (first | apply Kd.R_alloc | apply Kd.R_drewN | apply Kd.R_drew)); exact HO_7.out))) (below_size (zHB))) (zs (blk_below (g := gb216) zBK hb) (zs (blk_below (g := gb252) zBK hb) (zs (below_step (zHB) hb) ?_)))))); clear HO_7 HO_253000 HO_253002 BK216 BK252 HB; intro HB BK252 BK216 HO271 HO_253002 HO_253000 HO_7; clear hb ho0; have p110 : 0 ≤ (a1 : Int) := zOD; have q110 : (a1 : Int) < ((t269.length : Int) : Int) := zOD; obtain ⟨go110, co110, eo110, gb110, gl110, cl110, HG110⟩ := Kd.R_form HO271.out (by omega); (first | cases eo110 | (injection eo110 with ea_ en_ ec_; (first | subst ea_ | (injection ea_ with ea_; subst ea_)); subst ec_; clear en_)); have GB110 := Aside0.mk gb110; have GG110 := Aside0.mk HG110; clear gb110 gl110 HG110; obtain ⟨hx110_0, hf110_0⟩ := Kd.R_celln 0 HO271.out (a1 : Int) p110 q110; replace p110 := eq_true p110; replace q110 := eq_true q110; have n_ := Aside0.mk (Kd.R_mono (ok' := (fun k_ => some k_ ≠ (.slice Ao25 t226.length co25 : Value).ownBlock)) HO271.out (fun k_ hk => hk.2)); clear HO271; have HO271 := n_; clear n_; obtain ⟨hy114_, hz114_⟩ := Kd.R_celln 0 HO271.out (a1 : Int) (zOD) (zOD); have HP114 := Kd.R_putg HO271.out (a1 : Int) a2) | ((with_reducible refine gate_store (t := 5) (p := 162) rfl ?_); refine store_event (t := 5) (p := 162) (v := ?vo_w115) (w1 := (w113.setCell ⟨go110, (a1 : Int).toNat, none⟩ (.int .u8 a2))) ?hg ?ho ?hn ?hr ?_; (case ho => rfl); (case hg => rfl); (case hn => rfl); (case hr => first | (go_simp; done) | (go_simp; rfl)); intro w115 hw; have hg : w113.grownBy w115 (some go110) := (by rw [hw]; exact HP114.2); have hp_ : Kd.R (Kd.int .u8) 5 w115 w.heap.size (fun k_ => some k_ ≠ (.slice Ao25 t226.length co25 : Value).ownBlock) (.slice (some ⟨go110, 0, none⟩) t269.length co110) y272 := (by rw [hw, Ny272.out]; exact HP114.1); clear HP114; refine zs (Kd.R_after (v := (.slice (some ⟨go110, 0, none⟩) t269.length co110)) (v1 := (.slice (some ⟨go110, 0, none⟩) t269.length co110)) (ok := (fun _ => True)) (by (with_reducible repeat (first | apply Kd.R_alloc | apply Kd.R_drewN | apply Kd.R_drew)); exact HO_7.out) hg (.inl rfl)) (zs (Kd.R_over' (v := (.slice (some ⟨go110, 0, none⟩) t269.length co110)) (by (with_reducible repeat (first | apply Kd.R_alloc | apply Kd.R_drewN | apply Kd.R_drew)); exact HO_253000.out) (Kd.R_typed HO271.out) (by decide) hg) (zs (Kd.R_over' (v := (.slice (some ⟨go110, 0, none⟩) t269.length co110)) (by (with_reducible repeat (first | apply Kd.R_alloc | apply Kd.R_drewN | apply Kd.R_drew)); exact HO_253002.out) (Kd.R_typed HO271.out) (by decide) hg) (zs (blk_grown (g := gb216) zBK hg (Kd.R_ne HO271.out BK216.out (by decide))) (zs (blk_grown (g := gb252) zBK hg (Kd.R_ne HO271.out BK252.out (by decide))) (zs hp_ (zs ((by rw [hw]; exact below_set (HB.out) GB110.out : Below w.heap.size w w115)) ?_)))))); clear HO_7 HO_253000 HO_253002 BK216 BK252 HO271 HB; intro HB HO271 BK252 BK216 HO_253002 HO_253000 HO_7; clear hg hw hp_) | ((with_reducible refine gate_callee (f := 23) rfl ?_); refine goesL_ (some 165) rfl rfl Try.func23 (by kernel_rfl) rfl #[.slice (some ⟨go110, 0, none⟩) y272.length co110] rfl (by (try simp only [List.map_toArray, List.map_cons, List.map_nil]); first | done | (rw [show y272.length = t269.length from (Kd.R_reads' HO271.out).1.symm] <;> rfl) | rfl | (simp only [List.length_drop, List.length_take]; rfl)) ?_; (with_reducible refine (image_Read.calls kj96 _ _ y272 t273 t276 t277 t280 t281 _ ?side1 ?side2 A111.out).mono ?_); (case side1 => exact zS); (case side2 => rw [show y272.length = t269.length from (Kd.R_reads' HO271.out).1.symm]; exact (Kd.R_reads' HO271.out).2.1); rintro e w116 ⟨v274, v278, rfl, ho0, ho1, hb⟩; refine ⟨_, rfl, ?_⟩; refine zs (Kd.R_below (by (with_reducible repeat (first | apply Kd.R_alloc | apply Kd.R_drewN | apply Kd.R_drew)); exact HO_7.out) hb) (zs (Kd.R_elder' (by (with_reducible repeat (first | apply Kd.R_alloc | apply Kd.R_drewN | apply Kd.R_drew)); exact HO_253000.out) (Kd.R_base ho0) hb) (zs (Kd.R_elder' (by (with_reducible repeat (first | apply Kd.R_alloc | apply Kd.R_drewN | apply Kd.R_drew)); exact HO_253002.out) (Kd.R_base ho1) hb) (zs (Kd.R_below (by (with_reducible repeat (first | apply Kd.R_alloc | apply Kd.R_drewN | apply Kd.R_drew)); exact HO271.out) hb) (zs (Kd.R_lower (Kd.R_new' ho0 (Kd.R_lt (by (with_reducible repeat (first | apply Kd.R_alloc | apply Kd.R_drewN | apply Kd.R_drew)); exact HO_253000.out))) (below_size (zHB))) (zs (Kd.R_lower (Kd.R_new' ho1 (Kd.R_lt (by (with_reducible repeat (first | apply Kd.R_alloc | apply Kd.R_drewN | apply Kd.R_drew)); exact HO_253002.out))) (below_size (zHB))) (zs (blk_below (g := gb216) zBK hb) (zs (blk_below (g := gb252) zBK hb) (zs (below_step (zHB) hb) ?_)))))))); clear HO_7 HO_253000 HO_253002 HO271 BK216 BK252 HB; intro HB BK252 BK216 HO279 HO275 HO271 HO_253002 HO_253000 HO_7; clear hb ho0 ho1) | ((with_reducible refine gate_dst (N := 20) rfl ?_); (try (refine gate_guard (by rfl) ?_; dsimp only)); refine zBox (N := 20) (cs := #[.slice none 0 0, .int .i64 0, .slice none 0 0]) (t := 25) ?_; intro gb282 hg w117 hbox hb; refine zs (Kd.R_below (by (with_reducible repeat (first | apply Kd.R_alloc | apply Kd.R_drewN | apply Kd.R_drew)); exact HO_7.out) hb) (zs (Kd.R_below (by (with_reducible repeat (first | apply Kd.R_alloc | apply Kd.R_drewN | apply Kd.R_drew)); exact HO_253000.out) hb) (zs (Kd.R_below (by (with_reducible repeat (first | apply Kd.R_alloc | apply Kd.R_drewN | apply Kd.R_drew)); exact HO_253002.out) hb) (zs (Kd.R_below (by (with_reducible repeat (first | apply Kd.R_alloc | apply Kd.R_drewN | apply Kd.R_drew)); exact HO271.out) hb) (zs (Kd.R_below (by (with_reducible repeat (first | apply Kd.R_alloc | apply Kd.R_drewN | apply Kd.R_drew)); exact HO275.out) hb) (zs (Kd.R_below (by (with_reducible repeat (first | apply Kd.R_alloc | apply Kd.R_drewN | apply Kd.R_drew)); exact HO279.out) hb) (zs (blk_below (g := gb216) zBK hb) (zs (blk_below (g := gb252) zBK hb) (zs (below_step (zHB) hb) (zs hbox (zs (zGe hg zHB) (zs (zGe hg zHB) (zs (zNl hg zBK : gb216 ≠ gb282) (zs (zNg hg zBK : gb282 ≠ gb216) (zs (zNl hg zBK : gb252 ≠ gb282) (zs ((zNg hg zBK : gb282 ≠ gb252)) ?_))))))))))))))); clear HO_7 HO_253000 HO_253002 HO271 HO275 HO279 BK216 BK252 HB; intro NB282_252 NB252_282 NB282_216 NB216_282 GE282 GW282 BK282 HB BK252 BK216 HO279 HO275 HO271 HO_253002 HO_253000 HO_7; clear hb hbox hg; obtain ⟨Ao118, co118, eo118⟩ := Kd.R_slice HO275.out; subst eo118; have hnb119 := NB282_216.out; have hnc119 := NB216_282.out; have hnb120 := NB282_252.out; have hnc120 := NB252_282.out; have hcz121 := blk_cell BK282.out; have hfz121 := blk_frozen BK282.out; obtain ⟨Ao122, co122, eo122⟩ := Kd.R_slice HO279.out; subst eo122))
                          go_ret
                          exact ⟨zE, zHB⟩
                        · rw [if_neg c112] at H
                          have c112b0 := beq_eq_false_iff_ne.mpr c112
                          have c112b1 := bne_iff_ne.mpr c112
                          replace H := Option.bind_eq_some_iff.mp H
                          obtain ⟨t283, A1230, H⟩ := H
                          (try dsimp only at H)
                          have A123 := Aside0.mk A1230
                          clear A1230
                          obtain rfl := Option.some.inj H
                          go_wp2_with (first | ((with_reducible refine gate_callee (f := 24) rfl ?_); refine zGo (N := (some 158)) Try.func24 #[.slice Ao25 t226.length co25] ?_; (with_reducible refine (pleatref00_CopyBytes.calls _ _ t226 t269 _ ?side1 ?side2 A107.out).mono ?_); (case side1 => exact zS); (case side2 => exact zS); rintro e w124 ⟨v270, rfl, ho0, hb⟩; refine ⟨_, rfl, ?_⟩; refine zs (Kd.R_elder' (by (with_reducible repeat (first | apply Kd.R_alloc | apply Kd.R_drewN | apply Kd.R_drew)); exact HO_7.out) (Kd.R_base ho0) hb) (zs (Kd.R_below (by (with_reducible repeat (first | apply Kd.R_alloc | apply Kd.R_drewN | apply Kd.R_drew)); exact HO_253000.out) hb) (zs (Kd.R_below (by (with_reducible repeat (first | apply Kd.R_alloc | apply Kd.R_drewN | apply Kd.R_drew)); exact HO_253002.out) hb) (zs (Kd.R_lower (Kd.R_new' ho0 (Kd.R_lt (by (with_reducible repeat (first | apply Kd.R_alloc | apply Kd.R_drewN | apply Kd.R_drew)); exact HO_7.out))) (below_size (zHB))) (zs (blk_below (g := gb216) zBK hb) (zs (blk_below (g := gb252) zBK hb) (zs (below_step (zHB) hb) ?_)))))); clear HO_7 HO_253000 HO_253002 BK216 BK252 HB; intro HB BK252 BK216 HO271 HO_253002 HO_253000 HO_7; clear hb ho0; have p110 : 0 ≤ (a1 : Int) := zOD; have q110 : (a1 : Int) < ((t269.length : Int) : Int) := zOD; obtain ⟨go110, co110, eo110, gb110, gl110, cl110, HG110⟩ := Kd.R_form HO271.out (by omega); (first | cases eo110 | (injection eo110 with ea_ en_ ec_; (first | subst ea_ | (injection ea_ with ea_; subst ea_)); subst ec_; clear en_)); have GB110 := Aside0.mk gb110; have GG110 := Aside0.mk HG110; clear gb110 gl110 HG110; obtain ⟨hx110_0, hf110_0⟩ := Kd.R_celln 0 HO271.out (a1 : Int) p110 q110; replace p110 := eq_true p110; replace q110 := eq_true q110; have n_ := Aside0.mk (Kd.R_mono (ok' := (fun k_ => some k_ ≠ (.slice Ao25 t226.length co25 : Value).ownBlock)) HO271.out (fun k_ hk => hk.2)); clear HO271; have HO271 := n_; clear n_; obtain ⟨hy125_, hz125_⟩ := Kd.R_celln 0 HO271.out (a1 : Int) (zOD) (zOD); have HP125 := Kd.R_putg HO271.out (a1 : Int) a2) | ((with_reducible refine gate_store (t := 5) (p := 162) rfl ?_); refine store_event (t := 5) (p := 162) (v := ?vo_w126) (w1 := (w124.setCell ⟨go110, (a1 : Int).toNat, none⟩ (.int .u8 a2))) ?hg ?ho ?hn ?hr ?_; (case ho => rfl); (case hg => rfl); (case hn => rfl); (case hr => first | (go_simp; done) | (go_simp; rfl)); intro w126 hw; have hg : w124.grownBy w126 (some go110) := (by rw [hw]; exact HP125.2); have hp_ : Kd.R (Kd.int .u8) 5 w126 w.heap.size (fun k_ => some k_ ≠ (.slice Ao25 t226.length co25 : Value).ownBlock) (.slice (some ⟨go110, 0, none⟩) t269.length co110) y272 := (by rw [hw, Ny272.out]; exact HP125.1); clear HP125; refine zs (Kd.R_after (v := (.slice (some ⟨go110, 0, none⟩) t269.length co110)) (v1 := (.slice (some ⟨go110, 0, none⟩) t269.length co110)) (ok := (fun _ => True)) (by (with_reducible repeat (first | apply Kd.R_alloc | apply Kd.R_drewN | apply Kd.R_drew)); exact HO_7.out) hg (.inl rfl)) (zs (Kd.R_over' (v := (.slice (some ⟨go110, 0, none⟩) t269.length co110)) (by (with_reducible repeat (first | apply Kd.R_alloc | apply Kd.R_drewN | apply Kd.R_drew)); exact HO_253000.out) (Kd.R_typed HO271.out) (by decide) hg) (zs (Kd.R_over' (v := (.slice (some ⟨go110, 0, none⟩) t269.length co110)) (by (with_reducible repeat (first | apply Kd.R_alloc | apply Kd.R_drewN | apply Kd.R_drew)); exact HO_253002.out) (Kd.R_typed HO271.out) (by decide) hg) (zs (blk_grown (g := gb216) zBK hg (Kd.R_ne HO271.out BK216.out (by decide))) (zs (blk_grown (g := gb252) zBK hg (Kd.R_ne HO271.out BK252.out (by decide))) (zs hp_ (zs ((by rw [hw]; exact below_set (HB.out) GB110.out : Below w.heap.size w w126)) ?_)))))); clear HO_7 HO_253000 HO_253002 BK216 BK252 HO271 HB; intro HB HO271 BK252 BK216 HO_253002 HO_253000 HO_7; clear hg hw hp_) | ((with_reducible refine gate_callee (f := 23) rfl ?_); refine goesL_ (some 165) rfl rfl Try.func23 (by kernel_rfl) rfl #[.slice (some ⟨go110, 0, none⟩) y272.length co110] rfl (by (try simp only [List.map_toArray, List.map_cons, List.map_nil]); first | done | (rw [show y272.length = t269.length from (Kd.R_reads' HO271.out).1.symm] <;> rfl) | rfl | (simp only [List.length_drop, List.length_take]; rfl)) ?_; (with_reducible refine (image_Read.calls kj96 _ _ y272 t273 t276 t277 t280 t281 _ ?side1 ?side2 A111.out).mono ?_); (case side1 => exact zS); (case side2 => rw [show y272.length = t269.length from (Kd.R_reads' HO271.out).1.symm]; exact (Kd.R_reads' HO271.out).2.1); rintro e w127 ⟨v274, v278, rfl, ho0, ho1, hb⟩; refine ⟨_, rfl, ?_⟩; refine zs (Kd.R_below (by (with_reducible repeat (first | apply Kd.R_alloc | apply Kd.R_drewN | apply Kd.R_drew)); exact HO_7.out) hb) (zs (Kd.R_elder' (by (with_reducible repeat (first | apply Kd.R_alloc | apply Kd.R_drewN | apply Kd.R_drew)); exact HO_253000.out) (Kd.R_base ho0) hb) (zs (Kd.R_elder' (by (with_reducible repeat (first | apply Kd.R_alloc | apply Kd.R_drewN | apply Kd.R_drew)); exact HO_253002.out) (Kd.R_base ho1) hb) (zs (Kd.R_below (by (with_reducible repeat (first | apply Kd.R_alloc | apply Kd.R_drewN | apply Kd.R_drew)); exact HO271.out) hb) (zs (Kd.R_lower (Kd.R_new' ho0 (Kd.R_lt (by (with_reducible repeat (first | apply Kd.R_alloc | apply Kd.R_drewN | apply Kd.R_drew)); exact HO_253000.out))) (below_size (zHB))) (zs (Kd.R_lower (Kd.R_new' ho1 (Kd.R_lt (by (with_reducible repeat (first | apply Kd.R_alloc | apply Kd.R_drewN | apply Kd.R_drew)); exact HO_253002.out))) (below_size (zHB))) (zs (blk_below (g := gb216) zBK hb) (zs (blk_below (g := gb252) zBK hb) (zs (below_step (zHB) hb) ?_)))))))); clear HO_7 HO_253000 HO_253002 HO271 BK216 BK252 HB; intro HB BK252 BK216 HO279 HO275 HO271 HO_253002 HO_253000 HO_7; clear hb ho0 ho1) | ((with_reducible refine gate_dst (N := 20) rfl ?_); (try (refine gate_guard (by rfl) ?_; dsimp only)); refine zBox (N := 20) (cs := #[.slice none 0 0, .int .i64 0, .slice none 0 0]) (t := 25) ?_; intro gb282 hg w128 hbox hb; refine zs (Kd.R_below (by (with_reducible repeat (first | apply Kd.R_alloc | apply Kd.R_drewN | apply Kd.R_drew)); exact HO_7.out) hb) (zs (Kd.R_below (by (with_reducible repeat (first | apply Kd.R_alloc | apply Kd.R_drewN | apply Kd.R_drew)); exact HO_253000.out) hb) (zs (Kd.R_below (by (with_reducible repeat (first | apply Kd.R_alloc | apply Kd.R_drewN | apply Kd.R_drew)); exact HO_253002.out) hb) (zs (Kd.R_below (by (with_reducible repeat (first | apply Kd.R_alloc | apply Kd.R_drewN | apply Kd.R_drew)); exact HO271.out) hb) (zs (Kd.R_below (by (with_reducible repeat (first | apply Kd.R_alloc | apply Kd.R_drewN | apply Kd.R_drew)); exact HO275.out) hb) (zs (Kd.R_below (by (with_reducible repeat (first | apply Kd.R_alloc | apply Kd.R_drewN | apply Kd.R_drew)); exact HO279.out) hb) (zs (blk_below (g := gb216) zBK hb) (zs (blk_below (g := gb252) zBK hb) (zs (below_step (zHB) hb) (zs hbox (zs (zGe hg zHB) (zs (zGe hg zHB) (zs (zNl hg zBK : gb216 ≠ gb282) (zs (zNg hg zBK : gb282 ≠ gb216) (zs (zNl hg zBK : gb252 ≠ gb282) (zs ((zNg hg zBK : gb282 ≠ gb252)) ?_))))))))))))))); clear HO_7 HO_253000 HO_253002 HO271 HO275 HO279 BK216 BK252 HB; intro NB282_252 NB252_282 NB282_216 NB216_282 GE282 GW282 BK282 HB BK252 BK216 HO279 HO275 HO271 HO_253002 HO_253000 HO_7; clear hb hbox hg; obtain ⟨Ao129, co129, eo129⟩ := Kd.R_slice HO275.out; subst eo129; have hnb130 := NB282_216.out; have hnc130 := NB216_282.out; have hnb131 := NB282_252.out; have hnc131 := NB252_282.out; have hcz132 := blk_cell BK282.out; have hfz132 := blk_frozen BK282.out; obtain ⟨Ao133, co133, eo133⟩ := Kd.R_slice HO279.out; subst eo133) | (go_at_call 20; (with_reducible refine (pleatlaw07_lives.calls kj96  t283 _ A123.out).mono ?_); rintro e w134 ⟨rfl, hb⟩; refine zs (Kd.R_below (by (with_reducible repeat (first | apply Kd.R_alloc | apply Kd.R_drewN | apply Kd.R_drew)); exact (Kd.R_mono (Kd.R_far (p := ⟨gb282, 2, none⟩) (Kd.R_far (p := ⟨gb282, 1, none⟩) (Kd.R_far (p := ⟨gb282, 0, none⟩) (Kd.R_types HO_7.out BK282.out (by decide)) (fun _ hk => hk.2) (.slice Ao129 t273.length co129)) (fun _ hk => hk.2) (.int .i64 t276)) (fun _ hk => hk.2) (.slice Ao133 t277.length co133)) (fun _ h_ => h_.1))) hb) (zs (Kd.R_below (by (with_reducible repeat (first | apply Kd.R_alloc | apply Kd.R_drewN | apply Kd.R_drew)); exact (Kd.R_mono (Kd.R_far (p := ⟨gb282, 2, none⟩) (Kd.R_far (p := ⟨gb282, 1, none⟩) (Kd.R_far (p := ⟨gb282, 0, none⟩) (Kd.R_types HO_253000.out BK282.out (by decide)) (fun _ hk => hk.2) (.slice Ao129 t273.length co129)) (fun _ hk => hk.2) (.int .i64 t276)) (fun _ hk => hk.2) (.slice Ao133 t277.length co133)) (fun _ h_ => h_.1))) hb) (zs (Kd.R_below (by (with_reducible repeat (first | apply Kd.R_alloc | apply Kd.R_drewN | apply Kd.R_drew)); exact (Kd.R_mono (Kd.R_far (p := ⟨gb282, 2, none⟩) (Kd.R_far (p := ⟨gb282, 1, none⟩) (Kd.R_far (p := ⟨gb282, 0, none⟩) (Kd.R_types HO_253002.out BK282.out (by decide)) (fun _ hk => hk.2) (.slice Ao129 t273.length co129)) (fun _ hk => hk.2) (.int .i64 t276)) (fun _ hk => hk.2) (.slice Ao133 t277.length co133)) (fun _ h_ => h_.1))) hb) (zs (Kd.R_below (by (with_reducible repeat (first | apply Kd.R_alloc | apply Kd.R_drewN | apply Kd.R_drew)); exact (Kd.R_mono (Kd.R_far (p := ⟨gb282, 2, none⟩) (Kd.R_far (p := ⟨gb282, 1, none⟩) (Kd.R_far (p := ⟨gb282, 0, none⟩) (Kd.R_types HO271.out BK282.out (by decide)) (fun _ hk => hk.2) (.slice Ao129 t273.length co129)) (fun _ hk => hk.2) (.int .i64 t276)) (fun _ hk => hk.2) (.slice Ao133 t277.length co133)) (fun _ h_ => h_.1))) hb) (zs (Kd.R_below (by (with_reducible repeat (first | apply Kd.R_alloc | apply Kd.R_drewN | apply Kd.R_drew)); exact (Kd.R_mono (Kd.R_far (p := ⟨gb282, 2, none⟩) (Kd.R_far (p := ⟨gb282, 1, none⟩) (Kd.R_far (p := ⟨gb282, 0, none⟩) (Kd.R_types HO275.out BK282.out (by decide)) (fun _ hk => hk.2) (.slice Ao129 t273.length co129)) (fun _ hk => hk.2) (.int .i64 t276)) (fun _ hk => hk.2) (.slice Ao133 t277.length co133)) (fun _ h_ => h_.1))) hb) (zs (Kd.R_below (by (with_reducible repeat (first | apply Kd.R_alloc | apply Kd.R_drewN | apply Kd.R_drew)); exact (Kd.R_mono (Kd.R_far (p := ⟨gb282, 2, none⟩) (Kd.R_far (p := ⟨gb282, 1, none⟩) (Kd.R_far (p := ⟨gb282, 0, none⟩) (Kd.R_types HO279.out BK282.out (by decide)) (fun _ hk => hk.2) (.slice Ao129 t273.length co129)) (fun _ hk => hk.2) (.int .i64 t276)) (fun _ hk => hk.2) (.slice Ao133 t277.length co133)) (fun _ h_ => h_.1))) hb) (zs (blk_below (g := gb216) zBK hb) (zs (blk_below (g := gb252) zBK hb) (zs (blk_below (g := gb282) (o := .cells #[.slice Ao129 t273.length co129, .int .i64 t276, .slice Ao133 t277.length co133] 25 (0, 0)) (zBK) hb) (zs (below_step (zHB) hb) ?_))))))))); clear HO_7 HO_253000 HO_253002 HO271 HO275 HO279 BK216 BK252 BK282 HB; intro HB BK282 BK252 BK216 HO279 HO275 HO271 HO_253002 HO_253000 HO_7; clear hb))
                          go_ret
                          exact ⟨zE, zHB⟩
    · rw [if_neg c13] at H
      have c13b0 := beq_eq_false_iff_ne.mpr c13
      have c13b1 := bne_iff_ne.mpr c13
      replace H := Option.bind_eq_some_iff.mp H
      obtain ⟨⟨t230, t233, t234⟩, A1350, H⟩ := H
      (try dsimp only at H)
      have A135 := Aside0.mk A1350
      clear A1350
      replace H := Option.bind_eq_some_iff.mp H
      obtain ⟨⟨t237, t238⟩, A1360, H⟩ := H
      (try dsimp only at H)
      have A136 := Aside0.mk A1360
      clear A1360
      by_cases c137 : t237 = t229
      · rw [if_pos c137] at H
        have c137b0 := beq_iff_eq.mpr c137
        have c137b1 := bne_eq_false_iff_eq.mpr c137
        clear c137
        by_cases c138 : (t226.length : Int) = 0
        · rw [if_pos c138] at H
          have c138b0 := beq_iff_eq.mpr c138
          have c138b1 := bne_eq_false_iff_eq.mpr c138
          clear c138
          replace H := Option.bind_eq_some_iff.mp H
          obtain ⟨t239, A1390, H⟩ := H
          (try dsimp only at H)
          have A139 := Aside0.mk A1390
          clear A1390
          obtain rfl := Option.some.inj H
          go_enter Try.func4, Try.ntmps4
          go_wp2_with (first | ((with_reducible refine gate_dst (N := 3) rfl ?_); (try (refine gate_guard (by rfl) ?_; dsimp only)); refine zBox (N := 3) (cs := #[.slice A0_0 l0_0.length c0_0, .int .i64 a0_1, .slice A0_2 l0_2.length c0_2]) (t := 25) ?_; intro gb216 hg w140 hbox hb; refine zs (below_step (zHB) hb) (zs hbox (zs (zGe hg zHB) (zs (zGe hg zHB) ?_))); clear HB; intro GE216 GW216 BK216 HB; clear hb hbox hg; have hcz141 := blk_cell BK216.out; have hfz141 := blk_frozen BK216.out) | ((with_reducible refine gate_callee (f := 19) rfl ?_); refine zGo (N := (some 24)) Try.func19 #[.agg #[.slice A0_0 l0_0.length c0_0, .int .i64 a0_1, .slice A0_2 l0_2.length c0_2]] ?_; (with_reducible refine (pleatlaw07_heavy.calls _ _ l0_0 a0_1 _ _ l0_2 false _ ?side1 ?side2 ?side3 ?side4 A4.out).mono ?_); (case side1 => exact zS); (case side2 => exact zS); (case side3 => exact zS); (case side4 => exact zS); rintro e w142 ⟨rfl, hb⟩; refine ⟨_, rfl, ?_⟩; refine zs (blk_below (g := gb216) zBK hb) (zs (below_step (zHB) hb) ?_); clear BK216 HB; intro HB BK216; clear hb; have hcz143 := blk_cell BK216.out; have hfz143 := blk_frozen BK216.out) | ((with_reducible refine gate_callee (f := 15) rfl ?_); refine zGo (N := (some 28)) Try.func15 #[.agg #[.slice A0_0 l0_0.length c0_0, .int .i64 a0_1, .slice A0_2 l0_2.length c0_2]] ?_; (with_reducible refine (pleatref00_CopyImage.calls _ _ l0_0 a0_1 _ _ l0_2 t219 t222 t223 _ ?side1 ?side2 ?side3 ?side4 A11.out).mono ?_); (case side1 => exact zS); (case side2 => exact zS); (case side3 => exact zS); (case side4 => exact zS); rintro e w144 ⟨v220, v224, rfl, ho0, ho1, hb⟩; refine ⟨_, rfl, ?_⟩; refine zs (Kd.R_lower ho0 (below_size (zHB))) (zs (Kd.R_lower ho1 (below_size (zHB))) (zs (blk_below (g := gb216) zBK hb) (zs (below_step (zHB) hb) ?_))); clear BK216 HB; intro HB BK216 HO225 HO221; clear hb ho0 ho1; obtain ⟨Ao145, co145, eo145⟩ := Kd.R_slice HO221.out; subst eo145; obtain ⟨Ao146, co146, eo146⟩ := Kd.R_slice HO225.out; subst eo146) | ((with_reducible refine gate_callee (f := 21) rfl ?_); refine zGo (N := (some 29)) Try.func21 #[.agg #[.slice Ao145 t219.length co145, .int .i64 t222, .slice Ao146 t223.length co146]] ?_; (with_reducible refine (image_Write.calls k _ _ t219 t222 _ _ t223 t226 t229 _ ?side1 ?side2 ?side3 ?side4 A12.out).mono ?_); (case side1 => exact zS); (case side2 => exact zS); (case side3 => exact zS); (case side4 => exact zS); rintro e w147 ⟨v227, rfl, ho0, hb⟩; refine ⟨_, rfl, ?_⟩; refine zs (Kd.R_below (by (with_reducible repeat (first | apply Kd.R_alloc | apply Kd.R_drewN | apply Kd.R_drew)); exact HO221.out) hb) (zs (Kd.R_below (by (with_reducible repeat (first | apply Kd.R_alloc | apply Kd.R_drewN | apply Kd.R_drew)); exact HO225.out) hb) (zs (Kd.R_lower ho0 (below_size (zHB))) (zs (blk_below (g := gb216) zBK hb) (zs (below_step (zHB) hb) ?_)))); clear HO221 HO225 BK216 HB; intro HB BK216 HO228 HO225 HO221; clear hb ho0; have hcz148 := blk_cell BK216.out; have hfz148 := blk_frozen BK216.out) | ((with_reducible refine gate_callee (f := 15) rfl ?_); refine zGo (N := (some 36)) Try.func15 #[.agg #[.slice A0_0 l0_0.length c0_0, .int .i64 a0_1, .slice A0_2 l0_2.length c0_2]] ?_; (with_reducible refine (pleatref00_CopyImage.calls _ _ l0_0 a0_1 _ _ l0_2 t230 t233 t234 _ ?side1 ?side2 ?side3 ?side4 A135.out).mono ?_); (case side1 => exact zS); (case side2 => exact zS); (case side3 => exact zS); (case side4 => exact zS); rintro e w149 ⟨v231, v235, rfl, ho0, ho1, hb⟩; refine ⟨_, rfl, ?_⟩; refine zs (Kd.R_elder' (by (with_reducible repeat (first | apply Kd.R_alloc | apply Kd.R_drewN | apply Kd.R_drew)); exact HO221.out) (Kd.R_base ho0) hb) (zs (Kd.R_elder' (by (with_reducible repeat (first | apply Kd.R_alloc | apply Kd.R_drewN | apply Kd.R_drew)); exact HO225.out) (Kd.R_base ho1) hb) (zs (Kd.R_below (by (with_reducible repeat (first | apply Kd.R_alloc | apply Kd.R_drewN | apply Kd.R_drew)); exact HO228.out) hb) (zs (Kd.R_lower (Kd.R_new' ho0 (Kd.R_lt (by (with_reducible repeat (first | apply Kd.R_alloc | apply Kd.R_drewN | apply Kd.R_drew)); exact HO221.out))) (below_size (zHB))) (zs (Kd.R_lower (Kd.R_new' ho1 (Kd.R_lt (by (with_reducible repeat (first | apply Kd.R_alloc | apply Kd.R_drewN | apply Kd.R_drew)); exact HO225.out))) (below_size (zHB))) (zs (blk_below (g := gb216) zBK hb) (zs (below_step (zHB) hb) ?_)))))); clear HO221 HO225 HO228 BK216 HB; intro HB BK216 HO236 HO232 HO228 HO225 HO221; clear hb ho0 ho1; obtain ⟨Ao150, co150, eo150⟩ := Kd.R_slice HO232.out; subst eo150; obtain ⟨Ao151, co151, eo151⟩ := Kd.R_slice HO236.out; subst eo151) | ((with_reducible refine gate_callee (f := 22) rfl ?_); refine zGo (N := (some 37)) Try.func22 #[.agg #[.slice Ao150 t230.length co150, .int .i64 t233, .slice Ao151 t234.length co151]] ?_; (with_reducible refine (image_Check.calls k _ _ t230 t233 _ _ t234 t237 t238 _ ?side1 ?side2 ?side3 ?side4 A136.out).mono ?_); (case side1 => exact zS); (case side2 => exact zS); (case side3 => exact zS); (case side4 => exact zS); rintro e w152 ⟨rfl, hb⟩; refine ⟨_, rfl, ?_⟩; refine zs (Kd.R_below (by (with_reducible repeat (first | apply Kd.R_alloc | apply Kd.R_drewN | apply Kd.R_drew)); exact HO221.out) hb) (zs (Kd.R_below (by (with_reducible repeat (first | apply Kd.R_alloc | apply Kd.R_drewN | apply Kd.R_drew)); exact HO225.out) hb) (zs (Kd.R_below (by (with_reducible repeat (first | apply Kd.R_alloc | apply Kd.R_drewN | apply Kd.R_drew)); exact HO228.out) hb) (zs (Kd.R_below (by (with_reducible repeat (first | apply Kd.R_alloc | apply Kd.R_drewN | apply Kd.R_drew)); exact HO232.out) hb) (zs (Kd.R_below (by (with_reducible repeat (first | apply Kd.R_alloc | apply Kd.R_drewN | apply Kd.R_drew)); exact HO236.out) hb) (zs (blk_below (g := gb216) zBK hb) (zs (below_step (zHB) hb) ?_)))))); clear HO221 HO225 HO228 HO232 HO236 BK216 HB; intro HB BK216 HO236 HO232 HO228 HO225 HO221; clear hb; obtain ⟨Ao153, co153, eo153⟩ := Kd.R_slice HO228.out; subst eo153) | (go_at_call 20; (with_reducible refine (pleatlaw07_lives.calls k  t239 _ A139.out).mono ?_); rintro e w154 ⟨rfl, hb⟩; refine zs (Kd.R_below (by (with_reducible repeat (first | apply Kd.R_alloc | apply Kd.R_drewN | apply Kd.R_drew)); exact HO221.out) hb) (zs (Kd.R_below (by (with_reducible repeat (first | apply Kd.R_alloc | apply Kd.R_drewN | apply Kd.R_drew)); exact HO225.out) hb) (zs (Kd.R_below (by (with_reducible repeat (first | apply Kd.R_alloc | apply Kd.R_drewN | apply Kd.R_drew)); exact HO228.out) hb) (zs (Kd.R_below (by (with_reducible repeat (first | apply Kd.R_alloc | apply Kd.R_drewN | apply Kd.R_drew)); exact HO232.out) hb) (zs (Kd.R_below (by (with_reducible repeat (first | apply Kd.R_alloc | apply Kd.R_drewN | apply Kd.R_drew)); exact HO236.out) hb) (zs (blk_below (g := gb216) zBK hb) (zs (below_step (zHB) hb) ?_)))))); clear HO221 HO225 HO228 HO232 HO236 BK216 HB; intro HB BK216 HO236 HO232 HO228 HO225 HO221; clear hb))
          go_ret
          exact ⟨zE, zHB⟩
        · rw [if_neg c138] at H
          have c138b0 := beq_eq_false_iff_ne.mpr c138
          have c138b1 := bne_iff_ne.mpr c138
          have c138b2 : ¬ (t226 = []) := fun h_ => c138 (by rw [h_]; rfl)
          obtain rfl := Option.some.inj H
          go_enter Try.func4, Try.ntmps4
          go_wp2_with (first | ((with_reducible refine gate_dst (N := 3) rfl ?_); (try (refine gate_guard (by rfl) ?_; dsimp only)); refine zBox (N := 3) (cs := #[.slice A0_0 l0_0.length c0_0, .int .i64 a0_1, .slice A0_2 l0_2.length c0_2]) (t := 25) ?_; intro gb216 hg w155 hbox hb; refine zs (below_step (zHB) hb) (zs hbox (zs (zGe hg zHB) (zs (zGe hg zHB) ?_))); clear HB; intro GE216 GW216 BK216 HB; clear hb hbox hg; have hcz156 := blk_cell BK216.out; have hfz156 := blk_frozen BK216.out) | ((with_reducible refine gate_callee (f := 19) rfl ?_); refine zGo (N := (some 24)) Try.func19 #[.agg #[.slice A0_0 l0_0.length c0_0, .int .i64 a0_1, .slice A0_2 l0_2.length c0_2]] ?_; (with_reducible refine (pleatlaw07_heavy.calls _ _ l0_0 a0_1 _ _ l0_2 false _ ?side1 ?side2 ?side3 ?side4 A4.out).mono ?_); (case side1 => exact zS); (case side2 => exact zS); (case side3 => exact zS); (case side4 => exact zS); rintro e w157 ⟨rfl, hb⟩; refine ⟨_, rfl, ?_⟩; refine zs (blk_below (g := gb216) zBK hb) (zs (below_step (zHB) hb) ?_); clear BK216 HB; intro HB BK216; clear hb; have hcz158 := blk_cell BK216.out; have hfz158 := blk_frozen BK216.out) | ((with_reducible refine gate_callee (f := 15) rfl ?_); refine zGo (N := (some 28)) Try.func15 #[.agg #[.slice A0_0 l0_0.length c0_0, .int .i64 a0_1, .slice A0_2 l0_2.length c0_2]] ?_; (with_reducible refine (pleatref00_CopyImage.calls _ _ l0_0 a0_1 _ _ l0_2 t219 t222 t223 _ ?side1 ?side2 ?side3 ?side4 A11.out).mono ?_); (case side1 => exact zS); (case side2 => exact zS); (case side3 => exact zS); (case side4 => exact zS); rintro e w159 ⟨v220, v224, rfl, ho0, ho1, hb⟩; refine ⟨_, rfl, ?_⟩; refine zs (Kd.R_lower ho0 (below_size (zHB))) (zs (Kd.R_lower ho1 (below_size (zHB))) (zs (blk_below (g := gb216) zBK hb) (zs (below_step (zHB) hb) ?_))); clear BK216 HB; intro HB BK216 HO225 HO221; clear hb ho0 ho1; obtain ⟨Ao160, co160, eo160⟩ := Kd.R_slice HO221.out; subst eo160; obtain ⟨Ao161, co161, eo161⟩ := Kd.R_slice HO225.out; subst eo161) | ((with_reducible refine gate_callee (f := 21) rfl ?_); refine zGo (N := (some 29)) Try.func21 #[.agg #[.slice Ao160 t219.length co160, .int .i64 t222, .slice Ao161 t223.length co161]] ?_; (with_reducible refine (image_Write.calls k _ _ t219 t222 _ _ t223 t226 t229 _ ?side1 ?side2 ?side3 ?side4 A12.out).mono ?_); (case side1 => exact zS); (case side2 => exact zS); (case side3 => exact zS); (case side4 => exact zS); rintro e w162 ⟨v227, rfl, ho0, hb⟩; refine ⟨_, rfl, ?_⟩; refine zs (Kd.R_below (by (with_reducible repeat (first | apply Kd.R_alloc | apply Kd.R_drewN | apply Kd.R_drew)); exact HO221.out) hb) (zs (Kd.R_below (by (with_reducible repeat (first | apply Kd.R_alloc | apply Kd.R_drewN | apply Kd.R_drew)); exact HO225.out) hb) (zs (Kd.R_lower ho0 (below_size (zHB))) (zs (blk_below (g := gb216) zBK hb) (zs (below_step (zHB) hb) ?_)))); clear HO221 HO225 BK216 HB; intro HB BK216 HO228 HO225 HO221; clear hb ho0; have hcz163 := blk_cell BK216.out; have hfz163 := blk_frozen BK216.out) | ((with_reducible refine gate_callee (f := 15) rfl ?_); refine zGo (N := (some 36)) Try.func15 #[.agg #[.slice A0_0 l0_0.length c0_0, .int .i64 a0_1, .slice A0_2 l0_2.length c0_2]] ?_; (with_reducible refine (pleatref00_CopyImage.calls _ _ l0_0 a0_1 _ _ l0_2 t230 t233 t234 _ ?side1 ?side2 ?side3 ?side4 A135.out).mono ?_); (case side1 => exact zS); (case side2 => exact zS); (case side3 => exact zS); (case side4 => exact zS); rintro e w164 ⟨v231, v235, rfl, ho0, ho1, hb⟩; refine ⟨_, rfl, ?_⟩; refine zs (Kd.R_elder' (by (with_reducible repeat (first | apply Kd.R_alloc | apply Kd.R_drewN | apply Kd.R_drew)); exact HO221.out) (Kd.R_base ho0) hb) (zs (Kd.R_elder' (by (with_reducible repeat (first | apply Kd.R_alloc | apply Kd.R_drewN | apply Kd.R_drew)); exact HO225.out) (Kd.R_base ho1) hb) (zs (Kd.R_below (by (with_reducible repeat (first | apply Kd.R_alloc | apply Kd.R_drewN | apply Kd.R_drew)); exact HO228.out) hb) (zs (Kd.R_lower (Kd.R_new' ho0 (Kd.R_lt (by (with_reducible repeat (first | apply Kd.R_alloc | apply Kd.R_drewN | apply Kd.R_drew)); exact HO221.out))) (below_size (zHB))) (zs (Kd.R_lower (Kd.R_new' ho1 (Kd.R_lt (by (with_reducible repeat (first | apply Kd.R_alloc | apply Kd.R_drewN | apply Kd.R_drew)); exact HO225.out))) (below_size (zHB))) (zs (blk_below (g := gb216) zBK hb) (zs (below_step (zHB) hb) ?_)))))); clear HO221 HO225 HO228 BK216 HB; intro HB BK216 HO236 HO232 HO228 HO225 HO221; clear hb ho0 ho1; obtain ⟨Ao165, co165, eo165⟩ := Kd.R_slice HO232.out; subst eo165; obtain ⟨Ao166, co166, eo166⟩ := Kd.R_slice HO236.out; subst eo166) | ((with_reducible refine gate_callee (f := 22) rfl ?_); refine zGo (N := (some 37)) Try.func22 #[.agg #[.slice Ao165 t230.length co165, .int .i64 t233, .slice Ao166 t234.length co166]] ?_; (with_reducible refine (image_Check.calls k _ _ t230 t233 _ _ t234 t237 t238 _ ?side1 ?side2 ?side3 ?side4 A136.out).mono ?_); (case side1 => exact zS); (case side2 => exact zS); (case side3 => exact zS); (case side4 => exact zS); rintro e w167 ⟨rfl, hb⟩; refine ⟨_, rfl, ?_⟩; refine zs (Kd.R_below (by (with_reducible repeat (first | apply Kd.R_alloc | apply Kd.R_drewN | apply Kd.R_drew)); exact HO221.out) hb) (zs (Kd.R_below (by (with_reducible repeat (first | apply Kd.R_alloc | apply Kd.R_drewN | apply Kd.R_drew)); exact HO225.out) hb) (zs (Kd.R_below (by (with_reducible repeat (first | apply Kd.R_alloc | apply Kd.R_drewN | apply Kd.R_drew)); exact HO228.out) hb) (zs (Kd.R_below (by (with_reducible repeat (first | apply Kd.R_alloc | apply Kd.R_drewN | apply Kd.R_drew)); exact HO232.out) hb) (zs (Kd.R_below (by (with_reducible repeat (first | apply Kd.R_alloc | apply Kd.R_drewN | apply Kd.R_drew)); exact HO236.out) hb) (zs (blk_below (g := gb216) zBK hb) (zs (below_step (zHB) hb) ?_)))))); clear HO221 HO225 HO228 HO232 HO236 BK216 HB; intro HB BK216 HO236 HO232 HO228 HO225 HO221; clear hb; obtain ⟨Ao168, co168, eo168⟩ := Kd.R_slice HO228.out; subst eo168))
          go_ret
          exact ⟨zE, zHB⟩
      · rw [if_neg c137] at H
        have c137b0 := beq_eq_false_iff_ne.mpr c137
        have c137b1 := bne_iff_ne.mpr c137
        obtain rfl := Option.some.inj H
        go_enter Try.func4, Try.ntmps4
        go_wp2_with (first | ((with_reducible refine gate_dst (N := 3) rfl ?_); (try (refine gate_guard (by rfl) ?_; dsimp only)); refine zBox (N := 3) (cs := #[.slice A0_0 l0_0.length c0_0, .int .i64 a0_1, .slice A0_2 l0_2.length c0_2]) (t := 25) ?_; intro gb216 hg w169 hbox hb; refine zs (below_step (zHB) hb) (zs hbox (zs (zGe hg zHB) (zs (zGe hg zHB) ?_))); clear HB; intro GE216 GW216 BK216 HB; clear hb hbox hg; have hcz170 := blk_cell BK216.out; have hfz170 := blk_frozen BK216.out) | ((with_reducible refine gate_callee (f := 19) rfl ?_); refine zGo (N := (some 24)) Try.func19 #[.agg #[.slice A0_0 l0_0.length c0_0, .int .i64 a0_1, .slice A0_2 l0_2.length c0_2]] ?_; (with_reducible refine (pleatlaw07_heavy.calls _ _ l0_0 a0_1 _ _ l0_2 false _ ?side1 ?side2 ?side3 ?side4 A4.out).mono ?_); (case side1 => exact zS); (case side2 => exact zS); (case side3 => exact zS); (case side4 => exact zS); rintro e w171 ⟨rfl, hb⟩; refine ⟨_, rfl, ?_⟩; refine zs (blk_below (g := gb216) zBK hb) (zs (below_step (zHB) hb) ?_); clear BK216 HB; intro HB BK216; clear hb; have hcz172 := blk_cell BK216.out; have hfz172 := blk_frozen BK216.out) | ((with_reducible refine gate_callee (f := 15) rfl ?_); refine zGo (N := (some 28)) Try.func15 #[.agg #[.slice A0_0 l0_0.length c0_0, .int .i64 a0_1, .slice A0_2 l0_2.length c0_2]] ?_; (with_reducible refine (pleatref00_CopyImage.calls _ _ l0_0 a0_1 _ _ l0_2 t219 t222 t223 _ ?side1 ?side2 ?side3 ?side4 A11.out).mono ?_); (case side1 => exact zS); (case side2 => exact zS); (case side3 => exact zS); (case side4 => exact zS); rintro e w173 ⟨v220, v224, rfl, ho0, ho1, hb⟩; refine ⟨_, rfl, ?_⟩; refine zs (Kd.R_lower ho0 (below_size (zHB))) (zs (Kd.R_lower ho1 (below_size (zHB))) (zs (blk_below (g := gb216) zBK hb) (zs (below_step (zHB) hb) ?_))); clear BK216 HB; intro HB BK216 HO225 HO221; clear hb ho0 ho1; obtain ⟨Ao174, co174, eo174⟩ := Kd.R_slice HO221.out; subst eo174; obtain ⟨Ao175, co175, eo175⟩ := Kd.R_slice HO225.out; subst eo175) | ((with_reducible refine gate_callee (f := 21) rfl ?_); refine zGo (N := (some 29)) Try.func21 #[.agg #[.slice Ao174 t219.length co174, .int .i64 t222, .slice Ao175 t223.length co175]] ?_; (with_reducible refine (image_Write.calls k _ _ t219 t222 _ _ t223 t226 t229 _ ?side1 ?side2 ?side3 ?side4 A12.out).mono ?_); (case side1 => exact zS); (case side2 => exact zS); (case side3 => exact zS); (case side4 => exact zS); rintro e w176 ⟨v227, rfl, ho0, hb⟩; refine ⟨_, rfl, ?_⟩; refine zs (Kd.R_below (by (with_reducible repeat (first | apply Kd.R_alloc | apply Kd.R_drewN | apply Kd.R_drew)); exact HO221.out) hb) (zs (Kd.R_below (by (with_reducible repeat (first | apply Kd.R_alloc | apply Kd.R_drewN | apply Kd.R_drew)); exact HO225.out) hb) (zs (Kd.R_lower ho0 (below_size (zHB))) (zs (blk_below (g := gb216) zBK hb) (zs (below_step (zHB) hb) ?_)))); clear HO221 HO225 BK216 HB; intro HB BK216 HO228 HO225 HO221; clear hb ho0; have hcz177 := blk_cell BK216.out; have hfz177 := blk_frozen BK216.out) | ((with_reducible refine gate_callee (f := 15) rfl ?_); refine zGo (N := (some 36)) Try.func15 #[.agg #[.slice A0_0 l0_0.length c0_0, .int .i64 a0_1, .slice A0_2 l0_2.length c0_2]] ?_; (with_reducible refine (pleatref00_CopyImage.calls _ _ l0_0 a0_1 _ _ l0_2 t230 t233 t234 _ ?side1 ?side2 ?side3 ?side4 A135.out).mono ?_); (case side1 => exact zS); (case side2 => exact zS); (case side3 => exact zS); (case side4 => exact zS); rintro e w178 ⟨v231, v235, rfl, ho0, ho1, hb⟩; refine ⟨_, rfl, ?_⟩; refine zs (Kd.R_elder' (by (with_reducible repeat (first | apply Kd.R_alloc | apply Kd.R_drewN | apply Kd.R_drew)); exact HO221.out) (Kd.R_base ho0) hb) (zs (Kd.R_elder' (by (with_reducible repeat (first | apply Kd.R_alloc | apply Kd.R_drewN | apply Kd.R_drew)); exact HO225.out) (Kd.R_base ho1) hb) (zs (Kd.R_below (by (with_reducible repeat (first | apply Kd.R_alloc | apply Kd.R_drewN | apply Kd.R_drew)); exact HO228.out) hb) (zs (Kd.R_lower (Kd.R_new' ho0 (Kd.R_lt (by (with_reducible repeat (first | apply Kd.R_alloc | apply Kd.R_drewN | apply Kd.R_drew)); exact HO221.out))) (below_size (zHB))) (zs (Kd.R_lower (Kd.R_new' ho1 (Kd.R_lt (by (with_reducible repeat (first | apply Kd.R_alloc | apply Kd.R_drewN | apply Kd.R_drew)); exact HO225.out))) (below_size (zHB))) (zs (blk_below (g := gb216) zBK hb) (zs (below_step (zHB) hb) ?_)))))); clear HO221 HO225 HO228 BK216 HB; intro HB BK216 HO236 HO232 HO228 HO225 HO221; clear hb ho0 ho1; obtain ⟨Ao179, co179, eo179⟩ := Kd.R_slice HO232.out; subst eo179; obtain ⟨Ao180, co180, eo180⟩ := Kd.R_slice HO236.out; subst eo180) | ((with_reducible refine gate_callee (f := 22) rfl ?_); refine zGo (N := (some 37)) Try.func22 #[.agg #[.slice Ao179 t230.length co179, .int .i64 t233, .slice Ao180 t234.length co180]] ?_; (with_reducible refine (image_Check.calls k _ _ t230 t233 _ _ t234 t237 t238 _ ?side1 ?side2 ?side3 ?side4 A136.out).mono ?_); (case side1 => exact zS); (case side2 => exact zS); (case side3 => exact zS); (case side4 => exact zS); rintro e w181 ⟨rfl, hb⟩; refine ⟨_, rfl, ?_⟩; refine zs (Kd.R_below (by (with_reducible repeat (first | apply Kd.R_alloc | apply Kd.R_drewN | apply Kd.R_drew)); exact HO221.out) hb) (zs (Kd.R_below (by (with_reducible repeat (first | apply Kd.R_alloc | apply Kd.R_drewN | apply Kd.R_drew)); exact HO225.out) hb) (zs (Kd.R_below (by (with_reducible repeat (first | apply Kd.R_alloc | apply Kd.R_drewN | apply Kd.R_drew)); exact HO228.out) hb) (zs (Kd.R_below (by (with_reducible repeat (first | apply Kd.R_alloc | apply Kd.R_drewN | apply Kd.R_drew)); exact HO232.out) hb) (zs (Kd.R_below (by (with_reducible repeat (first | apply Kd.R_alloc | apply Kd.R_drewN | apply Kd.R_drew)); exact HO236.out) hb) (zs (blk_below (g := gb216) zBK hb) (zs (below_step (zHB) hb) ?_)))))); clear HO221 HO225 HO228 HO232 HO236 BK216 HB; intro HB BK216 HO236 HO232 HO228 HO225 HO221; clear hb))
        go_ret
        exact ⟨zE, zHB⟩

end Go.Proofs.Ytfgdjpgdabjpmaa.PImageRound
