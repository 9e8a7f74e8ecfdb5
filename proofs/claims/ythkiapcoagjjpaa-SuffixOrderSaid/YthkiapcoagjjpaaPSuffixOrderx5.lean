-- Written for this claim by a program of this session (wip/tools/pp.py, over the kit's print).
import Derived.Test.YthkiapcoagjjpaaPSuffixOrderx0
import Derived.Test.YthkiapcoagjjpaaPSuffixOrderx1
import Derived.Test.YthkiapcoagjjpaaPSuffixOrderx3
import Derived.Test.YthkiapcoagjjpaaPSuffixOrderx4
namespace Go.Proofs.Ythkiapcoagjjpaa.PSuffixOrder
open Go.RowKit Go.Proofs.YthkiapcoagjjpaaW.PrintWords Go.Proofs.YthkiapcoagjjpaaW.PrintLast Go.Proofs.YthkiapcoagjjpaaW.PrintMore
attribute [local go_sem] max2_int min2_int max_two min_two max_three min_three max_four min_four   -- for this text's walks alone
set_option linter.unusedVariables false
set_option linter.unusedSimpArgs false

/-! ### pleatlaw16_SuffixOrder: function 7 -/
mutual
def pleatlaw16_SuffixOrder.j0 : Nat → List Int → Int → Bool → List Int → List Int → Int → Option (Bool)
  | 0, _, _, _, _, _, _ => none
  | k + 1, x0, x1, x34, x153000, x153001, x153002 => if x34 = true then (some false) else (if 0 ≤ (x0.length : Int) then (if ((x0.length : Int) : Int).toNat ≤ 281474976710656 then (pleatlaw16_SuffixOrder.l0 k x0 x1 (List.replicate ((x0.length : Int) : Int).toNat false) 0 x153000 x153001 x153002) else (none)) else (none))
def pleatlaw16_SuffixOrder.l0 : Nat → List Int → Int → List Bool → Int → List Int → List Int → Int → Option (Bool)
  | 0, _, _, _, _, _, _, _ => none
  | k + 1, x0, x1, x6, x7, x153000, x153001, x153002 => if x7 < (x0.length : Int) then (if 0 ≤ x7 then (if x7 < (x153000.length : Int) then (if (rd x153000 x7) < 0 then (pleatlaw16_SuffixOrder.j2 k x0 x1 x6 x7 (rd x153000 x7) true x153000 x153001 x153002) else (if (rd x153000 x7) ≥ (x0.length : Int) then (pleatlaw16_SuffixOrder.j2 k x0 x1 x6 x7 (rd x153000 x7) true x153000 x153001 x153002) else (if 0 ≤ (rd x153000 x7) then (if (rd x153000 x7) < (x6.length : Int) then (if rdOf false x6 (rd x153000 x7) = true then (pleatlaw16_SuffixOrder.j2 k x0 x1 x6 x7 (rd x153000 x7) true x153000 x153001 x153002) else (if (rd x153000 x7) < (x153001.length : Int) then (pleatlaw16_SuffixOrder.j2 k x0 x1 x6 x7 (rd x153000 x7) ((rd x153001 (rd x153000 x7)) != x7) x153000 x153001 x153002) else (none))) else (none)) else (none)))) else (none)) else (none)) else (if 0 ≤ (x0.length : Int) then (if ((x0.length : Int) : Int).toNat ≤ 35184372088832 then (pleatlaw16_SuffixOrder.l1 k x0 (List.replicate ((x0.length : Int) : Int).toNat 0) (wrap64 (1 + (wrap64 (Int.tmod (IntKind.u64.wrap (x1)) 1000)))) 0 x153000 x153001 x153002) else (none)) else (none))
def pleatlaw16_SuffixOrder.j2 : Nat → List Int → Int → List Bool → Int → Int → Bool → List Int → List Int → Int → Option (Bool)
  | 0, _, _, _, _, _, _, _, _, _ => none
  | k + 1, x0, x1, x6, x7, x8, x71, x153000, x153001, x153002 => if x71 = true then (some false) else (if 0 ≤ x8 then (if x8 < (x6.length : Int) then ((some (x6.set (x8 : Int).toNat true : List Bool)).bind fun y159 => (if x7 > 0 then (if 0 ≤ (wrap64 (x7 - 1)) then (if (wrap64 (x7 - 1)) < (x153000.length : Int) then ((pleatlaw16_less.f k x0 (rd x153000 (wrap64 (x7 - 1))) x8).bind fun t161 => (if t161 = true then (pleatlaw16_SuffixOrder.l0 k x0 x1 y159 (wrap64 (x7 + 1)) x153000 x153001 x153002) else (some false))) else (none)) else (none)) else (pleatlaw16_SuffixOrder.l0 k x0 x1 y159 (wrap64 (x7 + 1)) x153000 x153001 x153002))) else (none)) else (none))
def pleatlaw16_SuffixOrder.l1 : Nat → List Int → List Int → Int → Int → List Int → List Int → Int → Option (Bool)
  | 0, _, _, _, _, _, _, _ => none
  | k + 1, x0, x9, x10, x11, x153000, x153001, x153002 => if x11 < (x0.length : Int) then (pleatlaw16_SuffixOrder.l2 k x0 x9 x10 x11 0 x153000 x153001 x153002) else (if (x0.length : Int) > 200 then ((pleatlaw16_lives.f k).bind fun t169 => (some t169)) else ((suffix_Of.f x9).bind fun bt170 => ((pleatref00_EqInts.f k bt170.1 x153000).bind fun t178 => (if t178 = true then ((pleatlaw16_lives.f k).bind fun t179 => (some t179)) else (some false)))))
def pleatlaw16_SuffixOrder.l2 : Nat → List Int → List Int → Int → Int → Int → List Int → List Int → Int → Option (Bool)
  | 0, _, _, _, _, _, _, _, _ => none
  | k + 1, x0, x9, x10, x11, x12, x153000, x153001, x153002 => if x12 < (x0.length : Int) then (pleatlaw16_SuffixOrder.j5 k x0 x9 x10 x11 x12 (decide ((x0.length : Int) ≤ 200)) x153000 x153001 x153002) else (pleatlaw16_SuffixOrder.j5 k x0 x9 x10 x11 x12 false x153000 x153001 x153002)
def pleatlaw16_SuffixOrder.j5 : Nat → List Int → List Int → Int → Int → Int → Bool → List Int → List Int → Int → Option (Bool)
  | 0, _, _, _, _, _, _, _, _, _ => none
  | k + 1, x0, x9, x10, x11, x12, x111, x153000, x153001, x153002 => if x111 = true then (if 0 ≤ x12 then (if x12 < (x0.length : Int) then (if 0 ≤ x11 then (if x11 < (x0.length : Int) then (if (rd x0 x12) < (rd x0 x11) then (if x11 < (x9.length : Int) then (pleatlaw16_SuffixOrder.l2 k x0 (x9.set (x11 : Int).toNat (wrap64 ((rd x9 x11) + x10))) x10 x11 (wrap64 (x12 + 1)) x153000 x153001 x153002) else (none)) else (pleatlaw16_SuffixOrder.l2 k x0 x9 x10 x11 (wrap64 (x12 + 1)) x153000 x153001 x153002)) else (none)) else (none)) else (none)) else (none)) else (pleatlaw16_SuffixOrder.l1 k x0 x9 x10 (wrap64 (x11 + 1)) x153000 x153001 x153002)
end
def pleatlaw16_SuffixOrder.f (k : Nat) (l0 : List Int) (a1 : Int) : Option (Bool) := if (l0.length : Int) > 2048 then ((pleatlaw16_lives.f k).bind fun t141 => (some t141)) else ((pleatref00_CopyInts.f l0).bind fun t142 => ((suffix_Of.f t142).bind fun bt145 => (if (bt145.1.length : Int) = (l0.length : Int) then (pleatlaw16_SuffixOrder.j0 k l0 a1 ((bt145.2.1.length : Int) != (l0.length : Int)) bt145.1 bt145.2.1 bt145.2.2) else (pleatlaw16_SuffixOrder.j0 k l0 a1 true bt145.1 bt145.2.1 bt145.2.2))))
theorem pleatlaw16_SuffixOrder.mono_l : ∀ k, (∀ y0 y1 y2 y3 y4 y5, LeO (pleatlaw16_SuffixOrder.j0 k y0 y1 y2 y3 y4 y5) (pleatlaw16_SuffixOrder.j0 (k + 1) y0 y1 y2 y3 y4 y5)) ∧ (∀ y0 y1 y2 y3 y4 y5 y6, LeO (pleatlaw16_SuffixOrder.l0 k y0 y1 y2 y3 y4 y5 y6) (pleatlaw16_SuffixOrder.l0 (k + 1) y0 y1 y2 y3 y4 y5 y6)) ∧ (∀ y0 y1 y2 y3 y4 y5 y6 y7 y8, LeO (pleatlaw16_SuffixOrder.j2 k y0 y1 y2 y3 y4 y5 y6 y7 y8) (pleatlaw16_SuffixOrder.j2 (k + 1) y0 y1 y2 y3 y4 y5 y6 y7 y8)) ∧ (∀ y0 y1 y2 y3 y4 y5 y6, LeO (pleatlaw16_SuffixOrder.l1 k y0 y1 y2 y3 y4 y5 y6) (pleatlaw16_SuffixOrder.l1 (k + 1) y0 y1 y2 y3 y4 y5 y6)) ∧ (∀ y0 y1 y2 y3 y4 y5 y6 y7, LeO (pleatlaw16_SuffixOrder.l2 k y0 y1 y2 y3 y4 y5 y6 y7) (pleatlaw16_SuffixOrder.l2 (k + 1) y0 y1 y2 y3 y4 y5 y6 y7)) ∧ (∀ y0 y1 y2 y3 y4 y5 y6 y7 y8, LeO (pleatlaw16_SuffixOrder.j5 k y0 y1 y2 y3 y4 y5 y6 y7 y8) (pleatlaw16_SuffixOrder.j5 (k + 1) y0 y1 y2 y3 y4 y5 y6 y7 y8))
  | 0 => ⟨fun _ _ _ _ _ _ r h => by simp [pleatlaw16_SuffixOrder.j0] at h, fun _ _ _ _ _ _ _ r h => by simp [pleatlaw16_SuffixOrder.l0] at h, fun _ _ _ _ _ _ _ _ _ r h => by simp [pleatlaw16_SuffixOrder.j2] at h, fun _ _ _ _ _ _ _ r h => by simp [pleatlaw16_SuffixOrder.l1] at h, fun _ _ _ _ _ _ _ _ r h => by simp [pleatlaw16_SuffixOrder.l2] at h, fun _ _ _ _ _ _ _ _ _ r h => by simp [pleatlaw16_SuffixOrder.j5] at h⟩
  | k + 1 => by
    obtain ⟨ih0, ih1, ih2, ih3, ih4, ih5⟩ := pleatlaw16_SuffixOrder.mono_l k
    refine ⟨?_, ?_, ?_, ?_, ?_, ?_⟩
    · intro y0 y1 y2 y3 y4 y5
      unfold pleatlaw16_SuffixOrder.j0
      have m0 := @pleatlaw16_less.mono
      have m1 := @pleatlaw16_lives.mono
      have m2 := @pleatref00_EqInts.mono
      exact zMo
    · intro y0 y1 y2 y3 y4 y5 y6
      unfold pleatlaw16_SuffixOrder.l0
      have m0 := @pleatlaw16_less.mono
      have m1 := @pleatlaw16_lives.mono
      have m2 := @pleatref00_EqInts.mono
      exact zMo
    · intro y0 y1 y2 y3 y4 y5 y6 y7 y8
      unfold pleatlaw16_SuffixOrder.j2
      have m0 := @pleatlaw16_less.mono
      have m1 := @pleatlaw16_lives.mono
      have m2 := @pleatref00_EqInts.mono
      exact zMo
    · intro y0 y1 y2 y3 y4 y5 y6
      unfold pleatlaw16_SuffixOrder.l1
      have m0 := @pleatlaw16_less.mono
      have m1 := @pleatlaw16_lives.mono
      have m2 := @pleatref00_EqInts.mono
      exact zMo
    · intro y0 y1 y2 y3 y4 y5 y6 y7
      unfold pleatlaw16_SuffixOrder.l2
      have m0 := @pleatlaw16_less.mono
      have m1 := @pleatlaw16_lives.mono
      have m2 := @pleatref00_EqInts.mono
      exact zMo
    · intro y0 y1 y2 y3 y4 y5 y6 y7 y8
      unfold pleatlaw16_SuffixOrder.j5
      have m0 := @pleatlaw16_less.mono
      have m1 := @pleatlaw16_lives.mono
      have m2 := @pleatref00_EqInts.mono
      exact zMo
theorem pleatlaw16_SuffixOrder.mono : ∀ a0 a1 k, LeO (pleatlaw16_SuffixOrder.f k a0 a1) (pleatlaw16_SuffixOrder.f (k + 1) a0 a1) := by
  intro a0 a1 k
  obtain ⟨ih0, ih1, ih2, ih3, ih4, ih5⟩ := pleatlaw16_SuffixOrder.mono_l k
  unfold pleatlaw16_SuffixOrder.f
  have m0 := @pleatlaw16_less.mono
  have m1 := @pleatlaw16_lives.mono
  have m2 := @pleatref00_EqInts.mono
  exact zMo
set_option maxHeartbeats 8000000 in
set_option maxRecDepth 100000 in
theorem pleatlaw16_SuffixOrder.calls (k : Nat) (A0 : Option Addr) (c0 : Nat) (l0 : List Int) (a1 : Int) (r : Bool) (w : World) (hr0 : Kd.C (Kd.int .i64) w A0 l0.length l0) (hc0 : l0.length ≤ c0) (h : pleatlaw16_SuffixOrder.f k l0 a1 = some r) :
    Calls Try.prog 7 #[.slice A0 l0.length c0, .int .i64 a1] w fun e w' => e = .returned (.bool r) ∧ Below w.heap.size w w' := by
  have hu42 := Try.underlying42
  have HR0 := Aside0.mk hr0
  have HC0 := Aside0.mk hc0
  clear hr0 hc0
  have HB := Aside0.mk (Below.refl w.heap.size w)
  have H := h
  clear h
  unfold pleatlaw16_SuffixOrder.f at H
  by_cases c3 : (l0.length : Int) > 2048
  · rw [if_pos c3] at H
    have c3b0 : decide (2048 < (l0.length : Int)) = true := decide_eq_true c3
    have c3b1 : decide (2048 < l0.length) = true := decide_eq_true (by omega)
    clear c3
    replace H := Option.bind_eq_some_iff.mp H
    obtain ⟨t141, A40, H⟩ := H
    (try dsimp only at H)
    have A4 := Aside0.mk A40
    clear A40
    obtain rfl := Option.some.inj H
    go_enter Try.func7, Try.ntmps7
    go_wp2_with (first | (go_at_call 23; (with_reducible refine (pleatlaw16_lives.calls k  t141 _ A4.out).mono ?_); rintro e w5 ⟨rfl, hb⟩; refine zs (below_step (zHB) hb) ?_; clear HB; intro HB; clear hb))
    repeat (go_quiet (first | (go_at_call 23; (with_reducible refine (pleatlaw16_lives.calls k  t141 _ A4.out).mono ?_); rintro e w5 ⟨rfl, hb⟩; refine zs (below_step (zHB) hb) ?_; clear HB; intro HB; clear hb)); try go_wp2_with (first | (go_at_call 23; (with_reducible refine (pleatlaw16_lives.calls k  t141 _ A4.out).mono ?_); rintro e w5 ⟨rfl, hb⟩; refine zs (below_step (zHB) hb) ?_; clear HB; intro HB; clear hb)))
    go_ret
    exact ⟨zE, zHB⟩
  · rw [if_neg c3] at H
    have c3b0 : decide (2048 < (l0.length : Int)) = false := decide_eq_false c3
    have c3b1 : decide (2048 < l0.length) = false := decide_eq_false (by omega)
    clear c3
    replace H := Option.bind_eq_some_iff.mp H
    obtain ⟨t142, A60, H⟩ := H
    (try dsimp only at H)
    have A6 := Aside0.mk A60
    clear A60
    replace H := Option.bind_eq_some_iff.mp H
    obtain ⟨⟨t145, t148, t151⟩, A70, H⟩ := H
    (try dsimp only at H)
    have A7 := Aside0.mk A70
    clear A70
    have HC8 := Aside0.mk H
    clear H
    go_enter Try.func7, Try.ntmps7
    go_upto_region 4 with (first | (go_at_call 20; (with_reducible refine (pleatref00_CopyInts.calls _ _ l0 t142 _ ?side1 ?side2 A6.out).mono ?_); (case side1 => exact zS); (case side2 => exact zS); rintro e w9 ⟨v143, rfl, ho0, hb⟩; refine zs (Kd.R_lower ho0 (below_size (zHB))) (zs (below_step (zHB) hb) ?_); clear HB; intro HB HO144; clear hb ho0; obtain ⟨Ao10, co10, eo10⟩ := Kd.R_slice HO144.out; subst eo10) | (go_at_call 19; (with_reducible refine (suffix_Of.calls _ _ t142 t145 t148 t151 _ ?side1 ?side2 A7.out).mono ?_); (case side1 => exact zS); (case side2 => exact zS); rintro e w11 ⟨v146, v149, rfl, ho0, ho1, hb⟩; refine zs (Kd.R_mono (Kd.R_told (Kd.R_told (Kd.R_old (by (with_reducible repeat (first | apply Kd.R_alloc | apply Kd.R_drewN | apply Kd.R_drew)); exact HO144.out) hb) (Kd.R_base ho0)) (Kd.R_base ho1)) (fun _ h_ => h_.1)) (zs (Kd.R_lower (Kd.R_new' ho0 (Kd.R_lt (by (with_reducible repeat (first | apply Kd.R_alloc | apply Kd.R_drewN | apply Kd.R_drew)); exact HO144.out))) (below_size (zHB))) (zs (Kd.R_lower (Kd.R_new' ho1 (Kd.R_lt (by (with_reducible repeat (first | apply Kd.R_alloc | apply Kd.R_drewN | apply Kd.R_drew)); exact HO144.out))) (below_size (zHB))) (zs (below_step (zHB) hb) ?_))); clear HO144 HB; intro HB HO150 HO147 HO144; clear hb ho0 ho1) | ((with_reducible refine gate_dst (N := 5) rfl ?_); (try (refine gate_guard (by rfl) ?_; dsimp only)); refine zBox (N := 5) (cs := #[.slice none 0 0, .slice none 0 0, .int .i64 0]) (t := 42) ?_; intro gb152 hg w12 hbox hb; refine zs (Kd.R_below (by (with_reducible repeat (first | apply Kd.R_alloc | apply Kd.R_drewN | apply Kd.R_drew)); exact HO144.out) hb) (zs (Kd.R_below (by (with_reducible repeat (first | apply Kd.R_alloc | apply Kd.R_drewN | apply Kd.R_drew)); exact HO147.out) hb) (zs (Kd.R_below (by (with_reducible repeat (first | apply Kd.R_alloc | apply Kd.R_drewN | apply Kd.R_drew)); exact HO150.out) hb) (zs (below_step (zHB) hb) (zs hbox (zs (zGe hg zHB) (zs (zGe hg zHB) ?_)))))); clear HO144 HO147 HO150 HB; intro GE152 GW152 BK152 HB HO150 HO147 HO144; clear hb hbox hg; obtain ⟨Ao13, co13, eo13⟩ := Kd.R_slice HO147.out; subst eo13; have hcz14 := blk_cell BK152.out; have hfz14 := blk_frozen BK152.out; obtain ⟨Ao15, co15, eo15⟩ := Kd.R_slice HO150.out; subst eo15))
    repeat (go_quiet (first | (go_at_call 20; (with_reducible refine (pleatref00_CopyInts.calls _ _ l0 t142 _ ?side1 ?side2 A6.out).mono ?_); (case side1 => exact zS); (case side2 => exact zS); rintro e w9 ⟨v143, rfl, ho0, hb⟩; refine zs (Kd.R_lower ho0 (below_size (zHB))) (zs (below_step (zHB) hb) ?_); clear HB; intro HB HO144; clear hb ho0; obtain ⟨Ao10, co10, eo10⟩ := Kd.R_slice HO144.out; subst eo10) | (go_at_call 19; (with_reducible refine (suffix_Of.calls _ _ t142 t145 t148 t151 _ ?side1 ?side2 A7.out).mono ?_); (case side1 => exact zS); (case side2 => exact zS); rintro e w11 ⟨v146, v149, rfl, ho0, ho1, hb⟩; refine zs (Kd.R_mono (Kd.R_told (Kd.R_told (Kd.R_old (by (with_reducible repeat (first | apply Kd.R_alloc | apply Kd.R_drewN | apply Kd.R_drew)); exact HO144.out) hb) (Kd.R_base ho0)) (Kd.R_base ho1)) (fun _ h_ => h_.1)) (zs (Kd.R_lower (Kd.R_new' ho0 (Kd.R_lt (by (with_reducible repeat (first | apply Kd.R_alloc | apply Kd.R_drewN | apply Kd.R_drew)); exact HO144.out))) (below_size (zHB))) (zs (Kd.R_lower (Kd.R_new' ho1 (Kd.R_lt (by (with_reducible repeat (first | apply Kd.R_alloc | apply Kd.R_drewN | apply Kd.R_drew)); exact HO144.out))) (below_size (zHB))) (zs (below_step (zHB) hb) ?_))); clear HO144 HB; intro HB HO150 HO147 HO144; clear hb ho0 ho1) | ((with_reducible refine gate_dst (N := 5) rfl ?_); (try (refine gate_guard (by rfl) ?_; dsimp only)); refine zBox (N := 5) (cs := #[.slice none 0 0, .slice none 0 0, .int .i64 0]) (t := 42) ?_; intro gb152 hg w12 hbox hb; refine zs (Kd.R_below (by (with_reducible repeat (first | apply Kd.R_alloc | apply Kd.R_drewN | apply Kd.R_drew)); exact HO144.out) hb) (zs (Kd.R_below (by (with_reducible repeat (first | apply Kd.R_alloc | apply Kd.R_drewN | apply Kd.R_drew)); exact HO147.out) hb) (zs (Kd.R_below (by (with_reducible repeat (first | apply Kd.R_alloc | apply Kd.R_drewN | apply Kd.R_drew)); exact HO150.out) hb) (zs (below_step (zHB) hb) (zs hbox (zs (zGe hg zHB) (zs (zGe hg zHB) ?_)))))); clear HO144 HO147 HO150 HB; intro GE152 GW152 BK152 HB HO150 HO147 HO144; clear hb hbox hg; obtain ⟨Ao13, co13, eo13⟩ := Kd.R_slice HO147.out; subst eo13; have hcz14 := blk_cell BK152.out; have hfz14 := blk_frozen BK152.out; obtain ⟨Ao15, co15, eo15⟩ := Kd.R_slice HO150.out; subst eo15)); go_upto_region 4 with (first | (go_at_call 20; (with_reducible refine (pleatref00_CopyInts.calls _ _ l0 t142 _ ?side1 ?side2 A6.out).mono ?_); (case side1 => exact zS); (case side2 => exact zS); rintro e w9 ⟨v143, rfl, ho0, hb⟩; refine zs (Kd.R_lower ho0 (below_size (zHB))) (zs (below_step (zHB) hb) ?_); clear HB; intro HB HO144; clear hb ho0; obtain ⟨Ao10, co10, eo10⟩ := Kd.R_slice HO144.out; subst eo10) | (go_at_call 19; (with_reducible refine (suffix_Of.calls _ _ t142 t145 t148 t151 _ ?side1 ?side2 A7.out).mono ?_); (case side1 => exact zS); (case side2 => exact zS); rintro e w11 ⟨v146, v149, rfl, ho0, ho1, hb⟩; refine zs (Kd.R_mono (Kd.R_told (Kd.R_told (Kd.R_old (by (with_reducible repeat (first | apply Kd.R_alloc | apply Kd.R_drewN | apply Kd.R_drew)); exact HO144.out) hb) (Kd.R_base ho0)) (Kd.R_base ho1)) (fun _ h_ => h_.1)) (zs (Kd.R_lower (Kd.R_new' ho0 (Kd.R_lt (by (with_reducible repeat (first | apply Kd.R_alloc | apply Kd.R_drewN | apply Kd.R_drew)); exact HO144.out))) (below_size (zHB))) (zs (Kd.R_lower (Kd.R_new' ho1 (Kd.R_lt (by (with_reducible repeat (first | apply Kd.R_alloc | apply Kd.R_drewN | apply Kd.R_drew)); exact HO144.out))) (below_size (zHB))) (zs (below_step (zHB) hb) ?_))); clear HO144 HB; intro HB HO150 HO147 HO144; clear hb ho0 ho1) | ((with_reducible refine gate_dst (N := 5) rfl ?_); (try (refine gate_guard (by rfl) ?_; dsimp only)); refine zBox (N := 5) (cs := #[.slice none 0 0, .slice none 0 0, .int .i64 0]) (t := 42) ?_; intro gb152 hg w12 hbox hb; refine zs (Kd.R_below (by (with_reducible repeat (first | apply Kd.R_alloc | apply Kd.R_drewN | apply Kd.R_drew)); exact HO144.out) hb) (zs (Kd.R_below (by (with_reducible repeat (first | apply Kd.R_alloc | apply Kd.R_drewN | apply Kd.R_drew)); exact HO147.out) hb) (zs (Kd.R_below (by (with_reducible repeat (first | apply Kd.R_alloc | apply Kd.R_drewN | apply Kd.R_drew)); exact HO150.out) hb) (zs (below_step (zHB) hb) (zs hbox (zs (zGe hg zHB) (zs (zGe hg zHB) ?_)))))); clear HO144 HO147 HO150 HB; intro GE152 GW152 BK152 HB HO150 HO147 HO144; clear hb hbox hg; obtain ⟨Ao13, co13, eo13⟩ := Kd.R_slice HO147.out; subst eo13; have hcz14 := blk_cell BK152.out; have hfz14 := blk_frozen BK152.out; obtain ⟨Ao15, co15, eo15⟩ := Kd.R_slice HO150.out; subst eo15)))
    (try simp only [Act.put, List.setIfInBounds_toArray, List.set_cons_zero, List.set_cons_succ])
    go_cut [34] (fun v34 wc => ∃ (kq : Nat) (x34_7 : Bool), v34 = .bool x34_7 ∧ Aside0 (pleatlaw16_SuffixOrder.j0 kq l0 a1 x34_7 t145 t148 t151 = some r) ∧ Aside0 (kq ≤ k) ∧ Aside0 (Kd.R (Kd.int .i64) 3 wc w.heap.size (fun k_ => some k_ ≠ ((.slice Ao15 t148.length co15) : Value).ownBlock) (.slice Ao13 t145.length co13) t145) ∧ Aside0 (Kd.R (Kd.int .i64) 3 wc w.heap.size (fun k_ => some k_ ≠ ((.slice Ao13 t145.length co13) : Value).ownBlock) (.slice Ao15 t148.length co15) t148) ∧ Aside0 (wc.heap[gb152]? = some (.cells #[(.slice Ao13 t145.length co13), (.slice Ao15 t148.length co15), .int .i64 t151] 42 (0, 0))) ∧ Aside0 (Below w.heap.size w wc))
    case first =>
      have H := HC8.out
      clear HC8
      by_cases c16 : (t145.length : Int) = (l0.length : Int)
      · rw [if_pos c16] at H
        have c16b0 := beq_iff_eq.mpr c16
        have c16b1 := bne_eq_false_iff_eq.mpr c16
        have c16b2 : (t145.length == l0.length) = true := by first | simpa using c16 | (simp at c16 ⊢; omega)
        clear c16
        (first | rw [c16b0] | (simp only [i64_w, i32_w]; rw [c16b0]) | skip)
        have H' := Aside0.mk H
        clear H
        have hcz17 := blk_cell BK152.out
        have hfz17 := blk_frozen BK152.out
        go_wp2
        repeat (go_quiet (fail); try go_wp2)
        go_meet
        case rel => exact ⟨_, (((t148.length : Int) != (l0.length : Int))), zF', H', ⟨zL⟩, ⟨by (with_reducible repeat (first | apply Kd.R_alloc | apply Kd.R_drewN | apply Kd.R_drew)); exact Kd.R_mono (Kd.R_far (p := ⟨gb152, 2, none⟩) (Kd.R_far (p := ⟨gb152, 1, none⟩) (Kd.R_far (p := ⟨gb152, 0, none⟩) (Kd.R_types HO147.out BK152.out (by decide)) (fun _ hk => hk.2) (.slice Ao13 t145.length co13)) (fun _ hk => hk.2) (.slice Ao15 t148.length co15)) (fun _ hk => hk.2) (.int .i64 t151)) (fun _ hk => hk.1.1)⟩, ⟨by (with_reducible repeat (first | apply Kd.R_alloc | apply Kd.R_drewN | apply Kd.R_drew)); exact Kd.R_mono (Kd.R_far (p := ⟨gb152, 2, none⟩) (Kd.R_far (p := ⟨gb152, 1, none⟩) (Kd.R_far (p := ⟨gb152, 0, none⟩) (Kd.R_types HO150.out BK152.out (by decide)) (fun _ hk => hk.2) (.slice Ao13 t145.length co13)) (fun _ hk => hk.2) (.slice Ao15 t148.length co15)) (fun _ hk => hk.2) (.int .i64 t151)) (fun _ hk => hk.1.1)⟩, ⟨zBK⟩, ⟨zHB⟩⟩
      · rw [if_neg c16] at H
        have c16b0 := beq_eq_false_iff_ne.mpr c16
        have c16b1 := bne_iff_ne.mpr c16
        have c16b2 : (t145.length == l0.length) = false := by first | simpa using c16 | (simp at c16 ⊢; omega)
        (first | rw [c16b0] | (simp only [i64_w, i32_w]; rw [c16b0]) | skip)
        have H' := Aside0.mk H
        clear H
        have hcz18 := blk_cell BK152.out
        have hfz18 := blk_frozen BK152.out
        go_wp2
        repeat (go_quiet (fail); try go_wp2)
        go_meet
        case rel => exact ⟨_, (true), zF', H', ⟨zL⟩, ⟨by (with_reducible repeat (first | apply Kd.R_alloc | apply Kd.R_drewN | apply Kd.R_drew)); exact Kd.R_mono (Kd.R_far (p := ⟨gb152, 2, none⟩) (Kd.R_far (p := ⟨gb152, 1, none⟩) (Kd.R_far (p := ⟨gb152, 0, none⟩) (Kd.R_types HO147.out BK152.out (by decide)) (fun _ hk => hk.2) (.slice Ao13 t145.length co13)) (fun _ hk => hk.2) (.slice Ao15 t148.length co15)) (fun _ hk => hk.2) (.int .i64 t151)) (fun _ hk => hk.1.1)⟩, ⟨by (with_reducible repeat (first | apply Kd.R_alloc | apply Kd.R_drewN | apply Kd.R_drew)); exact Kd.R_mono (Kd.R_far (p := ⟨gb152, 2, none⟩) (Kd.R_far (p := ⟨gb152, 1, none⟩) (Kd.R_far (p := ⟨gb152, 0, none⟩) (Kd.R_types HO150.out BK152.out (by decide)) (fun _ hk => hk.2) (.slice Ao13 t145.length co13)) (fun _ hk => hk.2) (.slice Ao15 t148.length co15)) (fun _ hk => hk.2) (.int .i64 t151)) (fun _ hk => hk.1.1)⟩, ⟨zBK⟩, ⟨zHB⟩⟩
    case rest =>
      clear HC8
      try clear c3b0
      try clear c3b1
      try clear hcz14
      try clear hfz14
      obtain ⟨kq, x34_7, rfl, HA, HJ7, HO_153000, HO_153001, BK152, HB⟩ := hcut
      cases kq with
      | zero => exact absurd HA.out (by simp [pleatlaw16_SuffixOrder.j0])
      | succ kj7 =>
        have H := HA.out
        clear HA
        simp only [pleatlaw16_SuffixOrder.j0] at H
        by_cases c19 : x34_7 = true
        · subst c19
          rw [if_pos rfl] at H
          obtain rfl := Option.some.inj H
          go_wp2
          repeat (go_quiet (fail); try go_wp2)
          go_ret
          exact ⟨zE, zHB⟩
        · replace c19 := Bool.eq_false_iff.mpr c19
          subst c19
          rw [if_neg (show ¬ (false = true) by decide)] at H
          obtain ⟨c20, H⟩ := zG H
          have c20b0 := eq_true c20
          have c20b1 : decide (0 ≤ (l0.length : Int)) = true := decide_eq_true c20
          clear c20
          obtain ⟨c21, H⟩ := zG H
          have c21b0 := eq_true c21
          have c21b1 : decide (((l0.length : Int) : Int).toNat ≤ 281474976710656) = true := decide_eq_true c21
          clear c21
          obtain ⟨y153, hy153⟩ : ∃ y_ : List Bool, y_ = (List.replicate ((l0.length : Int) : Int).toNat false) := ⟨_, rfl⟩
          (try rw [← hy153] at H)
          have Ny153 := Aside0.mk hy153
          clear hy153
          have H' := Aside0.mk H
          clear H
          go_wp2_with (first | ((with_reducible refine gate_dst (N := 37) rfl ?_); (try (refine gate_guard (by rfl) ?_; dsimp only)); refine Kd.R_make Kd.bool _ 4 rfl (N := 37) rfl 23 _ _ rfl (l0.length : Int) rfl rfl Try.underlying23 (.bool false) 1 info4 rfl (by decide) (by omega) false (ok := fun _ => True) (okp := fun _ => True) rfl (fun _ hk => hk) trivial (zOD) (Nat.le_trans (Nat.mul_le_mul_right _ (zOD : (l0.length : Int).toNat ≤ 281474976710656)) (by omega)) (Below.refl _ _) (Nat.le_refl _) ?_; intro v154 w22 ho23 hb hg_ hnew_; clear hg_ hnew_; (first | rw [← Ny153.out] at ho23 | (simp only [Int.reduceToNat] at ho23; rw [← Ny153.out] at ho23)); refine zs (Kd.R_below (by (with_reducible repeat (first | apply Kd.R_alloc | apply Kd.R_drewN | apply Kd.R_drew)); exact HO_153000.out) hb) (zs (Kd.R_below (by (with_reducible repeat (first | apply Kd.R_alloc | apply Kd.R_drewN | apply Kd.R_drew)); exact HO_153001.out) hb) (zs (Kd.R_lower ho23 (below_size (zHB))) (zs (blk_below (g := gb152) zBK hb) (zs (below_step (zHB) hb) ?_)))); clear HO_153000 HO_153001 BK152 HB; intro HB BK152 HO155 HO_153001 HO_153000; clear hb ho23))
          repeat (go_quiet (first | ((with_reducible refine gate_dst (N := 37) rfl ?_); (try (refine gate_guard (by rfl) ?_; dsimp only)); refine Kd.R_make Kd.bool _ 4 rfl (N := 37) rfl 23 _ _ rfl (l0.length : Int) rfl rfl Try.underlying23 (.bool false) 1 info4 rfl (by decide) (by omega) false (ok := fun _ => True) (okp := fun _ => True) rfl (fun _ hk => hk) trivial (zOD) (Nat.le_trans (Nat.mul_le_mul_right _ (zOD : (l0.length : Int).toNat ≤ 281474976710656)) (by omega)) (Below.refl _ _) (Nat.le_refl _) ?_; intro v154 w22 ho23 hb hg_ hnew_; clear hg_ hnew_; (first | rw [← Ny153.out] at ho23 | (simp only [Int.reduceToNat] at ho23; rw [← Ny153.out] at ho23)); refine zs (Kd.R_below (by (with_reducible repeat (first | apply Kd.R_alloc | apply Kd.R_drewN | apply Kd.R_drew)); exact HO_153000.out) hb) (zs (Kd.R_below (by (with_reducible repeat (first | apply Kd.R_alloc | apply Kd.R_drewN | apply Kd.R_drew)); exact HO_153001.out) hb) (zs (Kd.R_lower ho23 (below_size (zHB))) (zs (blk_below (g := gb152) zBK hb) (zs (below_step (zHB) hb) ?_)))); clear HO_153000 HO_153001 BK152 HB; intro HB BK152 HO155 HO_153001 HO_153000; clear hb ho23)); try go_wp2_with (first | ((with_reducible refine gate_dst (N := 37) rfl ?_); (try (refine gate_guard (by rfl) ?_; dsimp only)); refine Kd.R_make Kd.bool _ 4 rfl (N := 37) rfl 23 _ _ rfl (l0.length : Int) rfl rfl Try.underlying23 (.bool false) 1 info4 rfl (by decide) (by omega) false (ok := fun _ => True) (okp := fun _ => True) rfl (fun _ hk => hk) trivial (zOD) (Nat.le_trans (Nat.mul_le_mul_right _ (zOD : (l0.length : Int).toNat ≤ 281474976710656)) (by omega)) (Below.refl _ _) (Nat.le_refl _) ?_; intro v154 w22 ho23 hb hg_ hnew_; clear hg_ hnew_; (first | rw [← Ny153.out] at ho23 | (simp only [Int.reduceToNat] at ho23; rw [← Ny153.out] at ho23)); refine zs (Kd.R_below (by (with_reducible repeat (first | apply Kd.R_alloc | apply Kd.R_drewN | apply Kd.R_drew)); exact HO_153000.out) hb) (zs (Kd.R_below (by (with_reducible repeat (first | apply Kd.R_alloc | apply Kd.R_drewN | apply Kd.R_drew)); exact HO_153001.out) hb) (zs (Kd.R_lower ho23 (below_size (zHB))) (zs (blk_below (g := gb152) zBK hb) (zs (below_step (zHB) hb) ?_)))); clear HO_153000 HO_153001 BK152 HB; intro HB BK152 HO155 HO_153001 HO_153000; clear hb ho23)))
          go_loopg [7] kj7 (fun kq v7 w' => ∃ (x6_2 : List Bool) (x7_2 : Int), v7 = .int .i64 x7_2 ∧ Aside0 (pleatlaw16_SuffixOrder.l0 kq l0 a1 x6_2 x7_2 t145 t148 t151 = some r) ∧ Aside0 (kq ≤ kj7) ∧ Aside0 (Kd.R Kd.bool 4 w' w.heap.size (fun _ => True) v154 x6_2) ∧ Aside0 (Kd.R (Kd.int .i64) 3 w' w.heap.size (fun k_ => some k_ ≠ ((.slice Ao15 t148.length co15) : Value).ownBlock) (.slice Ao13 t145.length co13) t145) ∧ Aside0 (Kd.R (Kd.int .i64) 3 w' w.heap.size (fun k_ => some k_ ≠ ((.slice Ao13 t145.length co13) : Value).ownBlock) (.slice Ao15 t148.length co15) t148) ∧ Aside0 (w'.heap[gb152]? = some (.cells #[(.slice Ao13 t145.length co13), (.slice Ao15 t148.length co15), .int .i64 t151] 42 (0, 0))) ∧ Aside0 (Below w.heap.size w w'))
          case atStart => exact ⟨(y153), (0), zF', H', ⟨Nat.le_refl _⟩, ⟨by (with_reducible repeat (first | apply Kd.R_alloc | apply Kd.R_drewN | apply Kd.R_drew)); exact HO155.out⟩, ⟨by (with_reducible repeat (first | apply Kd.R_alloc | apply Kd.R_drewN | apply Kd.R_drew)); exact HO_153000.out⟩, ⟨by (with_reducible repeat (first | apply Kd.R_alloc | apply Kd.R_drewN | apply Kd.R_drew)); exact HO_153001.out⟩, ⟨zBK⟩, ⟨zHB⟩⟩
          case round =>
            clear H'
            try clear c20
            try clear c20b0
            try clear c20b1
            try clear c21
            try clear c21b0
            try clear c21b1
            try clear c3b0
            try clear c3b1
            try clear hcz14
            try clear hfz14
            obtain ⟨x6_2, x7_2, rfl, HA, HK2, HO_6, HO_153000, HO_153001, BK152, HB⟩ := hrel
            cases gk with
            | zero => exact absurd HA.out (by simp [pleatlaw16_SuffixOrder.l0])
            | succ k2 =>
              have H := HA.out
              clear HA
              simp only [pleatlaw16_SuffixOrder.l0] at H
              by_cases c24 : x7_2 < (l0.length : Int)
              · rw [if_pos c24] at H
                have c24b0 := decide_eq_true c24
                clear c24
                obtain ⟨c25, H⟩ := zG H
                have c25b0 := decide_eq_true c25
                clear c25
                obtain ⟨c26, H⟩ := zG H
                have c26b0 := decide_eq_true c26
                clear c26
                have HC27 := Aside0.mk H
                clear H
                have hcz28 := blk_cell BK152.out
                have hfz28 := blk_frozen BK152.out
                have p156 : 0 ≤ (x7_2 : Int) := zOD
                have q156 : x7_2 < (t145.length : Int) := zOD
                obtain ⟨ad156, e156, hx156_0⟩ := Kd.at_int (Kd.R_reads' HO_153000.out).2.2 x7_2 p156 q156
                cases e156
                replace p156 := eq_true p156
                replace q156 := eq_true q156
                go_upto_region 11 with (fail)
                repeat (go_quiet (fail); go_upto_region 11 with (fail))
                go_cut [71] (fun v71 wc => ∃ (kq : Nat) (x71_26 : Bool), v71 = .bool x71_26 ∧ Aside0 (pleatlaw16_SuffixOrder.j2 kq l0 a1 x6_2 x7_2 (rd t145 x7_2) x71_26 t145 t148 t151 = some r) ∧ Aside0 (kq ≤ k2) ∧ Aside0 (Kd.R Kd.bool 4 wc w.heap.size (fun _ => True) v154 x6_2) ∧ Aside0 (Kd.R (Kd.int .i64) 3 wc w.heap.size (fun k_ => some k_ ≠ ((.slice Ao15 t148.length co15) : Value).ownBlock) (.slice (some ad156) t145.length co13) t145) ∧ Aside0 (Kd.R (Kd.int .i64) 3 wc w.heap.size (fun k_ => some k_ ≠ ((.slice (some ad156) t145.length co13) : Value).ownBlock) (.slice Ao15 t148.length co15) t148) ∧ Aside0 (wc.heap[gb152]? = some (.cells #[(.slice (some ad156) t145.length co13), (.slice Ao15 t148.length co15), .int .i64 t151] 42 (0, 0))) ∧ Aside0 (Below w.heap.size w wc))
                case first =>
                  have H := HC27.out
                  clear HC27
                  by_cases c29 : (rd t145 x7_2) < 0
                  · rw [if_pos c29] at H
                    have c29b0 := decide_eq_true c29
                    clear c29
                    (first | rw [c29b0] | (simp only [i64_w, i32_w]; rw [c29b0]) | skip)
                    have H' := Aside0.mk H
                    clear H
                    go_wp2
                    repeat (go_quiet (fail); try go_wp2)
                    go_meet
                    case rel => exact ⟨_, (true), zF', H', ⟨by have := HJ7.out; have := HK2.out; first | omega | exact Nat.le_refl _⟩, ⟨by (with_reducible repeat (first | apply Kd.R_alloc | apply Kd.R_drewN | apply Kd.R_drew)); exact HO_6.out⟩, ⟨by (with_reducible repeat (first | apply Kd.R_alloc | apply Kd.R_drewN | apply Kd.R_drew)); exact HO_153000.out⟩, ⟨by (with_reducible repeat (first | apply Kd.R_alloc | apply Kd.R_drewN | apply Kd.R_drew)); exact HO_153001.out⟩, ⟨zBK⟩, ⟨zHB⟩⟩
                  · rw [if_neg c29] at H
                    have c29b0 := decide_eq_false c29
                    clear c29
                    (first | rw [c29b0] | (simp only [i64_w, i32_w]; rw [c29b0]) | skip)
                    by_cases c30 : (rd t145 x7_2) ≥ (l0.length : Int)
                    · rw [if_pos c30] at H
                      have c30b0 : decide ((l0.length : Int) ≤ (rd t145 x7_2)) = true := decide_eq_true c30
                      clear c30
                      have H' := Aside0.mk H
                      clear H
                      go_wp2
                      repeat (go_quiet (fail); try go_wp2)
                      go_meet
                      case rel => exact ⟨_, (true), zF', H', ⟨by have := HJ7.out; have := HK2.out; first | omega | exact Nat.le_refl _⟩, ⟨by (with_reducible repeat (first | apply Kd.R_alloc | apply Kd.R_drewN | apply Kd.R_drew)); exact HO_6.out⟩, ⟨by (with_reducible repeat (first | apply Kd.R_alloc | apply Kd.R_drewN | apply Kd.R_drew)); exact HO_153000.out⟩, ⟨by (with_reducible repeat (first | apply Kd.R_alloc | apply Kd.R_drewN | apply Kd.R_drew)); exact HO_153001.out⟩, ⟨zBK⟩, ⟨zHB⟩⟩
                    · rw [if_neg c30] at H
                      have c30b0 : decide ((l0.length : Int) ≤ (rd t145 x7_2)) = false := decide_eq_false c30
                      clear c30
                      obtain ⟨c31, H⟩ := zG H
                      have c31b0 := decide_eq_true c31
                      clear c31
                      obtain ⟨c32, H⟩ := zG H
                      have c32b0 := decide_eq_true c32
                      clear c32
                      obtain ⟨bq33, hbq33⟩ : ∃ b_ : Bool, b_ = (rdOf false x6_2 (rd t145 x7_2)) := ⟨_, rfl⟩
                      rw [← hbq33] at H
                      have Nbq33 := Aside0.mk hbq33
                      clear hbq33
                      by_cases c34 : bq33 = true
                      · subst c34
                        rw [if_pos rfl] at H
                        have H' := Aside0.mk H
                        clear H
                        obtain ⟨Ao35, co35, eo35⟩ := Kd.R_slice HO_6.out
                        subst eo35
                        have p157 : 0 ≤ ((rd t145 x7_2) : Int) := zOD
                        have q157 : (rd t145 x7_2) < (x6_2.length : Int) := zOD
                        obtain ⟨ad157, e157, hx157_0⟩ := Kd.at_bool (Kd.R_reads' HO_6.out).2.2 (rd t145 x7_2) p157 q157
                        (try rw [← Nbq33.out] at hx157_0)
                        cases e157
                        replace p157 := eq_true p157
                        replace q157 := eq_true q157
                        go_wp2
                        repeat (go_quiet (fail); try go_wp2)
                        go_meet
                        case rel => exact ⟨_, (true), zF', H', ⟨by have := HJ7.out; have := HK2.out; first | omega | exact Nat.le_refl _⟩, ⟨by (with_reducible repeat (first | apply Kd.R_alloc | apply Kd.R_drewN | apply Kd.R_drew)); exact HO_6.out⟩, ⟨by (with_reducible repeat (first | apply Kd.R_alloc | apply Kd.R_drewN | apply Kd.R_drew)); exact HO_153000.out⟩, ⟨by (with_reducible repeat (first | apply Kd.R_alloc | apply Kd.R_drewN | apply Kd.R_drew)); exact HO_153001.out⟩, ⟨zBK⟩, ⟨zHB⟩⟩
                      · replace c34 := Bool.eq_false_iff.mpr c34
                        subst c34
                        rw [if_neg (show ¬ (false = true) by decide)] at H
                        obtain ⟨c36, H⟩ := zG H
                        have c36b0 := decide_eq_true c36
                        clear c36
                        have H' := Aside0.mk H
                        clear H
                        obtain ⟨Ao37, co37, eo37⟩ := Kd.R_slice HO_6.out
                        subst eo37
                        have p157 : 0 ≤ ((rd t145 x7_2) : Int) := zOD
                        have q157 : (rd t145 x7_2) < (x6_2.length : Int) := zOD
                        obtain ⟨ad157, e157, hx157_0⟩ := Kd.at_bool (Kd.R_reads' HO_6.out).2.2 (rd t145 x7_2) p157 q157
                        (try rw [← Nbq33.out] at hx157_0)
                        cases e157
                        replace p157 := eq_true p157
                        replace q157 := eq_true q157
                        have hcz38 := blk_cell BK152.out
                        have hfz38 := blk_frozen BK152.out
                        have p158 : 0 ≤ ((rd t145 x7_2) : Int) := zOD
                        have q158 : (rd t145 x7_2) < (t148.length : Int) := zOD
                        obtain ⟨ad158, e158, hx158_0⟩ := Kd.at_int (Kd.R_reads' HO_153001.out).2.2 (rd t145 x7_2) p158 q158
                        cases e158
                        replace p158 := eq_true p158
                        replace q158 := eq_true q158
                        go_wp2
                        repeat (go_quiet (fail); try go_wp2)
                        go_meet
                        case rel => exact ⟨_, (((rd t148 (rd t145 x7_2)) != x7_2)), zF', H', ⟨by have := HJ7.out; have := HK2.out; first | omega | exact Nat.le_refl _⟩, ⟨by (with_reducible repeat (first | apply Kd.R_alloc | apply Kd.R_drewN | apply Kd.R_drew)); exact HO_6.out⟩, ⟨by (with_reducible repeat (first | apply Kd.R_alloc | apply Kd.R_drewN | apply Kd.R_drew)); exact HO_153000.out⟩, ⟨by (with_reducible repeat (first | apply Kd.R_alloc | apply Kd.R_drewN | apply Kd.R_drew)); exact HO_153001.out⟩, ⟨zBK⟩, ⟨zHB⟩⟩
                case rest =>
                  clear HC27
                  try clear c20
                  try clear c20b0
                  try clear c20b1
                  try clear c21
                  try clear c21b0
                  try clear c21b1
                  try clear c24b0
                  try clear c25
                  try clear c25b0
                  try clear c26
                  try clear c26b0
                  try clear c3b0
                  try clear c3b1
                  try clear hcz14
                  try clear hcz28
                  try clear hfz14
                  try clear hfz28
                  try clear hx156_0
                  try clear p156
                  try clear q156
                  obtain ⟨kq, x71_26, rfl, HA, HJ26, HO_6, HO_153000, HO_153001, BK152, HB⟩ := hcut
                  cases kq with
                  | zero => exact absurd HA.out (by simp [pleatlaw16_SuffixOrder.j2])
                  | succ kj26 =>
                    have H := HA.out
                    clear HA
                    simp only [pleatlaw16_SuffixOrder.j2] at H
                    by_cases c39 : x71_26 = true
                    · subst c39
                      rw [if_pos rfl] at H
                      obtain rfl := Option.some.inj H
                      go_wp2
                      repeat (go_quiet (fail); try go_wp2)
                      go_ret
                      exact ⟨zE, zHB⟩
                    · replace c39 := Bool.eq_false_iff.mpr c39
                      subst c39
                      rw [if_neg (show ¬ (false = true) by decide)] at H
                      obtain ⟨c40, H⟩ := zG H
                      have c40b0 := decide_eq_true c40
                      clear c40
                      obtain ⟨c41, H⟩ := zG H
                      have c41b0 := decide_eq_true c41
                      clear c41
                      obtain ⟨y159, hy159⟩ : ∃ y_ : List Bool, y_ = (x6_2.set ((rd t145 x7_2) : Int).toNat true) := ⟨_, rfl⟩
                      replace H := (Option.bind_some _ _).symm.trans H
                      (try rw [← hy159] at H)
                      have Ny159 := Aside0.mk hy159
                      clear hy159
                      by_cases c43 : x7_2 > 0
                      · rw [if_pos c43] at H
                        have c43b0 : decide (0 < x7_2) = true := decide_eq_true c43
                        clear c43
                        obtain ⟨ji44, hji44⟩ : ∃ j_ : Int, (wrap64 (x7_2 - 1)) = j_ := ⟨_, rfl⟩
                        (first | rw [hji44] at H | simp only [hji44] at H)
                        have hji44w : (IntKind.i64.wrap (x7_2 - 1)) = ji44 := (i64_w _).trans hji44
                        obtain ⟨c45, H⟩ := zG H
                        have c45b0 := decide_eq_true c45
                        clear c45
                        obtain ⟨c46, H⟩ := zG H
                        have c46b0 := decide_eq_true c46
                        clear c46
                        replace H := Option.bind_eq_some_iff.mp H
                        obtain ⟨t161, A470, H⟩ := H
                        (try dsimp only at H)
                        have A47 := Aside0.mk A470
                        clear A470
                        by_cases c48 : t161 = true
                        · subst c48
                          rw [if_pos rfl] at H
                          have H' := Aside0.mk H
                          clear H
                          have p42 : 0 ≤ ((rd t145 x7_2) : Int) := zOD
                          have q42 : ((rd t145 x7_2) : Int) < ((x6_2.length : Int) : Int) := zOD
                          obtain ⟨go42, co42, eo42, gb42, gl42, cl42, HG42⟩ := Kd.R_form HO_6.out (by omega)
                          (first | cases eo42 | (injection eo42 with ea_ en_ ec_; (first | subst ea_ | (injection ea_ with ea_; subst ea_)); subst ec_; clear en_))
                          have GB42 := Aside0.mk gb42
                          have GG42 := Aside0.mk HG42
                          clear gb42 gl42 HG42
                          obtain ⟨hx42_0, hf42_0⟩ := Kd.R_celln false HO_6.out ((rd t145 x7_2) : Int) p42 q42
                          replace p42 := eq_true p42
                          replace q42 := eq_true q42
                          have HP49 := Kd.R_putg HO_6.out ((rd t145 x7_2) : Int) true
                          go_wp2_with (first | ((with_reducible refine gate_store (t := 4) (p := 74) rfl ?_); (try (rw [drewN_self wc]; generalize hq_ : World.drewN wc _ = wc; have n0_ := Aside0.mk (Kd.R_at hq_ HO_6.out); have n1_ := Aside0.mk (Kd.R_at hq_ HO_153000.out); have n2_ := Aside0.mk (Kd.R_at hq_ HO_153001.out); have n3_ := Aside0.mk (blk_at hq_ BK152.out); have n4_ := Aside0.mk (below_at hq_ HB.out); clear hq_ HO_6 HO_153000 HO_153001 BK152 HB; have HO_6 := n0_; have HO_153000 := n1_; have HO_153001 := n2_; have BK152 := n3_; have HB := n4_; clear n0_ n1_ n2_ n3_ n4_; (try (have HP49 := Kd.R_putg HO_6.out ((rd t145 x7_2) : Int) true)))); refine store_event (t := 4) (p := 74) (v := ?vo_w50) (w1 := (wc.setCell ⟨go42, ((rd t145 x7_2) : Int).toNat, none⟩ (.bool true))) ?hg ?ho ?hn ?hr ?_; (case ho => rfl); (case hg => rfl); (case hn => rfl); (case hr => first | (go_simp; done) | (go_simp; rfl)); intro w50 hw; have hg : wc.grownBy w50 (some go42) := (by rw [hw]; exact HP49.2); have hp_ : Kd.R Kd.bool 4 w50 w.heap.size (fun _ => True) (.slice (some ⟨go42, 0, none⟩) x6_2.length co42) y159 := (by rw [hw, Ny159.out]; exact HP49.1); clear HP49; refine zs hp_ (zs (Kd.R_over' (v := (.slice (some ⟨go42, 0, none⟩) x6_2.length co42)) (by (with_reducible repeat (first | apply Kd.R_alloc | apply Kd.R_drewN | apply Kd.R_drew)); exact HO_153000.out) (Kd.R_typed HO_6.out) (by decide) hg) (zs (Kd.R_over' (v := (.slice (some ⟨go42, 0, none⟩) x6_2.length co42)) (by (with_reducible repeat (first | apply Kd.R_alloc | apply Kd.R_drewN | apply Kd.R_drew)); exact HO_153001.out) (Kd.R_typed HO_6.out) (by decide) hg) (zs (blk_grown (g := gb152) zBK hg (Kd.R_ne HO_6.out BK152.out (by decide))) (zs ((by rw [hw]; exact below_set (HB.out) GB42.out : Below w.heap.size w w50)) ?_)))); clear HO_6 HO_153000 HO_153001 BK152 HB; intro HB BK152 HO_153001 HO_153000 HO_6; clear hg hw hp_; have hcz51 := blk_cell BK152.out; have hfz51 := blk_frozen BK152.out; have p160 : 0 ≤ ((ji44) : Int) := zOD; have q160 : (ji44) < (t145.length : Int) := zOD; obtain ⟨ad160, e160, hx160_0⟩ := Kd.at_int (Kd.R_reads' HO_153000.out).2.2 (ji44) p160 q160; obtain rfl : ad156 = ad160 := (by injection e160); replace p160 := eq_true p160; replace q160 := eq_true q160) | (go_at_call 28; (with_reducible refine (pleatlaw16_less.calls kj26 _ _ l0 (rd t145 (ji44)) (rd t145 x7_2) true _ ?side1 ?side2 A47.out).mono ?_); (case side1 => exact zS); (case side2 => exact zS); rintro e w' ⟨rfl, ⟨nd, rfl⟩⟩; (try first | exact ⟨rfl, _, World.drewN_drewN _ _ _⟩ | exact ⟨rfl, _, Eq.trans (World.drewN_drewN _ _ _) (congrArg (World.drewN _) (Nat.add_assoc _ _ _))⟩)))
                          repeat (go_quiet (first | ((with_reducible refine gate_store (t := 4) (p := 74) rfl ?_); (try (rw [drewN_self wc]; generalize hq_ : World.drewN wc _ = wc; have n0_ := Aside0.mk (Kd.R_at hq_ HO_6.out); have n1_ := Aside0.mk (Kd.R_at hq_ HO_153000.out); have n2_ := Aside0.mk (Kd.R_at hq_ HO_153001.out); have n3_ := Aside0.mk (blk_at hq_ BK152.out); have n4_ := Aside0.mk (below_at hq_ HB.out); clear hq_ HO_6 HO_153000 HO_153001 BK152 HB; have HO_6 := n0_; have HO_153000 := n1_; have HO_153001 := n2_; have BK152 := n3_; have HB := n4_; clear n0_ n1_ n2_ n3_ n4_; (try (have HP49 := Kd.R_putg HO_6.out ((rd t145 x7_2) : Int) true)))); refine store_event (t := 4) (p := 74) (v := ?vo_w50) (w1 := (wc.setCell ⟨go42, ((rd t145 x7_2) : Int).toNat, none⟩ (.bool true))) ?hg ?ho ?hn ?hr ?_; (case ho => rfl); (case hg => rfl); (case hn => rfl); (case hr => first | (go_simp; done) | (go_simp; rfl)); intro w50 hw; have hg : wc.grownBy w50 (some go42) := (by rw [hw]; exact HP49.2); have hp_ : Kd.R Kd.bool 4 w50 w.heap.size (fun _ => True) (.slice (some ⟨go42, 0, none⟩) x6_2.length co42) y159 := (by rw [hw, Ny159.out]; exact HP49.1); clear HP49; refine zs hp_ (zs (Kd.R_over' (v := (.slice (some ⟨go42, 0, none⟩) x6_2.length co42)) (by (with_reducible repeat (first | apply Kd.R_alloc | apply Kd.R_drewN | apply Kd.R_drew)); exact HO_153000.out) (Kd.R_typed HO_6.out) (by decide) hg) (zs (Kd.R_over' (v := (.slice (some ⟨go42, 0, none⟩) x6_2.length co42)) (by (with_reducible repeat (first | apply Kd.R_alloc | apply Kd.R_drewN | apply Kd.R_drew)); exact HO_153001.out) (Kd.R_typed HO_6.out) (by decide) hg) (zs (blk_grown (g := gb152) zBK hg (Kd.R_ne HO_6.out BK152.out (by decide))) (zs ((by rw [hw]; exact below_set (HB.out) GB42.out : Below w.heap.size w w50)) ?_)))); clear HO_6 HO_153000 HO_153001 BK152 HB; intro HB BK152 HO_153001 HO_153000 HO_6; clear hg hw hp_; have hcz51 := blk_cell BK152.out; have hfz51 := blk_frozen BK152.out; have p160 : 0 ≤ ((ji44) : Int) := zOD; have q160 : (ji44) < (t145.length : Int) := zOD; obtain ⟨ad160, e160, hx160_0⟩ := Kd.at_int (Kd.R_reads' HO_153000.out).2.2 (ji44) p160 q160; obtain rfl : ad156 = ad160 := (by injection e160); replace p160 := eq_true p160; replace q160 := eq_true q160) | (go_at_call 28; (with_reducible refine (pleatlaw16_less.calls kj26 _ _ l0 (rd t145 (ji44)) (rd t145 x7_2) true _ ?side1 ?side2 A47.out).mono ?_); (case side1 => exact zS); (case side2 => exact zS); rintro e w' ⟨rfl, ⟨nd, rfl⟩⟩; (try first | exact ⟨rfl, _, World.drewN_drewN _ _ _⟩ | exact ⟨rfl, _, Eq.trans (World.drewN_drewN _ _ _) (congrArg (World.drewN _) (Nat.add_assoc _ _ _))⟩))); try go_wp2_with (first | ((with_reducible refine gate_store (t := 4) (p := 74) rfl ?_); (try (rw [drewN_self wc]; generalize hq_ : World.drewN wc _ = wc; have n0_ := Aside0.mk (Kd.R_at hq_ HO_6.out); have n1_ := Aside0.mk (Kd.R_at hq_ HO_153000.out); have n2_ := Aside0.mk (Kd.R_at hq_ HO_153001.out); have n3_ := Aside0.mk (blk_at hq_ BK152.out); have n4_ := Aside0.mk (below_at hq_ HB.out); clear hq_ HO_6 HO_153000 HO_153001 BK152 HB; have HO_6 := n0_; have HO_153000 := n1_; have HO_153001 := n2_; have BK152 := n3_; have HB := n4_; clear n0_ n1_ n2_ n3_ n4_; (try (have HP49 := Kd.R_putg HO_6.out ((rd t145 x7_2) : Int) true)))); refine store_event (t := 4) (p := 74) (v := ?vo_w50) (w1 := (wc.setCell ⟨go42, ((rd t145 x7_2) : Int).toNat, none⟩ (.bool true))) ?hg ?ho ?hn ?hr ?_; (case ho => rfl); (case hg => rfl); (case hn => rfl); (case hr => first | (go_simp; done) | (go_simp; rfl)); intro w50 hw; have hg : wc.grownBy w50 (some go42) := (by rw [hw]; exact HP49.2); have hp_ : Kd.R Kd.bool 4 w50 w.heap.size (fun _ => True) (.slice (some ⟨go42, 0, none⟩) x6_2.length co42) y159 := (by rw [hw, Ny159.out]; exact HP49.1); clear HP49; refine zs hp_ (zs (Kd.R_over' (v := (.slice (some ⟨go42, 0, none⟩) x6_2.length co42)) (by (with_reducible repeat (first | apply Kd.R_alloc | apply Kd.R_drewN | apply Kd.R_drew)); exact HO_153000.out) (Kd.R_typed HO_6.out) (by decide) hg) (zs (Kd.R_over' (v := (.slice (some ⟨go42, 0, none⟩) x6_2.length co42)) (by (with_reducible repeat (first | apply Kd.R_alloc | apply Kd.R_drewN | apply Kd.R_drew)); exact HO_153001.out) (Kd.R_typed HO_6.out) (by decide) hg) (zs (blk_grown (g := gb152) zBK hg (Kd.R_ne HO_6.out BK152.out (by decide))) (zs ((by rw [hw]; exact below_set (HB.out) GB42.out : Below w.heap.size w w50)) ?_)))); clear HO_6 HO_153000 HO_153001 BK152 HB; intro HB BK152 HO_153001 HO_153000 HO_6; clear hg hw hp_; have hcz51 := blk_cell BK152.out; have hfz51 := blk_frozen BK152.out; have p160 : 0 ≤ ((ji44) : Int) := zOD; have q160 : (ji44) < (t145.length : Int) := zOD; obtain ⟨ad160, e160, hx160_0⟩ := Kd.at_int (Kd.R_reads' HO_153000.out).2.2 (ji44) p160 q160; obtain rfl : ad156 = ad160 := (by injection e160); replace p160 := eq_true p160; replace q160 := eq_true q160) | (go_at_call 28; (with_reducible refine (pleatlaw16_less.calls kj26 _ _ l0 (rd t145 (ji44)) (rd t145 x7_2) true _ ?side1 ?side2 A47.out).mono ?_); (case side1 => exact zS); (case side2 => exact zS); rintro e w' ⟨rfl, ⟨nd, rfl⟩⟩; (try first | exact ⟨rfl, _, World.drewN_drewN _ _ _⟩ | exact ⟨rfl, _, Eq.trans (World.drewN_drewN _ _ _) (congrArg (World.drewN _) (Nat.add_assoc _ _ _))⟩))))
                          go_roundg kj26
                          case measure => have := HJ7.out; have := HK2.out; have := HJ26.out; omega
                          case rel => exact ⟨(y159), (wrap64 (x7_2 + 1)), zF', H', ⟨by have := HJ7.out; have := HK2.out; have := HJ26.out; omega⟩, ⟨by (with_reducible repeat (first | apply Kd.R_alloc | apply Kd.R_drewN | apply Kd.R_drew)); exact HO_6.out⟩, ⟨by (with_reducible repeat (first | apply Kd.R_alloc | apply Kd.R_drewN | apply Kd.R_drew)); exact HO_153000.out⟩, ⟨by (with_reducible repeat (first | apply Kd.R_alloc | apply Kd.R_drewN | apply Kd.R_drew)); exact HO_153001.out⟩, ⟨zBK⟩, ⟨zHB⟩⟩
                        · replace c48 := Bool.eq_false_iff.mpr c48
                          subst c48
                          rw [if_neg (show ¬ (false = true) by decide)] at H
                          obtain rfl := Option.some.inj H
                          have p42 : 0 ≤ ((rd t145 x7_2) : Int) := zOD
                          have q42 : ((rd t145 x7_2) : Int) < ((x6_2.length : Int) : Int) := zOD
                          obtain ⟨go42, co42, eo42, gb42, gl42, cl42, HG42⟩ := Kd.R_form HO_6.out (by omega)
                          (first | cases eo42 | (injection eo42 with ea_ en_ ec_; (first | subst ea_ | (injection ea_ with ea_; subst ea_)); subst ec_; clear en_))
                          have GB42 := Aside0.mk gb42
                          have GG42 := Aside0.mk HG42
                          clear gb42 gl42 HG42
                          obtain ⟨hx42_0, hf42_0⟩ := Kd.R_celln false HO_6.out ((rd t145 x7_2) : Int) p42 q42
                          replace p42 := eq_true p42
                          replace q42 := eq_true q42
                          have HP52 := Kd.R_putg HO_6.out ((rd t145 x7_2) : Int) true
                          go_wp2_with (first | ((with_reducible refine gate_store (t := 4) (p := 74) rfl ?_); (try (rw [drewN_self wc]; generalize hq_ : World.drewN wc _ = wc; have n0_ := Aside0.mk (Kd.R_at hq_ HO_6.out); have n1_ := Aside0.mk (Kd.R_at hq_ HO_153000.out); have n2_ := Aside0.mk (Kd.R_at hq_ HO_153001.out); have n3_ := Aside0.mk (blk_at hq_ BK152.out); have n4_ := Aside0.mk (below_at hq_ HB.out); clear hq_ HO_6 HO_153000 HO_153001 BK152 HB; have HO_6 := n0_; have HO_153000 := n1_; have HO_153001 := n2_; have BK152 := n3_; have HB := n4_; clear n0_ n1_ n2_ n3_ n4_; (try (have HP52 := Kd.R_putg HO_6.out ((rd t145 x7_2) : Int) true)))); refine store_event (t := 4) (p := 74) (v := ?vo_w53) (w1 := (wc.setCell ⟨go42, ((rd t145 x7_2) : Int).toNat, none⟩ (.bool true))) ?hg ?ho ?hn ?hr ?_; (case ho => rfl); (case hg => rfl); (case hn => rfl); (case hr => first | (go_simp; done) | (go_simp; rfl)); intro w53 hw; have hg : wc.grownBy w53 (some go42) := (by rw [hw]; exact HP52.2); have hp_ : Kd.R Kd.bool 4 w53 w.heap.size (fun _ => True) (.slice (some ⟨go42, 0, none⟩) x6_2.length co42) y159 := (by rw [hw, Ny159.out]; exact HP52.1); clear HP52; refine zs hp_ (zs (Kd.R_over' (v := (.slice (some ⟨go42, 0, none⟩) x6_2.length co42)) (by (with_reducible repeat (first | apply Kd.R_alloc | apply Kd.R_drewN | apply Kd.R_drew)); exact HO_153000.out) (Kd.R_typed HO_6.out) (by decide) hg) (zs (Kd.R_over' (v := (.slice (some ⟨go42, 0, none⟩) x6_2.length co42)) (by (with_reducible repeat (first | apply Kd.R_alloc | apply Kd.R_drewN | apply Kd.R_drew)); exact HO_153001.out) (Kd.R_typed HO_6.out) (by decide) hg) (zs (blk_grown (g := gb152) zBK hg (Kd.R_ne HO_6.out BK152.out (by decide))) (zs ((by rw [hw]; exact below_set (HB.out) GB42.out : Below w.heap.size w w53)) ?_)))); clear HO_6 HO_153000 HO_153001 BK152 HB; intro HB BK152 HO_153001 HO_153000 HO_6; clear hg hw hp_; have hcz54 := blk_cell BK152.out; have hfz54 := blk_frozen BK152.out; have p160 : 0 ≤ ((ji44) : Int) := zOD; have q160 : (ji44) < (t145.length : Int) := zOD; obtain ⟨ad160, e160, hx160_0⟩ := Kd.at_int (Kd.R_reads' HO_153000.out).2.2 (ji44) p160 q160; obtain rfl : ad156 = ad160 := (by injection e160); replace p160 := eq_true p160; replace q160 := eq_true q160) | (go_at_call 28; (with_reducible refine (pleatlaw16_less.calls kj26 _ _ l0 (rd t145 (ji44)) (rd t145 x7_2) false _ ?side1 ?side2 A47.out).mono ?_); (case side1 => exact zS); (case side2 => exact zS); rintro e w' ⟨rfl, ⟨nd, rfl⟩⟩; (try first | exact ⟨rfl, _, World.drewN_drewN _ _ _⟩ | exact ⟨rfl, _, Eq.trans (World.drewN_drewN _ _ _) (congrArg (World.drewN _) (Nat.add_assoc _ _ _))⟩)))
                          repeat (go_quiet (first | ((with_reducible refine gate_store (t := 4) (p := 74) rfl ?_); (try (rw [drewN_self wc]; generalize hq_ : World.drewN wc _ = wc; have n0_ := Aside0.mk (Kd.R_at hq_ HO_6.out); have n1_ := Aside0.mk (Kd.R_at hq_ HO_153000.out); have n2_ := Aside0.mk (Kd.R_at hq_ HO_153001.out); have n3_ := Aside0.mk (blk_at hq_ BK152.out); have n4_ := Aside0.mk (below_at hq_ HB.out); clear hq_ HO_6 HO_153000 HO_153001 BK152 HB; have HO_6 := n0_; have HO_153000 := n1_; have HO_153001 := n2_; have BK152 := n3_; have HB := n4_; clear n0_ n1_ n2_ n3_ n4_; (try (have HP52 := Kd.R_putg HO_6.out ((rd t145 x7_2) : Int) true)))); refine store_event (t := 4) (p := 74) (v := ?vo_w53) (w1 := (wc.setCell ⟨go42, ((rd t145 x7_2) : Int).toNat, none⟩ (.bool true))) ?hg ?ho ?hn ?hr ?_; (case ho => rfl); (case hg => rfl); (case hn => rfl); (case hr => first | (go_simp; done) | (go_simp; rfl)); intro w53 hw; have hg : wc.grownBy w53 (some go42) := (by rw [hw]; exact HP52.2); have hp_ : Kd.R Kd.bool 4 w53 w.heap.size (fun _ => True) (.slice (some ⟨go42, 0, none⟩) x6_2.length co42) y159 := (by rw [hw, Ny159.out]; exact HP52.1); clear HP52; refine zs hp_ (zs (Kd.R_over' (v := (.slice (some ⟨go42, 0, none⟩) x6_2.length co42)) (by (with_reducible repeat (first | apply Kd.R_alloc | apply Kd.R_drewN | apply Kd.R_drew)); exact HO_153000.out) (Kd.R_typed HO_6.out) (by decide) hg) (zs (Kd.R_over' (v := (.slice (some ⟨go42, 0, none⟩) x6_2.length co42)) (by (with_reducible repeat (first | apply Kd.R_alloc | apply Kd.R_drewN | apply Kd.R_drew)); exact HO_153001.out) (Kd.R_typed HO_6.out) (by decide) hg) (zs (blk_grown (g := gb152) zBK hg (Kd.R_ne HO_6.out BK152.out (by decide))) (zs ((by rw [hw]; exact below_set (HB.out) GB42.out : Below w.heap.size w w53)) ?_)))); clear HO_6 HO_153000 HO_153001 BK152 HB; intro HB BK152 HO_153001 HO_153000 HO_6; clear hg hw hp_; have hcz54 := blk_cell BK152.out; have hfz54 := blk_frozen BK152.out; have p160 : 0 ≤ ((ji44) : Int) := zOD; have q160 : (ji44) < (t145.length : Int) := zOD; obtain ⟨ad160, e160, hx160_0⟩ := Kd.at_int (Kd.R_reads' HO_153000.out).2.2 (ji44) p160 q160; obtain rfl : ad156 = ad160 := (by injection e160); replace p160 := eq_true p160; replace q160 := eq_true q160) | (go_at_call 28; (with_reducible refine (pleatlaw16_less.calls kj26 _ _ l0 (rd t145 (ji44)) (rd t145 x7_2) false _ ?side1 ?side2 A47.out).mono ?_); (case side1 => exact zS); (case side2 => exact zS); rintro e w' ⟨rfl, ⟨nd, rfl⟩⟩; (try first | exact ⟨rfl, _, World.drewN_drewN _ _ _⟩ | exact ⟨rfl, _, Eq.trans (World.drewN_drewN _ _ _) (congrArg (World.drewN _) (Nat.add_assoc _ _ _))⟩))); try go_wp2_with (first | ((with_reducible refine gate_store (t := 4) (p := 74) rfl ?_); (try (rw [drewN_self wc]; generalize hq_ : World.drewN wc _ = wc; have n0_ := Aside0.mk (Kd.R_at hq_ HO_6.out); have n1_ := Aside0.mk (Kd.R_at hq_ HO_153000.out); have n2_ := Aside0.mk (Kd.R_at hq_ HO_153001.out); have n3_ := Aside0.mk (blk_at hq_ BK152.out); have n4_ := Aside0.mk (below_at hq_ HB.out); clear hq_ HO_6 HO_153000 HO_153001 BK152 HB; have HO_6 := n0_; have HO_153000 := n1_; have HO_153001 := n2_; have BK152 := n3_; have HB := n4_; clear n0_ n1_ n2_ n3_ n4_; (try (have HP52 := Kd.R_putg HO_6.out ((rd t145 x7_2) : Int) true)))); refine store_event (t := 4) (p := 74) (v := ?vo_w53) (w1 := (wc.setCell ⟨go42, ((rd t145 x7_2) : Int).toNat, none⟩ (.bool true))) ?hg ?ho ?hn ?hr ?_; (case ho => rfl); (case hg => rfl); (case hn => rfl); (case hr => first | (go_simp; done) | (go_simp; rfl)); intro w53 hw; have hg : wc.grownBy w53 (some go42) := (by rw [hw]; exact HP52.2); have hp_ : Kd.R Kd.bool 4 w53 w.heap.size (fun _ => True) (.slice (some ⟨go42, 0, none⟩) x6_2.length co42) y159 := (by rw [hw, Ny159.out]; exact HP52.1); clear HP52; refine zs hp_ (zs (Kd.R_over' (v := (.slice (some ⟨go42, 0, none⟩) x6_2.length co42)) (by (with_reducible repeat (first | apply Kd.R_alloc | apply Kd.R_drewN | apply Kd.R_drew)); exact HO_153000.out) (Kd.R_typed HO_6.out) (by decide) hg) (zs (Kd.R_over' (v := (.slice (some ⟨go42, 0, none⟩) x6_2.length co42)) (by (with_reducible repeat (first | apply Kd.R_alloc | apply Kd.R_drewN | apply Kd.R_drew)); exact HO_153001.out) (Kd.R_typed HO_6.out) (by decide) hg) (zs (blk_grown (g := gb152) zBK hg (Kd.R_ne HO_6.out BK152.out (by decide))) (zs ((by rw [hw]; exact below_set (HB.out) GB42.out : Below w.heap.size w w53)) ?_)))); clear HO_6 HO_153000 HO_153001 BK152 HB; intro HB BK152 HO_153001 HO_153000 HO_6; clear hg hw hp_; have hcz54 := blk_cell BK152.out; have hfz54 := blk_frozen BK152.out; have p160 : 0 ≤ ((ji44) : Int) := zOD; have q160 : (ji44) < (t145.length : Int) := zOD; obtain ⟨ad160, e160, hx160_0⟩ := Kd.at_int (Kd.R_reads' HO_153000.out).2.2 (ji44) p160 q160; obtain rfl : ad156 = ad160 := (by injection e160); replace p160 := eq_true p160; replace q160 := eq_true q160) | (go_at_call 28; (with_reducible refine (pleatlaw16_less.calls kj26 _ _ l0 (rd t145 (ji44)) (rd t145 x7_2) false _ ?side1 ?side2 A47.out).mono ?_); (case side1 => exact zS); (case side2 => exact zS); rintro e w' ⟨rfl, ⟨nd, rfl⟩⟩; (try first | exact ⟨rfl, _, World.drewN_drewN _ _ _⟩ | exact ⟨rfl, _, Eq.trans (World.drewN_drewN _ _ _) (congrArg (World.drewN _) (Nat.add_assoc _ _ _))⟩))))
                          go_ret
                          exact ⟨by first | rfl | (simp [errW_none, errW_some] <;> rfl) | (simp only [← hji44]; first | rfl | (simp [errW_none, errW_some] <;> rfl)) | (simp [*, errW_none, errW_some] <;> rfl), zHB⟩
                      · rw [if_neg c43] at H
                        have c43b0 : decide (0 < x7_2) = false := decide_eq_false c43
                        clear c43
                        have H' := Aside0.mk H
                        clear H
                        have p42 : 0 ≤ ((rd t145 x7_2) : Int) := zOD
                        have q42 : ((rd t145 x7_2) : Int) < ((x6_2.length : Int) : Int) := zOD
                        obtain ⟨go42, co42, eo42, gb42, gl42, cl42, HG42⟩ := Kd.R_form HO_6.out (by omega)
                        (first | cases eo42 | (injection eo42 with ea_ en_ ec_; (first | subst ea_ | (injection ea_ with ea_; subst ea_)); subst ec_; clear en_))
                        have GB42 := Aside0.mk gb42
                        have GG42 := Aside0.mk HG42
                        clear gb42 gl42 HG42
                        obtain ⟨hx42_0, hf42_0⟩ := Kd.R_celln false HO_6.out ((rd t145 x7_2) : Int) p42 q42
                        replace p42 := eq_true p42
                        replace q42 := eq_true q42
                        have HP55 := Kd.R_putg HO_6.out ((rd t145 x7_2) : Int) true
                        go_wp2_with (first | ((with_reducible refine gate_store (t := 4) (p := 74) rfl ?_); (try (rw [drewN_self wc]; generalize hq_ : World.drewN wc _ = wc; have n0_ := Aside0.mk (Kd.R_at hq_ HO_6.out); have n1_ := Aside0.mk (Kd.R_at hq_ HO_153000.out); have n2_ := Aside0.mk (Kd.R_at hq_ HO_153001.out); have n3_ := Aside0.mk (blk_at hq_ BK152.out); have n4_ := Aside0.mk (below_at hq_ HB.out); clear hq_ HO_6 HO_153000 HO_153001 BK152 HB; have HO_6 := n0_; have HO_153000 := n1_; have HO_153001 := n2_; have BK152 := n3_; have HB := n4_; clear n0_ n1_ n2_ n3_ n4_; (try (have HP55 := Kd.R_putg HO_6.out ((rd t145 x7_2) : Int) true)))); refine store_event (t := 4) (p := 74) (v := ?vo_w56) (w1 := (wc.setCell ⟨go42, ((rd t145 x7_2) : Int).toNat, none⟩ (.bool true))) ?hg ?ho ?hn ?hr ?_; (case ho => rfl); (case hg => rfl); (case hn => rfl); (case hr => first | (go_simp; done) | (go_simp; rfl)); intro w56 hw; have hg : wc.grownBy w56 (some go42) := (by rw [hw]; exact HP55.2); have hp_ : Kd.R Kd.bool 4 w56 w.heap.size (fun _ => True) (.slice (some ⟨go42, 0, none⟩) x6_2.length co42) y159 := (by rw [hw, Ny159.out]; exact HP55.1); clear HP55; refine zs hp_ (zs (Kd.R_over' (v := (.slice (some ⟨go42, 0, none⟩) x6_2.length co42)) (by (with_reducible repeat (first | apply Kd.R_alloc | apply Kd.R_drewN | apply Kd.R_drew)); exact HO_153000.out) (Kd.R_typed HO_6.out) (by decide) hg) (zs (Kd.R_over' (v := (.slice (some ⟨go42, 0, none⟩) x6_2.length co42)) (by (with_reducible repeat (first | apply Kd.R_alloc | apply Kd.R_drewN | apply Kd.R_drew)); exact HO_153001.out) (Kd.R_typed HO_6.out) (by decide) hg) (zs (blk_grown (g := gb152) zBK hg (Kd.R_ne HO_6.out BK152.out (by decide))) (zs ((by rw [hw]; exact below_set (HB.out) GB42.out : Below w.heap.size w w56)) ?_)))); clear HO_6 HO_153000 HO_153001 BK152 HB; intro HB BK152 HO_153001 HO_153000 HO_6; clear hg hw hp_))
                        repeat (go_quiet (first | ((with_reducible refine gate_store (t := 4) (p := 74) rfl ?_); (try (rw [drewN_self wc]; generalize hq_ : World.drewN wc _ = wc; have n0_ := Aside0.mk (Kd.R_at hq_ HO_6.out); have n1_ := Aside0.mk (Kd.R_at hq_ HO_153000.out); have n2_ := Aside0.mk (Kd.R_at hq_ HO_153001.out); have n3_ := Aside0.mk (blk_at hq_ BK152.out); have n4_ := Aside0.mk (below_at hq_ HB.out); clear hq_ HO_6 HO_153000 HO_153001 BK152 HB; have HO_6 := n0_; have HO_153000 := n1_; have HO_153001 := n2_; have BK152 := n3_; have HB := n4_; clear n0_ n1_ n2_ n3_ n4_; (try (have HP55 := Kd.R_putg HO_6.out ((rd t145 x7_2) : Int) true)))); refine store_event (t := 4) (p := 74) (v := ?vo_w56) (w1 := (wc.setCell ⟨go42, ((rd t145 x7_2) : Int).toNat, none⟩ (.bool true))) ?hg ?ho ?hn ?hr ?_; (case ho => rfl); (case hg => rfl); (case hn => rfl); (case hr => first | (go_simp; done) | (go_simp; rfl)); intro w56 hw; have hg : wc.grownBy w56 (some go42) := (by rw [hw]; exact HP55.2); have hp_ : Kd.R Kd.bool 4 w56 w.heap.size (fun _ => True) (.slice (some ⟨go42, 0, none⟩) x6_2.length co42) y159 := (by rw [hw, Ny159.out]; exact HP55.1); clear HP55; refine zs hp_ (zs (Kd.R_over' (v := (.slice (some ⟨go42, 0, none⟩) x6_2.length co42)) (by (with_reducible repeat (first | apply Kd.R_alloc | apply Kd.R_drewN | apply Kd.R_drew)); exact HO_153000.out) (Kd.R_typed HO_6.out) (by decide) hg) (zs (Kd.R_over' (v := (.slice (some ⟨go42, 0, none⟩) x6_2.length co42)) (by (with_reducible repeat (first | apply Kd.R_alloc | apply Kd.R_drewN | apply Kd.R_drew)); exact HO_153001.out) (Kd.R_typed HO_6.out) (by decide) hg) (zs (blk_grown (g := gb152) zBK hg (Kd.R_ne HO_6.out BK152.out (by decide))) (zs ((by rw [hw]; exact below_set (HB.out) GB42.out : Below w.heap.size w w56)) ?_)))); clear HO_6 HO_153000 HO_153001 BK152 HB; intro HB BK152 HO_153001 HO_153000 HO_6; clear hg hw hp_)); try go_wp2_with (first | ((with_reducible refine gate_store (t := 4) (p := 74) rfl ?_); (try (rw [drewN_self wc]; generalize hq_ : World.drewN wc _ = wc; have n0_ := Aside0.mk (Kd.R_at hq_ HO_6.out); have n1_ := Aside0.mk (Kd.R_at hq_ HO_153000.out); have n2_ := Aside0.mk (Kd.R_at hq_ HO_153001.out); have n3_ := Aside0.mk (blk_at hq_ BK152.out); have n4_ := Aside0.mk (below_at hq_ HB.out); clear hq_ HO_6 HO_153000 HO_153001 BK152 HB; have HO_6 := n0_; have HO_153000 := n1_; have HO_153001 := n2_; have BK152 := n3_; have HB := n4_; clear n0_ n1_ n2_ n3_ n4_; (try (have HP55 := Kd.R_putg HO_6.out ((rd t145 x7_2) : Int) true)))); refine store_event (t := 4) (p := 74) (v := ?vo_w56) (w1 := (wc.setCell ⟨go42, ((rd t145 x7_2) : Int).toNat, none⟩ (.bool true))) ?hg ?ho ?hn ?hr ?_; (case ho => rfl); (case hg => rfl); (case hn => rfl); (case hr => first | (go_simp; done) | (go_simp; rfl)); intro w56 hw; have hg : wc.grownBy w56 (some go42) := (by rw [hw]; exact HP55.2); have hp_ : Kd.R Kd.bool 4 w56 w.heap.size (fun _ => True) (.slice (some ⟨go42, 0, none⟩) x6_2.length co42) y159 := (by rw [hw, Ny159.out]; exact HP55.1); clear HP55; refine zs hp_ (zs (Kd.R_over' (v := (.slice (some ⟨go42, 0, none⟩) x6_2.length co42)) (by (with_reducible repeat (first | apply Kd.R_alloc | apply Kd.R_drewN | apply Kd.R_drew)); exact HO_153000.out) (Kd.R_typed HO_6.out) (by decide) hg) (zs (Kd.R_over' (v := (.slice (some ⟨go42, 0, none⟩) x6_2.length co42)) (by (with_reducible repeat (first | apply Kd.R_alloc | apply Kd.R_drewN | apply Kd.R_drew)); exact HO_153001.out) (Kd.R_typed HO_6.out) (by decide) hg) (zs (blk_grown (g := gb152) zBK hg (Kd.R_ne HO_6.out BK152.out (by decide))) (zs ((by rw [hw]; exact below_set (HB.out) GB42.out : Below w.heap.size w w56)) ?_)))); clear HO_6 HO_153000 HO_153001 BK152 HB; intro HB BK152 HO_153001 HO_153000 HO_6; clear hg hw hp_)))
                        go_roundg kj26
                        case measure => have := HJ7.out; have := HK2.out; have := HJ26.out; omega
                        case rel => exact ⟨(y159), (wrap64 (x7_2 + 1)), zF', H', ⟨by have := HJ7.out; have := HK2.out; have := HJ26.out; omega⟩, ⟨by (with_reducible repeat (first | apply Kd.R_alloc | apply Kd.R_drewN | apply Kd.R_drew)); exact HO_6.out⟩, ⟨by (with_reducible repeat (first | apply Kd.R_alloc | apply Kd.R_drewN | apply Kd.R_drew)); exact HO_153000.out⟩, ⟨by (with_reducible repeat (first | apply Kd.R_alloc | apply Kd.R_drewN | apply Kd.R_drew)); exact HO_153001.out⟩, ⟨zBK⟩, ⟨zHB⟩⟩
              · rw [if_neg c24] at H
                have c24b0 := decide_eq_false c24
                clear c24
                obtain ⟨c57, H⟩ := zG H
                have c57b0 := eq_true c57
                have c57b1 : decide (0 ≤ (l0.length : Int)) = true := decide_eq_true c57
                clear c57
                obtain ⟨c58, H⟩ := zG H
                have c58b0 := eq_true c58
                have c58b1 : decide (((l0.length : Int) : Int).toNat ≤ 35184372088832) = true := decide_eq_true c58
                clear c58
                obtain ⟨y162, hy162⟩ : ∃ y_ : List Int, y_ = (List.replicate ((l0.length : Int) : Int).toNat 0) := ⟨_, rfl⟩
                (try rw [← hy162] at H)
                have Ny162 := Aside0.mk hy162
                clear hy162
                have H' := Aside0.mk H
                clear H
                go_wp2_with (first | ((with_reducible refine gate_dst (N := 91) rfl ?_); (try (refine gate_guard (by rfl) ?_; dsimp only)); refine Kd.R_make (Kd.int .i64) _ 3 rfl (N := 91) rfl 31 _ _ rfl (l0.length : Int) rfl rfl Try.underlying31 (.int .i64 0) 8 info3 rfl (by decide) (by omega) 0 (ok := fun _ => True) (okp := fun _ => True) rfl (fun _ hk => hk) trivial (zOD) (Nat.le_trans (Nat.mul_le_mul_right _ (zOD : (l0.length : Int).toNat ≤ 35184372088832)) (by omega)) (Below.refl _ _) (Nat.le_refl _) ?_; intro v163 w59 ho60 hb hg_ hnew_; clear hg_ hnew_; (first | rw [← Ny162.out] at ho60 | (simp only [Int.reduceToNat] at ho60; rw [← Ny162.out] at ho60)); refine zs (Kd.R_below (by (with_reducible repeat (first | apply Kd.R_alloc | apply Kd.R_drewN | apply Kd.R_drew)); exact HO_6.out) hb) (zs (Kd.R_elder' (by (with_reducible repeat (first | apply Kd.R_alloc | apply Kd.R_drewN | apply Kd.R_drew)); exact HO_153000.out) (Kd.R_base ho60) hb) (zs (Kd.R_elder' (by (with_reducible repeat (first | apply Kd.R_alloc | apply Kd.R_drewN | apply Kd.R_drew)); exact HO_153001.out) (Kd.R_base ho60) hb) (zs (Kd.R_lower (Kd.R_new' (Kd.R_new' ho60 (Kd.R_lt (by (with_reducible repeat (first | apply Kd.R_alloc | apply Kd.R_drewN | apply Kd.R_drew)); exact HO_153000.out))) (Kd.R_lt (by (with_reducible repeat (first | apply Kd.R_alloc | apply Kd.R_drewN | apply Kd.R_drew)); exact HO_153001.out))) (below_size (zHB))) (zs (blk_below (g := gb152) zBK hb) (zs (below_step (zHB) hb) ?_))))); clear HO_6 HO_153000 HO_153001 BK152 HB; intro HB BK152 HO164 HO_153001 HO_153000 HO_6; clear hb ho60))
                repeat (go_quiet (first | ((with_reducible refine gate_dst (N := 91) rfl ?_); (try (refine gate_guard (by rfl) ?_; dsimp only)); refine Kd.R_make (Kd.int .i64) _ 3 rfl (N := 91) rfl 31 _ _ rfl (l0.length : Int) rfl rfl Try.underlying31 (.int .i64 0) 8 info3 rfl (by decide) (by omega) 0 (ok := fun _ => True) (okp := fun _ => True) rfl (fun _ hk => hk) trivial (zOD) (Nat.le_trans (Nat.mul_le_mul_right _ (zOD : (l0.length : Int).toNat ≤ 35184372088832)) (by omega)) (Below.refl _ _) (Nat.le_refl _) ?_; intro v163 w59 ho60 hb hg_ hnew_; clear hg_ hnew_; (first | rw [← Ny162.out] at ho60 | (simp only [Int.reduceToNat] at ho60; rw [← Ny162.out] at ho60)); refine zs (Kd.R_below (by (with_reducible repeat (first | apply Kd.R_alloc | apply Kd.R_drewN | apply Kd.R_drew)); exact HO_6.out) hb) (zs (Kd.R_elder' (by (with_reducible repeat (first | apply Kd.R_alloc | apply Kd.R_drewN | apply Kd.R_drew)); exact HO_153000.out) (Kd.R_base ho60) hb) (zs (Kd.R_elder' (by (with_reducible repeat (first | apply Kd.R_alloc | apply Kd.R_drewN | apply Kd.R_drew)); exact HO_153001.out) (Kd.R_base ho60) hb) (zs (Kd.R_lower (Kd.R_new' (Kd.R_new' ho60 (Kd.R_lt (by (with_reducible repeat (first | apply Kd.R_alloc | apply Kd.R_drewN | apply Kd.R_drew)); exact HO_153000.out))) (Kd.R_lt (by (with_reducible repeat (first | apply Kd.R_alloc | apply Kd.R_drewN | apply Kd.R_drew)); exact HO_153001.out))) (below_size (zHB))) (zs (blk_below (g := gb152) zBK hb) (zs (below_step (zHB) hb) ?_))))); clear HO_6 HO_153000 HO_153001 BK152 HB; intro HB BK152 HO164 HO_153001 HO_153000 HO_6; clear hb ho60)); try go_wp2_with (first | ((with_reducible refine gate_dst (N := 91) rfl ?_); (try (refine gate_guard (by rfl) ?_; dsimp only)); refine Kd.R_make (Kd.int .i64) _ 3 rfl (N := 91) rfl 31 _ _ rfl (l0.length : Int) rfl rfl Try.underlying31 (.int .i64 0) 8 info3 rfl (by decide) (by omega) 0 (ok := fun _ => True) (okp := fun _ => True) rfl (fun _ hk => hk) trivial (zOD) (Nat.le_trans (Nat.mul_le_mul_right _ (zOD : (l0.length : Int).toNat ≤ 35184372088832)) (by omega)) (Below.refl _ _) (Nat.le_refl _) ?_; intro v163 w59 ho60 hb hg_ hnew_; clear hg_ hnew_; (first | rw [← Ny162.out] at ho60 | (simp only [Int.reduceToNat] at ho60; rw [← Ny162.out] at ho60)); refine zs (Kd.R_below (by (with_reducible repeat (first | apply Kd.R_alloc | apply Kd.R_drewN | apply Kd.R_drew)); exact HO_6.out) hb) (zs (Kd.R_elder' (by (with_reducible repeat (first | apply Kd.R_alloc | apply Kd.R_drewN | apply Kd.R_drew)); exact HO_153000.out) (Kd.R_base ho60) hb) (zs (Kd.R_elder' (by (with_reducible repeat (first | apply Kd.R_alloc | apply Kd.R_drewN | apply Kd.R_drew)); exact HO_153001.out) (Kd.R_base ho60) hb) (zs (Kd.R_lower (Kd.R_new' (Kd.R_new' ho60 (Kd.R_lt (by (with_reducible repeat (first | apply Kd.R_alloc | apply Kd.R_drewN | apply Kd.R_drew)); exact HO_153000.out))) (Kd.R_lt (by (with_reducible repeat (first | apply Kd.R_alloc | apply Kd.R_drewN | apply Kd.R_drew)); exact HO_153001.out))) (below_size (zHB))) (zs (blk_below (g := gb152) zBK hb) (zs (below_step (zHB) hb) ?_))))); clear HO_6 HO_153000 HO_153001 BK152 HB; intro HB BK152 HO164 HO_153001 HO_153000 HO_6; clear hb ho60)))
                go_loopg [11] k2 (fun kq v11 w' => ∃ (x9_3 : List Int) (x11_3 : Int), v11 = .int .i64 x11_3 ∧ Aside0 (pleatlaw16_SuffixOrder.l1 kq l0 x9_3 (wrap64 (1 + (wrap64 (Int.tmod (IntKind.u64.wrap (a1)) 1000)))) x11_3 t145 t148 t151 = some r) ∧ Aside0 (kq ≤ k2) ∧ Aside0 (Kd.R (Kd.int .i64) 3 w' w.heap.size (fun k_ => some k_ ≠ ((.slice Ao13 t145.length co13) : Value).ownBlock ∧ some k_ ≠ ((.slice Ao15 t148.length co15) : Value).ownBlock) v163 x9_3) ∧ Aside0 (Kd.R (Kd.int .i64) 3 w' w.heap.size (fun k_ => some k_ ≠ (v163 : Value).ownBlock ∧ some k_ ≠ ((.slice Ao15 t148.length co15) : Value).ownBlock) (.slice Ao13 t145.length co13) t145) ∧ Aside0 (Kd.R (Kd.int .i64) 3 w' w.heap.size (fun k_ => some k_ ≠ (v163 : Value).ownBlock ∧ some k_ ≠ ((.slice Ao13 t145.length co13) : Value).ownBlock) (.slice Ao15 t148.length co15) t148) ∧ Aside0 (w'.heap[gb152]? = some (.cells #[(.slice Ao13 t145.length co13), (.slice Ao15 t148.length co15), .int .i64 t151] 42 (0, 0))) ∧ Aside0 (Below w.heap.size w w'))
                case atStart => exact ⟨(y162), (0), zF', H', ⟨Nat.le_refl _⟩, ⟨by (with_reducible repeat (first | apply Kd.R_alloc | apply Kd.R_drewN | apply Kd.R_drew)); exact Kd.R_mono HO164.out (fun _ hk => ⟨hk.1.2, hk.2⟩)⟩, ⟨by (with_reducible repeat (first | apply Kd.R_alloc | apply Kd.R_drewN | apply Kd.R_drew)); exact Kd.R_mono HO_153000.out (fun _ hk => ⟨hk.2, hk.1⟩)⟩, ⟨by (with_reducible repeat (first | apply Kd.R_alloc | apply Kd.R_drewN | apply Kd.R_drew)); exact Kd.R_mono HO_153001.out (fun _ hk => ⟨hk.2, hk.1⟩)⟩, ⟨zBK⟩, ⟨zHB⟩⟩
                case round =>
                  clear H'
                  try clear c20
                  try clear c20b0
                  try clear c20b1
                  try clear c21
                  try clear c21b0
                  try clear c21b1
                  try clear c24b0
                  try clear c3b0
                  try clear c3b1
                  try clear c57
                  try clear c57b0
                  try clear c57b1
                  try clear c58
                  try clear c58b0
                  try clear c58b1
                  try clear hcz14
                  try clear hfz14
                  obtain ⟨x9_3, x11_3, rfl, HA, HK3, HO_9, HO_153000, HO_153001, BK152, HB⟩ := hrel
                  cases gk with
                  | zero => exact absurd HA.out (by simp [pleatlaw16_SuffixOrder.l1])
                  | succ k3 =>
                    have H := HA.out
                    clear HA
                    simp only [pleatlaw16_SuffixOrder.l1] at H
                    by_cases c61 : x11_3 < (l0.length : Int)
                    · rw [if_pos c61] at H
                      have c61b0 := decide_eq_true c61
                      clear c61
                      have H' := Aside0.mk H
                      clear H
                      go_wp2
                      repeat (go_quiet (fail); try go_wp2)
                      go_loopg [12] k3 (fun kq v12 w' => ∃ (x9_4 : List Int) (x12_4 : Int), v12 = .int .i64 x12_4 ∧ Aside0 (pleatlaw16_SuffixOrder.l2 kq l0 x9_4 (wrap64 (1 + (wrap64 (Int.tmod (IntKind.u64.wrap (a1)) 1000)))) x11_3 x12_4 t145 t148 t151 = some r) ∧ Aside0 (kq ≤ k3) ∧ Aside0 (Kd.R (Kd.int .i64) 3 w' w.heap.size (fun k_ => some k_ ≠ ((.slice Ao13 t145.length co13) : Value).ownBlock ∧ some k_ ≠ ((.slice Ao15 t148.length co15) : Value).ownBlock) v163 x9_4) ∧ Aside0 (Kd.R (Kd.int .i64) 3 w' w.heap.size (fun k_ => some k_ ≠ (v163 : Value).ownBlock ∧ some k_ ≠ ((.slice Ao15 t148.length co15) : Value).ownBlock) (.slice Ao13 t145.length co13) t145) ∧ Aside0 (Kd.R (Kd.int .i64) 3 w' w.heap.size (fun k_ => some k_ ≠ (v163 : Value).ownBlock ∧ some k_ ≠ ((.slice Ao13 t145.length co13) : Value).ownBlock) (.slice Ao15 t148.length co15) t148) ∧ Aside0 (w'.heap[gb152]? = some (.cells #[(.slice Ao13 t145.length co13), (.slice Ao15 t148.length co15), .int .i64 t151] 42 (0, 0))) ∧ Aside0 (Below w.heap.size w w'))
                      case atStart => exact ⟨(x9_3), (0), zF', H', ⟨Nat.le_refl _⟩, ⟨by (with_reducible repeat (first | apply Kd.R_alloc | apply Kd.R_drewN | apply Kd.R_drew)); exact HO_9.out⟩, ⟨by (with_reducible repeat (first | apply Kd.R_alloc | apply Kd.R_drewN | apply Kd.R_drew)); exact HO_153000.out⟩, ⟨by (with_reducible repeat (first | apply Kd.R_alloc | apply Kd.R_drewN | apply Kd.R_drew)); exact HO_153001.out⟩, ⟨zBK⟩, ⟨zHB⟩⟩
                      case round =>
                        clear H'
                        try clear c20
                        try clear c20b0
                        try clear c20b1
                        try clear c21
                        try clear c21b0
                        try clear c21b1
                        try clear c24b0
                        try clear c3b0
                        try clear c3b1
                        try clear c57
                        try clear c57b0
                        try clear c57b1
                        try clear c58
                        try clear c58b0
                        try clear c58b1
                        try clear c61b0
                        try clear hcz14
                        try clear hfz14
                        obtain ⟨x9_4, x12_4, rfl, HA, HK4, HO_9, HO_153000, HO_153001, BK152, HB⟩ := hrel
                        cases gk with
                        | zero => exact absurd HA.out (by simp [pleatlaw16_SuffixOrder.l2])
                        | succ k4 =>
                          have H := HA.out
                          clear HA
                          simp only [pleatlaw16_SuffixOrder.l2] at H
                          have HC62 := Aside0.mk H
                          clear H
                          go_upto_region 22 with (fail)
                          repeat (go_quiet (fail); go_upto_region 22 with (fail))
                          go_cut [111] (fun v111 wc => ∃ (kq : Nat) (x111_61 : Bool), v111 = .bool x111_61 ∧ Aside0 (pleatlaw16_SuffixOrder.j5 kq l0 x9_4 (wrap64 (1 + (wrap64 (Int.tmod (IntKind.u64.wrap (a1)) 1000)))) x11_3 x12_4 x111_61 t145 t148 t151 = some r) ∧ Aside0 (kq ≤ k4) ∧ Aside0 (Kd.R (Kd.int .i64) 3 wc w.heap.size (fun k_ => some k_ ≠ ((.slice Ao13 t145.length co13) : Value).ownBlock ∧ some k_ ≠ ((.slice Ao15 t148.length co15) : Value).ownBlock) v163 x9_4) ∧ Aside0 (Kd.R (Kd.int .i64) 3 wc w.heap.size (fun k_ => some k_ ≠ (v163 : Value).ownBlock ∧ some k_ ≠ ((.slice Ao15 t148.length co15) : Value).ownBlock) (.slice Ao13 t145.length co13) t145) ∧ Aside0 (Kd.R (Kd.int .i64) 3 wc w.heap.size (fun k_ => some k_ ≠ (v163 : Value).ownBlock ∧ some k_ ≠ ((.slice Ao13 t145.length co13) : Value).ownBlock) (.slice Ao15 t148.length co15) t148) ∧ Aside0 (wc.heap[gb152]? = some (.cells #[(.slice Ao13 t145.length co13), (.slice Ao15 t148.length co15), .int .i64 t151] 42 (0, 0))) ∧ Aside0 (Below w.heap.size w wc))
                          case first =>
                            have H := HC62.out
                            clear HC62
                            by_cases c63 : x12_4 < (l0.length : Int)
                            · rw [if_pos c63] at H
                              have c63b0 := decide_eq_true c63
                              clear c63
                              (first | rw [c63b0] | (simp only [i64_w, i32_w]; rw [c63b0]) | skip)
                              have H' := Aside0.mk H
                              clear H
                              go_wp2
                              repeat (go_quiet (fail); try go_wp2)
                              go_meet
                              case rel => exact ⟨_, (decide ((l0.length : Int) ≤ 200)), zF', H', ⟨by have := HJ7.out; have := HK2.out; have := HK3.out; have := HK4.out; first | omega | exact Nat.le_refl _⟩, ⟨by (with_reducible repeat (first | apply Kd.R_alloc | apply Kd.R_drewN | apply Kd.R_drew)); exact HO_9.out⟩, ⟨by (with_reducible repeat (first | apply Kd.R_alloc | apply Kd.R_drewN | apply Kd.R_drew)); exact HO_153000.out⟩, ⟨by (with_reducible repeat (first | apply Kd.R_alloc | apply Kd.R_drewN | apply Kd.R_drew)); exact HO_153001.out⟩, ⟨zBK⟩, ⟨zHB⟩⟩
                            · rw [if_neg c63] at H
                              have c63b0 := decide_eq_false c63
                              clear c63
                              (first | rw [c63b0] | (simp only [i64_w, i32_w]; rw [c63b0]) | skip)
                              have H' := Aside0.mk H
                              clear H
                              go_wp2
                              repeat (go_quiet (fail); try go_wp2)
                              go_meet
                              case rel => exact ⟨_, (false), zF', H', ⟨by have := HJ7.out; have := HK2.out; have := HK3.out; have := HK4.out; first | omega | exact Nat.le_refl _⟩, ⟨by (with_reducible repeat (first | apply Kd.R_alloc | apply Kd.R_drewN | apply Kd.R_drew)); exact HO_9.out⟩, ⟨by (with_reducible repeat (first | apply Kd.R_alloc | apply Kd.R_drewN | apply Kd.R_drew)); exact HO_153000.out⟩, ⟨by (with_reducible repeat (first | apply Kd.R_alloc | apply Kd.R_drewN | apply Kd.R_drew)); exact HO_153001.out⟩, ⟨zBK⟩, ⟨zHB⟩⟩
                          case rest =>
                            clear HC62
                            try clear c20
                            try clear c20b0
                            try clear c20b1
                            try clear c21
                            try clear c21b0
                            try clear c21b1
                            try clear c24b0
                            try clear c3b0
                            try clear c3b1
                            try clear c57
                            try clear c57b0
                            try clear c57b1
                            try clear c58
                            try clear c58b0
                            try clear c58b1
                            try clear c61b0
                            try clear hcz14
                            try clear hfz14
                            obtain ⟨kq, x111_61, rfl, HA, HJ61, HO_9, HO_153000, HO_153001, BK152, HB⟩ := hcut
                            cases kq with
                            | zero => exact absurd HA.out (by simp [pleatlaw16_SuffixOrder.j5])
                            | succ kj61 =>
                              have H := HA.out
                              clear HA
                              simp only [pleatlaw16_SuffixOrder.j5] at H
                              by_cases c64 : x111_61 = true
                              · subst c64
                                rw [if_pos rfl] at H
                                obtain ⟨c65, H⟩ := zG H
                                have c65b0 := decide_eq_true c65
                                clear c65
                                obtain ⟨c66, H⟩ := zG H
                                have c66b0 := decide_eq_true c66
                                clear c66
                                obtain ⟨c67, H⟩ := zG H
                                have c67b0 := decide_eq_true c67
                                clear c67
                                obtain ⟨c68, H⟩ := zG H
                                have c68b0 := decide_eq_true c68
                                clear c68
                                by_cases c69 : (rd l0 x12_4) < (rd l0 x11_3)
                                · rw [if_pos c69] at H
                                  have c69b0 := decide_eq_true c69
                                  clear c69
                                  obtain ⟨c70, H⟩ := zG H
                                  have c70b0 := decide_eq_true c70
                                  clear c70
                                  obtain ⟨y168, hy168⟩ : ∃ y_ : List Int, y_ = (x9_4.set (x11_3 : Int).toNat (wrap64 ((rd x9_4 x11_3) + (wrap64 (1 + (wrap64 (Int.tmod (IntKind.u64.wrap (a1)) 1000))))))) := ⟨_, rfl⟩
                                  (try rw [← hy168] at H)
                                  have Ny168 := Aside0.mk hy168
                                  clear hy168
                                  have H' := Aside0.mk H
                                  clear H
                                  have p165 : 0 ≤ (x12_4 : Int) := zOD
                                  have q165 : x12_4 < (l0.length : Int) := zOD
                                  obtain ⟨ad165, e165, hx165_0⟩ := Kd.at_int HR0.out x12_4 p165 q165
                                  cases e165
                                  replace hx165_0 := (HB.out.cell (World.block_lt_of_cell? w _ hx165_0)).trans hx165_0
                                  replace p165 := eq_true p165
                                  replace q165 := eq_true q165
                                  have p166 : 0 ≤ (x11_3 : Int) := zOD
                                  have q166 : x11_3 < (l0.length : Int) := zOD
                                  obtain ⟨ad166, e166, hx166_0⟩ := Kd.at_int HR0.out x11_3 p166 q166
                                  obtain rfl : ad165 = ad166 := (by injection e166)
                                  replace hx166_0 := (HB.out.cell (World.block_lt_of_cell? w _ hx166_0)).trans hx166_0
                                  replace p166 := eq_true p166
                                  replace q166 := eq_true q166
                                  obtain ⟨Ao72, co72, eo72⟩ := Kd.R_slice HO_9.out
                                  subst eo72
                                  have p167 : 0 ≤ (x11_3 : Int) := zOD
                                  have q167 : x11_3 < (x9_4.length : Int) := zOD
                                  obtain ⟨ad167, e167, hx167_0⟩ := Kd.at_int (Kd.R_reads' HO_9.out).2.2 x11_3 p167 q167
                                  cases e167
                                  replace p167 := eq_true p167
                                  replace q167 := eq_true q167
                                  have p71 : 0 ≤ (x11_3 : Int) := zOD
                                  have q71 : (x11_3 : Int) < ((x9_4.length : Int) : Int) := zOD
                                  obtain ⟨go71, co71, eo71, gb71, gl71, cl71, HG71⟩ := Kd.R_form HO_9.out (by omega)
                                  (first | cases eo71 | (injection eo71 with ea_ en_ ec_; (first | subst ea_ | (injection ea_ with ea_; subst ea_)); subst ec_; clear en_))
                                  have GB71 := Aside0.mk gb71
                                  have GG71 := Aside0.mk HG71
                                  clear gb71 gl71 HG71
                                  (first | simp only [add_plain] at hx167_0 | skip)
                                  obtain ⟨hx71_0, hf71_0⟩ := Kd.R_celln 0 HO_9.out (x11_3 : Int) p71 q71
                                  replace p71 := eq_true p71
                                  replace q71 := eq_true q71
                                  have HP73 := Kd.R_putg HO_9.out (x11_3 : Int) (wrap64 ((rd x9_4 x11_3) + (wrap64 (1 + (wrap64 (Int.tmod (IntKind.u64.wrap (a1)) 1000))))))
                                  go_wp2_with (first | ((with_reducible refine gate_store (t := 3) (p := 131) rfl ?_); (try (rw [drewN_self wc]; generalize hq_ : World.drewN wc _ = wc; have n0_ := Aside0.mk (Kd.R_at hq_ HO_9.out); have n1_ := Aside0.mk (Kd.R_at hq_ HO_153000.out); have n2_ := Aside0.mk (Kd.R_at hq_ HO_153001.out); have n3_ := Aside0.mk (blk_at hq_ BK152.out); have n4_ := Aside0.mk (below_at hq_ HB.out); clear hq_ HO_9 HO_153000 HO_153001 BK152 HB; have HO_9 := n0_; have HO_153000 := n1_; have HO_153001 := n2_; have BK152 := n3_; have HB := n4_; clear n0_ n1_ n2_ n3_ n4_; (try (obtain ⟨hx71_0, hf71_0⟩ := Kd.R_celln 0 HO_9.out (x11_3 : Int) (of_eq_true p71) (of_eq_true q71))); (try (have HP73 := Kd.R_putg HO_9.out (x11_3 : Int) (wrap64 ((rd x9_4 x11_3) + (wrap64 (1 + (wrap64 (Int.tmod (IntKind.u64.wrap (a1)) 1000)))))))))); refine store_event (t := 3) (p := 131) (v := ?vo_w74) (w1 := (wc.setCell ⟨go71, (x11_3 : Int).toNat, none⟩ (.int .i64 (wrap64 ((rd x9_4 x11_3) + (wrap64 (1 + (wrap64 (Int.tmod (IntKind.u64.wrap (a1)) 1000))))))))) ?hg ?ho ?hn ?hr ?_; (case ho => rfl); (case hg => rfl); (case hn => rfl); (case hr => first | (go_simp; done) | (go_simp; rfl)); intro w74 hw; have hg : wc.grownBy w74 (some go71) := (by rw [hw]; exact HP73.2); have hp_ : Kd.R (Kd.int .i64) 3 w74 w.heap.size (fun k_ => some k_ ≠ (.slice Ao13 t145.length co13 : Value).ownBlock ∧ some k_ ≠ (.slice Ao15 t148.length co15 : Value).ownBlock) (.slice (some ⟨go71, 0, none⟩) x9_4.length co72) y168 := (by rw [hw, Ny168.out]; exact HP73.1); clear HP73; refine zs hp_ (zs (Kd.R_after (v := (.slice (some ⟨go71, 0, none⟩) x9_4.length co72)) (v1 := (.slice (some ⟨go71, 0, none⟩) x9_4.length co72)) (ok := (fun k_ => some k_ ≠ (.slice Ao15 t148.length co15 : Value).ownBlock)) (by (with_reducible repeat (first | apply Kd.R_alloc | apply Kd.R_drewN | apply Kd.R_drew)); exact Kd.R_mono HO_153000.out (fun _ hk => ⟨hk.2, hk.1⟩)) hg (.inl rfl)) (zs (Kd.R_after (v := (.slice (some ⟨go71, 0, none⟩) x9_4.length co72)) (v1 := (.slice (some ⟨go71, 0, none⟩) x9_4.length co72)) (ok := (fun k_ => some k_ ≠ (.slice Ao13 t145.length co13 : Value).ownBlock)) (by (with_reducible repeat (first | apply Kd.R_alloc | apply Kd.R_drewN | apply Kd.R_drew)); exact Kd.R_mono HO_153001.out (fun _ hk => ⟨hk.2, hk.1⟩)) hg (.inl rfl)) (zs (blk_grown (g := gb152) zBK hg (Kd.R_ne HO_9.out BK152.out (by decide))) (zs ((by rw [hw]; exact below_set (HB.out) GB71.out : Below w.heap.size w w74)) ?_)))); clear HO_9 HO_153000 HO_153001 BK152 HB; intro HB BK152 HO_153001 HO_153000 HO_9; clear hg hw hp_))
                                  repeat (go_quiet (first | ((with_reducible refine gate_store (t := 3) (p := 131) rfl ?_); (try (rw [drewN_self wc]; generalize hq_ : World.drewN wc _ = wc; have n0_ := Aside0.mk (Kd.R_at hq_ HO_9.out); have n1_ := Aside0.mk (Kd.R_at hq_ HO_153000.out); have n2_ := Aside0.mk (Kd.R_at hq_ HO_153001.out); have n3_ := Aside0.mk (blk_at hq_ BK152.out); have n4_ := Aside0.mk (below_at hq_ HB.out); clear hq_ HO_9 HO_153000 HO_153001 BK152 HB; have HO_9 := n0_; have HO_153000 := n1_; have HO_153001 := n2_; have BK152 := n3_; have HB := n4_; clear n0_ n1_ n2_ n3_ n4_; (try (obtain ⟨hx71_0, hf71_0⟩ := Kd.R_celln 0 HO_9.out (x11_3 : Int) (of_eq_true p71) (of_eq_true q71))); (try (have HP73 := Kd.R_putg HO_9.out (x11_3 : Int) (wrap64 ((rd x9_4 x11_3) + (wrap64 (1 + (wrap64 (Int.tmod (IntKind.u64.wrap (a1)) 1000)))))))))); refine store_event (t := 3) (p := 131) (v := ?vo_w74) (w1 := (wc.setCell ⟨go71, (x11_3 : Int).toNat, none⟩ (.int .i64 (wrap64 ((rd x9_4 x11_3) + (wrap64 (1 + (wrap64 (Int.tmod (IntKind.u64.wrap (a1)) 1000))))))))) ?hg ?ho ?hn ?hr ?_; (case ho => rfl); (case hg => rfl); (case hn => rfl); (case hr => first | (go_simp; done) | (go_simp; rfl)); intro w74 hw; have hg : wc.grownBy w74 (some go71) := (by rw [hw]; exact HP73.2); have hp_ : Kd.R (Kd.int .i64) 3 w74 w.heap.size (fun k_ => some k_ ≠ (.slice Ao13 t145.length co13 : Value).ownBlock ∧ some k_ ≠ (.slice Ao15 t148.length co15 : Value).ownBlock) (.slice (some ⟨go71, 0, none⟩) x9_4.length co72) y168 := (by rw [hw, Ny168.out]; exact HP73.1); clear HP73; refine zs hp_ (zs (Kd.R_after (v := (.slice (some ⟨go71, 0, none⟩) x9_4.length co72)) (v1 := (.slice (some ⟨go71, 0, none⟩) x9_4.length co72)) (ok := (fun k_ => some k_ ≠ (.slice Ao15 t148.length co15 : Value).ownBlock)) (by (with_reducible repeat (first | apply Kd.R_alloc | apply Kd.R_drewN | apply Kd.R_drew)); exact Kd.R_mono HO_153000.out (fun _ hk => ⟨hk.2, hk.1⟩)) hg (.inl rfl)) (zs (Kd.R_after (v := (.slice (some ⟨go71, 0, none⟩) x9_4.length co72)) (v1 := (.slice (some ⟨go71, 0, none⟩) x9_4.length co72)) (ok := (fun k_ => some k_ ≠ (.slice Ao13 t145.length co13 : Value).ownBlock)) (by (with_reducible repeat (first | apply Kd.R_alloc | apply Kd.R_drewN | apply Kd.R_drew)); exact Kd.R_mono HO_153001.out (fun _ hk => ⟨hk.2, hk.1⟩)) hg (.inl rfl)) (zs (blk_grown (g := gb152) zBK hg (Kd.R_ne HO_9.out BK152.out (by decide))) (zs ((by rw [hw]; exact below_set (HB.out) GB71.out : Below w.heap.size w w74)) ?_)))); clear HO_9 HO_153000 HO_153001 BK152 HB; intro HB BK152 HO_153001 HO_153000 HO_9; clear hg hw hp_)); try go_wp2_with (first | ((with_reducible refine gate_store (t := 3) (p := 131) rfl ?_); (try (rw [drewN_self wc]; generalize hq_ : World.drewN wc _ = wc; have n0_ := Aside0.mk (Kd.R_at hq_ HO_9.out); have n1_ := Aside0.mk (Kd.R_at hq_ HO_153000.out); have n2_ := Aside0.mk (Kd.R_at hq_ HO_153001.out); have n3_ := Aside0.mk (blk_at hq_ BK152.out); have n4_ := Aside0.mk (below_at hq_ HB.out); clear hq_ HO_9 HO_153000 HO_153001 BK152 HB; have HO_9 := n0_; have HO_153000 := n1_; have HO_153001 := n2_; have BK152 := n3_; have HB := n4_; clear n0_ n1_ n2_ n3_ n4_; (try (obtain ⟨hx71_0, hf71_0⟩ := Kd.R_celln 0 HO_9.out (x11_3 : Int) (of_eq_true p71) (of_eq_true q71))); (try (have HP73 := Kd.R_putg HO_9.out (x11_3 : Int) (wrap64 ((rd x9_4 x11_3) + (wrap64 (1 + (wrap64 (Int.tmod (IntKind.u64.wrap (a1)) 1000)))))))))); refine store_event (t := 3) (p := 131) (v := ?vo_w74) (w1 := (wc.setCell ⟨go71, (x11_3 : Int).toNat, none⟩ (.int .i64 (wrap64 ((rd x9_4 x11_3) + (wrap64 (1 + (wrap64 (Int.tmod (IntKind.u64.wrap (a1)) 1000))))))))) ?hg ?ho ?hn ?hr ?_; (case ho => rfl); (case hg => rfl); (case hn => rfl); (case hr => first | (go_simp; done) | (go_simp; rfl)); intro w74 hw; have hg : wc.grownBy w74 (some go71) := (by rw [hw]; exact HP73.2); have hp_ : Kd.R (Kd.int .i64) 3 w74 w.heap.size (fun k_ => some k_ ≠ (.slice Ao13 t145.length co13 : Value).ownBlock ∧ some k_ ≠ (.slice Ao15 t148.length co15 : Value).ownBlock) (.slice (some ⟨go71, 0, none⟩) x9_4.length co72) y168 := (by rw [hw, Ny168.out]; exact HP73.1); clear HP73; refine zs hp_ (zs (Kd.R_after (v := (.slice (some ⟨go71, 0, none⟩) x9_4.length co72)) (v1 := (.slice (some ⟨go71, 0, none⟩) x9_4.length co72)) (ok := (fun k_ => some k_ ≠ (.slice Ao15 t148.length co15 : Value).ownBlock)) (by (with_reducible repeat (first | apply Kd.R_alloc | apply Kd.R_drewN | apply Kd.R_drew)); exact Kd.R_mono HO_153000.out (fun _ hk => ⟨hk.2, hk.1⟩)) hg (.inl rfl)) (zs (Kd.R_after (v := (.slice (some ⟨go71, 0, none⟩) x9_4.length co72)) (v1 := (.slice (some ⟨go71, 0, none⟩) x9_4.length co72)) (ok := (fun k_ => some k_ ≠ (.slice Ao13 t145.length co13 : Value).ownBlock)) (by (with_reducible repeat (first | apply Kd.R_alloc | apply Kd.R_drewN | apply Kd.R_drew)); exact Kd.R_mono HO_153001.out (fun _ hk => ⟨hk.2, hk.1⟩)) hg (.inl rfl)) (zs (blk_grown (g := gb152) zBK hg (Kd.R_ne HO_9.out BK152.out (by decide))) (zs ((by rw [hw]; exact below_set (HB.out) GB71.out : Below w.heap.size w w74)) ?_)))); clear HO_9 HO_153000 HO_153001 BK152 HB; intro HB BK152 HO_153001 HO_153000 HO_9; clear hg hw hp_)))
                                  go_roundg kj61
                                  case measure => have := HJ7.out; have := HK2.out; have := HK3.out; have := HK4.out; have := HJ61.out; omega
                                  case rel => exact ⟨(y168), (wrap64 (x12_4 + 1)), zF', H', ⟨by have := HJ7.out; have := HK2.out; have := HK3.out; have := HK4.out; have := HJ61.out; omega⟩, ⟨by (with_reducible repeat (first | apply Kd.R_alloc | apply Kd.R_drewN | apply Kd.R_drew)); exact HO_9.out⟩, ⟨by (with_reducible repeat (first | apply Kd.R_alloc | apply Kd.R_drewN | apply Kd.R_drew)); exact Kd.R_mono HO_153000.out (fun _ hk => ⟨hk.2, hk.1⟩)⟩, ⟨by (with_reducible repeat (first | apply Kd.R_alloc | apply Kd.R_drewN | apply Kd.R_drew)); exact Kd.R_mono HO_153001.out (fun _ hk => ⟨hk.2, hk.1⟩)⟩, ⟨zBK⟩, ⟨zHB⟩⟩
                                · rw [if_neg c69] at H
                                  have c69b0 := decide_eq_false c69
                                  clear c69
                                  have H' := Aside0.mk H
                                  clear H
                                  have p165 : 0 ≤ (x12_4 : Int) := zOD
                                  have q165 : x12_4 < (l0.length : Int) := zOD
                                  obtain ⟨ad165, e165, hx165_0⟩ := Kd.at_int HR0.out x12_4 p165 q165
                                  cases e165
                                  replace hx165_0 := (HB.out.cell (World.block_lt_of_cell? w _ hx165_0)).trans hx165_0
                                  replace p165 := eq_true p165
                                  replace q165 := eq_true q165
                                  have p166 : 0 ≤ (x11_3 : Int) := zOD
                                  have q166 : x11_3 < (l0.length : Int) := zOD
                                  obtain ⟨ad166, e166, hx166_0⟩ := Kd.at_int HR0.out x11_3 p166 q166
                                  obtain rfl : ad165 = ad166 := (by injection e166)
                                  replace hx166_0 := (HB.out.cell (World.block_lt_of_cell? w _ hx166_0)).trans hx166_0
                                  replace p166 := eq_true p166
                                  replace q166 := eq_true q166
                                  go_wp2
                                  repeat (go_quiet (fail); try go_wp2)
                                  go_roundg kj61
                                  case measure => have := HJ7.out; have := HK2.out; have := HK3.out; have := HK4.out; have := HJ61.out; omega
                                  case rel => exact ⟨(x9_4), (wrap64 (x12_4 + 1)), zF', H', ⟨by have := HJ7.out; have := HK2.out; have := HK3.out; have := HK4.out; have := HJ61.out; omega⟩, ⟨by (with_reducible repeat (first | apply Kd.R_alloc | apply Kd.R_drewN | apply Kd.R_drew)); exact HO_9.out⟩, ⟨by (with_reducible repeat (first | apply Kd.R_alloc | apply Kd.R_drewN | apply Kd.R_drew)); exact HO_153000.out⟩, ⟨by (with_reducible repeat (first | apply Kd.R_alloc | apply Kd.R_drewN | apply Kd.R_drew)); exact HO_153001.out⟩, ⟨zBK⟩, ⟨zHB⟩⟩
                              · replace c64 := Bool.eq_false_iff.mpr c64
                                subst c64
                                rw [if_neg (show ¬ (false = true) by decide)] at H
                                have H' := Aside0.mk H
                                clear H
                                go_wp2
                                repeat (go_quiet (fail); try go_wp2)
                                go_roundg kj61
                                case measure => have := HJ7.out; have := HK2.out; have := HK3.out; have := HK4.out; have := HJ61.out; omega
                                case rel => exact ⟨(x9_4), (wrap64 (x11_3 + 1)), zF', H', ⟨by have := HJ7.out; have := HK2.out; have := HK3.out; have := HK4.out; have := HJ61.out; omega⟩, ⟨by (with_reducible repeat (first | apply Kd.R_alloc | apply Kd.R_drewN | apply Kd.R_drew)); exact HO_9.out⟩, ⟨by (with_reducible repeat (first | apply Kd.R_alloc | apply Kd.R_drewN | apply Kd.R_drew)); exact HO_153000.out⟩, ⟨by (with_reducible repeat (first | apply Kd.R_alloc | apply Kd.R_drewN | apply Kd.R_drew)); exact HO_153001.out⟩, ⟨zBK⟩, ⟨zHB⟩⟩
                    · rw [if_neg c61] at H
                      have c61b0 := decide_eq_false c61
                      clear c61
                      by_cases c75 : (l0.length : Int) > 200
                      · rw [if_pos c75] at H
                        have c75b0 : decide (200 < (l0.length : Int)) = true := decide_eq_true c75
                        have c75b1 : decide (200 < l0.length) = true := decide_eq_true (by omega)
                        clear c75
                        replace H := Option.bind_eq_some_iff.mp H
                        obtain ⟨t169, A760, H⟩ := H
                        (try dsimp only at H)
                        have A76 := Aside0.mk A760
                        clear A760
                        obtain rfl := Option.some.inj H
                        go_wp2_with (first | (go_at_call 23; (with_reducible refine (pleatlaw16_lives.calls k3  t169 _ A76.out).mono ?_); rintro e w77 ⟨rfl, hb⟩; refine zs (Kd.R_below (by (with_reducible repeat (first | apply Kd.R_alloc | apply Kd.R_drewN | apply Kd.R_drew)); exact HO_9.out) hb) (zs (Kd.R_below (by (with_reducible repeat (first | apply Kd.R_alloc | apply Kd.R_drewN | apply Kd.R_drew)); exact HO_153000.out) hb) (zs (Kd.R_below (by (with_reducible repeat (first | apply Kd.R_alloc | apply Kd.R_drewN | apply Kd.R_drew)); exact HO_153001.out) hb) (zs (blk_below (g := gb152) zBK hb) (zs (below_step (zHB) hb) ?_)))); clear HO_9 HO_153000 HO_153001 BK152 HB; intro HB BK152 HO_153001 HO_153000 HO_9; clear hb))
                        repeat (go_quiet (first | (go_at_call 23; (with_reducible refine (pleatlaw16_lives.calls k3  t169 _ A76.out).mono ?_); rintro e w77 ⟨rfl, hb⟩; refine zs (Kd.R_below (by (with_reducible repeat (first | apply Kd.R_alloc | apply Kd.R_drewN | apply Kd.R_drew)); exact HO_9.out) hb) (zs (Kd.R_below (by (with_reducible repeat (first | apply Kd.R_alloc | apply Kd.R_drewN | apply Kd.R_drew)); exact HO_153000.out) hb) (zs (Kd.R_below (by (with_reducible repeat (first | apply Kd.R_alloc | apply Kd.R_drewN | apply Kd.R_drew)); exact HO_153001.out) hb) (zs (blk_below (g := gb152) zBK hb) (zs (below_step (zHB) hb) ?_)))); clear HO_9 HO_153000 HO_153001 BK152 HB; intro HB BK152 HO_153001 HO_153000 HO_9; clear hb)); try go_wp2_with (first | (go_at_call 23; (with_reducible refine (pleatlaw16_lives.calls k3  t169 _ A76.out).mono ?_); rintro e w77 ⟨rfl, hb⟩; refine zs (Kd.R_below (by (with_reducible repeat (first | apply Kd.R_alloc | apply Kd.R_drewN | apply Kd.R_drew)); exact HO_9.out) hb) (zs (Kd.R_below (by (with_reducible repeat (first | apply Kd.R_alloc | apply Kd.R_drewN | apply Kd.R_drew)); exact HO_153000.out) hb) (zs (Kd.R_below (by (with_reducible repeat (first | apply Kd.R_alloc | apply Kd.R_drewN | apply Kd.R_drew)); exact HO_153001.out) hb) (zs (blk_below (g := gb152) zBK hb) (zs (below_step (zHB) hb) ?_)))); clear HO_9 HO_153000 HO_153001 BK152 HB; intro HB BK152 HO_153001 HO_153000 HO_9; clear hb)))
                        go_ret
                        exact ⟨zE, zHB⟩
                      · rw [if_neg c75] at H
                        have c75b0 : decide (200 < (l0.length : Int)) = false := decide_eq_false c75
                        have c75b1 : decide (200 < l0.length) = false := decide_eq_false (by omega)
                        clear c75
                        replace H := Option.bind_eq_some_iff.mp H
                        obtain ⟨⟨t170, t173, t176⟩, A780, H⟩ := H
                        (try dsimp only at H)
                        have A78 := Aside0.mk A780
                        clear A780
                        replace H := Option.bind_eq_some_iff.mp H
                        obtain ⟨t178, A790, H⟩ := H
                        (try dsimp only at H)
                        have A79 := Aside0.mk A790
                        clear A790
                        by_cases c80 : t178 = true
                        · subst c80
                          rw [if_pos rfl] at H
                          replace H := Option.bind_eq_some_iff.mp H
                          obtain ⟨t179, A810, H⟩ := H
                          (try dsimp only at H)
                          have A81 := Aside0.mk A810
                          clear A810
                          obtain rfl := Option.some.inj H
                          obtain ⟨Ao82, co82, eo82⟩ := Kd.R_slice HO_9.out
                          subst eo82
                          go_wp2_with (first | (go_at_call 19; (with_reducible refine (suffix_Of.calls _ _ x9_3 t170 t173 t176 _ ?side1 ?side2 A78.out).mono ?_); (case side1 => exact zS); (case side2 => exact zS); rintro e w83 ⟨v171, v174, rfl, ho0, ho1, hb⟩; refine zs (Kd.R_mono (Kd.R_told (Kd.R_told (Kd.R_old (by (with_reducible repeat (first | apply Kd.R_alloc | apply Kd.R_drewN | apply Kd.R_drew)); exact HO_9.out) hb) (Kd.R_base ho0)) (Kd.R_base ho1)) (fun _ h_ => h_.1)) (zs (Kd.R_mono (Kd.R_told (Kd.R_told (Kd.R_old (by (with_reducible repeat (first | apply Kd.R_alloc | apply Kd.R_drewN | apply Kd.R_drew)); exact HO_153000.out) hb) (Kd.R_base ho0)) (Kd.R_base ho1)) (fun _ h_ => h_.1)) (zs (Kd.R_mono (Kd.R_told (Kd.R_told (Kd.R_old (by (with_reducible repeat (first | apply Kd.R_alloc | apply Kd.R_drewN | apply Kd.R_drew)); exact HO_153001.out) hb) (Kd.R_base ho0)) (Kd.R_base ho1)) (fun _ h_ => h_.1)) (zs (Kd.R_lower (Kd.R_new' (Kd.R_new' (Kd.R_new' ho0 (Kd.R_lt (by (with_reducible repeat (first | apply Kd.R_alloc | apply Kd.R_drewN | apply Kd.R_drew)); exact HO_9.out))) (Kd.R_lt (by (with_reducible repeat (first | apply Kd.R_alloc | apply Kd.R_drewN | apply Kd.R_drew)); exact HO_153000.out))) (Kd.R_lt (by (with_reducible repeat (first | apply Kd.R_alloc | apply Kd.R_drewN | apply Kd.R_drew)); exact HO_153001.out))) (below_size (zHB))) (zs (Kd.R_lower (Kd.R_new' (Kd.R_new' (Kd.R_new' ho1 (Kd.R_lt (by (with_reducible repeat (first | apply Kd.R_alloc | apply Kd.R_drewN | apply Kd.R_drew)); exact HO_9.out))) (Kd.R_lt (by (with_reducible repeat (first | apply Kd.R_alloc | apply Kd.R_drewN | apply Kd.R_drew)); exact HO_153000.out))) (Kd.R_lt (by (with_reducible repeat (first | apply Kd.R_alloc | apply Kd.R_drewN | apply Kd.R_drew)); exact HO_153001.out))) (below_size (zHB))) (zs (blk_below (g := gb152) zBK hb) (zs (below_step (zHB) hb) ?_)))))); clear HO_9 HO_153000 HO_153001 BK152 HB; intro HB BK152 HO175 HO172 HO_153001 HO_153000 HO_9; clear hb ho0 ho1) | ((with_reducible refine gate_dst (N := 13) rfl ?_); (try (refine gate_guard (by rfl) ?_; dsimp only)); refine zBox (N := 13) (cs := #[.slice none 0 0, .slice none 0 0, .int .i64 0]) (t := 42) ?_; intro gb177 hg w84 hbox hb; refine zs (Kd.R_below (by (with_reducible repeat (first | apply Kd.R_alloc | apply Kd.R_drewN | apply Kd.R_drew)); exact HO_9.out) hb) (zs (Kd.R_below (by (with_reducible repeat (first | apply Kd.R_alloc | apply Kd.R_drewN | apply Kd.R_drew)); exact HO_153000.out) hb) (zs (Kd.R_below (by (with_reducible repeat (first | apply Kd.R_alloc | apply Kd.R_drewN | apply Kd.R_drew)); exact HO_153001.out) hb) (zs (Kd.R_below (by (with_reducible repeat (first | apply Kd.R_alloc | apply Kd.R_drewN | apply Kd.R_drew)); exact HO172.out) hb) (zs (Kd.R_below (by (with_reducible repeat (first | apply Kd.R_alloc | apply Kd.R_drewN | apply Kd.R_drew)); exact HO175.out) hb) (zs (blk_below (g := gb152) zBK hb) (zs (below_step (zHB) hb) (zs hbox (zs (zGe hg zHB) (zs (zGe hg zHB) (zs (zNl hg zBK : gb152 ≠ gb177) (zs ((zNg hg zBK : gb177 ≠ gb152)) ?_))))))))))); clear HO_9 HO_153000 HO_153001 HO172 HO175 BK152 HB; intro NB177_152 NB152_177 GE177 GW177 BK177 HB BK152 HO175 HO172 HO_153001 HO_153000 HO_9; clear hb hbox hg; obtain ⟨Ao85, co85, eo85⟩ := Kd.R_slice HO172.out; subst eo85; have hnb86 := NB177_152.out; have hnc86 := NB152_177.out; have hcz87 := blk_cell BK177.out; have hfz87 := blk_frozen BK177.out; obtain ⟨Ao88, co88, eo88⟩ := Kd.R_slice HO175.out; subst eo88; have hcz89 := blk_cell BK152.out; have hfz89 := blk_frozen BK152.out) | (go_at_call 17; (with_reducible refine (pleatref00_EqInts.calls k3 _ _ t170 _ _ t145 true _ ?side1 ?side2 ?side3 ?side4 A79.out).mono ?_); (case side1 => refine (Kd.R_reads' (e := 3) (base := w.heap.size) (ok := fun k_ => (((some k_ ≠ (.slice Ao88 t173.length co88 : Value).ownBlock ∧ some k_ ≠ (.slice Ao82 x9_3.length co82 : Value).ownBlock) ∧ some k_ ≠ (.slice Ao13 t145.length co13 : Value).ownBlock) ∧ some k_ ≠ (.slice Ao15 t148.length co15 : Value).ownBlock)) (n := t170.length) (c := co85) ?_).2.2; exact (by (with_reducible repeat (first | apply Kd.R_alloc | apply Kd.R_drewN | apply Kd.R_drew)); exact (Kd.R_mono (Kd.R_far (p := ⟨gb177, 2, none⟩) (Kd.R_far (p := ⟨gb177, 1, none⟩) (Kd.R_far (p := ⟨gb177, 0, none⟩) (Kd.R_types HO172.out BK177.out (by decide)) (fun _ hk => hk.2) (.slice Ao85 t170.length co85)) (fun _ hk => hk.2) (.slice Ao88 t173.length co88)) (fun _ hk => hk.2) (.int .i64 t176)) (fun _ h_ => h_.1)))); (case side2 => exact zS); (case side3 => refine (Kd.R_reads' (e := 3) (base := w.heap.size) (ok := fun k_ => (((some k_ ≠ (.slice Ao82 x9_3.length co82 : Value).ownBlock ∧ some k_ ≠ (.slice Ao15 t148.length co15 : Value).ownBlock) ∧ some k_ ≠ (.slice Ao85 t170.length co85 : Value).ownBlock) ∧ some k_ ≠ (.slice Ao88 t173.length co88 : Value).ownBlock)) (n := t145.length) (c := co13) ?_).2.2; exact (by (with_reducible repeat (first | apply Kd.R_alloc | apply Kd.R_drewN | apply Kd.R_drew)); exact (Kd.R_mono (Kd.R_far (p := ⟨gb177, 2, none⟩) (Kd.R_far (p := ⟨gb177, 1, none⟩) (Kd.R_far (p := ⟨gb177, 0, none⟩) (Kd.R_types HO_153000.out BK177.out (by decide)) (fun _ hk => hk.2) (.slice Ao85 t170.length co85)) (fun _ hk => hk.2) (.slice Ao88 t173.length co88)) (fun _ hk => hk.2) (.int .i64 t176)) (fun _ h_ => h_.1)))); (case side4 => exact zS); rintro e w' ⟨rfl, ⟨nd, rfl⟩⟩; (try first | exact ⟨rfl, _, World.drewN_drewN _ _ _⟩ | exact ⟨rfl, _, Eq.trans (World.drewN_drewN _ _ _) (congrArg (World.drewN _) (Nat.add_assoc _ _ _))⟩)) | (go_at_call 23; (with_reducible refine (pleatlaw16_lives.calls k3  t179 _ A81.out).mono ?_); rintro e w90 ⟨rfl, hb⟩; refine zs (Kd.R_below (by (with_reducible repeat (first | apply Kd.R_alloc | apply Kd.R_drewN | apply Kd.R_drew)); exact (Kd.R_mono (Kd.R_far (p := ⟨gb177, 2, none⟩) (Kd.R_far (p := ⟨gb177, 1, none⟩) (Kd.R_far (p := ⟨gb177, 0, none⟩) (Kd.R_types HO_9.out BK177.out (by decide)) (fun _ hk => hk.2) (.slice Ao85 t170.length co85)) (fun _ hk => hk.2) (.slice Ao88 t173.length co88)) (fun _ hk => hk.2) (.int .i64 t176)) (fun _ h_ => h_.1))) hb) (zs (Kd.R_below (by (with_reducible repeat (first | apply Kd.R_alloc | apply Kd.R_drewN | apply Kd.R_drew)); exact (Kd.R_mono (Kd.R_far (p := ⟨gb177, 2, none⟩) (Kd.R_far (p := ⟨gb177, 1, none⟩) (Kd.R_far (p := ⟨gb177, 0, none⟩) (Kd.R_types HO_153000.out BK177.out (by decide)) (fun _ hk => hk.2) (.slice Ao85 t170.length co85)) (fun _ hk => hk.2) (.slice Ao88 t173.length co88)) (fun _ hk => hk.2) (.int .i64 t176)) (fun _ h_ => h_.1))) hb) (zs (Kd.R_below (by (with_reducible repeat (first | apply Kd.R_alloc | apply Kd.R_drewN | apply Kd.R_drew)); exact (Kd.R_mono (Kd.R_far (p := ⟨gb177, 2, none⟩) (Kd.R_far (p := ⟨gb177, 1, none⟩) (Kd.R_far (p := ⟨gb177, 0, none⟩) (Kd.R_types HO_153001.out BK177.out (by decide)) (fun _ hk => hk.2) (.slice Ao85 t170.length co85)) (fun _ hk => hk.2) (.slice Ao88 t173.length co88)) (fun _ hk => hk.2) (.int .i64 t176)) (fun _ h_ => h_.1))) hb) (zs (Kd.R_below (by (with_reducible repeat (first | apply Kd.R_alloc | apply Kd.R_drewN | apply Kd.R_drew)); exact (Kd.R_mono (Kd.R_far (p := ⟨gb177, 2, none⟩) (Kd.R_far (p := ⟨gb177, 1, none⟩) (Kd.R_far (p := ⟨gb177, 0, none⟩) (Kd.R_types HO172.out BK177.out (by decide)) (fun _ hk => hk.2) (.slice Ao85 t170.length co85)) (fun _ hk => hk.2) (.slice Ao88 t173.length co88)) (fun _ hk => hk.2) (.int .i64 t176)) (fun _ h_ => h_.1))) hb) (zs (Kd.R_below (by (with_reducible repeat (first | apply Kd.R_alloc | apply Kd.R_drewN | apply Kd.R_drew)); exact (Kd.R_mono (Kd.R_far (p := ⟨gb177, 2, none⟩) (Kd.R_far (p := ⟨gb177, 1, none⟩) (Kd.R_far (p := ⟨gb177, 0, none⟩) (Kd.R_types HO175.out BK177.out (by decide)) (fun _ hk => hk.2) (.slice Ao85 t170.length co85)) (fun _ hk => hk.2) (.slice Ao88 t173.length co88)) (fun _ hk => hk.2) (.int .i64 t176)) (fun _ h_ => h_.1))) hb) (zs (blk_below (g := gb152) zBK hb) (zs (blk_below (g := gb177) (o := .cells #[.slice Ao85 t170.length co85, .slice Ao88 t173.length co88, .int .i64 t176] 42 (0, 0)) (zBK) hb) (zs (below_step (zHB) hb) ?_))))))); clear HO_9 HO_153000 HO_153001 HO172 HO175 BK152 BK177 HB; intro HB BK177 BK152 HO175 HO172 HO_153001 HO_153000 HO_9; clear hb))
                          repeat (go_quiet (first | (go_at_call 19; (with_reducible refine (suffix_Of.calls _ _ x9_3 t170 t173 t176 _ ?side1 ?side2 A78.out).mono ?_); (case side1 => exact zS); (case side2 => exact zS); rintro e w83 ⟨v171, v174, rfl, ho0, ho1, hb⟩; refine zs (Kd.R_mono (Kd.R_told (Kd.R_told (Kd.R_old (by (with_reducible repeat (first | apply Kd.R_alloc | apply Kd.R_drewN | apply Kd.R_drew)); exact HO_9.out) hb) (Kd.R_base ho0)) (Kd.R_base ho1)) (fun _ h_ => h_.1)) (zs (Kd.R_mono (Kd.R_told (Kd.R_told (Kd.R_old (by (with_reducible repeat (first | apply Kd.R_alloc | apply Kd.R_drewN | apply Kd.R_drew)); exact HO_153000.out) hb) (Kd.R_base ho0)) (Kd.R_base ho1)) (fun _ h_ => h_.1)) (zs (Kd.R_mono (Kd.R_told (Kd.R_told (Kd.R_old (by (with_reducible repeat (first | apply Kd.R_alloc | apply Kd.R_drewN | apply Kd.R_drew)); exact HO_153001.out) hb) (Kd.R_base ho0)) (Kd.R_base ho1)) (fun _ h_ => h_.1)) (zs (Kd.R_lower (Kd.R_new' (Kd.R_new' (Kd.R_new' ho0 (Kd.R_lt (by (with_reducible repeat (first | apply Kd.R_alloc | apply Kd.R_drewN | apply Kd.R_drew)); exact HO_9.out))) (Kd.R_lt (by (with_reducible repeat (first | apply Kd.R_alloc | apply Kd.R_drewN | apply Kd.R_drew)); exact HO_153000.out))) (Kd.R_lt (by (with_reducible repeat (first | apply Kd.R_alloc | apply Kd.R_drewN | apply Kd.R_drew)); exact HO_153001.out))) (below_size (zHB))) (zs (Kd.R_lower (Kd.R_new' (Kd.R_new' (Kd.R_new' ho1 (Kd.R_lt (by (with_reducible repeat (first | apply Kd.R_alloc | apply Kd.R_drewN | apply Kd.R_drew)); exact HO_9.out))) (Kd.R_lt (by (with_reducible repeat (first | apply Kd.R_alloc | apply Kd.R_drewN | apply Kd.R_drew)); exact HO_153000.out))) (Kd.R_lt (by (with_reducible repeat (first | apply Kd.R_alloc | apply Kd.R_drewN | apply Kd.R_drew)); exact HO_153001.out))) (below_size (zHB))) (zs (blk_below (g := gb152) zBK hb) (zs (below_step (zHB) hb) ?_)))))); clear HO_9 HO_153000 HO_153001 BK152 HB; intro HB BK152 HO175 HO172 HO_153001 HO_153000 HO_9; clear hb ho0 ho1) | ((with_reducible refine gate_dst (N := 13) rfl ?_); (try (refine gate_guard (by rfl) ?_; dsimp only)); refine zBox (N := 13) (cs := #[.slice none 0 0, .slice none 0 0, .int .i64 0]) (t := 42) ?_; intro gb177 hg w84 hbox hb; refine zs (Kd.R_below (by (with_reducible repeat (first | apply Kd.R_alloc | apply Kd.R_drewN | apply Kd.R_drew)); exact HO_9.out) hb) (zs (Kd.R_below (by (with_reducible repeat (first | apply Kd.R_alloc | apply Kd.R_drewN | apply Kd.R_drew)); exact HO_153000.out) hb) (zs (Kd.R_below (by (with_reducible repeat (first | apply Kd.R_alloc | apply Kd.R_drewN | apply Kd.R_drew)); exact HO_153001.out) hb) (zs (Kd.R_below (by (with_reducible repeat (first | apply Kd.R_alloc | apply Kd.R_drewN | apply Kd.R_drew)); exact HO172.out) hb) (zs (Kd.R_below (by (with_reducible repeat (first | apply Kd.R_alloc | apply Kd.R_drewN | apply Kd.R_drew)); exact HO175.out) hb) (zs (blk_below (g := gb152) zBK hb) (zs (below_step (zHB) hb) (zs hbox (zs (zGe hg zHB) (zs (zGe hg zHB) (zs (zNl hg zBK : gb152 ≠ gb177) (zs ((zNg hg zBK : gb177 ≠ gb152)) ?_))))))))))); clear HO_9 HO_153000 HO_153001 HO172 HO175 BK152 HB; intro NB177_152 NB152_177 GE177 GW177 BK177 HB BK152 HO175 HO172 HO_153001 HO_153000 HO_9; clear hb hbox hg; obtain ⟨Ao85, co85, eo85⟩ := Kd.R_slice HO172.out; subst eo85; have hnb86 := NB177_152.out; have hnc86 := NB152_177.out; have hcz87 := blk_cell BK177.out; have hfz87 := blk_frozen BK177.out; obtain ⟨Ao88, co88, eo88⟩ := Kd.R_slice HO175.out; subst eo88; have hcz89 := blk_cell BK152.out; have hfz89 := blk_frozen BK152.out) | (go_at_call 17; (with_reducible refine (pleatref00_EqInts.calls k3 _ _ t170 _ _ t145 true _ ?side1 ?side2 ?side3 ?side4 A79.out).mono ?_); (case side1 => refine (Kd.R_reads' (e := 3) (base := w.heap.size) (ok := fun k_ => (((some k_ ≠ (.slice Ao88 t173.length co88 : Value).ownBlock ∧ some k_ ≠ (.slice Ao82 x9_3.length co82 : Value).ownBlock) ∧ some k_ ≠ (.slice Ao13 t145.length co13 : Value).ownBlock) ∧ some k_ ≠ (.slice Ao15 t148.length co15 : Value).ownBlock)) (n := t170.length) (c := co85) ?_).2.2; exact (by (with_reducible repeat (first | apply Kd.R_alloc | apply Kd.R_drewN | apply Kd.R_drew)); exact (Kd.R_mono (Kd.R_far (p := ⟨gb177, 2, none⟩) (Kd.R_far (p := ⟨gb177, 1, none⟩) (Kd.R_far (p := ⟨gb177, 0, none⟩) (Kd.R_types HO172.out BK177.out (by decide)) (fun _ hk => hk.2) (.slice Ao85 t170.length co85)) (fun _ hk => hk.2) (.slice Ao88 t173.length co88)) (fun _ hk => hk.2) (.int .i64 t176)) (fun _ h_ => h_.1)))); (case side2 => exact zS); (case side3 => refine (Kd.R_reads' (e := 3) (base := w.heap.size) (ok := fun k_ => (((some k_ ≠ (.slice Ao82 x9_3.length co82 : Value).ownBlock ∧ some k_ ≠ (.slice Ao15 t148.length co15 : Value).ownBlock) ∧ some k_ ≠ (.slice Ao85 t170.length co85 : Value).ownBlock) ∧ some k_ ≠ (.slice Ao88 t173.length co88 : Value).ownBlock)) (n := t145.length) (c := co13) ?_).2.2; exact (by (with_reducible repeat (first | apply Kd.R_alloc | apply Kd.R_drewN | apply Kd.R_drew)); exact (Kd.R_mono (Kd.R_far (p := ⟨gb177, 2, none⟩) (Kd.R_far (p := ⟨gb177, 1, none⟩) (Kd.R_far (p := ⟨gb177, 0, none⟩) (Kd.R_types HO_153000.out BK177.out (by decide)) (fun _ hk => hk.2) (.slice Ao85 t170.length co85)) (fun _ hk => hk.2) (.slice Ao88 t173.length co88)) (fun _ hk => hk.2) (.int .i64 t176)) (fun _ h_ => h_.1)))); (case side4 => exact zS); rintro e w' ⟨rfl, ⟨nd, rfl⟩⟩; (try first | exact ⟨rfl, _, World.drewN_drewN _ _ _⟩ | exact ⟨rfl, _, Eq.trans (World.drewN_drewN _ _ _) (congrArg (World.drewN _) (Nat.add_assoc _ _ _))⟩)) | (go_at_call 23; (with_reducible refine (pleatlaw16_lives.calls k3  t179 _ A81.out).mono ?_); rintro e w90 ⟨rfl, hb⟩; refine zs (Kd.R_below (by (with_reducible repeat (first | apply Kd.R_alloc | apply Kd.R_drewN | apply Kd.R_drew)); exact (Kd.R_mono (Kd.R_far (p := ⟨gb177, 2, none⟩) (Kd.R_far (p := ⟨gb177, 1, none⟩) (Kd.R_far (p := ⟨gb177, 0, none⟩) (Kd.R_types HO_9.out BK177.out (by decide)) (fun _ hk => hk.2) (.slice Ao85 t170.length co85)) (fun _ hk => hk.2) (.slice Ao88 t173.length co88)) (fun _ hk => hk.2) (.int .i64 t176)) (fun _ h_ => h_.1))) hb) (zs (Kd.R_below (by (with_reducible repeat (first | apply Kd.R_alloc | apply Kd.R_drewN | apply Kd.R_drew)); exact (Kd.R_mono (Kd.R_far (p := ⟨gb177, 2, none⟩) (Kd.R_far (p := ⟨gb177, 1, none⟩) (Kd.R_far (p := ⟨gb177, 0, none⟩) (Kd.R_types HO_153000.out BK177.out (by decide)) (fun _ hk => hk.2) (.slice Ao85 t170.length co85)) (fun _ hk => hk.2) (.slice Ao88 t173.length co88)) (fun _ hk => hk.2) (.int .i64 t176)) (fun _ h_ => h_.1))) hb) (zs (Kd.R_below (by (with_reducible repeat (first | apply Kd.R_alloc | apply Kd.R_drewN | apply Kd.R_drew)); exact (Kd.R_mono (Kd.R_far (p := ⟨gb177, 2, none⟩) (Kd.R_far (p := ⟨gb177, 1, none⟩) (Kd.R_far (p := ⟨gb177, 0, none⟩) (Kd.R_types HO_153001.out BK177.out (by decide)) (fun _ hk => hk.2) (.slice Ao85 t170.length co85)) (fun _ hk => hk.2) (.slice Ao88 t173.length co88)) (fun _ hk => hk.2) (.int .i64 t176)) (fun _ h_ => h_.1))) hb) (zs (Kd.R_below (by (with_reducible repeat (first | apply Kd.R_alloc | apply Kd.R_drewN | apply Kd.R_drew)); exact (Kd.R_mono (Kd.R_far (p := ⟨gb177, 2, none⟩) (Kd.R_far (p := ⟨gb177, 1, none⟩) (Kd.R_far (p := ⟨gb177, 0, none⟩) (Kd.R_types HO172.out BK177.out (by decide)) (fun _ hk => hk.2) (.slice Ao85 t170.length co85)) (fun _ hk => hk.2) (.slice Ao88 t173.length co88)) (fun _ hk => hk.2) (.int .i64 t176)) (fun _ h_ => h_.1))) hb) (zs (Kd.R_below (by (with_reducible repeat (first | apply Kd.R_alloc | apply Kd.R_drewN | apply Kd.R_drew)); exact (Kd.R_mono (Kd.R_far (p := ⟨gb177, 2, none⟩) (Kd.R_far (p := ⟨gb177, 1, none⟩) (Kd.R_far (p := ⟨gb177, 0, none⟩) (Kd.R_types HO175.out BK177.out (by decide)) (fun _ hk => hk.2) (.slice Ao85 t170.length co85)) (fun _ hk => hk.2) (.slice Ao88 t173.length co88)) (fun _ hk => hk.2) (.int .i64 t176)) (fun _ h_ => h_.1))) hb) (zs (blk_below (g := gb152) zBK hb) (zs (blk_below (g := gb177) (o := .cells #[.slice Ao85 t170.length co85, .slice Ao88 t173.length co88, .int .i64 t176] 42 (0, 0)) (zBK) hb) (zs (below_step (zHB) hb) ?_))))))); clear HO_9 HO_153000 HO_153001 HO172 HO175 BK152 BK177 HB; intro HB BK177 BK152 HO175 HO172 HO_153001 HO_153000 HO_9; clear hb)); try go_wp2_with (first | (go_at_call 19; (with_reducible refine (suffix_Of.calls _ _ x9_3 t170 t173 t176 _ ?side1 ?side2 A78.out).mono ?_); (case side1 => exact zS); (case side2 => exact zS); rintro e w83 ⟨v171, v174, rfl, ho0, ho1, hb⟩; refine zs (Kd.R_mono (Kd.R_told (Kd.R_told (Kd.R_old (by (with_reducible repeat (first | apply Kd.R_alloc | apply Kd.R_drewN | apply Kd.R_drew)); exact HO_9.out) hb) (Kd.R_base ho0)) (Kd.R_base ho1)) (fun _ h_ => h_.1)) (zs (Kd.R_mono (Kd.R_told (Kd.R_told (Kd.R_old (by (with_reducible repeat (first | apply Kd.R_alloc | apply Kd.R_drewN | apply Kd.R_drew)); exact HO_153000.out) hb) (Kd.R_base ho0)) (Kd.R_base ho1)) (fun _ h_ => h_.1)) (zs (Kd.R_mono (Kd.R_told (Kd.R_told (Kd.R_old (by (with_reducible repeat (first | apply Kd.R_alloc | apply Kd.R_drewN | apply Kd.R_drew)); exact HO_153001.out) hb) (Kd.R_base ho0)) (Kd.R_base ho1)) (fun _ h_ => h_.1)) (zs (Kd.R_lower (Kd.R_new' (Kd.R_new' (Kd.R_new' ho0 (Kd.R_lt (by (with_reducible repeat (first | apply Kd.R_alloc | apply Kd.R_drewN | apply Kd.R_drew)); exact HO_9.out))) (Kd.R_lt (by (with_reducible repeat (first | apply Kd.R_alloc | apply Kd.R_drewN | apply Kd.R_drew)); exact HO_153000.out))) (Kd.R_lt (by (with_reducible repeat (first | apply Kd.R_alloc | apply Kd.R_drewN | apply Kd.R_drew)); exact HO_153001.out))) (below_size (zHB))) (zs (Kd.R_lower (Kd.R_new' (Kd.R_new' (Kd.R_new' ho1 (Kd.R_lt (by (with_reducible repeat (first | apply Kd.R_alloc | apply Kd.R_drewN | apply Kd.R_drew)); exact HO_9.out))) (Kd.R_lt (by (with_reducible repeat (first | apply Kd.R_alloc | apply Kd.R_drewN | apply Kd.R_drew)); exact HO_153000.out))) (Kd.R_lt (by (with_reducible repeat (first | apply Kd.R_alloc | apply Kd.R_drewN | apply Kd.R_drew)); exact HO_153001.out))) (below_size (zHB))) (zs (blk_below (g := gb152) zBK hb) (zs (below_step (zHB) hb) ?_)))))); clear HO_9 HO_153000 HO_153001 BK152 HB; intro HB BK152 HO175 HO172 HO_153001 HO_153000 HO_9; clear hb ho0 ho1) | ((with_reducible refine gate_dst (N := 13) rfl ?_); (try (refine gate_guard (by rfl) ?_; dsimp only)); refine zBox (N := 13) (cs := #[.slice none 0 0, .slice none 0 0, .int .i64 0]) (t := 42) ?_; intro gb177 hg w84 hbox hb; refine zs (Kd.R_below (by (with_reducible repeat (first | apply Kd.R_alloc | apply Kd.R_drewN | apply Kd.R_drew)); exact HO_9.out) hb) (zs (Kd.R_below (by (with_reducible repeat (first | apply Kd.R_alloc | apply Kd.R_drewN | apply Kd.R_drew)); exact HO_153000.out) hb) (zs (Kd.R_below (by (with_reducible repeat (first | apply Kd.R_alloc | apply Kd.R_drewN | apply Kd.R_drew)); exact HO_153001.out) hb) (zs (Kd.R_below (by (with_reducible repeat (first | apply Kd.R_alloc | apply Kd.R_drewN | apply Kd.R_drew)); exact HO172.out) hb) (zs (Kd.R_below (by (with_reducible repeat (first | apply Kd.R_alloc | apply Kd.R_drewN | apply Kd.R_drew)); exact HO175.out) hb) (zs (blk_below (g := gb152) zBK hb) (zs (below_step (zHB) hb) (zs hbox (zs (zGe hg zHB) (zs (zGe hg zHB) (zs (zNl hg zBK : gb152 ≠ gb177) (zs ((zNg hg zBK : gb177 ≠ gb152)) ?_))))))))))); clear HO_9 HO_153000 HO_153001 HO172 HO175 BK152 HB; intro NB177_152 NB152_177 GE177 GW177 BK177 HB BK152 HO175 HO172 HO_153001 HO_153000 HO_9; clear hb hbox hg; obtain ⟨Ao85, co85, eo85⟩ := Kd.R_slice HO172.out; subst eo85; have hnb86 := NB177_152.out; have hnc86 := NB152_177.out; have hcz87 := blk_cell BK177.out; have hfz87 := blk_frozen BK177.out; obtain ⟨Ao88, co88, eo88⟩ := Kd.R_slice HO175.out; subst eo88; have hcz89 := blk_cell BK152.out; have hfz89 := blk_frozen BK152.out) | (go_at_call 17; (with_reducible refine (pleatref00_EqInts.calls k3 _ _ t170 _ _ t145 true _ ?side1 ?side2 ?side3 ?side4 A79.out).mono ?_); (case side1 => refine (Kd.R_reads' (e := 3) (base := w.heap.size) (ok := fun k_ => (((some k_ ≠ (.slice Ao88 t173.length co88 : Value).ownBlock ∧ some k_ ≠ (.slice Ao82 x9_3.length co82 : Value).ownBlock) ∧ some k_ ≠ (.slice Ao13 t145.length co13 : Value).ownBlock) ∧ some k_ ≠ (.slice Ao15 t148.length co15 : Value).ownBlock)) (n := t170.length) (c := co85) ?_).2.2; exact (by (with_reducible repeat (first | apply Kd.R_alloc | apply Kd.R_drewN | apply Kd.R_drew)); exact (Kd.R_mono (Kd.R_far (p := ⟨gb177, 2, none⟩) (Kd.R_far (p := ⟨gb177, 1, none⟩) (Kd.R_far (p := ⟨gb177, 0, none⟩) (Kd.R_types HO172.out BK177.out (by decide)) (fun _ hk => hk.2) (.slice Ao85 t170.length co85)) (fun _ hk => hk.2) (.slice Ao88 t173.length co88)) (fun _ hk => hk.2) (.int .i64 t176)) (fun _ h_ => h_.1)))); (case side2 => exact zS); (case side3 => refine (Kd.R_reads' (e := 3) (base := w.heap.size) (ok := fun k_ => (((some k_ ≠ (.slice Ao82 x9_3.length co82 : Value).ownBlock ∧ some k_ ≠ (.slice Ao15 t148.length co15 : Value).ownBlock) ∧ some k_ ≠ (.slice Ao85 t170.length co85 : Value).ownBlock) ∧ some k_ ≠ (.slice Ao88 t173.length co88 : Value).ownBlock)) (n := t145.length) (c := co13) ?_).2.2; exact (by (with_reducible repeat (first | apply Kd.R_alloc | apply Kd.R_drewN | apply Kd.R_drew)); exact (Kd.R_mono (Kd.R_far (p := ⟨gb177, 2, none⟩) (Kd.R_far (p := ⟨gb177, 1, none⟩) (Kd.R_far (p := ⟨gb177, 0, none⟩) (Kd.R_types HO_153000.out BK177.out (by decide)) (fun _ hk => hk.2) (.slice Ao85 t170.length co85)) (fun _ hk => hk.2) (.slice Ao88 t173.length co88)) (fun _ hk => hk.2) (.int .i64 t176)) (fun _ h_ => h_.1)))); (case side4 => exact zS); rintro e w' ⟨rfl, ⟨nd, rfl⟩⟩; (try first | exact ⟨rfl, _, World.drewN_drewN _ _ _⟩ | exact ⟨rfl, _, Eq.trans (World.drewN_drewN _ _ _) (congrArg (World.drewN _) (Nat.add_assoc _ _ _))⟩)) | (go_at_call 23; (with_reducible refine (pleatlaw16_lives.calls k3  t179 _ A81.out).mono ?_); rintro e w90 ⟨rfl, hb⟩; refine zs (Kd.R_below (by (with_reducible repeat (first | apply Kd.R_alloc | apply Kd.R_drewN | apply Kd.R_drew)); exact (Kd.R_mono (Kd.R_far (p := ⟨gb177, 2, none⟩) (Kd.R_far (p := ⟨gb177, 1, none⟩) (Kd.R_far (p := ⟨gb177, 0, none⟩) (Kd.R_types HO_9.out BK177.out (by decide)) (fun _ hk => hk.2) (.slice Ao85 t170.length co85)) (fun _ hk => hk.2) (.slice Ao88 t173.length co88)) (fun _ hk => hk.2) (.int .i64 t176)) (fun _ h_ => h_.1))) hb) (zs (Kd.R_below (by (with_reducible repeat (first | apply Kd.R_alloc | apply Kd.R_drewN | apply Kd.R_drew)); exact (Kd.R_mono (Kd.R_far (p := ⟨gb177, 2, none⟩) (Kd.R_far (p := ⟨gb177, 1, none⟩) (Kd.R_far (p := ⟨gb177, 0, none⟩) (Kd.R_types HO_153000.out BK177.out (by decide)) (fun _ hk => hk.2) (.slice Ao85 t170.length co85)) (fun _ hk => hk.2) (.slice Ao88 t173.length co88)) (fun _ hk => hk.2) (.int .i64 t176)) (fun _ h_ => h_.1))) hb) (zs (Kd.R_below (by (with_reducible repeat (first | apply Kd.R_alloc | apply Kd.R_drewN | apply Kd.R_drew)); exact (Kd.R_mono (Kd.R_far (p := ⟨gb177, 2, none⟩) (Kd.R_far (p := ⟨gb177, 1, none⟩) (Kd.R_far (p := ⟨gb177, 0, none⟩) (Kd.R_types HO_153001.out BK177.out (by decide)) (fun _ hk => hk.2) (.slice Ao85 t170.length co85)) (fun _ hk => hk.2) (.slice Ao88 t173.length co88)) (fun _ hk => hk.2) (.int .i64 t176)) (fun _ h_ => h_.1))) hb) (zs (Kd.R_below (by (with_reducible repeat (first | apply Kd.R_alloc | apply Kd.R_drewN | apply Kd.R_drew)); exact (Kd.R_mono (Kd.R_far (p := ⟨gb177, 2, none⟩) (Kd.R_far (p := ⟨gb177, 1, none⟩) (Kd.R_far (p := ⟨gb177, 0, none⟩) (Kd.R_types HO172.out BK177.out (by decide)) (fun _ hk => hk.2) (.slice Ao85 t170.length co85)) (fun _ hk => hk.2) (.slice Ao88 t173.length co88)) (fun _ hk => hk.2) (.int .i64 t176)) (fun _ h_ => h_.1))) hb) (zs (Kd.R_below (by (with_reducible repeat (first | apply Kd.R_alloc | apply Kd.R_drewN | apply Kd.R_drew)); exact (Kd.R_mono (Kd.R_far (p := ⟨gb177, 2, none⟩) (Kd.R_far (p := ⟨gb177, 1, none⟩) (Kd.R_far (p := ⟨gb177, 0, none⟩) (Kd.R_types HO175.out BK177.out (by decide)) (fun _ hk => hk.2) (.slice Ao85 t170.length co85)) (fun _ hk => hk.2) (.slice Ao88 t173.length co88)) (fun _ hk => hk.2) (.int .i64 t176)) (fun _ h_ => h_.1))) hb) (zs (blk_below (g := gb152) zBK hb) (zs (blk_below (g := gb177) (o := .cells #[.slice Ao85 t170.length co85, .slice Ao88 t173.length co88, .int .i64 t176] 42 (0, 0)) (zBK) hb) (zs (below_step (zHB) hb) ?_))))))); clear HO_9 HO_153000 HO_153001 HO172 HO175 BK152 BK177 HB; intro HB BK177 BK152 HO175 HO172 HO_153001 HO_153000 HO_9; clear hb)))
                          go_ret
                          exact ⟨zE, zHB⟩
                        · replace c80 := Bool.eq_false_iff.mpr c80
                          subst c80
                          rw [if_neg (show ¬ (false = true) by decide)] at H
                          obtain rfl := Option.some.inj H
                          obtain ⟨Ao91, co91, eo91⟩ := Kd.R_slice HO_9.out
                          subst eo91
                          go_wp2_with (first | (go_at_call 19; (with_reducible refine (suffix_Of.calls _ _ x9_3 t170 t173 t176 _ ?side1 ?side2 A78.out).mono ?_); (case side1 => exact zS); (case side2 => exact zS); rintro e w92 ⟨v171, v174, rfl, ho0, ho1, hb⟩; refine zs (Kd.R_mono (Kd.R_told (Kd.R_told (Kd.R_old (by (with_reducible repeat (first | apply Kd.R_alloc | apply Kd.R_drewN | apply Kd.R_drew)); exact HO_9.out) hb) (Kd.R_base ho0)) (Kd.R_base ho1)) (fun _ h_ => h_.1)) (zs (Kd.R_mono (Kd.R_told (Kd.R_told (Kd.R_old (by (with_reducible repeat (first | apply Kd.R_alloc | apply Kd.R_drewN | apply Kd.R_drew)); exact HO_153000.out) hb) (Kd.R_base ho0)) (Kd.R_base ho1)) (fun _ h_ => h_.1)) (zs (Kd.R_mono (Kd.R_told (Kd.R_told (Kd.R_old (by (with_reducible repeat (first | apply Kd.R_alloc | apply Kd.R_drewN | apply Kd.R_drew)); exact HO_153001.out) hb) (Kd.R_base ho0)) (Kd.R_base ho1)) (fun _ h_ => h_.1)) (zs (Kd.R_lower (Kd.R_new' (Kd.R_new' (Kd.R_new' ho0 (Kd.R_lt (by (with_reducible repeat (first | apply Kd.R_alloc | apply Kd.R_drewN | apply Kd.R_drew)); exact HO_9.out))) (Kd.R_lt (by (with_reducible repeat (first | apply Kd.R_alloc | apply Kd.R_drewN | apply Kd.R_drew)); exact HO_153000.out))) (Kd.R_lt (by (with_reducible repeat (first | apply Kd.R_alloc | apply Kd.R_drewN | apply Kd.R_drew)); exact HO_153001.out))) (below_size (zHB))) (zs (Kd.R_lower (Kd.R_new' (Kd.R_new' (Kd.R_new' ho1 (Kd.R_lt (by (with_reducible repeat (first | apply Kd.R_alloc | apply Kd.R_drewN | apply Kd.R_drew)); exact HO_9.out))) (Kd.R_lt (by (with_reducible repeat (first | apply Kd.R_alloc | apply Kd.R_drewN | apply Kd.R_drew)); exact HO_153000.out))) (Kd.R_lt (by (with_reducible repeat (first | apply Kd.R_alloc | apply Kd.R_drewN | apply Kd.R_drew)); exact HO_153001.out))) (below_size (zHB))) (zs (blk_below (g := gb152) zBK hb) (zs (below_step (zHB) hb) ?_)))))); clear HO_9 HO_153000 HO_153001 BK152 HB; intro HB BK152 HO175 HO172 HO_153001 HO_153000 HO_9; clear hb ho0 ho1) | ((with_reducible refine gate_dst (N := 13) rfl ?_); (try (refine gate_guard (by rfl) ?_; dsimp only)); refine zBox (N := 13) (cs := #[.slice none 0 0, .slice none 0 0, .int .i64 0]) (t := 42) ?_; intro gb177 hg w93 hbox hb; refine zs (Kd.R_below (by (with_reducible repeat (first | apply Kd.R_alloc | apply Kd.R_drewN | apply Kd.R_drew)); exact HO_9.out) hb) (zs (Kd.R_below (by (with_reducible repeat (first | apply Kd.R_alloc | apply Kd.R_drewN | apply Kd.R_drew)); exact HO_153000.out) hb) (zs (Kd.R_below (by (with_reducible repeat (first | apply Kd.R_alloc | apply Kd.R_drewN | apply Kd.R_drew)); exact HO_153001.out) hb) (zs (Kd.R_below (by (with_reducible repeat (first | apply Kd.R_alloc | apply Kd.R_drewN | apply Kd.R_drew)); exact HO172.out) hb) (zs (Kd.R_below (by (with_reducible repeat (first | apply Kd.R_alloc | apply Kd.R_drewN | apply Kd.R_drew)); exact HO175.out) hb) (zs (blk_below (g := gb152) zBK hb) (zs (below_step (zHB) hb) (zs hbox (zs (zGe hg zHB) (zs (zGe hg zHB) (zs (zNl hg zBK : gb152 ≠ gb177) (zs ((zNg hg zBK : gb177 ≠ gb152)) ?_))))))))))); clear HO_9 HO_153000 HO_153001 HO172 HO175 BK152 HB; intro NB177_152 NB152_177 GE177 GW177 BK177 HB BK152 HO175 HO172 HO_153001 HO_153000 HO_9; clear hb hbox hg; obtain ⟨Ao94, co94, eo94⟩ := Kd.R_slice HO172.out; subst eo94; have hnb95 := NB177_152.out; have hnc95 := NB152_177.out; have hcz96 := blk_cell BK177.out; have hfz96 := blk_frozen BK177.out; obtain ⟨Ao97, co97, eo97⟩ := Kd.R_slice HO175.out; subst eo97; have hcz98 := blk_cell BK152.out; have hfz98 := blk_frozen BK152.out) | (go_at_call 17; (with_reducible refine (pleatref00_EqInts.calls k3 _ _ t170 _ _ t145 false _ ?side1 ?side2 ?side3 ?side4 A79.out).mono ?_); (case side1 => refine (Kd.R_reads' (e := 3) (base := w.heap.size) (ok := fun k_ => (((some k_ ≠ (.slice Ao97 t173.length co97 : Value).ownBlock ∧ some k_ ≠ (.slice Ao91 x9_3.length co91 : Value).ownBlock) ∧ some k_ ≠ (.slice Ao13 t145.length co13 : Value).ownBlock) ∧ some k_ ≠ (.slice Ao15 t148.length co15 : Value).ownBlock)) (n := t170.length) (c := co94) ?_).2.2; exact (by (with_reducible repeat (first | apply Kd.R_alloc | apply Kd.R_drewN | apply Kd.R_drew)); exact (Kd.R_mono (Kd.R_far (p := ⟨gb177, 2, none⟩) (Kd.R_far (p := ⟨gb177, 1, none⟩) (Kd.R_far (p := ⟨gb177, 0, none⟩) (Kd.R_types HO172.out BK177.out (by decide)) (fun _ hk => hk.2) (.slice Ao94 t170.length co94)) (fun _ hk => hk.2) (.slice Ao97 t173.length co97)) (fun _ hk => hk.2) (.int .i64 t176)) (fun _ h_ => h_.1)))); (case side2 => exact zS); (case side3 => refine (Kd.R_reads' (e := 3) (base := w.heap.size) (ok := fun k_ => (((some k_ ≠ (.slice Ao91 x9_3.length co91 : Value).ownBlock ∧ some k_ ≠ (.slice Ao15 t148.length co15 : Value).ownBlock) ∧ some k_ ≠ (.slice Ao94 t170.length co94 : Value).ownBlock) ∧ some k_ ≠ (.slice Ao97 t173.length co97 : Value).ownBlock)) (n := t145.length) (c := co13) ?_).2.2; exact (by (with_reducible repeat (first | apply Kd.R_alloc | apply Kd.R_drewN | apply Kd.R_drew)); exact (Kd.R_mono (Kd.R_far (p := ⟨gb177, 2, none⟩) (Kd.R_far (p := ⟨gb177, 1, none⟩) (Kd.R_far (p := ⟨gb177, 0, none⟩) (Kd.R_types HO_153000.out BK177.out (by decide)) (fun _ hk => hk.2) (.slice Ao94 t170.length co94)) (fun _ hk => hk.2) (.slice Ao97 t173.length co97)) (fun _ hk => hk.2) (.int .i64 t176)) (fun _ h_ => h_.1)))); (case side4 => exact zS); rintro e w' ⟨rfl, ⟨nd, rfl⟩⟩; (try first | exact ⟨rfl, _, World.drewN_drewN _ _ _⟩ | exact ⟨rfl, _, Eq.trans (World.drewN_drewN _ _ _) (congrArg (World.drewN _) (Nat.add_assoc _ _ _))⟩)))
                          repeat (go_quiet (first | (go_at_call 19; (with_reducible refine (suffix_Of.calls _ _ x9_3 t170 t173 t176 _ ?side1 ?side2 A78.out).mono ?_); (case side1 => exact zS); (case side2 => exact zS); rintro e w92 ⟨v171, v174, rfl, ho0, ho1, hb⟩; refine zs (Kd.R_mono (Kd.R_told (Kd.R_told (Kd.R_old (by (with_reducible repeat (first | apply Kd.R_alloc | apply Kd.R_drewN | apply Kd.R_drew)); exact HO_9.out) hb) (Kd.R_base ho0)) (Kd.R_base ho1)) (fun _ h_ => h_.1)) (zs (Kd.R_mono (Kd.R_told (Kd.R_told (Kd.R_old (by (with_reducible repeat (first | apply Kd.R_alloc | apply Kd.R_drewN | apply Kd.R_drew)); exact HO_153000.out) hb) (Kd.R_base ho0)) (Kd.R_base ho1)) (fun _ h_ => h_.1)) (zs (Kd.R_mono (Kd.R_told (Kd.R_told (Kd.R_old (by (with_reducible repeat (first | apply Kd.R_alloc | apply Kd.R_drewN | apply Kd.R_drew)); exact HO_153001.out) hb) (Kd.R_base ho0)) (Kd.R_base ho1)) (fun _ h_ => h_.1)) (zs (Kd.R_lower (Kd.R_new' (Kd.R_new' (Kd.R_new' ho0 (Kd.R_lt (by (with_reducible repeat (first | apply Kd.R_alloc | apply Kd.R_drewN | apply Kd.R_drew)); exact HO_9.out))) (Kd.R_lt (by (with_reducible repeat (first | apply Kd.R_alloc | apply Kd.R_drewN | apply Kd.R_drew)); exact HO_153000.out))) (Kd.R_lt (by (with_reducible repeat (first | apply Kd.R_alloc | apply Kd.R_drewN | apply Kd.R_drew)); exact HO_153001.out))) (below_size (zHB))) (zs (Kd.R_lower (Kd.R_new' (Kd.R_new' (Kd.R_new' ho1 (Kd.R_lt (by (with_reducible repeat (first | apply Kd.R_alloc | apply Kd.R_drewN | apply Kd.R_drew)); exact HO_9.out))) (Kd.R_lt (by (with_reducible repeat (first | apply Kd.R_alloc | apply Kd.R_drewN | apply Kd.R_drew)); exact HO_153000.out))) (Kd.R_lt (by (with_reducible repeat (first | apply Kd.R_alloc | apply Kd.R_drewN | apply Kd.R_drew)); exact HO_153001.out))) (below_size (zHB))) (zs (blk_below (g := gb152) zBK hb) (zs (below_step (zHB) hb) ?_)))))); clear HO_9 HO_153000 HO_153001 BK152 HB; intro HB BK152 HO175 HO172 HO_153001 HO_153000 HO_9; clear hb ho0 ho1) | ((with_reducible refine gate_dst (N := 13) rfl ?_); (try (refine gate_guard (by rfl) ?_; dsimp only)); refine zBox (N := 13) (cs := #[.slice none 0 0, .slice none 0 0, .int .i64 0]) (t := 42) ?_; intro gb177 hg w93 hbox hb; refine zs (Kd.R_below (by (with_reducible repeat (first | apply Kd.R_alloc | apply Kd.R_drewN | apply Kd.R_drew)); exact HO_9.out) hb) (zs (Kd.R_below (by (with_reducible repeat (first | apply Kd.R_alloc | apply Kd.R_drewN | apply Kd.R_drew)); exact HO_153000.out) hb) (zs (Kd.R_below (by (with_reducible repeat (first | apply Kd.R_alloc | apply Kd.R_drewN | apply Kd.R_drew)); exact HO_153001.out) hb) (zs (Kd.R_below (by (with_reducible repeat (first | apply Kd.R_alloc | apply Kd.R_drewN | apply Kd.R_drew)); exact HO172.out) hb) (zs (Kd.R_below (by (with_reducible repeat (first | apply Kd.R_alloc | apply Kd.R_drewN | apply Kd.R_drew)); exact HO175.out) hb) (zs (blk_below (g := gb152) zBK hb) (zs (below_step (zHB) hb) (zs hbox (zs (zGe hg zHB) (zs (zGe hg zHB) (zs (zNl hg zBK : gb152 ≠ gb177) (zs ((zNg hg zBK : gb177 ≠ gb152)) ?_))))))))))); clear HO_9 HO_153000 HO_153001 HO172 HO175 BK152 HB; intro NB177_152 NB152_177 GE177 GW177 BK177 HB BK152 HO175 HO172 HO_153001 HO_153000 HO_9; clear hb hbox hg; obtain ⟨Ao94, co94, eo94⟩ := Kd.R_slice HO172.out; subst eo94; have hnb95 := NB177_152.out; have hnc95 := NB152_177.out; have hcz96 := blk_cell BK177.out; have hfz96 := blk_frozen BK177.out; obtain ⟨Ao97, co97, eo97⟩ := Kd.R_slice HO175.out; subst eo97; have hcz98 := blk_cell BK152.out; have hfz98 := blk_frozen BK152.out) | (go_at_call 17; (with_reducible refine (pleatref00_EqInts.calls k3 _ _ t170 _ _ t145 false _ ?side1 ?side2 ?side3 ?side4 A79.out).mono ?_); (case side1 => refine (Kd.R_reads' (e := 3) (base := w.heap.size) (ok := fun k_ => (((some k_ ≠ (.slice Ao97 t173.length co97 : Value).ownBlock ∧ some k_ ≠ (.slice Ao91 x9_3.length co91 : Value).ownBlock) ∧ some k_ ≠ (.slice Ao13 t145.length co13 : Value).ownBlock) ∧ some k_ ≠ (.slice Ao15 t148.length co15 : Value).ownBlock)) (n := t170.length) (c := co94) ?_).2.2; exact (by (with_reducible repeat (first | apply Kd.R_alloc | apply Kd.R_drewN | apply Kd.R_drew)); exact (Kd.R_mono (Kd.R_far (p := ⟨gb177, 2, none⟩) (Kd.R_far (p := ⟨gb177, 1, none⟩) (Kd.R_far (p := ⟨gb177, 0, none⟩) (Kd.R_types HO172.out BK177.out (by decide)) (fun _ hk => hk.2) (.slice Ao94 t170.length co94)) (fun _ hk => hk.2) (.slice Ao97 t173.length co97)) (fun _ hk => hk.2) (.int .i64 t176)) (fun _ h_ => h_.1)))); (case side2 => exact zS); (case side3 => refine (Kd.R_reads' (e := 3) (base := w.heap.size) (ok := fun k_ => (((some k_ ≠ (.slice Ao91 x9_3.length co91 : Value).ownBlock ∧ some k_ ≠ (.slice Ao15 t148.length co15 : Value).ownBlock) ∧ some k_ ≠ (.slice Ao94 t170.length co94 : Value).ownBlock) ∧ some k_ ≠ (.slice Ao97 t173.length co97 : Value).ownBlock)) (n := t145.length) (c := co13) ?_).2.2; exact (by (with_reducible repeat (first | apply Kd.R_alloc | apply Kd.R_drewN | apply Kd.R_drew)); exact (Kd.R_mono (Kd.R_far (p := ⟨gb177, 2, none⟩) (Kd.R_far (p := ⟨gb177, 1, none⟩) (Kd.R_far (p := ⟨gb177, 0, none⟩) (Kd.R_types HO_153000.out BK177.out (by decide)) (fun _ hk => hk.2) (.slice Ao94 t170.length co94)) (fun _ hk => hk.2) (.slice Ao97 t173.length co97)) (fun _ hk => hk.2) (.int .i64 t176)) (fun _ h_ => h_.1)))); (case side4 => exact zS); rintro e w' ⟨rfl, ⟨nd, rfl⟩⟩; (try first | exact ⟨rfl, _, World.drewN_drewN _ _ _⟩ | exact ⟨rfl, _, Eq.trans (World.drewN_drewN _ _ _) (congrArg (World.drewN _) (Nat.add_assoc _ _ _))⟩))); try go_wp2_with (first | (go_at_call 19; (with_reducible refine (suffix_Of.calls _ _ x9_3 t170 t173 t176 _ ?side1 ?side2 A78.out).mono ?_); (case side1 => exact zS); (case side2 => exact zS); rintro e w92 ⟨v171, v174, rfl, ho0, ho1, hb⟩; refine zs (Kd.R_mono (Kd.R_told (Kd.R_told (Kd.R_old (by (with_reducible repeat (first | apply Kd.R_alloc | apply Kd.R_drewN | apply Kd.R_drew)); exact HO_9.out) hb) (Kd.R_base ho0)) (Kd.R_base ho1)) (fun _ h_ => h_.1)) (zs (Kd.R_mono (Kd.R_told (Kd.R_told (Kd.R_old (by (with_reducible repeat (first | apply Kd.R_alloc | apply Kd.R_drewN | apply Kd.R_drew)); exact HO_153000.out) hb) (Kd.R_base ho0)) (Kd.R_base ho1)) (fun _ h_ => h_.1)) (zs (Kd.R_mono (Kd.R_told (Kd.R_told (Kd.R_old (by (with_reducible repeat (first | apply Kd.R_alloc | apply Kd.R_drewN | apply Kd.R_drew)); exact HO_153001.out) hb) (Kd.R_base ho0)) (Kd.R_base ho1)) (fun _ h_ => h_.1)) (zs (Kd.R_lower (Kd.R_new' (Kd.R_new' (Kd.R_new' ho0 (Kd.R_lt (by (with_reducible repeat (first | apply Kd.R_alloc | apply Kd.R_drewN | apply Kd.R_drew)); exact HO_9.out))) (Kd.R_lt (by (with_reducible repeat (first | apply Kd.R_alloc | apply Kd.R_drewN | apply Kd.R_drew)); exact HO_153000.out))) (Kd.R_lt (by (with_reducible repeat (first | apply Kd.R_alloc | apply Kd.R_drewN | apply Kd.R_drew)); exact HO_153001.out))) (below_size (zHB))) (zs (Kd.R_lower (Kd.R_new' (Kd.R_new' (Kd.R_new' ho1 (Kd.R_lt (by (with_reducible repeat (first | apply Kd.R_alloc | apply Kd.R_drewN | apply Kd.R_drew)); exact HO_9.out))) (Kd.R_lt (by (with_reducible repeat (first | apply Kd.R_alloc | apply Kd.R_drewN | apply Kd.R_drew)); exact HO_153000.out))) (Kd.R_lt (by (with_reducible repeat (first | apply Kd.R_alloc | apply Kd.R_drewN | apply Kd.R_drew)); exact HO_153001.out))) (below_size (zHB))) (zs (blk_below (g := gb152) zBK hb) (zs (below_step (zHB) hb) ?_)))))); clear HO_9 HO_153000 HO_153001 BK152 HB; intro HB BK152 HO175 HO172 HO_153001 HO_153000 HO_9; clear hb ho0 ho1) | ((with_reducible refine gate_dst (N := 13) rfl ?_); (try (refine gate_guard (by rfl) ?_; dsimp only)); refine zBox (N := 13) (cs := #[.slice none 0 0, .slice none 0 0, .int .i64 0]) (t := 42) ?_; intro gb177 hg w93 hbox hb; refine zs (Kd.R_below (by (with_reducible repeat (first | apply Kd.R_alloc | apply Kd.R_drewN | apply Kd.R_drew)); exact HO_9.out) hb) (zs (Kd.R_below (by (with_reducible repeat (first | apply Kd.R_alloc | apply Kd.R_drewN | apply Kd.R_drew)); exact HO_153000.out) hb) (zs (Kd.R_below (by (with_reducible repeat (first | apply Kd.R_alloc | apply Kd.R_drewN | apply Kd.R_drew)); exact HO_153001.out) hb) (zs (Kd.R_below (by (with_reducible repeat (first | apply Kd.R_alloc | apply Kd.R_drewN | apply Kd.R_drew)); exact HO172.out) hb) (zs (Kd.R_below (by (with_reducible repeat (first | apply Kd.R_alloc | apply Kd.R_drewN | apply Kd.R_drew)); exact HO175.out) hb) (zs (blk_below (g := gb152) zBK hb) (zs (below_step (zHB) hb) (zs hbox (zs (zGe hg zHB) (zs (zGe hg zHB) (zs (zNl hg zBK : gb152 ≠ gb177) (zs ((zNg hg zBK : gb177 ≠ gb152)) ?_))))))))))); clear HO_9 HO_153000 HO_153001 HO172 HO175 BK152 HB; intro NB177_152 NB152_177 GE177 GW177 BK177 HB BK152 HO175 HO172 HO_153001 HO_153000 HO_9; clear hb hbox hg; obtain ⟨Ao94, co94, eo94⟩ := Kd.R_slice HO172.out; subst eo94; have hnb95 := NB177_152.out; have hnc95 := NB152_177.out; have hcz96 := blk_cell BK177.out; have hfz96 := blk_frozen BK177.out; obtain ⟨Ao97, co97, eo97⟩ := Kd.R_slice HO175.out; subst eo97; have hcz98 := blk_cell BK152.out; have hfz98 := blk_frozen BK152.out) | (go_at_call 17; (with_reducible refine (pleatref00_EqInts.calls k3 _ _ t170 _ _ t145 false _ ?side1 ?side2 ?side3 ?side4 A79.out).mono ?_); (case side1 => refine (Kd.R_reads' (e := 3) (base := w.heap.size) (ok := fun k_ => (((some k_ ≠ (.slice Ao97 t173.length co97 : Value).ownBlock ∧ some k_ ≠ (.slice Ao91 x9_3.length co91 : Value).ownBlock) ∧ some k_ ≠ (.slice Ao13 t145.length co13 : Value).ownBlock) ∧ some k_ ≠ (.slice Ao15 t148.length co15 : Value).ownBlock)) (n := t170.length) (c := co94) ?_).2.2; exact (by (with_reducible repeat (first | apply Kd.R_alloc | apply Kd.R_drewN | apply Kd.R_drew)); exact (Kd.R_mono (Kd.R_far (p := ⟨gb177, 2, none⟩) (Kd.R_far (p := ⟨gb177, 1, none⟩) (Kd.R_far (p := ⟨gb177, 0, none⟩) (Kd.R_types HO172.out BK177.out (by decide)) (fun _ hk => hk.2) (.slice Ao94 t170.length co94)) (fun _ hk => hk.2) (.slice Ao97 t173.length co97)) (fun _ hk => hk.2) (.int .i64 t176)) (fun _ h_ => h_.1)))); (case side2 => exact zS); (case side3 => refine (Kd.R_reads' (e := 3) (base := w.heap.size) (ok := fun k_ => (((some k_ ≠ (.slice Ao91 x9_3.length co91 : Value).ownBlock ∧ some k_ ≠ (.slice Ao15 t148.length co15 : Value).ownBlock) ∧ some k_ ≠ (.slice Ao94 t170.length co94 : Value).ownBlock) ∧ some k_ ≠ (.slice Ao97 t173.length co97 : Value).ownBlock)) (n := t145.length) (c := co13) ?_).2.2; exact (by (with_reducible repeat (first | apply Kd.R_alloc | apply Kd.R_drewN | apply Kd.R_drew)); exact (Kd.R_mono (Kd.R_far (p := ⟨gb177, 2, none⟩) (Kd.R_far (p := ⟨gb177, 1, none⟩) (Kd.R_far (p := ⟨gb177, 0, none⟩) (Kd.R_types HO_153000.out BK177.out (by decide)) (fun _ hk => hk.2) (.slice Ao94 t170.length co94)) (fun _ hk => hk.2) (.slice Ao97 t173.length co97)) (fun _ hk => hk.2) (.int .i64 t176)) (fun _ h_ => h_.1)))); (case side4 => exact zS); rintro e w' ⟨rfl, ⟨nd, rfl⟩⟩; (try first | exact ⟨rfl, _, World.drewN_drewN _ _ _⟩ | exact ⟨rfl, _, Eq.trans (World.drewN_drewN _ _ _) (congrArg (World.drewN _) (Nat.add_assoc _ _ _))⟩))))
                          go_ret
                          exact ⟨zE, zHB⟩

/-- THE ONE PURE STATEMENT of pleatlaw16_SuffixOrder: yours. -/
def pleatlaw16_SuffixOrder.Pure : Prop := ∀ (l0 : List Int) (a1 : Int), l0.length ≤ maxLen → l0.length * 8 ≤ 140737488351232 → (∀ x ∈ l0, (Lit.int .i64 x).wf = true) → (Lit.int .i64 a1).wf = true → ∃ k, pleatlaw16_SuffixOrder.f k l0 a1 = some true
theorem pleatlaw16_SuffixOrder.walk (P : pleatlaw16_SuffixOrder.Pure) (a0 : Option Addr) (len0 cap0 : Nat) (z0 : List Int) (a1 : Int) (w : World) (w0 : (a0 = none ∧ len0 = 0 ∧ cap0 = 0 ∧ z0 = []) ∨ ∃ x, a0 = some x ∧ len0 ≤ cap0 ∧ cap0 ≤ maxLen ∧ z0.length = cap0 ∧ (∀ i, i < z0.length → w.cell? (x.add i) = some (.int .i64 (z0.getD i 0))) ∧ ∀ n ∈ z0, (Lit.int .i64 n).wf = true) (y0 : len0 * 8 ≤ 140737488351232) (w1 : (Lit.int .i64 a1).wf = true) :
    Calls Try.prog 7 #[.slice a0 len0 cap0, .int .i64 a1] w fun e w' => e = .returned (.bool true) ∧ Below w.heap.size w w' := by
  obtain ⟨l0, rfl, hr0, hm0, hw0, hc0⟩ := ReadsInt.ofRowC w0
  obtain ⟨k, h⟩ := P l0 a1 hm0 y0 hw0 w1
  refine (pleatlaw16_SuffixOrder.calls k _ _ l0 a1 true w (Kd.C_of_reads (d := (0 : Int)) (h1 := fun _ => rfl) hr0) hc0 h).mono ?_
  rintro e w' ⟨rfl, hd⟩
  exact ⟨rfl, hd⟩

end Go.Proofs.Ythkiapcoagjjpaa.PSuffixOrder
