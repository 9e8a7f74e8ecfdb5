-- Written for this claim by a program of this session (wip/tools/pp.py, over the kit's print).
import Derived.Test.YthkiapcoagjjpaaPCommonRowsx0
import Derived.Test.YthkiapcoagjjpaaPCommonRowsx2
namespace Go.Proofs.Ythkiapcoagjjpaa.PCommonRows
open Go.RowKit Go.Proofs.YthkiapcoagjjpaaW.PrintWords Go.Proofs.YthkiapcoagjjpaaW.PrintLast Go.Proofs.YthkiapcoagjjpaaW.PrintMore
attribute [local go_sem] max2_int min2_int max_two min_two max_three min_three max_four min_four   -- for this text's walks alone
set_option linter.unusedVariables false
set_option linter.unusedSimpArgs false

/-! ### common_Prefixes: function 21 -/
mutual
def common_Prefixes.l0 : Nat → List Int → List Int → List Int → Int → Int → Int → Int → List Int → List Int → Int → Option (List Int × Int × Int)
  | 0, _, _, _, _, _, _, _, _, _, _ => none
  | k + 1, x0, x1, x4, x5, x8, x23, x24, x115000, x115001, x115002 => if x24 < x23 then (if 0 ≤ x24 then (if x24 < (x115001.length : Int) then (if (rd x115001 x24) = 0 then (common_Prefixes.l0 k x0 x1 x4 x5 0 x23 (wrap64 (x24 + 1)) x115000 x115001 x115002) else (if 0 ≤ (wrap64 ((rd x115001 x24) - 1)) then (if (wrap64 ((rd x115001 x24) - 1)) < (x1.length : Int) then (common_Prefixes.l1 k x0 x1 x4 x5 x8 x24 (rd x115001 x24) (rd x1 (wrap64 ((rd x115001 x24) - 1))) x23 x24 x115000 x115001 x115002) else (none)) else (none))) else (none)) else (none)) else (some (x4, mx x5 (wrap64 ((x0.length : Int) - 1)), 0))
def common_Prefixes.l1 : Nat → List Int → List Int → List Int → Int → Int → Int → Int → Int → Int → Int → List Int → List Int → Int → Option (List Int × Int × Int)
  | 0, _, _, _, _, _, _, _, _, _, _, _, _, _ => none
  | k + 1, x0, x1, x4, x5, x8, x9, x10, x11, x23, x24, x115000, x115001, x115002 => if (wrap64 (x9 + x8)) < (x0.length : Int) then (common_Prefixes.j2 k x0 x1 x4 x5 x8 x9 x10 x11 x23 x24 (decide ((wrap64 (x11 + x8)) < (x0.length : Int))) x115000 x115001 x115002) else (common_Prefixes.j2 k x0 x1 x4 x5 x8 x9 x10 x11 x23 x24 false x115000 x115001 x115002)
def common_Prefixes.j2 : Nat → List Int → List Int → List Int → Int → Int → Int → Int → Int → Int → Int → Bool → List Int → List Int → Int → Option (List Int × Int × Int)
  | 0, _, _, _, _, _, _, _, _, _, _, _, _, _, _ => none
  | k + 1, x0, x1, x4, x5, x8, x9, x10, x11, x23, x24, x52, x115000, x115001, x115002 => if x52 = true then (if 0 ≤ (wrap64 (x9 + x8)) then (if (wrap64 (x9 + x8)) < (x0.length : Int) then (if 0 ≤ (wrap64 (x11 + x8)) then (if (wrap64 (x11 + x8)) < (x0.length : Int) then (if (rd x0 (wrap64 (x9 + x8))) = (rd x0 (wrap64 (x11 + x8))) then (common_Prefixes.l1 k x0 x1 x4 (wrap64 (x5 + 1)) (wrap64 (x8 + 1)) x9 x10 x11 x23 x24 x115000 x115001 x115002) else (if 0 ≤ x10 then (if x10 < (x4.length : Int) then (common_Prefixes.l0 k x0 x1 (x4.set (x10 : Int).toNat x8) (wrap64 (x5 + 1)) (mx (wrap64 (x8 - 1)) 0) x23 (wrap64 (x24 + 1)) x115000 x115001 x115002) else (none)) else (none))) else (none)) else (none)) else (none)) else (none)) else (if 0 ≤ x10 then (if x10 < (x4.length : Int) then (common_Prefixes.l0 k x0 x1 (x4.set (x10 : Int).toNat x8) x5 (mx (wrap64 (x8 - 1)) 0) x23 (wrap64 (x24 + 1)) x115000 x115001 x115002) else (none)) else (none))
end
def common_Prefixes.f (k : Nat) (l0 : List Int) (l1 : List Int) : Option (List Int × Int × Int) := (suffix_Of.f l0).bind fun bt107 => ((slices_Equal_int_int.f k bt107.1 l1).bind fun t115 => (if t115 = true then (if 0 ≤ (l0.length : Int) then (if ((l0.length : Int) : Int).toNat ≤ 35184372088832 then (common_Prefixes.l0 k l0 l1 (List.replicate ((l0.length : Int) : Int).toNat 0) 0 0 (l0.length : Int) 0 bt107.1 bt107.2.1 bt107.2.2) else (none)) else (none)) else (some (([] : List Int), 0, 1))))
theorem common_Prefixes.mono_l : ∀ k, (∀ y0 y1 y2 y3 y4 y5 y6 y7 y8 y9, LeO (common_Prefixes.l0 k y0 y1 y2 y3 y4 y5 y6 y7 y8 y9) (common_Prefixes.l0 (k + 1) y0 y1 y2 y3 y4 y5 y6 y7 y8 y9)) ∧ (∀ y0 y1 y2 y3 y4 y5 y6 y7 y8 y9 y10 y11 y12, LeO (common_Prefixes.l1 k y0 y1 y2 y3 y4 y5 y6 y7 y8 y9 y10 y11 y12) (common_Prefixes.l1 (k + 1) y0 y1 y2 y3 y4 y5 y6 y7 y8 y9 y10 y11 y12)) ∧ (∀ y0 y1 y2 y3 y4 y5 y6 y7 y8 y9 y10 y11 y12 y13, LeO (common_Prefixes.j2 k y0 y1 y2 y3 y4 y5 y6 y7 y8 y9 y10 y11 y12 y13) (common_Prefixes.j2 (k + 1) y0 y1 y2 y3 y4 y5 y6 y7 y8 y9 y10 y11 y12 y13))
  | 0 => ⟨fun _ _ _ _ _ _ _ _ _ _ r h => by simp [common_Prefixes.l0] at h, fun _ _ _ _ _ _ _ _ _ _ _ _ _ r h => by simp [common_Prefixes.l1] at h, fun _ _ _ _ _ _ _ _ _ _ _ _ _ _ r h => by simp [common_Prefixes.j2] at h⟩
  | k + 1 => by
    obtain ⟨ih0, ih1, ih2⟩ := common_Prefixes.mono_l k
    refine ⟨?_, ?_, ?_⟩
    · intro y0 y1 y2 y3 y4 y5 y6 y7 y8 y9
      unfold common_Prefixes.l0
      have m0 := @slices_Equal_int_int.mono
      exact zMo
    · intro y0 y1 y2 y3 y4 y5 y6 y7 y8 y9 y10 y11 y12
      unfold common_Prefixes.l1
      have m0 := @slices_Equal_int_int.mono
      exact zMo
    · intro y0 y1 y2 y3 y4 y5 y6 y7 y8 y9 y10 y11 y12 y13
      unfold common_Prefixes.j2
      have m0 := @slices_Equal_int_int.mono
      exact zMo
theorem common_Prefixes.mono : ∀ a0 a1 k, LeO (common_Prefixes.f k a0 a1) (common_Prefixes.f (k + 1) a0 a1) := by
  intro a0 a1 k
  obtain ⟨ih0, ih1, ih2⟩ := common_Prefixes.mono_l k
  unfold common_Prefixes.f
  have m0 := @slices_Equal_int_int.mono
  exact zMo
set_option maxHeartbeats 8000000 in
set_option maxRecDepth 100000 in
theorem common_Prefixes.calls (k : Nat) (A0 : Option Addr) (c0 : Nat) (l0 : List Int) (A1 : Option Addr) (c1 : Nat) (l1 : List Int) (r1 : List Int) (r2 : Int) (r3 : Int) (w : World) (hr0 : Kd.C (Kd.int .i64) w A0 l0.length l0) (hc0 : l0.length ≤ c0) (hr1 : Kd.C (Kd.int .i64) w A1 l1.length l1) (hc1 : l1.length ≤ c1) (h : common_Prefixes.f k l0 l1 = some (r1, r2, r3)) :
    Calls Try.prog 21 #[.slice A0 l0.length c0, .slice A1 l1.length c1] w fun e w' => ∃ v0_ : Value, e = .returned (.tuple #[v0_, .int .i64 r2, .int .i64 r3]) ∧ Kd.R (Kd.int .i64) 3 w' w.heap.size (fun _ => True) v0_ r1 ∧ Below w.heap.size w w' := by
  have hu42 := Try.underlying42
  have HR0 := Aside0.mk hr0
  have HC0 := Aside0.mk hc0
  clear hr0 hc0
  have HR1 := Aside0.mk hr1
  have HC1 := Aside0.mk hc1
  clear hr1 hc1
  have HB := Aside0.mk (Below.refl w.heap.size w)
  have H := h
  clear h
  unfold common_Prefixes.f at H
  replace H := Option.bind_eq_some_iff.mp H
  obtain ⟨⟨t107, t110, t113⟩, A30, H⟩ := H
  (try dsimp only at H)
  have A3 := Aside0.mk A30
  clear A30
  replace H := Option.bind_eq_some_iff.mp H
  obtain ⟨t115, A40, H⟩ := H
  (try dsimp only at H)
  have A4 := Aside0.mk A40
  clear A40
  by_cases c5 : t115 = true
  · subst c5
    rw [if_pos rfl] at H
    obtain ⟨c6, H⟩ := zG H
    have c6b0 := eq_true c6
    have c6b1 : decide (0 ≤ (l0.length : Int)) = true := decide_eq_true c6
    clear c6
    obtain ⟨c7, H⟩ := zG H
    have c7b0 := eq_true c7
    have c7b1 : decide (((l0.length : Int) : Int).toNat ≤ 35184372088832) = true := decide_eq_true c7
    clear c7
    obtain ⟨y116, hy116⟩ : ∃ y_ : List Int, y_ = (List.replicate ((l0.length : Int) : Int).toNat 0) := ⟨_, rfl⟩
    (try rw [← hy116] at H)
    have Ny116 := Aside0.mk hy116
    clear hy116
    have H' := Aside0.mk H
    clear H
    go_enter Try.func21, Try.ntmps21
    go_wp2_with (first | (go_step3) | (go_at_call 19; (with_reducible refine (suffix_Of.calls _ _ l0 t107 t110 t113 _ ?side1 ?side2 A3.out).mono ?_); (case side1 => exact zS); (case side2 => exact zS); rintro e w8 ⟨v108, v111, rfl, ho0, ho1, hb⟩; refine zs (Kd.R_lower ho0 (below_size (zHB))) (zs (Kd.R_lower ho1 (below_size (zHB))) (zs (below_step (zHB) hb) ?_)); clear HB; intro HB HO112 HO109; clear hb ho0 ho1) | ((with_reducible refine gate_dst (N := 7) rfl ?_); (try (refine gate_guard (by rfl) ?_; dsimp only)); refine zBox (N := 7) (cs := #[.slice none 0 0, .slice none 0 0, .int .i64 0]) (t := 42) ?_; intro gb114 hg w9 hbox hb; refine zs (Kd.R_below (by (with_reducible repeat (first | apply Kd.R_alloc | apply Kd.R_drewN | apply Kd.R_drew)); exact HO109.out) hb) (zs (Kd.R_below (by (with_reducible repeat (first | apply Kd.R_alloc | apply Kd.R_drewN | apply Kd.R_drew)); exact HO112.out) hb) (zs (below_step (zHB) hb) (zs hbox (zs (zGe hg zHB) (zs (zGe hg zHB) ?_))))); clear HO109 HO112 HB; intro GE114 GW114 BK114 HB HO112 HO109; clear hb hbox hg; obtain ⟨Ao10, co10, eo10⟩ := Kd.R_slice HO109.out; subst eo10; have hcz11 := blk_cell BK114.out; have hfz11 := blk_frozen BK114.out; obtain ⟨Ao12, co12, eo12⟩ := Kd.R_slice HO112.out; subst eo12) | (go_at_call 43; (with_reducible refine (slices_Equal_int_int.calls k _ _ t107 _ _ l1 true _ ?side1 ?side2 ?side3 ?side4 A4.out).mono ?_); (case side1 => refine (Kd.R_reads' (e := 3) (base := w.heap.size) (ok := fun k_ => some k_ ≠ (.slice Ao12 t110.length co12 : Value).ownBlock) (n := t107.length) (c := co10) ?_).2.2; exact (by (with_reducible repeat (first | apply Kd.R_alloc | apply Kd.R_drewN | apply Kd.R_drew)); exact (Kd.R_mono (Kd.R_far (p := ⟨gb114, 2, none⟩) (Kd.R_far (p := ⟨gb114, 1, none⟩) (Kd.R_far (p := ⟨gb114, 0, none⟩) (Kd.R_types HO109.out BK114.out (by decide)) (fun _ hk => hk.2) (.slice Ao10 t107.length co10)) (fun _ hk => hk.2) (.slice Ao12 t110.length co12)) (fun _ hk => hk.2) (.int .i64 t113)) (fun _ h_ => h_.1)))); (case side2 => exact zS); (case side3 => exact Kd.C_below HR1.out (zHB)); (case side4 => exact zS); rintro e w' ⟨rfl, ⟨nd, rfl⟩⟩; (try first | exact ⟨rfl, _, World.drewN_drewN _ _ _⟩ | exact ⟨rfl, _, Eq.trans (World.drewN_drewN _ _ _) (congrArg (World.drewN _) (Nat.add_assoc _ _ _))⟩)) | ((with_reducible refine gate_dst (N := 21) rfl ?_); (try (refine gate_guard (by rfl) ?_; dsimp only)); refine Kd.R_make (Kd.int .i64) _ 3 rfl (N := 21) rfl 31 _ _ rfl (l0.length : Int) rfl rfl Try.underlying31 (.int .i64 0) 8 info3 rfl (by decide) (by omega) 0 (ok := fun _ => True) (okp := fun _ => True) rfl (fun _ hk => hk) trivial (zOD) (Nat.le_trans (Nat.mul_le_mul_right _ (zOD : (l0.length : Int).toNat ≤ 35184372088832)) (by omega)) (Below.refl _ _) (Nat.le_refl _) ?_; intro v117 w13 ho14 hb hg_ hnew_; clear hg_ hnew_; (first | rw [← Ny116.out] at ho14 | (simp only [Int.reduceToNat] at ho14; rw [← Ny116.out] at ho14)); refine zs (Kd.R_elder' (by (with_reducible repeat (first | apply Kd.R_alloc | apply Kd.R_drewN | apply Kd.R_drew)); exact (Kd.R_mono (Kd.R_far (p := ⟨gb114, 2, none⟩) (Kd.R_far (p := ⟨gb114, 1, none⟩) (Kd.R_far (p := ⟨gb114, 0, none⟩) (Kd.R_types HO109.out BK114.out (by decide)) (fun _ hk => hk.2) (.slice Ao10 t107.length co10)) (fun _ hk => hk.2) (.slice Ao12 t110.length co12)) (fun _ hk => hk.2) (.int .i64 t113)) (fun _ h_ => h_.1))) (Kd.R_base ho14) hb) (zs (Kd.R_elder' (by (with_reducible repeat (first | apply Kd.R_alloc | apply Kd.R_drewN | apply Kd.R_drew)); exact (Kd.R_mono (Kd.R_far (p := ⟨gb114, 2, none⟩) (Kd.R_far (p := ⟨gb114, 1, none⟩) (Kd.R_far (p := ⟨gb114, 0, none⟩) (Kd.R_types HO112.out BK114.out (by decide)) (fun _ hk => hk.2) (.slice Ao10 t107.length co10)) (fun _ hk => hk.2) (.slice Ao12 t110.length co12)) (fun _ hk => hk.2) (.int .i64 t113)) (fun _ h_ => h_.1))) (Kd.R_base ho14) hb) (zs (Kd.R_lower (Kd.R_new' (Kd.R_new' ho14 (Kd.R_lt (by (with_reducible repeat (first | apply Kd.R_alloc | apply Kd.R_drewN | apply Kd.R_drew)); exact (Kd.R_mono (Kd.R_far (p := ⟨gb114, 2, none⟩) (Kd.R_far (p := ⟨gb114, 1, none⟩) (Kd.R_far (p := ⟨gb114, 0, none⟩) (Kd.R_types HO109.out BK114.out (by decide)) (fun _ hk => hk.2) (.slice Ao10 t107.length co10)) (fun _ hk => hk.2) (.slice Ao12 t110.length co12)) (fun _ hk => hk.2) (.int .i64 t113)) (fun _ h_ => h_.1))))) (Kd.R_lt (by (with_reducible repeat (first | apply Kd.R_alloc | apply Kd.R_drewN | apply Kd.R_drew)); exact (Kd.R_mono (Kd.R_far (p := ⟨gb114, 2, none⟩) (Kd.R_far (p := ⟨gb114, 1, none⟩) (Kd.R_far (p := ⟨gb114, 0, none⟩) (Kd.R_types HO112.out BK114.out (by decide)) (fun _ hk => hk.2) (.slice Ao10 t107.length co10)) (fun _ hk => hk.2) (.slice Ao12 t110.length co12)) (fun _ hk => hk.2) (.int .i64 t113)) (fun _ h_ => h_.1))))) (below_size (zHB))) (zs (blk_below (g := gb114) (o := .cells #[.slice Ao10 t107.length co10, .slice Ao12 t110.length co12, .int .i64 t113] 42 (0, 0)) (zBK) hb) (zs (below_step (zHB) hb) ?_)))); clear HO109 HO112 BK114 HB; intro HB BK114 HO118 HO112 HO109; clear hb ho14))
    repeat (go_quiet (first | (go_step3) | (go_at_call 19; (with_reducible refine (suffix_Of.calls _ _ l0 t107 t110 t113 _ ?side1 ?side2 A3.out).mono ?_); (case side1 => exact zS); (case side2 => exact zS); rintro e w8 ⟨v108, v111, rfl, ho0, ho1, hb⟩; refine zs (Kd.R_lower ho0 (below_size (zHB))) (zs (Kd.R_lower ho1 (below_size (zHB))) (zs (below_step (zHB) hb) ?_)); clear HB; intro HB HO112 HO109; clear hb ho0 ho1) | ((with_reducible refine gate_dst (N := 7) rfl ?_); (try (refine gate_guard (by rfl) ?_; dsimp only)); refine zBox (N := 7) (cs := #[.slice none 0 0, .slice none 0 0, .int .i64 0]) (t := 42) ?_; intro gb114 hg w9 hbox hb; refine zs (Kd.R_below (by (with_reducible repeat (first | apply Kd.R_alloc | apply Kd.R_drewN | apply Kd.R_drew)); exact HO109.out) hb) (zs (Kd.R_below (by (with_reducible repeat (first | apply Kd.R_alloc | apply Kd.R_drewN | apply Kd.R_drew)); exact HO112.out) hb) (zs (below_step (zHB) hb) (zs hbox (zs (zGe hg zHB) (zs (zGe hg zHB) ?_))))); clear HO109 HO112 HB; intro GE114 GW114 BK114 HB HO112 HO109; clear hb hbox hg; obtain ⟨Ao10, co10, eo10⟩ := Kd.R_slice HO109.out; subst eo10; have hcz11 := blk_cell BK114.out; have hfz11 := blk_frozen BK114.out; obtain ⟨Ao12, co12, eo12⟩ := Kd.R_slice HO112.out; subst eo12) | (go_at_call 43; (with_reducible refine (slices_Equal_int_int.calls k _ _ t107 _ _ l1 true _ ?side1 ?side2 ?side3 ?side4 A4.out).mono ?_); (case side1 => refine (Kd.R_reads' (e := 3) (base := w.heap.size) (ok := fun k_ => some k_ ≠ (.slice Ao12 t110.length co12 : Value).ownBlock) (n := t107.length) (c := co10) ?_).2.2; exact (by (with_reducible repeat (first | apply Kd.R_alloc | apply Kd.R_drewN | apply Kd.R_drew)); exact (Kd.R_mono (Kd.R_far (p := ⟨gb114, 2, none⟩) (Kd.R_far (p := ⟨gb114, 1, none⟩) (Kd.R_far (p := ⟨gb114, 0, none⟩) (Kd.R_types HO109.out BK114.out (by decide)) (fun _ hk => hk.2) (.slice Ao10 t107.length co10)) (fun _ hk => hk.2) (.slice Ao12 t110.length co12)) (fun _ hk => hk.2) (.int .i64 t113)) (fun _ h_ => h_.1)))); (case side2 => exact zS); (case side3 => exact Kd.C_below HR1.out (zHB)); (case side4 => exact zS); rintro e w' ⟨rfl, ⟨nd, rfl⟩⟩; (try first | exact ⟨rfl, _, World.drewN_drewN _ _ _⟩ | exact ⟨rfl, _, Eq.trans (World.drewN_drewN _ _ _) (congrArg (World.drewN _) (Nat.add_assoc _ _ _))⟩)) | ((with_reducible refine gate_dst (N := 21) rfl ?_); (try (refine gate_guard (by rfl) ?_; dsimp only)); refine Kd.R_make (Kd.int .i64) _ 3 rfl (N := 21) rfl 31 _ _ rfl (l0.length : Int) rfl rfl Try.underlying31 (.int .i64 0) 8 info3 rfl (by decide) (by omega) 0 (ok := fun _ => True) (okp := fun _ => True) rfl (fun _ hk => hk) trivial (zOD) (Nat.le_trans (Nat.mul_le_mul_right _ (zOD : (l0.length : Int).toNat ≤ 35184372088832)) (by omega)) (Below.refl _ _) (Nat.le_refl _) ?_; intro v117 w13 ho14 hb hg_ hnew_; clear hg_ hnew_; (first | rw [← Ny116.out] at ho14 | (simp only [Int.reduceToNat] at ho14; rw [← Ny116.out] at ho14)); refine zs (Kd.R_elder' (by (with_reducible repeat (first | apply Kd.R_alloc | apply Kd.R_drewN | apply Kd.R_drew)); exact (Kd.R_mono (Kd.R_far (p := ⟨gb114, 2, none⟩) (Kd.R_far (p := ⟨gb114, 1, none⟩) (Kd.R_far (p := ⟨gb114, 0, none⟩) (Kd.R_types HO109.out BK114.out (by decide)) (fun _ hk => hk.2) (.slice Ao10 t107.length co10)) (fun _ hk => hk.2) (.slice Ao12 t110.length co12)) (fun _ hk => hk.2) (.int .i64 t113)) (fun _ h_ => h_.1))) (Kd.R_base ho14) hb) (zs (Kd.R_elder' (by (with_reducible repeat (first | apply Kd.R_alloc | apply Kd.R_drewN | apply Kd.R_drew)); exact (Kd.R_mono (Kd.R_far (p := ⟨gb114, 2, none⟩) (Kd.R_far (p := ⟨gb114, 1, none⟩) (Kd.R_far (p := ⟨gb114, 0, none⟩) (Kd.R_types HO112.out BK114.out (by decide)) (fun _ hk => hk.2) (.slice Ao10 t107.length co10)) (fun _ hk => hk.2) (.slice Ao12 t110.length co12)) (fun _ hk => hk.2) (.int .i64 t113)) (fun _ h_ => h_.1))) (Kd.R_base ho14) hb) (zs (Kd.R_lower (Kd.R_new' (Kd.R_new' ho14 (Kd.R_lt (by (with_reducible repeat (first | apply Kd.R_alloc | apply Kd.R_drewN | apply Kd.R_drew)); exact (Kd.R_mono (Kd.R_far (p := ⟨gb114, 2, none⟩) (Kd.R_far (p := ⟨gb114, 1, none⟩) (Kd.R_far (p := ⟨gb114, 0, none⟩) (Kd.R_types HO109.out BK114.out (by decide)) (fun _ hk => hk.2) (.slice Ao10 t107.length co10)) (fun _ hk => hk.2) (.slice Ao12 t110.length co12)) (fun _ hk => hk.2) (.int .i64 t113)) (fun _ h_ => h_.1))))) (Kd.R_lt (by (with_reducible repeat (first | apply Kd.R_alloc | apply Kd.R_drewN | apply Kd.R_drew)); exact (Kd.R_mono (Kd.R_far (p := ⟨gb114, 2, none⟩) (Kd.R_far (p := ⟨gb114, 1, none⟩) (Kd.R_far (p := ⟨gb114, 0, none⟩) (Kd.R_types HO112.out BK114.out (by decide)) (fun _ hk => hk.2) (.slice Ao10 t107.length co10)) (fun _ hk => hk.2) (.slice Ao12 t110.length co12)) (fun _ hk => hk.2) (.int .i64 t113)) (fun _ h_ => h_.1))))) (below_size (zHB))) (zs (blk_below (g := gb114) (o := .cells #[.slice Ao10 t107.length co10, .slice Ao12 t110.length co12, .int .i64 t113] 42 (0, 0)) (zBK) hb) (zs (below_step (zHB) hb) ?_)))); clear HO109 HO112 BK114 HB; intro HB BK114 HO118 HO112 HO109; clear hb ho14)); try go_wp2_with (first | (go_step3) | (go_at_call 19; (with_reducible refine (suffix_Of.calls _ _ l0 t107 t110 t113 _ ?side1 ?side2 A3.out).mono ?_); (case side1 => exact zS); (case side2 => exact zS); rintro e w8 ⟨v108, v111, rfl, ho0, ho1, hb⟩; refine zs (Kd.R_lower ho0 (below_size (zHB))) (zs (Kd.R_lower ho1 (below_size (zHB))) (zs (below_step (zHB) hb) ?_)); clear HB; intro HB HO112 HO109; clear hb ho0 ho1) | ((with_reducible refine gate_dst (N := 7) rfl ?_); (try (refine gate_guard (by rfl) ?_; dsimp only)); refine zBox (N := 7) (cs := #[.slice none 0 0, .slice none 0 0, .int .i64 0]) (t := 42) ?_; intro gb114 hg w9 hbox hb; refine zs (Kd.R_below (by (with_reducible repeat (first | apply Kd.R_alloc | apply Kd.R_drewN | apply Kd.R_drew)); exact HO109.out) hb) (zs (Kd.R_below (by (with_reducible repeat (first | apply Kd.R_alloc | apply Kd.R_drewN | apply Kd.R_drew)); exact HO112.out) hb) (zs (below_step (zHB) hb) (zs hbox (zs (zGe hg zHB) (zs (zGe hg zHB) ?_))))); clear HO109 HO112 HB; intro GE114 GW114 BK114 HB HO112 HO109; clear hb hbox hg; obtain ⟨Ao10, co10, eo10⟩ := Kd.R_slice HO109.out; subst eo10; have hcz11 := blk_cell BK114.out; have hfz11 := blk_frozen BK114.out; obtain ⟨Ao12, co12, eo12⟩ := Kd.R_slice HO112.out; subst eo12) | (go_at_call 43; (with_reducible refine (slices_Equal_int_int.calls k _ _ t107 _ _ l1 true _ ?side1 ?side2 ?side3 ?side4 A4.out).mono ?_); (case side1 => refine (Kd.R_reads' (e := 3) (base := w.heap.size) (ok := fun k_ => some k_ ≠ (.slice Ao12 t110.length co12 : Value).ownBlock) (n := t107.length) (c := co10) ?_).2.2; exact (by (with_reducible repeat (first | apply Kd.R_alloc | apply Kd.R_drewN | apply Kd.R_drew)); exact (Kd.R_mono (Kd.R_far (p := ⟨gb114, 2, none⟩) (Kd.R_far (p := ⟨gb114, 1, none⟩) (Kd.R_far (p := ⟨gb114, 0, none⟩) (Kd.R_types HO109.out BK114.out (by decide)) (fun _ hk => hk.2) (.slice Ao10 t107.length co10)) (fun _ hk => hk.2) (.slice Ao12 t110.length co12)) (fun _ hk => hk.2) (.int .i64 t113)) (fun _ h_ => h_.1)))); (case side2 => exact zS); (case side3 => exact Kd.C_below HR1.out (zHB)); (case side4 => exact zS); rintro e w' ⟨rfl, ⟨nd, rfl⟩⟩; (try first | exact ⟨rfl, _, World.drewN_drewN _ _ _⟩ | exact ⟨rfl, _, Eq.trans (World.drewN_drewN _ _ _) (congrArg (World.drewN _) (Nat.add_assoc _ _ _))⟩)) | ((with_reducible refine gate_dst (N := 21) rfl ?_); (try (refine gate_guard (by rfl) ?_; dsimp only)); refine Kd.R_make (Kd.int .i64) _ 3 rfl (N := 21) rfl 31 _ _ rfl (l0.length : Int) rfl rfl Try.underlying31 (.int .i64 0) 8 info3 rfl (by decide) (by omega) 0 (ok := fun _ => True) (okp := fun _ => True) rfl (fun _ hk => hk) trivial (zOD) (Nat.le_trans (Nat.mul_le_mul_right _ (zOD : (l0.length : Int).toNat ≤ 35184372088832)) (by omega)) (Below.refl _ _) (Nat.le_refl _) ?_; intro v117 w13 ho14 hb hg_ hnew_; clear hg_ hnew_; (first | rw [← Ny116.out] at ho14 | (simp only [Int.reduceToNat] at ho14; rw [← Ny116.out] at ho14)); refine zs (Kd.R_elder' (by (with_reducible repeat (first | apply Kd.R_alloc | apply Kd.R_drewN | apply Kd.R_drew)); exact (Kd.R_mono (Kd.R_far (p := ⟨gb114, 2, none⟩) (Kd.R_far (p := ⟨gb114, 1, none⟩) (Kd.R_far (p := ⟨gb114, 0, none⟩) (Kd.R_types HO109.out BK114.out (by decide)) (fun _ hk => hk.2) (.slice Ao10 t107.length co10)) (fun _ hk => hk.2) (.slice Ao12 t110.length co12)) (fun _ hk => hk.2) (.int .i64 t113)) (fun _ h_ => h_.1))) (Kd.R_base ho14) hb) (zs (Kd.R_elder' (by (with_reducible repeat (first | apply Kd.R_alloc | apply Kd.R_drewN | apply Kd.R_drew)); exact (Kd.R_mono (Kd.R_far (p := ⟨gb114, 2, none⟩) (Kd.R_far (p := ⟨gb114, 1, none⟩) (Kd.R_far (p := ⟨gb114, 0, none⟩) (Kd.R_types HO112.out BK114.out (by decide)) (fun _ hk => hk.2) (.slice Ao10 t107.length co10)) (fun _ hk => hk.2) (.slice Ao12 t110.length co12)) (fun _ hk => hk.2) (.int .i64 t113)) (fun _ h_ => h_.1))) (Kd.R_base ho14) hb) (zs (Kd.R_lower (Kd.R_new' (Kd.R_new' ho14 (Kd.R_lt (by (with_reducible repeat (first | apply Kd.R_alloc | apply Kd.R_drewN | apply Kd.R_drew)); exact (Kd.R_mono (Kd.R_far (p := ⟨gb114, 2, none⟩) (Kd.R_far (p := ⟨gb114, 1, none⟩) (Kd.R_far (p := ⟨gb114, 0, none⟩) (Kd.R_types HO109.out BK114.out (by decide)) (fun _ hk => hk.2) (.slice Ao10 t107.length co10)) (fun _ hk => hk.2) (.slice Ao12 t110.length co12)) (fun _ hk => hk.2) (.int .i64 t113)) (fun _ h_ => h_.1))))) (Kd.R_lt (by (with_reducible repeat (first | apply Kd.R_alloc | apply Kd.R_drewN | apply Kd.R_drew)); exact (Kd.R_mono (Kd.R_far (p := ⟨gb114, 2, none⟩) (Kd.R_far (p := ⟨gb114, 1, none⟩) (Kd.R_far (p := ⟨gb114, 0, none⟩) (Kd.R_types HO112.out BK114.out (by decide)) (fun _ hk => hk.2) (.slice Ao10 t107.length co10)) (fun _ hk => hk.2) (.slice Ao12 t110.length co12)) (fun _ hk => hk.2) (.int .i64 t113)) (fun _ h_ => h_.1))))) (below_size (zHB))) (zs (blk_below (g := gb114) (o := .cells #[.slice Ao10 t107.length co10, .slice Ao12 t110.length co12, .int .i64 t113] 42 (0, 0)) (zBK) hb) (zs (below_step (zHB) hb) ?_)))); clear HO109 HO112 BK114 HB; intro HB BK114 HO118 HO112 HO109; clear hb ho14)))
    go_loopg [5, 8, 24] k (fun kq v5 v8 v24 w' => ∃ (x4_1 : List Int) (x5_1 : Int) (x8_1 : Int) (x24_1 : Int), v5 = .int .i64 x5_1 ∧ v8 = .int .i64 x8_1 ∧ v24 = .int .i64 x24_1 ∧ Aside0 (common_Prefixes.l0 kq l0 l1 x4_1 x5_1 x8_1 (l0.length : Int) x24_1 t107 t110 t113 = some (r1, r2, r3)) ∧ Aside0 (kq ≤ k) ∧ Aside0 (Kd.R (Kd.int .i64) 3 w' w.heap.size (fun k_ => some k_ ≠ ((.slice Ao10 t107.length co10) : Value).ownBlock ∧ some k_ ≠ ((.slice Ao12 t110.length co12) : Value).ownBlock) v117 x4_1) ∧ Aside0 (Kd.R (Kd.int .i64) 3 w' w.heap.size (fun k_ => some k_ ≠ (v117 : Value).ownBlock ∧ some k_ ≠ ((.slice Ao12 t110.length co12) : Value).ownBlock) (.slice Ao10 t107.length co10) t107) ∧ Aside0 (Kd.R (Kd.int .i64) 3 w' w.heap.size (fun k_ => some k_ ≠ (v117 : Value).ownBlock ∧ some k_ ≠ ((.slice Ao10 t107.length co10) : Value).ownBlock) (.slice Ao12 t110.length co12) t110) ∧ Aside0 (w'.heap[gb114]? = some (.cells #[(.slice Ao10 t107.length co10), (.slice Ao12 t110.length co12), .int .i64 t113] 42 (0, 0))) ∧ Aside0 (Below w.heap.size w w'))
    case atStart => exact ⟨(y116), (0), (0), (0), zF', zF', zF', H', ⟨Nat.le_refl _⟩, ⟨by (with_reducible repeat (first | apply Kd.R_alloc | apply Kd.R_drewN | apply Kd.R_drew)); exact Kd.R_mono HO118.out (fun _ hk => ⟨hk.1.2, hk.2⟩)⟩, ⟨by (with_reducible repeat (first | apply Kd.R_alloc | apply Kd.R_drewN | apply Kd.R_drew)); exact Kd.R_mono HO109.out (fun _ hk => ⟨hk.2, hk.1⟩)⟩, ⟨by (with_reducible repeat (first | apply Kd.R_alloc | apply Kd.R_drewN | apply Kd.R_drew)); exact Kd.R_mono HO112.out (fun _ hk => ⟨hk.2, hk.1⟩)⟩, ⟨zBK⟩, ⟨zHB⟩⟩
    case round =>
      clear H'
      try clear c6
      try clear c6b0
      try clear c6b1
      try clear c7
      try clear c7b0
      try clear c7b1
      try clear hcz11
      try clear hfz11
      obtain ⟨x4_1, x5_1, x8_1, x24_1, rfl, rfl, rfl, HA, HK1, HO_4, HO_115000, HO_115001, BK114, HB⟩ := hrel
      cases gk with
      | zero => exact absurd HA.out (by simp [common_Prefixes.l0])
      | succ k1 =>
        have H := HA.out
        clear HA
        simp only [common_Prefixes.l0] at H
        by_cases c15 : x24_1 < (l0.length : Int)
        · rw [if_pos c15] at H
          have c15b0 := decide_eq_true c15
          clear c15
          obtain ⟨c16, H⟩ := zG H
          have c16b0 := decide_eq_true c16
          clear c16
          obtain ⟨c17, H⟩ := zG H
          have c17b0 := decide_eq_true c17
          clear c17
          by_cases c18 : (rd t110 x24_1) = 0
          · rw [if_pos c18] at H
            have c18b0 := beq_iff_eq.mpr c18
            have c18b1 := bne_eq_false_iff_eq.mpr c18
            clear c18
            have H' := Aside0.mk H
            clear H
            have hcz19 := blk_cell BK114.out
            have hfz19 := blk_frozen BK114.out
            have p119 : 0 ≤ (x24_1 : Int) := zOD
            have q119 : x24_1 < (t110.length : Int) := zOD
            obtain ⟨ad119, e119, hx119_0⟩ := Kd.at_int (Kd.R_reads' HO_115001.out).2.2 x24_1 p119 q119
            cases e119
            replace p119 := eq_true p119
            replace q119 := eq_true q119
            go_wp2_with (first | (go_step3))
            repeat (go_quiet (first | (go_step3)); try go_wp2_with (first | (go_step3)))
            go_roundg k1
            case measure => have := HK1.out; omega
            case rel => exact ⟨(x4_1), (x5_1), (0), (wrap64 (x24_1 + 1)), zF', zF', zF', H', ⟨by have := HK1.out; omega⟩, ⟨by (with_reducible repeat (first | apply Kd.R_alloc | apply Kd.R_drewN | apply Kd.R_drew)); exact HO_4.out⟩, ⟨by (with_reducible repeat (first | apply Kd.R_alloc | apply Kd.R_drewN | apply Kd.R_drew)); exact HO_115000.out⟩, ⟨by (with_reducible repeat (first | apply Kd.R_alloc | apply Kd.R_drewN | apply Kd.R_drew)); exact HO_115001.out⟩, ⟨zBK⟩, ⟨zHB⟩⟩
          · rw [if_neg c18] at H
            have c18b0 := beq_eq_false_iff_ne.mpr c18
            have c18b1 := bne_iff_ne.mpr c18
            obtain ⟨ji20, hji20⟩ : ∃ j_ : Int, (wrap64 ((rd t110 x24_1) - 1)) = j_ := ⟨_, rfl⟩
            (first | rw [hji20] at H | simp only [hji20] at H)
            have hji20w : (IntKind.i64.wrap ((rd t110 x24_1) - 1)) = ji20 := (i64_w _).trans hji20
            obtain ⟨c21, H⟩ := zG H
            have c21b0 := decide_eq_true c21
            clear c21
            obtain ⟨c22, H⟩ := zG H
            have c22b0 := decide_eq_true c22
            clear c22
            have H' := Aside0.mk H
            clear H
            have hcz23 := blk_cell BK114.out
            have hfz23 := blk_frozen BK114.out
            have p119 : 0 ≤ (x24_1 : Int) := zOD
            have q119 : x24_1 < (t110.length : Int) := zOD
            obtain ⟨ad119, e119, hx119_0⟩ := Kd.at_int (Kd.R_reads' HO_115001.out).2.2 x24_1 p119 q119
            cases e119
            replace p119 := eq_true p119
            replace q119 := eq_true q119
            have p120 : 0 ≤ ((ji20) : Int) := zOD
            have q120 : (ji20) < (l1.length : Int) := zOD
            obtain ⟨ad120, e120, hx120_0⟩ := Kd.at_int HR1.out (ji20) p120 q120
            cases e120
            replace hx120_0 := (HB.out.cell (World.block_lt_of_cell? w _ hx120_0)).trans hx120_0
            replace p120 := eq_true p120
            replace q120 := eq_true q120
            go_wp2_with (first | (go_step3))
            repeat (go_quiet (first | (go_step3)); try go_wp2_with (first | (go_step3)))
            go_loopg [5, 8] k1 (fun kq v5 v8 w' => ∃ (x5_2 : Int) (x8_2 : Int), v5 = .int .i64 x5_2 ∧ v8 = .int .i64 x8_2 ∧ Aside0 (common_Prefixes.l1 kq l0 l1 x4_1 x5_2 x8_2 x24_1 (rd t110 x24_1) (rd l1 (ji20)) (l0.length : Int) x24_1 t107 t110 t113 = some (r1, r2, r3)) ∧ Aside0 (kq ≤ k1) ∧ Aside0 (Kd.R (Kd.int .i64) 3 w' w.heap.size (fun k_ => some k_ ≠ ((.slice Ao10 t107.length co10) : Value).ownBlock ∧ some k_ ≠ ((.slice (some ad119) t110.length co12) : Value).ownBlock) v117 x4_1) ∧ Aside0 (Kd.R (Kd.int .i64) 3 w' w.heap.size (fun k_ => some k_ ≠ (v117 : Value).ownBlock ∧ some k_ ≠ ((.slice (some ad119) t110.length co12) : Value).ownBlock) (.slice Ao10 t107.length co10) t107) ∧ Aside0 (Kd.R (Kd.int .i64) 3 w' w.heap.size (fun k_ => some k_ ≠ (v117 : Value).ownBlock ∧ some k_ ≠ ((.slice Ao10 t107.length co10) : Value).ownBlock) (.slice (some ad119) t110.length co12) t110) ∧ Aside0 (w'.heap[gb114]? = some (.cells #[(.slice Ao10 t107.length co10), (.slice (some ad119) t110.length co12), .int .i64 t113] 42 (0, 0))) ∧ Aside0 (Below w.heap.size w w'))
            case atStart => exact ⟨(x5_1), (x8_1), zF', zF', H', ⟨Nat.le_refl _⟩, ⟨by (with_reducible repeat (first | apply Kd.R_alloc | apply Kd.R_drewN | apply Kd.R_drew)); exact HO_4.out⟩, ⟨by (with_reducible repeat (first | apply Kd.R_alloc | apply Kd.R_drewN | apply Kd.R_drew)); exact HO_115000.out⟩, ⟨by (with_reducible repeat (first | apply Kd.R_alloc | apply Kd.R_drewN | apply Kd.R_drew)); exact HO_115001.out⟩, ⟨zBK⟩, ⟨zHB⟩⟩
            case round =>
              clear H'
              try clear c15b0
              try clear c16
              try clear c16b0
              try clear c17
              try clear c17b0
              try clear c18b0
              try clear c18b1
              try clear c21
              try clear c21b0
              try clear c22
              try clear c22b0
              try clear c6
              try clear c6b0
              try clear c6b1
              try clear c7
              try clear c7b0
              try clear c7b1
              try clear hcz11
              try clear hcz23
              try clear hfz11
              try clear hfz23
              try clear hx119_0
              try clear hx120_0
              try clear p119
              try clear p120
              try clear q119
              try clear q120
              obtain ⟨x5_2, x8_2, rfl, rfl, HA, HK2, HO_4, HO_115000, HO_115001, BK114, HB⟩ := hrel
              cases gk with
              | zero => exact absurd HA.out (by simp [common_Prefixes.l1])
              | succ k2 =>
                have H := HA.out
                clear HA
                simp only [common_Prefixes.l1] at H
                have HC24 := Aside0.mk H
                clear H
                go_upto_region 13 with (fail)
                repeat (go_quiet (fail); go_upto_region 13 with (fail))
                go_cut [52] (fun v52 wc => ∃ (kq : Nat) (x52_23 : Bool), v52 = .bool x52_23 ∧ Aside0 (common_Prefixes.j2 kq l0 l1 x4_1 x5_2 x8_2 x24_1 (rd t110 x24_1) (rd l1 (ji20)) (l0.length : Int) x24_1 x52_23 t107 t110 t113 = some (r1, r2, r3)) ∧ Aside0 (kq ≤ k2) ∧ Aside0 (Kd.R (Kd.int .i64) 3 wc w.heap.size (fun k_ => some k_ ≠ ((.slice Ao10 t107.length co10) : Value).ownBlock ∧ some k_ ≠ ((.slice (some ad119) t110.length co12) : Value).ownBlock) v117 x4_1) ∧ Aside0 (Kd.R (Kd.int .i64) 3 wc w.heap.size (fun k_ => some k_ ≠ (v117 : Value).ownBlock ∧ some k_ ≠ ((.slice (some ad119) t110.length co12) : Value).ownBlock) (.slice Ao10 t107.length co10) t107) ∧ Aside0 (Kd.R (Kd.int .i64) 3 wc w.heap.size (fun k_ => some k_ ≠ (v117 : Value).ownBlock ∧ some k_ ≠ ((.slice Ao10 t107.length co10) : Value).ownBlock) (.slice (some ad119) t110.length co12) t110) ∧ Aside0 (wc.heap[gb114]? = some (.cells #[(.slice Ao10 t107.length co10), (.slice (some ad119) t110.length co12), .int .i64 t113] 42 (0, 0))) ∧ Aside0 (Below w.heap.size w wc))
                case first =>
                  have H := HC24.out
                  clear HC24
                  by_cases c25 : (wrap64 (x24_1 + x8_2)) < (l0.length : Int)
                  · rw [if_pos c25] at H
                    have c25b0 := decide_eq_true c25
                    clear c25
                    (first | rw [c25b0] | (simp only [i64_w, i32_w]; rw [c25b0]) | skip)
                    have H' := Aside0.mk H
                    clear H
                    go_wp2_with (first | (go_step3))
                    repeat (go_quiet (first | (go_step3)); try go_wp2_with (first | (go_step3)))
                    go_meet
                    case rel => exact ⟨_, (decide ((wrap64 ((rd l1 (ji20)) + x8_2)) < (l0.length : Int))), (by first | rfl | (simp; done) | (simp only [← hji20] <;> (first | rfl | simp)) | (simp [*]; done)), H', ⟨by have := HK1.out; have := HK2.out; first | omega | exact Nat.le_refl _⟩, ⟨by (with_reducible repeat (first | apply Kd.R_alloc | apply Kd.R_drewN | apply Kd.R_drew)); exact HO_4.out⟩, ⟨by (with_reducible repeat (first | apply Kd.R_alloc | apply Kd.R_drewN | apply Kd.R_drew)); exact HO_115000.out⟩, ⟨by (with_reducible repeat (first | apply Kd.R_alloc | apply Kd.R_drewN | apply Kd.R_drew)); exact HO_115001.out⟩, ⟨zBK⟩, ⟨zHB⟩⟩
                  · rw [if_neg c25] at H
                    have c25b0 := decide_eq_false c25
                    clear c25
                    (first | rw [c25b0] | (simp only [i64_w, i32_w]; rw [c25b0]) | skip)
                    have H' := Aside0.mk H
                    clear H
                    go_wp2_with (first | (go_step3))
                    repeat (go_quiet (first | (go_step3)); try go_wp2_with (first | (go_step3)))
                    go_meet
                    case rel => exact ⟨_, (false), zF', H', ⟨by have := HK1.out; have := HK2.out; first | omega | exact Nat.le_refl _⟩, ⟨by (with_reducible repeat (first | apply Kd.R_alloc | apply Kd.R_drewN | apply Kd.R_drew)); exact HO_4.out⟩, ⟨by (with_reducible repeat (first | apply Kd.R_alloc | apply Kd.R_drewN | apply Kd.R_drew)); exact HO_115000.out⟩, ⟨by (with_reducible repeat (first | apply Kd.R_alloc | apply Kd.R_drewN | apply Kd.R_drew)); exact HO_115001.out⟩, ⟨zBK⟩, ⟨zHB⟩⟩
                case rest =>
                  clear HC24
                  try clear c15b0
                  try clear c16
                  try clear c16b0
                  try clear c17
                  try clear c17b0
                  try clear c18b0
                  try clear c18b1
                  try clear c21
                  try clear c21b0
                  try clear c22
                  try clear c22b0
                  try clear c6
                  try clear c6b0
                  try clear c6b1
                  try clear c7
                  try clear c7b0
                  try clear c7b1
                  try clear hcz11
                  try clear hcz23
                  try clear hfz11
                  try clear hfz23
                  try clear hx119_0
                  try clear hx120_0
                  try clear p119
                  try clear p120
                  try clear q119
                  try clear q120
                  obtain ⟨kq, x52_23, rfl, HA, HJ23, HO_4, HO_115000, HO_115001, BK114, HB⟩ := hcut
                  cases kq with
                  | zero => exact absurd HA.out (by simp [common_Prefixes.j2])
                  | succ kj23 =>
                    have H := HA.out
                    clear HA
                    simp only [common_Prefixes.j2] at H
                    by_cases c26 : x52_23 = true
                    · subst c26
                      rw [if_pos rfl] at H
                      obtain ⟨ji27, hji27⟩ : ∃ j_ : Int, (wrap64 (x24_1 + x8_2)) = j_ := ⟨_, rfl⟩
                      (first | rw [hji27] at H | simp only [hji27] at H)
                      have hji27w : (IntKind.i64.wrap (x24_1 + x8_2)) = ji27 := (i64_w _).trans hji27
                      obtain ⟨c28, H⟩ := zG H
                      have c28b0 := decide_eq_true c28
                      clear c28
                      obtain ⟨c29, H⟩ := zG H
                      have c29b0 := decide_eq_true c29
                      clear c29
                      obtain ⟨ji30, hji30⟩ : ∃ j_ : Int, (wrap64 ((rd l1 (ji20)) + x8_2)) = j_ := ⟨_, rfl⟩
                      (first | rw [hji30] at H | simp only [hji30] at H)
                      have hji30w : (IntKind.i64.wrap ((rd l1 (ji20)) + x8_2)) = ji30 := (i64_w _).trans hji30
                      obtain ⟨c31, H⟩ := zG H
                      have c31b0 := decide_eq_true c31
                      clear c31
                      obtain ⟨c32, H⟩ := zG H
                      have c32b0 := decide_eq_true c32
                      clear c32
                      by_cases c33 : (rd l0 (ji27)) = (rd l0 (ji30))
                      · rw [if_pos c33] at H
                        have c33b0 := beq_iff_eq.mpr c33
                        have c33b1 := bne_eq_false_iff_eq.mpr c33
                        clear c33
                        have H' := Aside0.mk H
                        clear H
                        have p121 : 0 ≤ ((ji27) : Int) := zOD
                        have q121 : (ji27) < (l0.length : Int) := zOD
                        obtain ⟨ad121, e121, hx121_0⟩ := Kd.at_int HR0.out (ji27) p121 q121
                        cases e121
                        replace hx121_0 := (HB.out.cell (World.block_lt_of_cell? w _ hx121_0)).trans hx121_0
                        replace p121 := eq_true p121
                        replace q121 := eq_true q121
                        have p122 : 0 ≤ ((ji30) : Int) := zOD
                        have q122 : (ji30) < (l0.length : Int) := zOD
                        obtain ⟨ad122, e122, hx122_0⟩ := Kd.at_int HR0.out (ji30) p122 q122
                        obtain rfl : ad121 = ad122 := (by injection e122)
                        replace hx122_0 := (HB.out.cell (World.block_lt_of_cell? w _ hx122_0)).trans hx122_0
                        replace p122 := eq_true p122
                        replace q122 := eq_true q122
                        go_wp2_with (first | (go_step3))
                        repeat (go_quiet (first | (go_step3)); try go_wp2_with (first | (go_step3)))
                        go_roundg kj23
                        case measure => have := HK1.out; have := HK2.out; have := HJ23.out; omega
                        case rel => exact ⟨(wrap64 (x5_2 + 1)), (wrap64 (x8_2 + 1)), zF', zF', H', ⟨by have := HK1.out; have := HK2.out; have := HJ23.out; omega⟩, ⟨by (with_reducible repeat (first | apply Kd.R_alloc | apply Kd.R_drewN | apply Kd.R_drew)); exact HO_4.out⟩, ⟨by (with_reducible repeat (first | apply Kd.R_alloc | apply Kd.R_drewN | apply Kd.R_drew)); exact HO_115000.out⟩, ⟨by (with_reducible repeat (first | apply Kd.R_alloc | apply Kd.R_drewN | apply Kd.R_drew)); exact HO_115001.out⟩, ⟨zBK⟩, ⟨zHB⟩⟩
                      · rw [if_neg c33] at H
                        have c33b0 := beq_eq_false_iff_ne.mpr c33
                        have c33b1 := bne_iff_ne.mpr c33
                        obtain ⟨c34, H⟩ := zG H
                        have c34b0 := decide_eq_true c34
                        clear c34
                        obtain ⟨c35, H⟩ := zG H
                        have c35b0 := decide_eq_true c35
                        clear c35
                        obtain ⟨y123, hy123⟩ : ∃ y_ : List Int, y_ = (x4_1.set ((rd t110 x24_1) : Int).toNat x8_2) := ⟨_, rfl⟩
                        (try rw [← hy123] at H)
                        have Ny123 := Aside0.mk hy123
                        clear hy123
                        obtain ⟨ji37, hji37⟩ : ∃ j_ : Int, (mx (wrap64 (x8_2 - 1)) 0) = j_ := ⟨_, rfl⟩
                        (first | rw [hji37] at H | simp only [hji37] at H)
                        have hji37_ : (if (wrap64 (x8_2 - 1)) < 0 then 0 else (wrap64 (x8_2 - 1))) = ji37 := hji37
                        have H' := Aside0.mk H
                        clear H
                        have p121 : 0 ≤ ((ji27) : Int) := zOD
                        have q121 : (ji27) < (l0.length : Int) := zOD
                        obtain ⟨ad121, e121, hx121_0⟩ := Kd.at_int HR0.out (ji27) p121 q121
                        cases e121
                        replace hx121_0 := (HB.out.cell (World.block_lt_of_cell? w _ hx121_0)).trans hx121_0
                        replace p121 := eq_true p121
                        replace q121 := eq_true q121
                        have p122 : 0 ≤ ((ji30) : Int) := zOD
                        have q122 : (ji30) < (l0.length : Int) := zOD
                        obtain ⟨ad122, e122, hx122_0⟩ := Kd.at_int HR0.out (ji30) p122 q122
                        obtain rfl : ad121 = ad122 := (by injection e122)
                        replace hx122_0 := (HB.out.cell (World.block_lt_of_cell? w _ hx122_0)).trans hx122_0
                        replace p122 := eq_true p122
                        replace q122 := eq_true q122
                        have p36 : 0 ≤ ((rd t110 x24_1) : Int) := zOD
                        have q36 : ((rd t110 x24_1) : Int) < ((x4_1.length : Int) : Int) := zOD
                        obtain ⟨go36, co36, eo36, gb36, gl36, cl36, HG36⟩ := Kd.R_form HO_4.out (by omega)
                        (first | cases eo36 | (injection eo36 with ea_ en_ ec_; (first | subst ea_ | (injection ea_ with ea_; subst ea_)); subst ec_; clear en_))
                        have GB36 := Aside0.mk gb36
                        have GG36 := Aside0.mk HG36
                        clear gb36 gl36 HG36
                        obtain ⟨hx36_0, hf36_0⟩ := Kd.R_celln 0 HO_4.out ((rd t110 x24_1) : Int) p36 q36
                        replace p36 := eq_true p36
                        replace q36 := eq_true q36
                        have HP38 := Kd.R_putg HO_4.out ((rd t110 x24_1) : Int) x8_2
                        go_wp2_with (first | (go_step3) | ((with_reducible refine gate_store (t := 3) (p := 73) rfl ?_); (try (rw [drewN_self wc]; generalize hq_ : World.drewN wc _ = wc; have n0_ := Aside0.mk (Kd.R_at hq_ HO_4.out); have n1_ := Aside0.mk (Kd.R_at hq_ HO_115000.out); have n2_ := Aside0.mk (Kd.R_at hq_ HO_115001.out); have n3_ := Aside0.mk (blk_at hq_ BK114.out); have n4_ := Aside0.mk (below_at hq_ HB.out); clear hq_ HO_4 HO_115000 HO_115001 BK114 HB; have HO_4 := n0_; have HO_115000 := n1_; have HO_115001 := n2_; have BK114 := n3_; have HB := n4_; clear n0_ n1_ n2_ n3_ n4_; (try (obtain ⟨hx36_0, hf36_0⟩ := Kd.R_celln 0 HO_4.out ((rd t110 x24_1) : Int) (of_eq_true p36) (of_eq_true q36))); (try (have HP38 := Kd.R_putg HO_4.out ((rd t110 x24_1) : Int) x8_2)))); refine store_event (t := 3) (p := 73) (v := ?vo_w39) (w1 := (wc.setCell ⟨go36, ((rd t110 x24_1) : Int).toNat, none⟩ (.int .i64 x8_2))) ?hg ?ho ?hn ?hr ?_; (case ho => rfl); (case hg => rfl); (case hn => rfl); (case hr => first | (go_simp; done) | (go_simp; rfl)); intro w39 hw; have hg : wc.grownBy w39 (some go36) := (by rw [hw]; exact HP38.2); have hp_ : Kd.R (Kd.int .i64) 3 w39 w.heap.size (fun k_ => some k_ ≠ (.slice Ao10 t107.length co10 : Value).ownBlock ∧ some k_ ≠ (.slice (some ad119) t110.length co12 : Value).ownBlock) (.slice (some ⟨go36, 0, none⟩) x4_1.length co36) y123 := (by rw [hw, Ny123.out]; exact HP38.1); clear HP38; refine zs hp_ (zs (Kd.R_after (v := (.slice (some ⟨go36, 0, none⟩) x4_1.length co36)) (v1 := (.slice (some ⟨go36, 0, none⟩) x4_1.length co36)) (ok := (fun k_ => some k_ ≠ (.slice (some ad119) t110.length co12 : Value).ownBlock)) (by (with_reducible repeat (first | apply Kd.R_alloc | apply Kd.R_drewN | apply Kd.R_drew)); exact Kd.R_mono HO_115000.out (fun _ hk => ⟨hk.2, hk.1⟩)) hg (.inl rfl)) (zs (Kd.R_after (v := (.slice (some ⟨go36, 0, none⟩) x4_1.length co36)) (v1 := (.slice (some ⟨go36, 0, none⟩) x4_1.length co36)) (ok := (fun k_ => some k_ ≠ (.slice Ao10 t107.length co10 : Value).ownBlock)) (by (with_reducible repeat (first | apply Kd.R_alloc | apply Kd.R_drewN | apply Kd.R_drew)); exact Kd.R_mono HO_115001.out (fun _ hk => ⟨hk.2, hk.1⟩)) hg (.inl rfl)) (zs (blk_grown (g := gb114) zBK hg (Kd.R_ne HO_4.out BK114.out (by decide))) (zs ((by rw [hw]; exact below_set (HB.out) GB36.out : Below w.heap.size w w39)) ?_)))); clear HO_4 HO_115000 HO_115001 BK114 HB; intro HB BK114 HO_115001 HO_115000 HO_4; clear hg hw hp_))
                        repeat (go_quiet (first | (go_step3) | ((with_reducible refine gate_store (t := 3) (p := 73) rfl ?_); (try (rw [drewN_self wc]; generalize hq_ : World.drewN wc _ = wc; have n0_ := Aside0.mk (Kd.R_at hq_ HO_4.out); have n1_ := Aside0.mk (Kd.R_at hq_ HO_115000.out); have n2_ := Aside0.mk (Kd.R_at hq_ HO_115001.out); have n3_ := Aside0.mk (blk_at hq_ BK114.out); have n4_ := Aside0.mk (below_at hq_ HB.out); clear hq_ HO_4 HO_115000 HO_115001 BK114 HB; have HO_4 := n0_; have HO_115000 := n1_; have HO_115001 := n2_; have BK114 := n3_; have HB := n4_; clear n0_ n1_ n2_ n3_ n4_; (try (obtain ⟨hx36_0, hf36_0⟩ := Kd.R_celln 0 HO_4.out ((rd t110 x24_1) : Int) (of_eq_true p36) (of_eq_true q36))); (try (have HP38 := Kd.R_putg HO_4.out ((rd t110 x24_1) : Int) x8_2)))); refine store_event (t := 3) (p := 73) (v := ?vo_w39) (w1 := (wc.setCell ⟨go36, ((rd t110 x24_1) : Int).toNat, none⟩ (.int .i64 x8_2))) ?hg ?ho ?hn ?hr ?_; (case ho => rfl); (case hg => rfl); (case hn => rfl); (case hr => first | (go_simp; done) | (go_simp; rfl)); intro w39 hw; have hg : wc.grownBy w39 (some go36) := (by rw [hw]; exact HP38.2); have hp_ : Kd.R (Kd.int .i64) 3 w39 w.heap.size (fun k_ => some k_ ≠ (.slice Ao10 t107.length co10 : Value).ownBlock ∧ some k_ ≠ (.slice (some ad119) t110.length co12 : Value).ownBlock) (.slice (some ⟨go36, 0, none⟩) x4_1.length co36) y123 := (by rw [hw, Ny123.out]; exact HP38.1); clear HP38; refine zs hp_ (zs (Kd.R_after (v := (.slice (some ⟨go36, 0, none⟩) x4_1.length co36)) (v1 := (.slice (some ⟨go36, 0, none⟩) x4_1.length co36)) (ok := (fun k_ => some k_ ≠ (.slice (some ad119) t110.length co12 : Value).ownBlock)) (by (with_reducible repeat (first | apply Kd.R_alloc | apply Kd.R_drewN | apply Kd.R_drew)); exact Kd.R_mono HO_115000.out (fun _ hk => ⟨hk.2, hk.1⟩)) hg (.inl rfl)) (zs (Kd.R_after (v := (.slice (some ⟨go36, 0, none⟩) x4_1.length co36)) (v1 := (.slice (some ⟨go36, 0, none⟩) x4_1.length co36)) (ok := (fun k_ => some k_ ≠ (.slice Ao10 t107.length co10 : Value).ownBlock)) (by (with_reducible repeat (first | apply Kd.R_alloc | apply Kd.R_drewN | apply Kd.R_drew)); exact Kd.R_mono HO_115001.out (fun _ hk => ⟨hk.2, hk.1⟩)) hg (.inl rfl)) (zs (blk_grown (g := gb114) zBK hg (Kd.R_ne HO_4.out BK114.out (by decide))) (zs ((by rw [hw]; exact below_set (HB.out) GB36.out : Below w.heap.size w w39)) ?_)))); clear HO_4 HO_115000 HO_115001 BK114 HB; intro HB BK114 HO_115001 HO_115000 HO_4; clear hg hw hp_)); try go_wp2_with (first | (go_step3) | ((with_reducible refine gate_store (t := 3) (p := 73) rfl ?_); (try (rw [drewN_self wc]; generalize hq_ : World.drewN wc _ = wc; have n0_ := Aside0.mk (Kd.R_at hq_ HO_4.out); have n1_ := Aside0.mk (Kd.R_at hq_ HO_115000.out); have n2_ := Aside0.mk (Kd.R_at hq_ HO_115001.out); have n3_ := Aside0.mk (blk_at hq_ BK114.out); have n4_ := Aside0.mk (below_at hq_ HB.out); clear hq_ HO_4 HO_115000 HO_115001 BK114 HB; have HO_4 := n0_; have HO_115000 := n1_; have HO_115001 := n2_; have BK114 := n3_; have HB := n4_; clear n0_ n1_ n2_ n3_ n4_; (try (obtain ⟨hx36_0, hf36_0⟩ := Kd.R_celln 0 HO_4.out ((rd t110 x24_1) : Int) (of_eq_true p36) (of_eq_true q36))); (try (have HP38 := Kd.R_putg HO_4.out ((rd t110 x24_1) : Int) x8_2)))); refine store_event (t := 3) (p := 73) (v := ?vo_w39) (w1 := (wc.setCell ⟨go36, ((rd t110 x24_1) : Int).toNat, none⟩ (.int .i64 x8_2))) ?hg ?ho ?hn ?hr ?_; (case ho => rfl); (case hg => rfl); (case hn => rfl); (case hr => first | (go_simp; done) | (go_simp; rfl)); intro w39 hw; have hg : wc.grownBy w39 (some go36) := (by rw [hw]; exact HP38.2); have hp_ : Kd.R (Kd.int .i64) 3 w39 w.heap.size (fun k_ => some k_ ≠ (.slice Ao10 t107.length co10 : Value).ownBlock ∧ some k_ ≠ (.slice (some ad119) t110.length co12 : Value).ownBlock) (.slice (some ⟨go36, 0, none⟩) x4_1.length co36) y123 := (by rw [hw, Ny123.out]; exact HP38.1); clear HP38; refine zs hp_ (zs (Kd.R_after (v := (.slice (some ⟨go36, 0, none⟩) x4_1.length co36)) (v1 := (.slice (some ⟨go36, 0, none⟩) x4_1.length co36)) (ok := (fun k_ => some k_ ≠ (.slice (some ad119) t110.length co12 : Value).ownBlock)) (by (with_reducible repeat (first | apply Kd.R_alloc | apply Kd.R_drewN | apply Kd.R_drew)); exact Kd.R_mono HO_115000.out (fun _ hk => ⟨hk.2, hk.1⟩)) hg (.inl rfl)) (zs (Kd.R_after (v := (.slice (some ⟨go36, 0, none⟩) x4_1.length co36)) (v1 := (.slice (some ⟨go36, 0, none⟩) x4_1.length co36)) (ok := (fun k_ => some k_ ≠ (.slice Ao10 t107.length co10 : Value).ownBlock)) (by (with_reducible repeat (first | apply Kd.R_alloc | apply Kd.R_drewN | apply Kd.R_drew)); exact Kd.R_mono HO_115001.out (fun _ hk => ⟨hk.2, hk.1⟩)) hg (.inl rfl)) (zs (blk_grown (g := gb114) zBK hg (Kd.R_ne HO_4.out BK114.out (by decide))) (zs ((by rw [hw]; exact below_set (HB.out) GB36.out : Below w.heap.size w w39)) ?_)))); clear HO_4 HO_115000 HO_115001 BK114 HB; intro HB BK114 HO_115001 HO_115000 HO_4; clear hg hw hp_)))
                        go_roundg kj23
                        case measure => have := HK1.out; have := HK2.out; have := HJ23.out; omega
                        case rel => exact ⟨(y123), (wrap64 (x5_2 + 1)), (ji37), (wrap64 (x24_1 + 1)), zF', (by first | rfl | (simp; done) | (simp only [← hji37] <;> (first | rfl | simp)) | (simp [*]; done)), zF', H', ⟨by have := HK1.out; have := HK2.out; have := HJ23.out; omega⟩, ⟨by (with_reducible repeat (first | apply Kd.R_alloc | apply Kd.R_drewN | apply Kd.R_drew)); exact HO_4.out⟩, ⟨by (with_reducible repeat (first | apply Kd.R_alloc | apply Kd.R_drewN | apply Kd.R_drew)); exact Kd.R_mono HO_115000.out (fun _ hk => ⟨hk.2, hk.1⟩)⟩, ⟨by (with_reducible repeat (first | apply Kd.R_alloc | apply Kd.R_drewN | apply Kd.R_drew)); exact Kd.R_mono HO_115001.out (fun _ hk => ⟨hk.2, hk.1⟩)⟩, ⟨zBK⟩, ⟨zHB⟩⟩
                    · replace c26 := Bool.eq_false_iff.mpr c26
                      subst c26
                      rw [if_neg (show ¬ (false = true) by decide)] at H
                      obtain ⟨c40, H⟩ := zG H
                      have c40b0 := decide_eq_true c40
                      clear c40
                      obtain ⟨c41, H⟩ := zG H
                      have c41b0 := decide_eq_true c41
                      clear c41
                      obtain ⟨y124, hy124⟩ : ∃ y_ : List Int, y_ = (x4_1.set ((rd t110 x24_1) : Int).toNat x8_2) := ⟨_, rfl⟩
                      (try rw [← hy124] at H)
                      have Ny124 := Aside0.mk hy124
                      clear hy124
                      (try clear hji37_)
                      (try clear hji37)
                      obtain ⟨ji43, hji43⟩ : ∃ j_ : Int, (mx (wrap64 (x8_2 - 1)) 0) = j_ := ⟨_, rfl⟩
                      (first | rw [hji43] at H | simp only [hji43] at H)
                      have hji43_ : (if (wrap64 (x8_2 - 1)) < 0 then 0 else (wrap64 (x8_2 - 1))) = ji43 := hji43
                      have H' := Aside0.mk H
                      clear H
                      have p42 : 0 ≤ ((rd t110 x24_1) : Int) := zOD
                      have q42 : ((rd t110 x24_1) : Int) < ((x4_1.length : Int) : Int) := zOD
                      obtain ⟨go42, co42, eo42, gb42, gl42, cl42, HG42⟩ := Kd.R_form HO_4.out (by omega)
                      (first | cases eo42 | (injection eo42 with ea_ en_ ec_; (first | subst ea_ | (injection ea_ with ea_; subst ea_)); subst ec_; clear en_))
                      have GB42 := Aside0.mk gb42
                      have GG42 := Aside0.mk HG42
                      clear gb42 gl42 HG42
                      obtain ⟨hx42_0, hf42_0⟩ := Kd.R_celln 0 HO_4.out ((rd t110 x24_1) : Int) p42 q42
                      replace p42 := eq_true p42
                      replace q42 := eq_true q42
                      have HP44 := Kd.R_putg HO_4.out ((rd t110 x24_1) : Int) x8_2
                      go_wp2_with (first | (go_step3) | ((with_reducible refine gate_store (t := 3) (p := 73) rfl ?_); (try (rw [drewN_self wc]; generalize hq_ : World.drewN wc _ = wc; have n0_ := Aside0.mk (Kd.R_at hq_ HO_4.out); have n1_ := Aside0.mk (Kd.R_at hq_ HO_115000.out); have n2_ := Aside0.mk (Kd.R_at hq_ HO_115001.out); have n3_ := Aside0.mk (blk_at hq_ BK114.out); have n4_ := Aside0.mk (below_at hq_ HB.out); clear hq_ HO_4 HO_115000 HO_115001 BK114 HB; have HO_4 := n0_; have HO_115000 := n1_; have HO_115001 := n2_; have BK114 := n3_; have HB := n4_; clear n0_ n1_ n2_ n3_ n4_; (try (obtain ⟨hx42_0, hf42_0⟩ := Kd.R_celln 0 HO_4.out ((rd t110 x24_1) : Int) (of_eq_true p42) (of_eq_true q42))); (try (have HP44 := Kd.R_putg HO_4.out ((rd t110 x24_1) : Int) x8_2)))); refine store_event (t := 3) (p := 73) (v := ?vo_w45) (w1 := (wc.setCell ⟨go42, ((rd t110 x24_1) : Int).toNat, none⟩ (.int .i64 x8_2))) ?hg ?ho ?hn ?hr ?_; (case ho => rfl); (case hg => rfl); (case hn => rfl); (case hr => first | (go_simp; done) | (go_simp; rfl)); intro w45 hw; have hg : wc.grownBy w45 (some go42) := (by rw [hw]; exact HP44.2); have hp_ : Kd.R (Kd.int .i64) 3 w45 w.heap.size (fun k_ => some k_ ≠ (.slice Ao10 t107.length co10 : Value).ownBlock ∧ some k_ ≠ (.slice (some ad119) t110.length co12 : Value).ownBlock) (.slice (some ⟨go42, 0, none⟩) x4_1.length co42) y124 := (by rw [hw, Ny124.out]; exact HP44.1); clear HP44; refine zs hp_ (zs (Kd.R_after (v := (.slice (some ⟨go42, 0, none⟩) x4_1.length co42)) (v1 := (.slice (some ⟨go42, 0, none⟩) x4_1.length co42)) (ok := (fun k_ => some k_ ≠ (.slice (some ad119) t110.length co12 : Value).ownBlock)) (by (with_reducible repeat (first | apply Kd.R_alloc | apply Kd.R_drewN | apply Kd.R_drew)); exact Kd.R_mono HO_115000.out (fun _ hk => ⟨hk.2, hk.1⟩)) hg (.inl rfl)) (zs (Kd.R_after (v := (.slice (some ⟨go42, 0, none⟩) x4_1.length co42)) (v1 := (.slice (some ⟨go42, 0, none⟩) x4_1.length co42)) (ok := (fun k_ => some k_ ≠ (.slice Ao10 t107.length co10 : Value).ownBlock)) (by (with_reducible repeat (first | apply Kd.R_alloc | apply Kd.R_drewN | apply Kd.R_drew)); exact Kd.R_mono HO_115001.out (fun _ hk => ⟨hk.2, hk.1⟩)) hg (.inl rfl)) (zs (blk_grown (g := gb114) zBK hg (Kd.R_ne HO_4.out BK114.out (by decide))) (zs ((by rw [hw]; exact below_set (HB.out) GB42.out : Below w.heap.size w w45)) ?_)))); clear HO_4 HO_115000 HO_115001 BK114 HB; intro HB BK114 HO_115001 HO_115000 HO_4; clear hg hw hp_))
                      repeat (go_quiet (first | (go_step3) | ((with_reducible refine gate_store (t := 3) (p := 73) rfl ?_); (try (rw [drewN_self wc]; generalize hq_ : World.drewN wc _ = wc; have n0_ := Aside0.mk (Kd.R_at hq_ HO_4.out); have n1_ := Aside0.mk (Kd.R_at hq_ HO_115000.out); have n2_ := Aside0.mk (Kd.R_at hq_ HO_115001.out); have n3_ := Aside0.mk (blk_at hq_ BK114.out); have n4_ := Aside0.mk (below_at hq_ HB.out); clear hq_ HO_4 HO_115000 HO_115001 BK114 HB; have HO_4 := n0_; have HO_115000 := n1_; have HO_115001 := n2_; have BK114 := n3_; have HB := n4_; clear n0_ n1_ n2_ n3_ n4_; (try (obtain ⟨hx42_0, hf42_0⟩ := Kd.R_celln 0 HO_4.out ((rd t110 x24_1) : Int) (of_eq_true p42) (of_eq_true q42))); (try (have HP44 := Kd.R_putg HO_4.out ((rd t110 x24_1) : Int) x8_2)))); refine store_event (t := 3) (p := 73) (v := ?vo_w45) (w1 := (wc.setCell ⟨go42, ((rd t110 x24_1) : Int).toNat, none⟩ (.int .i64 x8_2))) ?hg ?ho ?hn ?hr ?_; (case ho => rfl); (case hg => rfl); (case hn => rfl); (case hr => first | (go_simp; done) | (go_simp; rfl)); intro w45 hw; have hg : wc.grownBy w45 (some go42) := (by rw [hw]; exact HP44.2); have hp_ : Kd.R (Kd.int .i64) 3 w45 w.heap.size (fun k_ => some k_ ≠ (.slice Ao10 t107.length co10 : Value).ownBlock ∧ some k_ ≠ (.slice (some ad119) t110.length co12 : Value).ownBlock) (.slice (some ⟨go42, 0, none⟩) x4_1.length co42) y124 := (by rw [hw, Ny124.out]; exact HP44.1); clear HP44; refine zs hp_ (zs (Kd.R_after (v := (.slice (some ⟨go42, 0, none⟩) x4_1.length co42)) (v1 := (.slice (some ⟨go42, 0, none⟩) x4_1.length co42)) (ok := (fun k_ => some k_ ≠ (.slice (some ad119) t110.length co12 : Value).ownBlock)) (by (with_reducible repeat (first | apply Kd.R_alloc | apply Kd.R_drewN | apply Kd.R_drew)); exact Kd.R_mono HO_115000.out (fun _ hk => ⟨hk.2, hk.1⟩)) hg (.inl rfl)) (zs (Kd.R_after (v := (.slice (some ⟨go42, 0, none⟩) x4_1.length co42)) (v1 := (.slice (some ⟨go42, 0, none⟩) x4_1.length co42)) (ok := (fun k_ => some k_ ≠ (.slice Ao10 t107.length co10 : Value).ownBlock)) (by (with_reducible repeat (first | apply Kd.R_alloc | apply Kd.R_drewN | apply Kd.R_drew)); exact Kd.R_mono HO_115001.out (fun _ hk => ⟨hk.2, hk.1⟩)) hg (.inl rfl)) (zs (blk_grown (g := gb114) zBK hg (Kd.R_ne HO_4.out BK114.out (by decide))) (zs ((by rw [hw]; exact below_set (HB.out) GB42.out : Below w.heap.size w w45)) ?_)))); clear HO_4 HO_115000 HO_115001 BK114 HB; intro HB BK114 HO_115001 HO_115000 HO_4; clear hg hw hp_)); try go_wp2_with (first | (go_step3) | ((with_reducible refine gate_store (t := 3) (p := 73) rfl ?_); (try (rw [drewN_self wc]; generalize hq_ : World.drewN wc _ = wc; have n0_ := Aside0.mk (Kd.R_at hq_ HO_4.out); have n1_ := Aside0.mk (Kd.R_at hq_ HO_115000.out); have n2_ := Aside0.mk (Kd.R_at hq_ HO_115001.out); have n3_ := Aside0.mk (blk_at hq_ BK114.out); have n4_ := Aside0.mk (below_at hq_ HB.out); clear hq_ HO_4 HO_115000 HO_115001 BK114 HB; have HO_4 := n0_; have HO_115000 := n1_; have HO_115001 := n2_; have BK114 := n3_; have HB := n4_; clear n0_ n1_ n2_ n3_ n4_; (try (obtain ⟨hx42_0, hf42_0⟩ := Kd.R_celln 0 HO_4.out ((rd t110 x24_1) : Int) (of_eq_true p42) (of_eq_true q42))); (try (have HP44 := Kd.R_putg HO_4.out ((rd t110 x24_1) : Int) x8_2)))); refine store_event (t := 3) (p := 73) (v := ?vo_w45) (w1 := (wc.setCell ⟨go42, ((rd t110 x24_1) : Int).toNat, none⟩ (.int .i64 x8_2))) ?hg ?ho ?hn ?hr ?_; (case ho => rfl); (case hg => rfl); (case hn => rfl); (case hr => first | (go_simp; done) | (go_simp; rfl)); intro w45 hw; have hg : wc.grownBy w45 (some go42) := (by rw [hw]; exact HP44.2); have hp_ : Kd.R (Kd.int .i64) 3 w45 w.heap.size (fun k_ => some k_ ≠ (.slice Ao10 t107.length co10 : Value).ownBlock ∧ some k_ ≠ (.slice (some ad119) t110.length co12 : Value).ownBlock) (.slice (some ⟨go42, 0, none⟩) x4_1.length co42) y124 := (by rw [hw, Ny124.out]; exact HP44.1); clear HP44; refine zs hp_ (zs (Kd.R_after (v := (.slice (some ⟨go42, 0, none⟩) x4_1.length co42)) (v1 := (.slice (some ⟨go42, 0, none⟩) x4_1.length co42)) (ok := (fun k_ => some k_ ≠ (.slice (some ad119) t110.length co12 : Value).ownBlock)) (by (with_reducible repeat (first | apply Kd.R_alloc | apply Kd.R_drewN | apply Kd.R_drew)); exact Kd.R_mono HO_115000.out (fun _ hk => ⟨hk.2, hk.1⟩)) hg (.inl rfl)) (zs (Kd.R_after (v := (.slice (some ⟨go42, 0, none⟩) x4_1.length co42)) (v1 := (.slice (some ⟨go42, 0, none⟩) x4_1.length co42)) (ok := (fun k_ => some k_ ≠ (.slice Ao10 t107.length co10 : Value).ownBlock)) (by (with_reducible repeat (first | apply Kd.R_alloc | apply Kd.R_drewN | apply Kd.R_drew)); exact Kd.R_mono HO_115001.out (fun _ hk => ⟨hk.2, hk.1⟩)) hg (.inl rfl)) (zs (blk_grown (g := gb114) zBK hg (Kd.R_ne HO_4.out BK114.out (by decide))) (zs ((by rw [hw]; exact below_set (HB.out) GB42.out : Below w.heap.size w w45)) ?_)))); clear HO_4 HO_115000 HO_115001 BK114 HB; intro HB BK114 HO_115001 HO_115000 HO_4; clear hg hw hp_)))
                      go_roundg kj23
                      case measure => have := HK1.out; have := HK2.out; have := HJ23.out; omega
                      case rel => exact ⟨(y124), (x5_2), (ji43), (wrap64 (x24_1 + 1)), zF', (by first | rfl | (simp; done) | (simp only [← hji43] <;> (first | rfl | simp)) | (simp [*]; done)), zF', H', ⟨by have := HK1.out; have := HK2.out; have := HJ23.out; omega⟩, ⟨by (with_reducible repeat (first | apply Kd.R_alloc | apply Kd.R_drewN | apply Kd.R_drew)); exact HO_4.out⟩, ⟨by (with_reducible repeat (first | apply Kd.R_alloc | apply Kd.R_drewN | apply Kd.R_drew)); exact Kd.R_mono HO_115000.out (fun _ hk => ⟨hk.2, hk.1⟩)⟩, ⟨by (with_reducible repeat (first | apply Kd.R_alloc | apply Kd.R_drewN | apply Kd.R_drew)); exact Kd.R_mono HO_115001.out (fun _ hk => ⟨hk.2, hk.1⟩)⟩, ⟨zBK⟩, ⟨zHB⟩⟩
        · rw [if_neg c15] at H
          have c15b0 := decide_eq_false c15
          clear c15
          obtain ⟨ji46, hji46⟩ : ∃ j_ : Int, (mx x5_1 (wrap64 ((l0.length : Int) - 1))) = j_ := ⟨_, rfl⟩
          (first | rw [hji46] at H | simp only [hji46] at H)
          have hji46_ : (if x5_1 < (wrap64 ((l0.length : Int) - 1)) then (wrap64 ((l0.length : Int) - 1)) else x5_1) = ji46 := hji46
          simp only [Option.some.injEq, Prod.mk.injEq] at H
          obtain ⟨rfl, rfl, rfl⟩ := H
          go_wp2_with (first | (go_step3))
          repeat (go_quiet (first | (go_step3)); try go_wp2_with (first | (go_step3)))
          (try rw [Exit.noGoto_ret])
          go_ret3
          exact ⟨_, by first | rfl | (simp [errW_none, errW_some] <;> rfl) | (simp only [← hji46]; first | rfl | (simp [errW_none, errW_some] <;> rfl)) | (simp [*, errW_none, errW_some] <;> rfl), by (with_reducible repeat (first | apply Kd.R_alloc | apply Kd.R_drewN | apply Kd.R_drew)); exact Kd.R_mono HO_4.out (fun _ hk => trivial), zHB⟩
  · replace c5 := Bool.eq_false_iff.mpr c5
    subst c5
    rw [if_neg (show ¬ (false = true) by decide)] at H
    simp only [Option.some.injEq, Prod.mk.injEq] at H
    obtain ⟨rfl, rfl, rfl⟩ := H
    go_enter Try.func21, Try.ntmps21
    go_wp2_with (first | (go_step3) | (go_at_call 19; (with_reducible refine (suffix_Of.calls _ _ l0 t107 t110 t113 _ ?side1 ?side2 A3.out).mono ?_); (case side1 => exact zS); (case side2 => exact zS); rintro e w47 ⟨v108, v111, rfl, ho0, ho1, hb⟩; refine zs (Kd.R_lower ho0 (below_size (zHB))) (zs (Kd.R_lower ho1 (below_size (zHB))) (zs (below_step (zHB) hb) ?_)); clear HB; intro HB HO112 HO109; clear hb ho0 ho1) | ((with_reducible refine gate_dst (N := 7) rfl ?_); (try (refine gate_guard (by rfl) ?_; dsimp only)); refine zBox (N := 7) (cs := #[.slice none 0 0, .slice none 0 0, .int .i64 0]) (t := 42) ?_; intro gb114 hg w48 hbox hb; refine zs (Kd.R_below (by (with_reducible repeat (first | apply Kd.R_alloc | apply Kd.R_drewN | apply Kd.R_drew)); exact HO109.out) hb) (zs (Kd.R_below (by (with_reducible repeat (first | apply Kd.R_alloc | apply Kd.R_drewN | apply Kd.R_drew)); exact HO112.out) hb) (zs (below_step (zHB) hb) (zs hbox (zs (zGe hg zHB) (zs (zGe hg zHB) ?_))))); clear HO109 HO112 HB; intro GE114 GW114 BK114 HB HO112 HO109; clear hb hbox hg; obtain ⟨Ao49, co49, eo49⟩ := Kd.R_slice HO109.out; subst eo49; have hcz50 := blk_cell BK114.out; have hfz50 := blk_frozen BK114.out; obtain ⟨Ao51, co51, eo51⟩ := Kd.R_slice HO112.out; subst eo51) | (go_at_call 43; (with_reducible refine (slices_Equal_int_int.calls k _ _ t107 _ _ l1 false _ ?side1 ?side2 ?side3 ?side4 A4.out).mono ?_); (case side1 => refine (Kd.R_reads' (e := 3) (base := w.heap.size) (ok := fun k_ => some k_ ≠ (.slice Ao51 t110.length co51 : Value).ownBlock) (n := t107.length) (c := co49) ?_).2.2; exact (by (with_reducible repeat (first | apply Kd.R_alloc | apply Kd.R_drewN | apply Kd.R_drew)); exact (Kd.R_mono (Kd.R_far (p := ⟨gb114, 2, none⟩) (Kd.R_far (p := ⟨gb114, 1, none⟩) (Kd.R_far (p := ⟨gb114, 0, none⟩) (Kd.R_types HO109.out BK114.out (by decide)) (fun _ hk => hk.2) (.slice Ao49 t107.length co49)) (fun _ hk => hk.2) (.slice Ao51 t110.length co51)) (fun _ hk => hk.2) (.int .i64 t113)) (fun _ h_ => h_.1)))); (case side2 => exact zS); (case side3 => exact Kd.C_below HR1.out (zHB)); (case side4 => exact zS); rintro e w' ⟨rfl, ⟨nd, rfl⟩⟩; (try first | exact ⟨rfl, _, World.drewN_drewN _ _ _⟩ | exact ⟨rfl, _, Eq.trans (World.drewN_drewN _ _ _) (congrArg (World.drewN _) (Nat.add_assoc _ _ _))⟩)))
    repeat (go_quiet (first | (go_step3) | (go_at_call 19; (with_reducible refine (suffix_Of.calls _ _ l0 t107 t110 t113 _ ?side1 ?side2 A3.out).mono ?_); (case side1 => exact zS); (case side2 => exact zS); rintro e w47 ⟨v108, v111, rfl, ho0, ho1, hb⟩; refine zs (Kd.R_lower ho0 (below_size (zHB))) (zs (Kd.R_lower ho1 (below_size (zHB))) (zs (below_step (zHB) hb) ?_)); clear HB; intro HB HO112 HO109; clear hb ho0 ho1) | ((with_reducible refine gate_dst (N := 7) rfl ?_); (try (refine gate_guard (by rfl) ?_; dsimp only)); refine zBox (N := 7) (cs := #[.slice none 0 0, .slice none 0 0, .int .i64 0]) (t := 42) ?_; intro gb114 hg w48 hbox hb; refine zs (Kd.R_below (by (with_reducible repeat (first | apply Kd.R_alloc | apply Kd.R_drewN | apply Kd.R_drew)); exact HO109.out) hb) (zs (Kd.R_below (by (with_reducible repeat (first | apply Kd.R_alloc | apply Kd.R_drewN | apply Kd.R_drew)); exact HO112.out) hb) (zs (below_step (zHB) hb) (zs hbox (zs (zGe hg zHB) (zs (zGe hg zHB) ?_))))); clear HO109 HO112 HB; intro GE114 GW114 BK114 HB HO112 HO109; clear hb hbox hg; obtain ⟨Ao49, co49, eo49⟩ := Kd.R_slice HO109.out; subst eo49; have hcz50 := blk_cell BK114.out; have hfz50 := blk_frozen BK114.out; obtain ⟨Ao51, co51, eo51⟩ := Kd.R_slice HO112.out; subst eo51) | (go_at_call 43; (with_reducible refine (slices_Equal_int_int.calls k _ _ t107 _ _ l1 false _ ?side1 ?side2 ?side3 ?side4 A4.out).mono ?_); (case side1 => refine (Kd.R_reads' (e := 3) (base := w.heap.size) (ok := fun k_ => some k_ ≠ (.slice Ao51 t110.length co51 : Value).ownBlock) (n := t107.length) (c := co49) ?_).2.2; exact (by (with_reducible repeat (first | apply Kd.R_alloc | apply Kd.R_drewN | apply Kd.R_drew)); exact (Kd.R_mono (Kd.R_far (p := ⟨gb114, 2, none⟩) (Kd.R_far (p := ⟨gb114, 1, none⟩) (Kd.R_far (p := ⟨gb114, 0, none⟩) (Kd.R_types HO109.out BK114.out (by decide)) (fun _ hk => hk.2) (.slice Ao49 t107.length co49)) (fun _ hk => hk.2) (.slice Ao51 t110.length co51)) (fun _ hk => hk.2) (.int .i64 t113)) (fun _ h_ => h_.1)))); (case side2 => exact zS); (case side3 => exact Kd.C_below HR1.out (zHB)); (case side4 => exact zS); rintro e w' ⟨rfl, ⟨nd, rfl⟩⟩; (try first | exact ⟨rfl, _, World.drewN_drewN _ _ _⟩ | exact ⟨rfl, _, Eq.trans (World.drewN_drewN _ _ _) (congrArg (World.drewN _) (Nat.add_assoc _ _ _))⟩))); try go_wp2_with (first | (go_step3) | (go_at_call 19; (with_reducible refine (suffix_Of.calls _ _ l0 t107 t110 t113 _ ?side1 ?side2 A3.out).mono ?_); (case side1 => exact zS); (case side2 => exact zS); rintro e w47 ⟨v108, v111, rfl, ho0, ho1, hb⟩; refine zs (Kd.R_lower ho0 (below_size (zHB))) (zs (Kd.R_lower ho1 (below_size (zHB))) (zs (below_step (zHB) hb) ?_)); clear HB; intro HB HO112 HO109; clear hb ho0 ho1) | ((with_reducible refine gate_dst (N := 7) rfl ?_); (try (refine gate_guard (by rfl) ?_; dsimp only)); refine zBox (N := 7) (cs := #[.slice none 0 0, .slice none 0 0, .int .i64 0]) (t := 42) ?_; intro gb114 hg w48 hbox hb; refine zs (Kd.R_below (by (with_reducible repeat (first | apply Kd.R_alloc | apply Kd.R_drewN | apply Kd.R_drew)); exact HO109.out) hb) (zs (Kd.R_below (by (with_reducible repeat (first | apply Kd.R_alloc | apply Kd.R_drewN | apply Kd.R_drew)); exact HO112.out) hb) (zs (below_step (zHB) hb) (zs hbox (zs (zGe hg zHB) (zs (zGe hg zHB) ?_))))); clear HO109 HO112 HB; intro GE114 GW114 BK114 HB HO112 HO109; clear hb hbox hg; obtain ⟨Ao49, co49, eo49⟩ := Kd.R_slice HO109.out; subst eo49; have hcz50 := blk_cell BK114.out; have hfz50 := blk_frozen BK114.out; obtain ⟨Ao51, co51, eo51⟩ := Kd.R_slice HO112.out; subst eo51) | (go_at_call 43; (with_reducible refine (slices_Equal_int_int.calls k _ _ t107 _ _ l1 false _ ?side1 ?side2 ?side3 ?side4 A4.out).mono ?_); (case side1 => refine (Kd.R_reads' (e := 3) (base := w.heap.size) (ok := fun k_ => some k_ ≠ (.slice Ao51 t110.length co51 : Value).ownBlock) (n := t107.length) (c := co49) ?_).2.2; exact (by (with_reducible repeat (first | apply Kd.R_alloc | apply Kd.R_drewN | apply Kd.R_drew)); exact (Kd.R_mono (Kd.R_far (p := ⟨gb114, 2, none⟩) (Kd.R_far (p := ⟨gb114, 1, none⟩) (Kd.R_far (p := ⟨gb114, 0, none⟩) (Kd.R_types HO109.out BK114.out (by decide)) (fun _ hk => hk.2) (.slice Ao49 t107.length co49)) (fun _ hk => hk.2) (.slice Ao51 t110.length co51)) (fun _ hk => hk.2) (.int .i64 t113)) (fun _ h_ => h_.1)))); (case side2 => exact zS); (case side3 => exact Kd.C_below HR1.out (zHB)); (case side4 => exact zS); rintro e w' ⟨rfl, ⟨nd, rfl⟩⟩; (try first | exact ⟨rfl, _, World.drewN_drewN _ _ _⟩ | exact ⟨rfl, _, Eq.trans (World.drewN_drewN _ _ _) (congrArg (World.drewN _) (Nat.add_assoc _ _ _))⟩))))
    (try rw [Exit.noGoto_ret])
    go_ret3
    exact ⟨_, zE, by first | exact Kd.R_nil _ _ _ _ _ | exact Kd.N_nil _ _ _ _ _ | exact Kd.V_nil _ _ _ _ _ | exact Kd.Q_nil _ _ _ _ _ | exact Kd.S_nil _ _ _ _ _, zHB⟩

end Go.Proofs.Ythkiapcoagjjpaa.PCommonRows
