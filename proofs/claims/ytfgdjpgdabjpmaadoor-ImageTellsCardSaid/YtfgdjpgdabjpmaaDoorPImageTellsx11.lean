-- Written for this claim by a program of this session (wip/tools/pp.py, over the kit's print).
import Derived.Test.YtfgdjpgdabjpmaaDoorPImageTellsx0
import Derived.Test.YtfgdjpgdabjpmaaDoorPImageTellsx1
import Derived.Test.YtfgdjpgdabjpmaaDoorPImageTellsx3
import Derived.Test.YtfgdjpgdabjpmaaDoorPImageTellsx4
import Derived.Test.YtfgdjpgdabjpmaaDoorPImageTellsx6
import Derived.Test.YtfgdjpgdabjpmaaDoorPImageTellsx10
namespace Go.Proofs.YtfgdjpgdabjpmaaDoor.PImageTells
open Go.RowKit Go.Proofs.YtfgdjpgdabjpmaaDoorW.PrintWords Go.Proofs.YtfgdjpgdabjpmaaDoorW.PrintLast Go.Proofs.YtfgdjpgdabjpmaaDoorW.PrintMore
attribute [local go_sem] max2_int min2_int max_two min_two max_three min_three max_four min_four   -- for this text's walks alone
set_option linter.unusedVariables false
set_option linter.unusedSimpArgs false

/-! ### pleatref07_Bytes: function 70 -/
mutual
def pleatref07_Bytes.l0 : Nat → List Int → Int → List Int → Int → List Int → Option (List Int)
  | 0, _, _, _, _, _ => none
  | k + 1, x3, x4, x248000, x248001, x248002 => if x4 < (x248000.length : Int) then (if 0 ≤ x4 then ((pleatref07_four.f (rd x248000 x4)).bind fun t258 => (if x3.length + t258.length < 140737488355328 then (pleatref07_Bytes.l0 k (x3 ++ t258) (wrap64 (x4 + 1)) x248000 x248001 x248002) else (none))) else (none)) else ((pleatref07_four.f ((x248001) % 4294967296)).bind fun t264 => (if x3.length + t264.length < 140737488355328 then ((some (x3 ++ t264 : List Int)).bind fun y267 => ((pleatref07_four.f (((x248002.length : Int)) % 4294967296)).bind fun t270 => (if y267.length + t270.length < 140737488355328 then (pleatref07_Bytes.l1 k (y267 ++ t270) 0 x248000 x248001 x248002) else (none)))) else (none)))
def pleatref07_Bytes.l1 : Nat → List Int → Int → List Int → Int → List Int → Option (List Int)
  | 0, _, _, _, _, _ => none
  | k + 1, x3, x5, x248000, x248001, x248002 => if x5 < (x248002.length : Int) then (if 0 ≤ x5 then ((pleatref07_eight.f (rd x248002 x5)).bind fun t277 => (if x3.length + t277.length < 140737488355328 then (pleatref07_Bytes.l1 k (x3 ++ t277) (wrap64 (x5 + 1)) x248000 x248001 x248002) else (none))) else (none)) else ((pleatref07_Sum.f k x3).bind fun t283 => ((pleatref07_four.f t283).bind fun t284 => (if x3.length + t284.length < 140737488355328 then (some (x3 ++ t284)) else (none))))
end
def pleatref07_Bytes.f (k : Nat) (l0_0 : List Int) (a0_1 : Int) (l0_2 : List Int) : Option (List Int) := (some (([80, 76, 73, 49] : List Int) : List Int)).bind fun y248 => ((pleatref07_four.f (((l0_0.length : Int)) % 4294967296)).bind fun t251 => (if y248.length + t251.length < 140737488355328 then (pleatref07_Bytes.l0 k (y248 ++ t251) 0 l0_0 a0_1 l0_2) else (none)))
theorem pleatref07_Bytes.mono_l : ∀ k, (∀ y0 y1 y2 y3 y4, LeO (pleatref07_Bytes.l0 k y0 y1 y2 y3 y4) (pleatref07_Bytes.l0 (k + 1) y0 y1 y2 y3 y4)) ∧ (∀ y0 y1 y2 y3 y4, LeO (pleatref07_Bytes.l1 k y0 y1 y2 y3 y4) (pleatref07_Bytes.l1 (k + 1) y0 y1 y2 y3 y4))
  | 0 => ⟨fun _ _ _ _ _ r h => by simp [pleatref07_Bytes.l0] at h, fun _ _ _ _ _ r h => by simp [pleatref07_Bytes.l1] at h⟩
  | k + 1 => by
    obtain ⟨ih0, ih1⟩ := pleatref07_Bytes.mono_l k
    refine ⟨?_, ?_⟩
    · intro y0 y1 y2 y3 y4
      unfold pleatref07_Bytes.l0
      have m0 := @pleatref07_Sum.mono
      exact zMo
    · intro y0 y1 y2 y3 y4
      unfold pleatref07_Bytes.l1
      have m0 := @pleatref07_Sum.mono
      exact zMo
theorem pleatref07_Bytes.mono : ∀ a0 a1 a2 k, LeO (pleatref07_Bytes.f k a0 a1 a2) (pleatref07_Bytes.f (k + 1) a0 a1 a2) := by
  intro a0 a1 a2 k
  obtain ⟨ih0, ih1⟩ := pleatref07_Bytes.mono_l k
  unfold pleatref07_Bytes.f
  have m0 := @pleatref07_Sum.mono
  exact zMo
set_option maxHeartbeats 8000000 in
set_option maxRecDepth 100000 in
theorem pleatref07_Bytes.calls (k : Nat) (A0_0 : Option Addr) (c0_0 : Nat) (l0_0 : List Int) (a0_1 : Int) (A0_2 : Option Addr) (c0_2 : Nat) (l0_2 : List Int) (r : List Int) (w : World) (hr0_0 : Kd.C (Kd.int .u32) w A0_0 l0_0.length l0_0) (hc0_0 : l0_0.length ≤ c0_0) (hr0_2 : Kd.C (Kd.int .i64) w A0_2 l0_2.length l0_2) (hc0_2 : l0_2.length ≤ c0_2) (h : pleatref07_Bytes.f k l0_0 a0_1 l0_2 = some r) :
    Calls Tryd.prog 70 #[.agg #[.slice A0_0 l0_0.length c0_0, .int .i64 a0_1, .slice A0_2 l0_2.length c0_2]] w fun e w' => ∃ v0_ : Value, e = .returned (v0_) ∧ Kd.R (Kd.int .u8) 5 w' w.heap.size (fun _ => True) v0_ r ∧ Below w.heap.size w w' := by
  have hu25 := Tryd.underlying25
  have HR0_0 := Aside0.mk hr0_0
  have HC0_0 := Aside0.mk hc0_0
  clear hr0_0 hc0_0
  have HR0_2 := Aside0.mk hr0_2
  have HC0_2 := Aside0.mk hc0_2
  clear hr0_2 hc0_2
  have HB := Aside0.mk (Below.refl w.heap.size w)
  have H := h
  clear h
  unfold pleatref07_Bytes.f at H
  obtain ⟨y248, hy248⟩ : ∃ y_ : List Int, y_ = (([80, 76, 73, 49] : List Int)) := ⟨_, rfl⟩
  replace H := (Option.bind_some _ _).symm.trans H
  (try rw [← hy248] at H)
  have Ny248 := Aside0.mk hy248
  clear hy248
  replace H := Option.bind_eq_some_iff.mp H
  obtain ⟨t251, A20, H⟩ := H
  (try dsimp only at H)
  have A2 := Aside0.mk A20
  clear A20
  obtain ⟨c3, H⟩ := zG H
  have LMc3 := Aside0.mk c3
  clear c3
  obtain ⟨y254, hy254⟩ : ∃ y_ : List Int, y_ = (y248 ++ t251) := ⟨_, rfl⟩
  (try rw [← hy254] at H)
  have Ny254 := Aside0.mk hy254
  clear hy254
  have H' := Aside0.mk H
  clear H
  go_enter Tryd.func70, Tryd.ntmps70
  go_wp2_with (first | ((with_reducible refine gate_dst (N := 1) rfl ?_); refine zBox (N := 1) (cs := #[.slice A0_0 l0_0.length c0_0, .int .i64 a0_1, .slice A0_2 l0_2.length c0_2]) (t := 25) ?_; intro gb247 hg w4 hbox hb; refine zs (below_step (zHB) hb) (zs hbox (zs (zGe hg zHB) (zs (zGe hg zHB) ?_))); clear HB; intro GE247 GW247 BK247 HB; clear hb hbox hg) | ((with_reducible refine gate_dst (N := 6) rfl ?_); refine Kd.R_lit (Kd.int .u8) _ 5 ?hg (N := 6) ?hd (xs := ([80, 76, 73, 49] : List Int)) (inner := [.int .u8 80, .int .u8 76, .int .u8 73, .int .u8 49]) (ok := fun _ => True) (okp := fun _ => True) ?hr ?hp (fun _ hk => hk) trivial (Below.refl _ _) (Nat.le_refl _) (by simp) ?_; (case hd => rfl); (case hg => rfl); (case hr => first | (go_simp; done) | (go_simp; rfl)); (case hp => exact (Reps.one (show Kd.M (Kd.int .u8) _ _ _ 80 [.int .u8 80] from rfl) (Reps.one (show Kd.M (Kd.int .u8) _ _ _ 76 [.int .u8 76] from rfl) (Reps.one (show Kd.M (Kd.int .u8) _ _ _ 73 [.int .u8 73] from rfl) (Reps.one (show Kd.M (Kd.int .u8) _ _ _ 49 [.int .u8 49] from rfl) (Reps.none _ _)))))); intro v249 w5 ho6 hb hg_ hnew_; clear hg_ hnew_; (first | rw [← Ny248.out] at ho6 | (simp only [Int.reduceToNat] at ho6; rw [← Ny248.out] at ho6)); refine zs (Kd.R_lower ho6 (below_size (zHB))) (zs (blk_below (g := gb247) zBK hb) (zs (below_step (zHB) hb) ?_)); clear BK247 HB; intro HB BK247 HO250; clear hb ho6; have hcz7 := blk_cell BK247.out; have hfz7 := blk_frozen BK247.out) | ((with_reducible refine gate_callee (f := 88) rfl ?_); refine zGo (N := (some 12)) Tryd.func88 #[.int .u32 (((l0_0.length : Int)) % 4294967296)] ?_; (with_reducible refine (pleatref07_four.calls (((l0_0.length : Int)) % 4294967296) t251 _ A2.out).mono ?_); rintro e w8 ⟨v252, rfl, ho0, hb⟩; refine ⟨_, rfl, ?_⟩; refine zs (Kd.R_elder' (by (with_reducible repeat (first | apply Kd.R_alloc | apply Kd.R_drewN | apply Kd.R_drew)); exact HO250.out) (Kd.R_base ho0) hb) (zs (Kd.R_lower (Kd.R_new' ho0 (Kd.R_lt (by (with_reducible repeat (first | apply Kd.R_alloc | apply Kd.R_drewN | apply Kd.R_drew)); exact HO250.out))) (below_size (zHB))) (zs (blk_below (g := gb247) zBK hb) (zs (below_step (zHB) hb) ?_))); clear HO250 BK247 HB; intro HB BK247 HO253 HO250; clear hb ho0; obtain ⟨Ao10, co10, eo10⟩ := Kd.R_slice HO253.out; subst eo10) | ((with_reducible refine gate_builtin (b := .append) (xs := #[.tmp 7, .tmp 12]) rfl ?_); at_builtin; refine Kd.R_append_rows (Kd.int .u8) (w0 := w) w.heap.size rfl (.tmp 7) (.tmp 12) 64 5 (.int .u8 0) 1 rfl Tryd.underlying64 info5 rfl (by decide) (by omega) v249 y248 t251 _ _ _ (fun k_ => some k_ ≠ (.slice Ao10 t251.length co10 : Value).ownBlock) (fun _ => False) rfl rfl ?aO ?aR (fun _ _ h => h) (fun _ h => h.elim) ?aF ?aB ?aS ?aL ?_; (case aR => repeat (first | exact (Kd.R_reads' HO253.out).2.2 | (with_reducible refine Kd.C_alloc ?_ _) | (with_reducible refine Kd.C_drewN ?_ _) | (with_reducible refine Kd.C_drew ?_))); (case aB => exact (zHB)); (case aF => exact (fun k_ hk => Kd.fresh' (Kd.R_lt (by (with_reducible repeat (first | apply Kd.R_alloc | apply Kd.R_drewN | apply Kd.R_drew)); exact HO253.out)) k_ hk)); (case aO => exact (by (with_reducible repeat (first | apply Kd.R_alloc | apply Kd.R_drewN | apply Kd.R_drew)); exact Kd.R_mono HO250.out (fun _ hk => hk.2))); (case aS => exact (below_size (zHB))); (case aL => have := LMc3.out; omega); intro v255 w9 ho hb hg hat; rw [← Ny254.out] at ho; refine zs (blk_grown (g := gb247) zBK hg (Kd.R_ne HO250.out BK247.out (by decide))) (zs (Kd.R_after (ok := (fun _ => True)) (by (with_reducible repeat (first | apply Kd.R_alloc | apply Kd.R_drewN | apply Kd.R_drew)); exact HO253.out) hg hat) (zs hb (zs (ho) ?_))); clear BK247 HO253 HB HO250; intro HO256 HB HO253 BK247; clear ho hb hg hat))
  go_loopg [3, 4] k (fun kq v3 v4 w' => ∃ (x3_1 : List Int) (x4_1 : Int), v4 = .int .i64 x4_1 ∧ Aside0 (pleatref07_Bytes.l0 kq x3_1 x4_1 l0_0 a0_1 l0_2 = some r) ∧ Aside0 (kq ≤ k) ∧ Aside0 (Kd.R (Kd.int .u8) 5 w' w.heap.size (fun _ => True) v3 x3_1) ∧ Aside0 (w'.heap[gb247]? = some (.cells #[(.slice A0_0 l0_0.length c0_0), .int .i64 a0_1, (.slice A0_2 l0_2.length c0_2)] 25 (0, 0))) ∧ Aside0 (Below w.heap.size w w'))
  case atStart => exact ⟨(y254), (0), zF', H', ⟨Nat.le_refl _⟩, ⟨by (with_reducible repeat (first | apply Kd.R_alloc | apply Kd.R_drewN | apply Kd.R_drew)); exact Kd.R_mono HO256.out (fun _ hk => trivial)⟩, ⟨zBK⟩, ⟨zHB⟩⟩
  case round =>
    clear H'
    try clear c3
    try clear hcz7
    try clear hfz7
    obtain ⟨x3_1, x4_1, rfl, HA, HK1, HO_3, BK247, HB⟩ := hrel
    cases gk with
    | zero => exact absurd HA.out (by simp [pleatref07_Bytes.l0])
    | succ k1 =>
      have H := HA.out
      clear HA
      simp only [pleatref07_Bytes.l0] at H
      by_cases c11 : x4_1 < (l0_0.length : Int)
      · rw [if_pos c11] at H
        have c11b0 := decide_eq_true c11
        clear c11
        obtain ⟨c12, H⟩ := zG H
        have c12b0 := decide_eq_true c12
        clear c12
        replace H := Option.bind_eq_some_iff.mp H
        obtain ⟨t258, A130, H⟩ := H
        (try dsimp only at H)
        have A13 := Aside0.mk A130
        clear A130
        obtain ⟨c14, H⟩ := zG H
        have LMc14 := Aside0.mk c14
        clear c14
        obtain ⟨y261, hy261⟩ : ∃ y_ : List Int, y_ = (x3_1 ++ t258) := ⟨_, rfl⟩
        (try rw [← hy261] at H)
        have Ny261 := Aside0.mk hy261
        clear hy261
        have H' := Aside0.mk H
        clear H
        have hcz15 := blk_cell BK247.out
        have hfz15 := blk_frozen BK247.out
        have p257 : 0 ≤ (x4_1 : Int) := zOD
        have q257 : x4_1 < (l0_0.length : Int) := zOD
        obtain ⟨ad257, e257, hx257_0⟩ := Kd.at_int HR0_0.out x4_1 p257 q257
        cases e257
        replace hx257_0 := (HB.out.cell (World.block_lt_of_cell? w _ hx257_0)).trans hx257_0
        replace p257 := eq_true p257
        replace q257 := eq_true q257
        go_wp2_with (first | ((with_reducible refine gate_callee (f := 88) rfl ?_); refine zGo (N := (some 27)) Tryd.func88 #[.int .u32 (rd l0_0 x4_1)] ?_; (with_reducible refine (pleatref07_four.calls (rd l0_0 x4_1) t258 _ A13.out).mono ?_); rintro e w16 ⟨v259, rfl, ho0, hb⟩; refine ⟨_, rfl, ?_⟩; refine zs (Kd.R_elder' (by (with_reducible repeat (first | apply Kd.R_alloc | apply Kd.R_drewN | apply Kd.R_drew)); exact HO_3.out) (Kd.R_base ho0) hb) (zs (Kd.R_lower (Kd.R_new' ho0 (Kd.R_lt (by (with_reducible repeat (first | apply Kd.R_alloc | apply Kd.R_drewN | apply Kd.R_drew)); exact HO_3.out))) (below_size (zHB))) (zs (blk_below (g := gb247) zBK hb) (zs (below_step (zHB) hb) ?_))); clear HO_3 BK247 HB; intro HB BK247 HO260 HO_3; clear hb ho0; obtain ⟨Ao18, co18, eo18⟩ := Kd.R_slice HO260.out; subst eo18) | ((with_reducible refine gate_builtin (b := .append) (xs := #[.tmp 21, .tmp 27]) rfl ?_); at_builtin; refine Kd.R_append_rows (Kd.int .u8) (w0 := w) w.heap.size rfl (.tmp 21) (.tmp 27) 64 5 (.int .u8 0) 1 rfl Tryd.underlying64 info5 rfl (by decide) (by omega) u3 x3_1 t258 _ _ _ (fun k_ => some k_ ≠ (.slice Ao18 t258.length co18 : Value).ownBlock) (fun _ => False) rfl rfl ?aO ?aR (fun _ _ h => h) (fun _ h => h.elim) ?aF ?aB ?aS ?aL ?_; (case aR => repeat (first | exact (Kd.R_reads' HO260.out).2.2 | (with_reducible refine Kd.C_alloc ?_ _) | (with_reducible refine Kd.C_drewN ?_ _) | (with_reducible refine Kd.C_drew ?_))); (case aB => exact (zHB)); (case aF => exact (fun k_ hk => Kd.fresh' (Kd.R_lt (by (with_reducible repeat (first | apply Kd.R_alloc | apply Kd.R_drewN | apply Kd.R_drew)); exact HO260.out)) k_ hk)); (case aO => exact (by (with_reducible repeat (first | apply Kd.R_alloc | apply Kd.R_drewN | apply Kd.R_drew)); exact Kd.R_mono HO_3.out (fun _ hk => hk.2))); (case aS => exact (below_size (zHB))); (case aL => have := LMc14.out; omega); intro v262 w17 ho hb hg hat; rw [← Ny261.out] at ho; refine zs (blk_grown (g := gb247) zBK hg (Kd.R_ne HO_3.out BK247.out (by decide))) (zs (Kd.R_after (ok := (fun _ => True)) (by (with_reducible repeat (first | apply Kd.R_alloc | apply Kd.R_drewN | apply Kd.R_drew)); exact HO260.out) hg hat) (zs hb (zs (ho) ?_))); clear BK247 HO260 HB HO_3; intro HO263 HB HO260 BK247; clear ho hb hg hat))
        go_roundg k1
        case measure => have := HK1.out; omega
        case rel => exact ⟨(y261), (wrap64 (x4_1 + 1)), zF', H', ⟨by have := HK1.out; omega⟩, ⟨by (with_reducible repeat (first | apply Kd.R_alloc | apply Kd.R_drewN | apply Kd.R_drew)); exact Kd.R_mono HO263.out (fun _ hk => trivial)⟩, ⟨zBK⟩, ⟨zHB⟩⟩
      · rw [if_neg c11] at H
        have c11b0 := decide_eq_false c11
        clear c11
        replace H := Option.bind_eq_some_iff.mp H
        obtain ⟨t264, A190, H⟩ := H
        (try dsimp only at H)
        have A19 := Aside0.mk A190
        clear A190
        obtain ⟨c20, H⟩ := zG H
        have LMc20 := Aside0.mk c20
        clear c20
        obtain ⟨y267, hy267⟩ : ∃ y_ : List Int, y_ = (x3_1 ++ t264) := ⟨_, rfl⟩
        replace H := (Option.bind_some _ _).symm.trans H
        (try rw [← hy267] at H)
        have Ny267 := Aside0.mk hy267
        clear hy267
        replace H := Option.bind_eq_some_iff.mp H
        obtain ⟨t270, A210, H⟩ := H
        (try dsimp only at H)
        have A21 := Aside0.mk A210
        clear A210
        obtain ⟨c22, H⟩ := zG H
        have LMc22 := Aside0.mk c22
        clear c22
        obtain ⟨y273, hy273⟩ : ∃ y_ : List Int, y_ = (y267 ++ t270) := ⟨_, rfl⟩
        (try rw [← hy273] at H)
        have Ny273 := Aside0.mk hy273
        clear hy273
        have H' := Aside0.mk H
        clear H
        have hcz23 := blk_cell BK247.out
        have hfz23 := blk_frozen BK247.out
        go_wp2_with (first | ((with_reducible refine gate_callee (f := 88) rfl ?_); refine zGo (N := (some 33)) Tryd.func88 #[.int .u32 ((a0_1) % 4294967296)] ?_; (with_reducible refine (pleatref07_four.calls ((a0_1) % 4294967296) t264 _ A19.out).mono ?_); rintro e w24 ⟨v265, rfl, ho0, hb⟩; refine ⟨_, rfl, ?_⟩; refine zs (Kd.R_elder' (by (with_reducible repeat (first | apply Kd.R_alloc | apply Kd.R_drewN | apply Kd.R_drew)); exact HO_3.out) (Kd.R_base ho0) hb) (zs (Kd.R_lower (Kd.R_new' ho0 (Kd.R_lt (by (with_reducible repeat (first | apply Kd.R_alloc | apply Kd.R_drewN | apply Kd.R_drew)); exact HO_3.out))) (below_size (zHB))) (zs (blk_below (g := gb247) zBK hb) (zs (below_step (zHB) hb) ?_))); clear HO_3 BK247 HB; intro HB BK247 HO266 HO_3; clear hb ho0; obtain ⟨Ao26, co26, eo26⟩ := Kd.R_slice HO266.out; subst eo26) | ((with_reducible refine gate_builtin (b := .append) (xs := #[.tmp 29, .tmp 33]) rfl ?_); at_builtin; refine Kd.R_append_rows (Kd.int .u8) (w0 := w) w.heap.size rfl (.tmp 29) (.tmp 33) 64 5 (.int .u8 0) 1 rfl Tryd.underlying64 info5 rfl (by decide) (by omega) u3 x3_1 t264 _ _ _ (fun k_ => some k_ ≠ (.slice Ao26 t264.length co26 : Value).ownBlock) (fun _ => False) rfl rfl ?aO ?aR (fun _ _ h => h) (fun _ h => h.elim) ?aF ?aB ?aS ?aL ?_; (case aR => repeat (first | exact (Kd.R_reads' HO266.out).2.2 | (with_reducible refine Kd.C_alloc ?_ _) | (with_reducible refine Kd.C_drewN ?_ _) | (with_reducible refine Kd.C_drew ?_))); (case aB => exact (zHB)); (case aF => exact (fun k_ hk => Kd.fresh' (Kd.R_lt (by (with_reducible repeat (first | apply Kd.R_alloc | apply Kd.R_drewN | apply Kd.R_drew)); exact HO266.out)) k_ hk)); (case aO => exact (by (with_reducible repeat (first | apply Kd.R_alloc | apply Kd.R_drewN | apply Kd.R_drew)); exact Kd.R_mono HO_3.out (fun _ hk => hk.2))); (case aS => exact (below_size (zHB))); (case aL => have := LMc20.out; omega); intro v268 w25 ho hb hg hat; rw [← Ny267.out] at ho; refine zs (blk_grown (g := gb247) zBK hg (Kd.R_ne HO_3.out BK247.out (by decide))) (zs (Kd.R_after (ok := (fun _ => True)) (by (with_reducible repeat (first | apply Kd.R_alloc | apply Kd.R_drewN | apply Kd.R_drew)); exact HO266.out) hg hat) (zs hb (zs (ho) ?_))); clear BK247 HO266 HB HO_3; intro HO269 HB HO266 BK247; clear ho hb hg hat; have hcz27 := blk_cell BK247.out; have hfz27 := blk_frozen BK247.out) | ((with_reducible refine gate_callee (f := 88) rfl ?_); refine zGo (N := (some 40)) Tryd.func88 #[.int .u32 (((l0_2.length : Int)) % 4294967296)] ?_; (with_reducible refine (pleatref07_four.calls (((l0_2.length : Int)) % 4294967296) t270 _ A21.out).mono ?_); rintro e w28 ⟨v271, rfl, ho0, hb⟩; refine ⟨_, rfl, ?_⟩; refine zs (Kd.R_elder' (by (with_reducible repeat (first | apply Kd.R_alloc | apply Kd.R_drewN | apply Kd.R_drew)); exact HO266.out) (Kd.R_base ho0) hb) (zs (Kd.R_elder' (by (with_reducible repeat (first | apply Kd.R_alloc | apply Kd.R_drewN | apply Kd.R_drew)); exact HO269.out) (Kd.R_base ho0) hb) (zs (Kd.R_lower (Kd.R_new' (Kd.R_new' ho0 (Kd.R_lt (by (with_reducible repeat (first | apply Kd.R_alloc | apply Kd.R_drewN | apply Kd.R_drew)); exact HO266.out))) (Kd.R_lt (by (with_reducible repeat (first | apply Kd.R_alloc | apply Kd.R_drewN | apply Kd.R_drew)); exact HO269.out))) (below_size (zHB))) (zs (blk_below (g := gb247) zBK hb) (zs (below_step (zHB) hb) ?_)))); clear HO266 HO269 BK247 HB; intro HB BK247 HO272 HO269 HO266; clear hb ho0; obtain ⟨Ao30, co30, eo30⟩ := Kd.R_slice HO272.out; subst eo30) | ((with_reducible refine gate_builtin (b := .append) (xs := #[.tmp 35, .tmp 40]) rfl ?_); at_builtin; refine Kd.R_append_rows (Kd.int .u8) (w0 := w) w.heap.size rfl (.tmp 35) (.tmp 40) 64 5 (.int .u8 0) 1 rfl Tryd.underlying64 info5 rfl (by decide) (by omega) v268 y267 t270 _ _ _ (fun k_ => some k_ ≠ (.slice Ao26 t264.length co26 : Value).ownBlock ∧ some k_ ≠ (.slice Ao30 t270.length co30 : Value).ownBlock) (fun _ => False) rfl rfl ?aO ?aR (fun _ _ h => h) (fun _ h => h.elim) ?aF ?aB ?aS ?aL ?_; (case aR => repeat (first | exact (Kd.R_reads' HO272.out).2.2 | (with_reducible refine Kd.C_alloc ?_ _) | (with_reducible refine Kd.C_drewN ?_ _) | (with_reducible refine Kd.C_drew ?_))); (case aB => exact (zHB)); (case aF => exact (fun k_ hk => ⟨Kd.fresh' (Kd.R_lt (by (with_reducible repeat (first | apply Kd.R_alloc | apply Kd.R_drewN | apply Kd.R_drew)); exact HO266.out)) k_ hk, Kd.fresh' (Kd.R_lt (by (with_reducible repeat (first | apply Kd.R_alloc | apply Kd.R_drewN | apply Kd.R_drew)); exact HO272.out)) k_ hk⟩)); (case aO => exact (by (with_reducible repeat (first | apply Kd.R_alloc | apply Kd.R_drewN | apply Kd.R_drew)); exact HO269.out)); (case aS => exact (below_size (zHB))); (case aL => have := LMc22.out; omega); intro v274 w29 ho hb hg hat; rw [← Ny273.out] at ho; refine zs (blk_grown (g := gb247) zBK hg (Kd.R_ne HO269.out BK247.out (by decide))) (zs (Kd.R_after (ok := (fun k_ => some k_ ≠ (.slice Ao30 t270.length co30 : Value).ownBlock)) (by (with_reducible repeat (first | apply Kd.R_alloc | apply Kd.R_drewN | apply Kd.R_drew)); exact Kd.R_mono HO266.out (fun _ hk => ⟨hk.2, hk.1.2⟩)) hg hat) (zs (Kd.R_after (ok := (fun k_ => some k_ ≠ (.slice Ao26 t264.length co26 : Value).ownBlock)) (by (with_reducible repeat (first | apply Kd.R_alloc | apply Kd.R_drewN | apply Kd.R_drew)); exact Kd.R_mono HO272.out (fun _ hk => ⟨hk.1.2, hk.2⟩)) hg hat) (zs hb (zs (ho) ?_)))); clear BK247 HO266 HO272 HB HO269; intro HO275 HB HO272 HO266 BK247; clear ho hb hg hat))
        go_loopg [3, 5] k1 (fun kq v3 v5 w' => ∃ (x3_2 : List Int) (x5_2 : Int), v5 = .int .i64 x5_2 ∧ Aside0 (pleatref07_Bytes.l1 kq x3_2 x5_2 l0_0 a0_1 l0_2 = some r) ∧ Aside0 (kq ≤ k1) ∧ Aside0 (Kd.R (Kd.int .u8) 5 w' w.heap.size (fun _ => True) v3 x3_2) ∧ Aside0 (w'.heap[gb247]? = some (.cells #[(.slice A0_0 l0_0.length c0_0), .int .i64 a0_1, (.slice A0_2 l0_2.length c0_2)] 25 (0, 0))) ∧ Aside0 (Below w.heap.size w w'))
        case atStart => exact ⟨(y273), (0), zF', H', ⟨Nat.le_refl _⟩, ⟨by (with_reducible repeat (first | apply Kd.R_alloc | apply Kd.R_drewN | apply Kd.R_drew)); exact Kd.R_mono HO275.out (fun _ hk => trivial)⟩, ⟨zBK⟩, ⟨zHB⟩⟩
        case round =>
          clear H'
          try clear c11b0
          try clear c20
          try clear c22
          try clear c3
          try clear hcz23
          try clear hcz27
          try clear hcz7
          try clear hfz23
          try clear hfz27
          try clear hfz7
          obtain ⟨x3_2, x5_2, rfl, HA, HK2, HO_3, BK247, HB⟩ := hrel
          cases gk with
          | zero => exact absurd HA.out (by simp [pleatref07_Bytes.l1])
          | succ k2 =>
            have H := HA.out
            clear HA
            simp only [pleatref07_Bytes.l1] at H
            by_cases c31 : x5_2 < (l0_2.length : Int)
            · rw [if_pos c31] at H
              have c31b0 := decide_eq_true c31
              clear c31
              obtain ⟨c32, H⟩ := zG H
              have c32b0 := decide_eq_true c32
              clear c32
              replace H := Option.bind_eq_some_iff.mp H
              obtain ⟨t277, A330, H⟩ := H
              (try dsimp only at H)
              have A33 := Aside0.mk A330
              clear A330
              obtain ⟨c34, H⟩ := zG H
              have LMc34 := Aside0.mk c34
              clear c34
              obtain ⟨y280, hy280⟩ : ∃ y_ : List Int, y_ = (x3_2 ++ t277) := ⟨_, rfl⟩
              (try rw [← hy280] at H)
              have Ny280 := Aside0.mk hy280
              clear hy280
              have H' := Aside0.mk H
              clear H
              have hcz35 := blk_cell BK247.out
              have hfz35 := blk_frozen BK247.out
              have p276 : 0 ≤ (x5_2 : Int) := zOD
              have q276 : x5_2 < (l0_2.length : Int) := zOD
              obtain ⟨ad276, e276, hx276_0⟩ := Kd.at_int HR0_2.out x5_2 p276 q276
              cases e276
              replace hx276_0 := (HB.out.cell (World.block_lt_of_cell? w _ hx276_0)).trans hx276_0
              replace p276 := eq_true p276
              replace q276 := eq_true q276
              go_wp2_with (first | ((with_reducible refine gate_callee (f := 89) rfl ?_); refine zGo (N := (some 55)) Tryd.func89 #[.int .i64 (rd l0_2 x5_2)] ?_; (with_reducible refine (pleatref07_eight.calls (rd l0_2 x5_2) t277 _ A33.out).mono ?_); rintro e w36 ⟨v278, rfl, ho0, hb⟩; refine ⟨_, rfl, ?_⟩; refine zs (Kd.R_elder' (by (with_reducible repeat (first | apply Kd.R_alloc | apply Kd.R_drewN | apply Kd.R_drew)); exact HO_3.out) (Kd.R_base ho0) hb) (zs (Kd.R_lower (Kd.R_new' ho0 (Kd.R_lt (by (with_reducible repeat (first | apply Kd.R_alloc | apply Kd.R_drewN | apply Kd.R_drew)); exact HO_3.out))) (below_size (zHB))) (zs (blk_below (g := gb247) zBK hb) (zs (below_step (zHB) hb) ?_))); clear HO_3 BK247 HB; intro HB BK247 HO279 HO_3; clear hb ho0; obtain ⟨Ao38, co38, eo38⟩ := Kd.R_slice HO279.out; subst eo38) | ((with_reducible refine gate_builtin (b := .append) (xs := #[.tmp 49, .tmp 55]) rfl ?_); at_builtin; refine Kd.R_append_rows (Kd.int .u8) (w0 := w) w.heap.size rfl (.tmp 49) (.tmp 55) 64 5 (.int .u8 0) 1 rfl Tryd.underlying64 info5 rfl (by decide) (by omega) u3 x3_2 t277 _ _ _ (fun k_ => some k_ ≠ (.slice Ao38 t277.length co38 : Value).ownBlock) (fun _ => False) rfl rfl ?aO ?aR (fun _ _ h => h) (fun _ h => h.elim) ?aF ?aB ?aS ?aL ?_; (case aR => repeat (first | exact (Kd.R_reads' HO279.out).2.2 | (with_reducible refine Kd.C_alloc ?_ _) | (with_reducible refine Kd.C_drewN ?_ _) | (with_reducible refine Kd.C_drew ?_))); (case aB => exact (zHB)); (case aF => exact (fun k_ hk => Kd.fresh' (Kd.R_lt (by (with_reducible repeat (first | apply Kd.R_alloc | apply Kd.R_drewN | apply Kd.R_drew)); exact HO279.out)) k_ hk)); (case aO => exact (by (with_reducible repeat (first | apply Kd.R_alloc | apply Kd.R_drewN | apply Kd.R_drew)); exact Kd.R_mono HO_3.out (fun _ hk => hk.2))); (case aS => exact (below_size (zHB))); (case aL => have := LMc34.out; omega); intro v281 w37 ho hb hg hat; rw [← Ny280.out] at ho; refine zs (blk_grown (g := gb247) zBK hg (Kd.R_ne HO_3.out BK247.out (by decide))) (zs (Kd.R_after (ok := (fun _ => True)) (by (with_reducible repeat (first | apply Kd.R_alloc | apply Kd.R_drewN | apply Kd.R_drew)); exact HO279.out) hg hat) (zs hb (zs (ho) ?_))); clear BK247 HO279 HB HO_3; intro HO282 HB HO279 BK247; clear ho hb hg hat))
              go_roundg k2
              case measure => have := HK1.out; have := HK2.out; omega
              case rel => exact ⟨(y280), (wrap64 (x5_2 + 1)), zF', H', ⟨by have := HK1.out; have := HK2.out; omega⟩, ⟨by (with_reducible repeat (first | apply Kd.R_alloc | apply Kd.R_drewN | apply Kd.R_drew)); exact Kd.R_mono HO282.out (fun _ hk => trivial)⟩, ⟨zBK⟩, ⟨zHB⟩⟩
            · rw [if_neg c31] at H
              have c31b0 := decide_eq_false c31
              clear c31
              replace H := Option.bind_eq_some_iff.mp H
              obtain ⟨t283, A390, H⟩ := H
              (try dsimp only at H)
              have A39 := Aside0.mk A390
              clear A390
              replace H := Option.bind_eq_some_iff.mp H
              obtain ⟨t284, A400, H⟩ := H
              (try dsimp only at H)
              have A40 := Aside0.mk A400
              clear A400
              obtain ⟨c41, H⟩ := zG H
              have LMc41 := Aside0.mk c41
              clear c41
              obtain ⟨y287, hy287⟩ : ∃ y_ : List Int, y_ = (x3_2 ++ t284) := ⟨_, rfl⟩
              (try rw [← hy287] at H)
              have Ny287 := Aside0.mk hy287
              clear hy287
              obtain rfl := Option.some.inj H
              have hcz42 := blk_cell BK247.out
              have hfz42 := blk_frozen BK247.out
              obtain ⟨Ao43, co43, eo43⟩ := Kd.R_slice HO_3.out
              subst eo43
              go_wp2_with (first | ((with_reducible refine gate_callee (f := 33) rfl ?_); refine zGo (N := (some 59)) Tryd.func33 #[.slice Ao43 x3_2.length co43] ?_; (with_reducible refine (pleatref07_Sum.calls k2 _ _ x3_2 t283 _ ?side1 ?side2 A39.out).mono ?_); (case side1 => exact zS); (case side2 => exact zS); rintro e w' ⟨rfl, ⟨nd, rfl⟩⟩; refine ⟨_, rfl, ?_⟩) | ((with_reducible refine gate_callee (f := 88) rfl ?_); refine zGo (N := (some 60)) Tryd.func88 #[.int .u32 t283] ?_; (with_reducible refine (pleatref07_four.calls t283 t284 _ A40.out).mono ?_); rintro e w44 ⟨v285, rfl, ho0, hb⟩; refine ⟨_, rfl, ?_⟩; refine zs (Kd.R_elder' (by (with_reducible repeat (first | apply Kd.R_alloc | apply Kd.R_drewN | apply Kd.R_drew)); exact HO_3.out) (Kd.R_base ho0) hb) (zs (Kd.R_lower (Kd.R_new' ho0 (Kd.R_lt (by (with_reducible repeat (first | apply Kd.R_alloc | apply Kd.R_drewN | apply Kd.R_drew)); exact HO_3.out))) (below_size (zHB))) (zs (blk_below (g := gb247) zBK hb) (zs (below_step (zHB) hb) ?_))); clear HO_3 BK247 HB; intro HB BK247 HO286 HO_3; clear hb ho0; obtain ⟨Ao46, co46, eo46⟩ := Kd.R_slice HO286.out; subst eo46) | ((with_reducible refine gate_builtin (b := .append) (xs := #[.tmp 57, .tmp 60]) rfl ?_); at_builtin; refine Kd.R_append_rows (Kd.int .u8) (w0 := w) w.heap.size rfl (.tmp 57) (.tmp 60) 64 5 (.int .u8 0) 1 rfl Tryd.underlying64 info5 rfl (by decide) (by omega) (.slice Ao43 x3_2.length co43) x3_2 t284 _ _ _ (fun k_ => some k_ ≠ (.slice Ao46 t284.length co46 : Value).ownBlock) (fun _ => False) rfl rfl ?aO ?aR (fun _ _ h => h) (fun _ h => h.elim) ?aF ?aB ?aS ?aL ?_; (case aR => repeat (first | exact (Kd.R_reads' HO286.out).2.2 | (with_reducible refine Kd.C_alloc ?_ _) | (with_reducible refine Kd.C_drewN ?_ _) | (with_reducible refine Kd.C_drew ?_))); (case aB => exact (zHB)); (case aF => exact (fun k_ hk => Kd.fresh' (Kd.R_lt (by (with_reducible repeat (first | apply Kd.R_alloc | apply Kd.R_drewN | apply Kd.R_drew)); exact HO286.out)) k_ hk)); (case aO => exact (by (with_reducible repeat (first | apply Kd.R_alloc | apply Kd.R_drewN | apply Kd.R_drew)); exact Kd.R_mono HO_3.out (fun _ hk => hk.2))); (case aS => exact (below_size (zHB))); (case aL => have := LMc41.out; omega); intro v288 w45 ho hb hg hat; rw [← Ny287.out] at ho; refine zs (blk_grown (g := gb247) zBK hg (Kd.R_ne HO_3.out BK247.out (by decide))) (zs (Kd.R_after (ok := (fun _ => True)) (by (with_reducible repeat (first | apply Kd.R_alloc | apply Kd.R_drewN | apply Kd.R_drew)); exact HO286.out) hg hat) (zs hb (zs (ho) ?_))); clear BK247 HO286 HB HO_3; intro HO289 HB HO286 BK247; clear ho hb hg hat))
              go_ret
              exact ⟨_, zE, by (with_reducible repeat (first | apply Kd.R_alloc | apply Kd.R_drewN | apply Kd.R_drew)); exact Kd.R_mono HO289.out (fun _ hk => trivial), zHB⟩

/-! ### pleatref07_Write: function 26 -/
def pleatref07_Write.f (k : Nat) (l0_0 : List Int) (a0_1 : Int) (l0_2 : List Int) : Option (List Int × Int) := (pleatref07_Check.f k l0_0 a0_1 l0_2).bind fun bt291 => (if bt291.1 = 0 then ((pleatref07_Bytes.f k l0_0 a0_1 l0_2).bind fun t293 => (some (t293, 0))) else (some (([] : List Int), bt291.1)))
theorem pleatref07_Write.mono : ∀ a0 a1 a2 k, LeO (pleatref07_Write.f k a0 a1 a2) (pleatref07_Write.f (k + 1) a0 a1 a2) := by
  intro a0 a1 a2 k
  unfold pleatref07_Write.f
  have m0 := @pleatref07_Bytes.mono
  have m1 := @pleatref07_Check.mono
  exact zMo
set_option maxHeartbeats 8000000 in
set_option maxRecDepth 100000 in
theorem pleatref07_Write.calls (k : Nat) (A0_0 : Option Addr) (c0_0 : Nat) (l0_0 : List Int) (a0_1 : Int) (A0_2 : Option Addr) (c0_2 : Nat) (l0_2 : List Int) (r1 : List Int) (r2 : Int) (w : World) (hr0_0 : Kd.C (Kd.int .u32) w A0_0 l0_0.length l0_0) (hc0_0 : l0_0.length ≤ c0_0) (hr0_2 : Kd.C (Kd.int .i64) w A0_2 l0_2.length l0_2) (hc0_2 : l0_2.length ≤ c0_2) (h : pleatref07_Write.f k l0_0 a0_1 l0_2 = some (r1, r2)) :
    Calls Tryd.prog 26 #[.agg #[.slice A0_0 l0_0.length c0_0, .int .i64 a0_1, .slice A0_2 l0_2.length c0_2]] w fun e w' => ∃ v0_ : Value, e = .returned (.tuple #[v0_, .int .i64 r2]) ∧ Kd.R (Kd.int .u8) 5 w' w.heap.size (fun _ => True) v0_ r1 ∧ Below w.heap.size w w' := by
  have hu25 := Tryd.underlying25
  have HR0_0 := Aside0.mk hr0_0
  have HC0_0 := Aside0.mk hc0_0
  clear hr0_0 hc0_0
  have HR0_2 := Aside0.mk hr0_2
  have HC0_2 := Aside0.mk hc0_2
  clear hr0_2 hc0_2
  have HB := Aside0.mk (Below.refl w.heap.size w)
  have H := h
  clear h
  unfold pleatref07_Write.f at H
  replace H := Option.bind_eq_some_iff.mp H
  obtain ⟨⟨t291, t292⟩, A20, H⟩ := H
  (try dsimp only at H)
  have A2 := Aside0.mk A20
  clear A20
  by_cases c3 : t291 = 0
  · rw [if_pos c3] at H
    have c3b0 := beq_iff_eq.mpr c3
    have c3b1 := bne_eq_false_iff_eq.mpr c3
    clear c3
    replace H := Option.bind_eq_some_iff.mp H
    obtain ⟨t293, A40, H⟩ := H
    (try dsimp only at H)
    have A4 := Aside0.mk A40
    clear A40
    simp only [Option.some.injEq, Prod.mk.injEq] at H
    obtain ⟨rfl, rfl⟩ := H
    go_enter Tryd.func26, Tryd.ntmps26
    go_wp2_with (first | ((with_reducible refine gate_dst (N := 1) rfl ?_); refine zBox (N := 1) (cs := #[.slice A0_0 l0_0.length c0_0, .int .i64 a0_1, .slice A0_2 l0_2.length c0_2]) (t := 25) ?_; intro gb290 hg w5 hbox hb; refine zs (below_step (zHB) hb) (zs hbox (zs (zGe hg zHB) (zs (zGe hg zHB) ?_))); clear HB; intro GE290 GW290 BK290 HB; clear hb hbox hg; have hcz6 := blk_cell BK290.out; have hfz6 := blk_frozen BK290.out) | ((with_reducible refine gate_callee (f := 24) rfl ?_); refine zGo (N := (some 8)) Tryd.func24 #[.agg #[.slice A0_0 l0_0.length c0_0, .int .i64 a0_1, .slice A0_2 l0_2.length c0_2]] ?_; (with_reducible refine (pleatref07_Check.calls k _ _ l0_0 a0_1 _ _ l0_2 t291 t292 _ ?side1 ?side2 ?side3 ?side4 A2.out).mono ?_); (case side1 => exact zS); (case side2 => exact zS); (case side3 => exact zS); (case side4 => exact zS); rintro e w7 ⟨rfl, hb⟩; refine ⟨_, rfl, ?_⟩; refine zs (blk_below (g := gb290) zBK hb) (zs (below_step (zHB) hb) ?_); clear BK290 HB; intro HB BK290; clear hb; have hcz8 := blk_cell BK290.out; have hfz8 := blk_frozen BK290.out) | ((with_reducible refine gate_callee (f := 70) rfl ?_); refine zGo (N := (some 15)) Tryd.func70 #[.agg #[.slice A0_0 l0_0.length c0_0, .int .i64 a0_1, .slice A0_2 l0_2.length c0_2]] ?_; (with_reducible refine (pleatref07_Bytes.calls k _ _ l0_0 a0_1 _ _ l0_2 t293 _ ?side1 ?side2 ?side3 ?side4 A4.out).mono ?_); (case side1 => exact zS); (case side2 => exact zS); (case side3 => exact zS); (case side4 => exact zS); rintro e w9 ⟨v294, rfl, ho0, hb⟩; refine ⟨_, rfl, ?_⟩; refine zs (Kd.R_lower ho0 (below_size (zHB))) (zs (blk_below (g := gb290) zBK hb) (zs (below_step (zHB) hb) ?_)); clear BK290 HB; intro HB BK290 HO295; clear hb ho0))
    go_ret2
    exact ⟨_, zE, by (with_reducible repeat (first | apply Kd.R_alloc | apply Kd.R_drewN | apply Kd.R_drew)); exact HO295.out, zHB⟩
  · rw [if_neg c3] at H
    have c3b0 := beq_eq_false_iff_ne.mpr c3
    have c3b1 := bne_iff_ne.mpr c3
    simp only [Option.some.injEq, Prod.mk.injEq] at H
    obtain ⟨rfl, rfl⟩ := H
    go_enter Tryd.func26, Tryd.ntmps26
    go_wp2_with (first | ((with_reducible refine gate_dst (N := 1) rfl ?_); refine zBox (N := 1) (cs := #[.slice A0_0 l0_0.length c0_0, .int .i64 a0_1, .slice A0_2 l0_2.length c0_2]) (t := 25) ?_; intro gb290 hg w10 hbox hb; refine zs (below_step (zHB) hb) (zs hbox (zs (zGe hg zHB) (zs (zGe hg zHB) ?_))); clear HB; intro GE290 GW290 BK290 HB; clear hb hbox hg; have hcz11 := blk_cell BK290.out; have hfz11 := blk_frozen BK290.out) | ((with_reducible refine gate_callee (f := 24) rfl ?_); refine zGo (N := (some 8)) Tryd.func24 #[.agg #[.slice A0_0 l0_0.length c0_0, .int .i64 a0_1, .slice A0_2 l0_2.length c0_2]] ?_; (with_reducible refine (pleatref07_Check.calls k _ _ l0_0 a0_1 _ _ l0_2 t291 t292 _ ?side1 ?side2 ?side3 ?side4 A2.out).mono ?_); (case side1 => exact zS); (case side2 => exact zS); (case side3 => exact zS); (case side4 => exact zS); rintro e w12 ⟨rfl, hb⟩; refine ⟨_, rfl, ?_⟩; refine zs (blk_below (g := gb290) zBK hb) (zs (below_step (zHB) hb) ?_); clear BK290 HB; intro HB BK290; clear hb))
    go_ret2
    exact ⟨_, zE, by first | exact Kd.R_nil _ _ _ _ _ | exact Kd.N_nil _ _ _ _ _ | exact Kd.V_nil _ _ _ _ _ | exact Kd.Q_nil _ _ _ _ _ | exact Kd.S_nil _ _ _ _ _, zHB⟩

/-! ### pleatref00_EqBytes: function 27 -/
def pleatref00_EqBytes.l0 : Nat → List Int → List Int → Int → Option (Bool)
  | 0, _, _, _ => none
  | k + 1, x0, x1, x5 => if x5 < (x0.length : Int) then (if 0 ≤ x5 then (if x5 < (x1.length : Int) then (if (rd x0 x5) = (rd x1 x5) then (pleatref00_EqBytes.l0 k x0 x1 (wrap64 (x5 + 1))) else (some false)) else (none)) else (none)) else (some true)
def pleatref00_EqBytes.f (k : Nat) (l0 : List Int) (l1 : List Int) : Option (Bool) := if (l0.length : Int) = (l1.length : Int) then (pleatref00_EqBytes.l0 k l0 l1 0) else (some false)
theorem pleatref00_EqBytes.mono_l : ∀ k, (∀ y0 y1 y2, LeO (pleatref00_EqBytes.l0 k y0 y1 y2) (pleatref00_EqBytes.l0 (k + 1) y0 y1 y2))
  | 0 => fun _ _ _ r h => by simp [pleatref00_EqBytes.l0] at h
  | k + 1 => by
    have ih0 := pleatref00_EqBytes.mono_l k
    · intro y0 y1 y2
      unfold pleatref00_EqBytes.l0
      exact zMo
theorem pleatref00_EqBytes.mono : ∀ a0 a1 k, LeO (pleatref00_EqBytes.f k a0 a1) (pleatref00_EqBytes.f (k + 1) a0 a1) := by
  intro a0 a1 k
  have ih0 := pleatref00_EqBytes.mono_l k
  unfold pleatref00_EqBytes.f
  exact zMo
set_option maxHeartbeats 8000000 in
set_option maxRecDepth 100000 in
theorem pleatref00_EqBytes.calls (k : Nat) (A0 : Option Addr) (c0 : Nat) (l0 : List Int) (A1 : Option Addr) (c1 : Nat) (l1 : List Int) (r : Bool) (w : World) (hr0 : Kd.C (Kd.int .u8) w A0 l0.length l0) (hc0 : l0.length ≤ c0) (hr1 : Kd.C (Kd.int .u8) w A1 l1.length l1) (hc1 : l1.length ≤ c1) (h : pleatref00_EqBytes.f k l0 l1 = some r) :
    Calls Tryd.prog 27 #[.slice A0 l0.length c0, .slice A1 l1.length c1] w fun e w' => e = .returned (.bool r) ∧ Drawn0 w w' := by
  have HR0 := Aside0.mk hr0
  have HC0 := Aside0.mk hc0
  clear hr0 hc0
  have HR1 := Aside0.mk hr1
  have HC1 := Aside0.mk hc1
  clear hr1 hc1
  have H := h
  clear h
  unfold pleatref00_EqBytes.f at H
  by_cases c3 : (l0.length : Int) = (l1.length : Int)
  · rw [if_pos c3] at H
    have c3b0 := beq_iff_eq.mpr c3
    have c3b1 := bne_eq_false_iff_eq.mpr c3
    have c3b2 : (l0.length == l1.length) = true := by first | simpa using c3 | (simp at c3 ⊢; omega)
    clear c3
    have H' := Aside0.mk H
    clear H
    go_enter Tryd.func27, Tryd.ntmps27
    go_wp2
    repeat (go_quiet (fail); try go_wp2)
    go_loopg [5] k (fun kq v5 w' => ∃ (x5_1 : Int), v5 = .int .i64 x5_1 ∧ Aside0 (pleatref00_EqBytes.l0 kq l0 l1 x5_1 = some r) ∧ Aside0 (kq ≤ k) ∧ Drawn0 w w')
    case atStart => exact ⟨(0), zF', H', ⟨Nat.le_refl _⟩, zDr⟩
    case round =>
      clear H'
      try clear c3b0
      try clear c3b1
      try clear c3b2
      obtain ⟨x5_1, rfl, HA, HK1, ⟨m1, rfl⟩⟩ := hrel
      cases gk with
      | zero => exact absurd HA.out (by simp [pleatref00_EqBytes.l0])
      | succ k1 =>
        have H := HA.out
        clear HA
        simp only [pleatref00_EqBytes.l0] at H
        by_cases c4 : x5_1 < (l0.length : Int)
        · rw [if_pos c4] at H
          have c4b0 := decide_eq_true c4
          clear c4
          obtain ⟨c5, H⟩ := zG H
          have c5b0 := decide_eq_true c5
          clear c5
          obtain ⟨c6, H⟩ := zG H
          have c6b0 := decide_eq_true c6
          clear c6
          by_cases c7 : (rd l0 x5_1) = (rd l1 x5_1)
          · rw [if_pos c7] at H
            have c7b0 := beq_iff_eq.mpr c7
            have c7b1 := bne_eq_false_iff_eq.mpr c7
            clear c7
            have H' := Aside0.mk H
            clear H
            have p296 : 0 ≤ (x5_1 : Int) := zOD
            have q296 : x5_1 < (l0.length : Int) := zOD
            obtain ⟨ad296, e296, hx296_0⟩ := Kd.at_int HR0.out x5_1 p296 q296
            cases e296
            replace p296 := eq_true p296
            replace q296 := eq_true q296
            have p297 : 0 ≤ (x5_1 : Int) := zOD
            have q297 : x5_1 < (l1.length : Int) := zOD
            obtain ⟨ad297, e297, hx297_0⟩ := Kd.at_int HR1.out x5_1 p297 q297
            cases e297
            replace p297 := eq_true p297
            replace q297 := eq_true q297
            go_wp2
            repeat (go_quiet (fail); try go_wp2)
            go_roundg k1
            case measure => have := HK1.out; omega
            case rel => exact ⟨(wrap64 (x5_1 + 1)), zF', H', ⟨by have := HK1.out; omega⟩, zDr⟩
          · rw [if_neg c7] at H
            have c7b0 := beq_eq_false_iff_ne.mpr c7
            have c7b1 := bne_iff_ne.mpr c7
            obtain rfl := Option.some.inj H
            have p296 : 0 ≤ (x5_1 : Int) := zOD
            have q296 : x5_1 < (l0.length : Int) := zOD
            obtain ⟨ad296, e296, hx296_0⟩ := Kd.at_int HR0.out x5_1 p296 q296
            cases e296
            replace p296 := eq_true p296
            replace q296 := eq_true q296
            have p297 : 0 ≤ (x5_1 : Int) := zOD
            have q297 : x5_1 < (l1.length : Int) := zOD
            obtain ⟨ad297, e297, hx297_0⟩ := Kd.at_int HR1.out x5_1 p297 q297
            cases e297
            replace p297 := eq_true p297
            replace q297 := eq_true q297
            go_wp2
            repeat (go_quiet (fail); try go_wp2)
            go_ret
            exact ⟨zF', zDr⟩
        · rw [if_neg c4] at H
          have c4b0 := decide_eq_false c4
          clear c4
          obtain rfl := Option.some.inj H
          go_wp2
          repeat (go_quiet (fail); try go_wp2)
          go_ret
          exact ⟨zF', zDr⟩
  · rw [if_neg c3] at H
    have c3b0 := beq_eq_false_iff_ne.mpr c3
    have c3b1 := bne_iff_ne.mpr c3
    have c3b2 : (l0.length == l1.length) = false := by first | simpa using c3 | (simp at c3 ⊢; omega)
    obtain rfl := Option.some.inj H
    go_enter Tryd.func27, Tryd.ntmps27
    go_wp2
    repeat (go_quiet (fail); try go_wp2)
    go_ret
    exact ⟨zF', zDr⟩

/-! ### pleatlaw07_ImageTells: function 4, by hand -/
section
open Go.Proofs.YtfgdjpgdabjpmaaDoor.Bag
def pleatlaw07_ImageTells.f (k : Nat) (l0_0 : List Int) (a0_1 : Int) (l0_2 : List Int) : Option Bool :=
  (pleatlaw07_heavy.f l0_0 a0_1 l0_2).bind fun t => if t = true then pleatlaw07_lives.f k else
  (image_Check.f k l0_0 a0_1 l0_2).bind fun c => (pleatref07_Check.f k l0_0 a0_1 l0_2).bind fun d => (image_Write.f k l0_0 a0_1 l0_2).bind fun b => (pleatref07_Write.f k l0_0 a0_1 l0_2).bind fun v =>
  (pleatref00_EqBytes.f k b.1 v.1).bind fun q => (pleatref00_EqImage.f k l0_0 a0_1 l0_2 l0_0 a0_1 l0_2).bind fun p =>
  if (l0_0.length ≤ 1000000 ∧ l0_2.length ≤ 1000000) ∧ c = d ∧ b.2 = v.2 ∧ q = true ∧ p = true ∧ b.1.length ≤ 1000000 then pleatlaw07_lives.f k else none
set_option maxHeartbeats 8000000 in
set_option maxRecDepth 100000 in
theorem pleatlaw07_ImageTells.calls (k : Nat) (A0_0 : Option Addr) (c0_0 : Nat) (l0_0 : List Int) (a0_1 : Int) (A0_2 : Option Addr) (c0_2 : Nat) (l0_2 : List Int) (r : Bool) (w : World) (hr0_0 : Kd.C (Kd.int .u32) w A0_0 l0_0.length l0_0) (hc0_0 : l0_0.length ≤ c0_0) (hr0_2 : Kd.C (Kd.int .i64) w A0_2 l0_2.length l0_2) (hc0_2 : l0_2.length ≤ c0_2) (h : pleatlaw07_ImageTells.f k l0_0 a0_1 l0_2 = some r) :
    Calls Tryd.prog 4 #[.agg #[.slice A0_0 l0_0.length c0_0, .int .i64 a0_1, .slice A0_2 l0_2.length c0_2]] w fun e w' => e = .returned (.bool r) ∧ Below w.heap.size w w' := by
  have hu := Tryd.underlying25
  have hu2 := Tryd.underlying59
  have HC0 := Aside0.mk hr0_0; have HC2 := Aside0.mk hr0_2; have HL0 := Aside0.mk hc0_0; have HL2 := Aside0.mk hc0_2
  unfold pleatlaw07_ImageTells.f at h
  obtain ⟨t, ht, h⟩ := Option.bind_eq_some_iff.1 h
  have HT0 := Lib.hid ht
  have HB := Aside0.mk (below_alloc (Below.refl w.heap.size w) (.cells #[.slice A0_0 l0_0.length c0_0, .int .i64 a0_1, .slice A0_2 l0_2.length c0_2] 25))
  have BX := Aside0.mk (blk_new w (.cells #[.slice A0_0 l0_0.length c0_0, .int .i64 a0_1, .slice A0_2 l0_2.length c0_2] 25))
  clear ht hr0_0 hc0_0 hr0_2 hc0_2
  cases t
  case true =>
    rw [if_pos rfl] at h
    have HH := Lib.hid h
    clear h
    go_enter Tryd.func4, Tryd.ntmps4
    go_wp2_with (first | (go_at_call 21; refine (pleatlaw07_heavy.calls _ _ _ _ _ _ _ _ _ (Kd.C_below HC0.out HB.out) HL0.out (Kd.C_below HC2.out HB.out) HL2.out HT0.out).mono ?_; rintro e w1 ⟨rfl, hb⟩; replace HB := Aside0.mk (below_then HB.out HB.out.size hb); clear hb) | (go_at_call 22; refine (pleatlaw07_lives.calls k _ _ HH.out).mono ?_; rintro e w1 ⟨rfl, hb⟩; replace HB := Aside0.mk (below_then HB.out HB.out.size hb); clear hb))
    go_ret
    exact ⟨rfl, HB.out⟩
  case false =>
    rw [if_neg (by simp)] at h
    obtain ⟨c, hc, h1⟩ := Option.bind_eq_some_iff.1 h
    clear h
    obtain ⟨d, hd, h2⟩ := Option.bind_eq_some_iff.1 h1
    clear h1
    obtain ⟨b, hbw, h3⟩ := Option.bind_eq_some_iff.1 h2
    clear h2
    obtain ⟨v, hv, h4⟩ := Option.bind_eq_some_iff.1 h3
    clear h3
    obtain ⟨q, hq, h5⟩ := Option.bind_eq_some_iff.1 h4
    clear h4
    obtain ⟨p, hp, h6⟩ := Option.bind_eq_some_iff.1 h5
    clear h5
    by_cases hg : (l0_0.length ≤ 1000000 ∧ l0_2.length ≤ 1000000) ∧ c = d ∧ b.2 = v.2 ∧ q = true ∧ p = true ∧ b.1.length ≤ 1000000
    · rw [if_pos hg] at h6
      obtain ⟨hlen, rfl, hbv, rfl, rfl, hbl⟩ := hg
      obtain ⟨c1, c2⟩ := c
      obtain ⟨b1, b2⟩ := b
      obtain ⟨v1, v2⟩ := v
      dsimp only at hbv hbl hq
      subst hbv
      have HH := Lib.hid h6; have HC := Lib.hid hc; have HD := Lib.hid hd; have HW := Lib.hid hbw; have HV := Lib.hid hv; have HQ := Lib.hid hq; have HP := Lib.hid hp; have HN := Lib.hid hlen; have HN3 := Lib.hid hbl
      clear h6 hc hd hbw hv hq hp hlen hbl
      have tok1 : True := trivial
      have tok2 : True := trivial
      have e1 : (c1 != c1) = false := by simp
      have e2 : (c2 != c2) = false := by simp
      have e3 : (b2 != b2) = false := by simp
      have tok3 : True := trivial
      have tok4 : True := trivial
      have tok5 : True := trivial
      have tok6 : True := trivial
      go_enter Tryd.func4, Tryd.ntmps4
      go_wp2_with (first | (go_at_call 21; refine (pleatlaw07_heavy.calls _ _ _ _ _ _ _ _ _ (Kd.C_below HC0.out HB.out) HL0.out (Kd.C_below HC2.out HB.out) HL2.out HT0.out).mono ?_; rintro e w1 ⟨rfl, hb⟩; replace BX := Aside0.mk (blk_below BX.out hb); replace HB := Aside0.mk (below_then HB.out HB.out.size hb); clear hb; have hcx := blk_cell BX.out; have hfx := blk_frozen BX.out) | (go_at_call 7; refine (wideImage_made _ _ l0_0 a0_1 _ _ l0_2 _ (Kd.C_below HC0.out HB.out) HL0.out (Kd.C_below HC2.out HB.out) HL2.out HN.out.1 HN.out.2).mono ?_; rintro e w1 ⟨g, h, rfl, hg, hh, hgl, hhl, hb⟩; replace HB := Aside0.mk (below_alloc (below_then HB.out HB.out.size hb) (.cells #[.slice (some ⟨g, 0, none⟩) l0_0.length (l0_0.length + 64), .int .i64 a0_1, .slice (some ⟨h, 0, none⟩) l0_2.length (l0_2.length + 64)] 25)); replace BX := Aside0.mk (blk_alloc (blk_below BX.out hb) (.cells #[.slice (some ⟨g, 0, none⟩) l0_0.length (l0_0.length + 64), .int .i64 a0_1, .slice (some ⟨h, 0, none⟩) l0_2.length (l0_2.length + 64)] 25)); have BG := Aside0.mk (blk_alloc hg (.cells #[.slice (some ⟨g, 0, none⟩) l0_0.length (l0_0.length + 64), .int .i64 a0_1, .slice (some ⟨h, 0, none⟩) l0_2.length (l0_2.length + 64)] 25)); have BH := Aside0.mk (blk_alloc hh (.cells #[.slice (some ⟨g, 0, none⟩) l0_0.length (l0_0.length + 64), .int .i64 a0_1, .slice (some ⟨h, 0, none⟩) l0_2.length (l0_2.length + 64)] 25)); have BI := Aside0.mk (blk_new w1 (.cells #[.slice (some ⟨g, 0, none⟩) l0_0.length (l0_0.length + 64), .int .i64 a0_1, .slice (some ⟨h, 0, none⟩) l0_2.length (l0_2.length + 64)] 25)); clear hg hh hgl hhl hb hcx hfx; have hcx := blk_cell BX.out; have hfx := blk_frozen BX.out; have HT := Aside0.mk (Todo.nil w (w1.alloc (.cells #[.slice (some ⟨g, 0, none⟩) l0_0.length (l0_0.length + 64), .int .i64 a0_1, .slice (some ⟨h, 0, none⟩) l0_2.length (l0_2.length + 64)] 25)))) | (go_at_call 23; refine (image_Check.calls k _ _ l0_0 a0_1 _ _ l0_2 c1 c2 _ (wide_reads HN.out.1 BG.out) (Nat.le_add_right _ _) (wide_reads HN.out.2 BH.out) (Nat.le_add_right _ _) HC.out).mono ?_; rintro e w1 ⟨rfl, hb⟩; replace HT := Aside0.mk (HT.out.next hb); replace BX := Aside0.mk (blk_below BX.out hb); replace BI := Aside0.mk (blk_below BI.out hb); replace BG := Aside0.mk (blk_below BG.out hb); replace BH := Aside0.mk (blk_below BH.out hb); replace HB := Aside0.mk (below_then HB.out HB.out.size hb); clear hb; (try clear hcx hfx); (try clear hci hfi); have hcx := blk_cell BX.out; have hfx := blk_frozen BX.out; have hci := blk_cell BI.out; have hfi := blk_frozen BI.out) | (go_at_call 24; refine (pleatref07_Check.calls k _ _ l0_0 a0_1 _ _ l0_2 c1 c2 _ (Kd.C_below HC0.out HB.out) HL0.out (Kd.C_below HC2.out HB.out) HL2.out HD.out).mono ?_; rintro e w1 ⟨rfl, hb⟩; replace HT := Aside0.mk (HT.out.next hb); replace BX := Aside0.mk (blk_below BX.out hb); replace BI := Aside0.mk (blk_below BI.out hb); replace BG := Aside0.mk (blk_below BG.out hb); replace BH := Aside0.mk (blk_below BH.out hb); replace HB := Aside0.mk (below_then HB.out HB.out.size hb); clear hb; (try clear hcx hfx); (try clear hci hfi); have hcx := blk_cell BX.out; have hfx := blk_frozen BX.out; have hci := blk_cell BI.out; have hfi := blk_frozen BI.out) | (go_at_call 25; have _ := tok1; refine (image_Write.calls k _ _ l0_0 a0_1 _ _ l0_2 b1 b2 _ (wide_reads HN.out.1 BG.out) (Nat.le_add_right _ _) (wide_reads HN.out.2 BH.out) (Nat.le_add_right _ _) HW.out).mono ?_; rintro e w1 ⟨vb, rfl, hR, hb⟩; clear tok1; obtain ⟨Ab, cb, rfl, hlb, hC⟩ := Kd.R_reads hR; obtain ⟨ys, hO⟩ := Kd.R_own hR; replace HT := Aside0.mk (HT.out.snoc (j := 0) HB.out.size hb HN3.out hO); have HC_b := Aside0.mk hC; have HLb := Aside0.mk hlb; clear hC hO hR hlb; replace BX := Aside0.mk (blk_below BX.out hb); replace BI := Aside0.mk (blk_below BI.out hb); replace BG := Aside0.mk (blk_below BG.out hb); replace BH := Aside0.mk (blk_below BH.out hb); replace HB := Aside0.mk (below_then HB.out HB.out.size hb); clear hb; (try clear hcx hfx); (try clear hci hfi); have hcx := blk_cell BX.out; have hfx := blk_frozen BX.out; have hci := blk_cell BI.out; have hfi := blk_frozen BI.out) | (go_at_call 25; have _ := tok2; refine (image_Write.calls k _ _ l0_0 a0_1 _ _ l0_2 b1 b2 _ (wide_reads HN.out.1 BG.out) (Nat.le_add_right _ _) (wide_reads HN.out.2 BH.out) (Nat.le_add_right _ _) HW.out).mono ?_; rintro e w1 ⟨vc, rfl, hR, hb⟩; clear tok2; obtain ⟨Ac, cc, rfl, hlb, hC⟩ := Kd.R_reads hR; obtain ⟨ys, hO⟩ := Kd.R_own hR; replace HT := Aside0.mk (HT.out.snoc (j := 0) HB.out.size hb HN3.out hO); have HC_c := Aside0.mk hC; have HLc := Aside0.mk hlb; clear hC hO hR hlb; replace HC_b := Aside0.mk (Kd.C_below HC_b.out hb); replace BX := Aside0.mk (blk_below BX.out hb); replace BI := Aside0.mk (blk_below BI.out hb); replace BG := Aside0.mk (blk_below BG.out hb); replace BH := Aside0.mk (blk_below BH.out hb); replace HB := Aside0.mk (below_then HB.out HB.out.size hb); clear hb; (try clear hcx hfx); (try clear hci hfi); have hcx := blk_cell BX.out; have hfx := blk_frozen BX.out; have hci := blk_cell BI.out; have hfi := blk_frozen BI.out) | (go_at_call 26; refine (pleatref07_Write.calls k _ _ l0_0 a0_1 _ _ l0_2 v1 b2 _ (Kd.C_below HC0.out HB.out) HL0.out (Kd.C_below HC2.out HB.out) HL2.out HV.out).mono ?_; rintro e w1 ⟨vv, rfl, hR, hb⟩; obtain ⟨Av, cv, rfl, hlv, hC⟩ := Kd.R_reads hR; have HC_v := Aside0.mk hC; have HLv := Aside0.mk hlv; clear hC hR hlv; replace HT := Aside0.mk (HT.out.next hb); replace HC_b := Aside0.mk (Kd.C_below HC_b.out hb); replace HC_c := Aside0.mk (Kd.C_below HC_c.out hb); replace BX := Aside0.mk (blk_below BX.out hb); replace BI := Aside0.mk (blk_below BI.out hb); replace BG := Aside0.mk (blk_below BG.out hb); replace BH := Aside0.mk (blk_below BH.out hb); replace HB := Aside0.mk (below_then HB.out HB.out.size hb); clear hb; (try clear hcx hfx); (try clear hci hfi); have hcx := blk_cell BX.out; have hfx := blk_frozen BX.out; have hci := blk_cell BI.out; have hfi := blk_frozen BI.out) | (go_at_call 27; have _ := tok3; refine (pleatref00_EqBytes.calls k Ab cb b1 Av cv v1 true _ HC_b.out HLb.out HC_v.out HLv.out HQ.out).mono ?_; rintro e w1 ⟨rfl, hd⟩; have hb := hd.below; clear hd; clear tok3; replace HT := Aside0.mk (HT.out.next hb); replace HC_b := Aside0.mk (Kd.C_below HC_b.out hb); replace HC_c := Aside0.mk (Kd.C_below HC_c.out hb); replace HC_v := Aside0.mk (Kd.C_below HC_v.out hb); replace BX := Aside0.mk (blk_below BX.out hb); replace BI := Aside0.mk (blk_below BI.out hb); replace BG := Aside0.mk (blk_below BG.out hb); replace BH := Aside0.mk (blk_below BH.out hb); replace HB := Aside0.mk (below_then HB.out HB.out.size hb); clear hb; (try clear hcx hfx); (try clear hci hfi); have hcx := blk_cell BX.out; have hfx := blk_frozen BX.out; have hci := blk_cell BI.out; have hfi := blk_frozen BI.out) | (go_at_call 27; have _ := tok4; refine (pleatref00_EqBytes.calls k Ac cc b1 Av cv v1 true _ HC_c.out HLc.out HC_v.out HLv.out HQ.out).mono ?_; rintro e w1 ⟨rfl, hd⟩; have hb := hd.below; clear hd; clear tok4; replace HT := Aside0.mk (HT.out.next hb); replace HC_b := Aside0.mk (Kd.C_below HC_b.out hb); replace HC_c := Aside0.mk (Kd.C_below HC_c.out hb); replace HC_v := Aside0.mk (Kd.C_below HC_v.out hb); replace BX := Aside0.mk (blk_below BX.out hb); replace BI := Aside0.mk (blk_below BI.out hb); replace BG := Aside0.mk (blk_below BG.out hb); replace BH := Aside0.mk (blk_below BH.out hb); replace HB := Aside0.mk (below_then HB.out HB.out.size hb); clear hb; (try clear hcx hfx); (try clear hci hfi); have hcx := blk_cell BX.out; have hfx := blk_frozen BX.out; have hci := blk_cell BI.out; have hfi := blk_frozen BI.out) | (go_at_call 16; refine (pleatref00_EqImage.calls k _ _ l0_0 a0_1 _ _ l0_2 _ _ l0_0 a0_1 _ _ l0_2 true _ (wide_reads HN.out.1 BG.out) (Nat.le_add_right _ _) (wide_reads HN.out.2 BH.out) (Nat.le_add_right _ _) (Kd.C_below HC0.out HB.out) HL0.out (Kd.C_below HC2.out HB.out) HL2.out HP.out).mono ?_; rintro e w1 ⟨rfl, hb⟩; replace HT := Aside0.mk (HT.out.next hb); replace HC_b := Aside0.mk (Kd.C_below HC_b.out hb); replace HC_c := Aside0.mk (Kd.C_below HC_c.out hb); replace HC_v := Aside0.mk (Kd.C_below HC_v.out hb); replace BX := Aside0.mk (blk_below BX.out hb); replace BI := Aside0.mk (blk_below BI.out hb); replace BG := Aside0.mk (blk_below BG.out hb); replace BH := Aside0.mk (blk_below BH.out hb); replace HB := Aside0.mk (below_then HB.out HB.out.size hb); clear hb; (try clear hcx hfx); (try clear hci hfi); have hcx := blk_cell BX.out; have hfx := blk_frozen BX.out; have hci := blk_cell BI.out; have hfi := blk_frozen BI.out) | (go_at_call 17; refine (spareImage_true _ _ 0 0 l0_0 l0_2 a0_1 _ BG.out BH.out HN.out.1 HN.out.2).mono ?_; rintro e w1 ⟨rfl, hb⟩; replace HT := Aside0.mk (HT.out.next hb); replace HB := Aside0.mk (below_then HB.out HB.out.size hb); have HS := Aside0.mk (BagS.start (K := []) HB.out HT.out (fun p hp => (by cases hp)) (fun x hx p hp => (by cases hp)) #[.slice none 0 0, .slice none 0 0, .slice none 0 0, .slice none 0 0, .slice none 0 0, .slice none 0 0, .slice none 0 0, .slice none 0 0, .slice none 0 0, .slice none 0 0, .slice none 0 0, .slice none 0 0, .slice none 0 0, .slice none 0 0, .slice none 0 0, .slice none 0 0, .slice none 0 0] rfl (fun j hj => (by (repeat (rcases j with _ | j; first | rfl)); omega))); clear HT HC_b HC_c HC_v BX BI BG BH HB hb; (try clear hcx hfx); (try clear hci hfi)) | (go_at_call 28; have _ := tok5; refine (bagS_AddBytes (w0 := w) HS.out (by omega)).mono ?_; rintro e w1 ⟨rfl, hs⟩; clear tok5 HS; have HS := Aside0.mk hs; clear hs) | (go_at_call 28; have _ := tok6; refine (bagS_AddBytes (w0 := w) HS.out (by omega)).mono ?_; rintro e w1 ⟨rfl, hs⟩; clear tok6 HS; have HS := Aside0.mk hs; clear hs) | (go_at_call 20; refine (bagS_Apart (w0 := w) HS.out).mono ?_; rintro e w1 ⟨rfl, hb, _⟩; have HB := Aside0.mk hb; clear hb) | (go_at_call 22; refine (pleatlaw07_lives.calls k _ _ HH.out).mono ?_; rintro e w1 ⟨rfl, hb⟩; replace HB := Aside0.mk (below_then HB.out HB.out.size hb); clear hb))
      go_ret
      exact ⟨rfl, HB.out⟩
    · rw [if_neg hg] at h6; cases h6
end

end Go.Proofs.YtfgdjpgdabjpmaaDoor.PImageTells
