-- Written for this claim by a program of this session (wip/tools/pp.py, over the kit's print).
import Derived.Test.YtfgdjpgdabjpmaaPImageRoundx0
namespace Go.Proofs.Ytfgdjpgdabjpmaa.PImageRound
open Go.RowKit Go.Proofs.YtfgdjpgdabjpmaaW.PrintWords Go.Proofs.YtfgdjpgdabjpmaaW.PrintLast Go.Proofs.YtfgdjpgdabjpmaaW.PrintMore
attribute [local go_sem] max2_int min2_int max_two min_two max_three min_three max_four min_four   -- for this text's walks alone
set_option linter.unusedVariables false
set_option linter.unusedSimpArgs false

/-! ### pleatref00_CopyWords: function 70 -/
def pleatref00_CopyWords.f (l0 : List Int) : Option (List Int) := if ([] : List Int).length + l0.length < 35184372088832 then (some (([] : List Int) ++ l0)) else (none)
set_option maxHeartbeats 8000000 in
set_option maxRecDepth 100000 in
theorem pleatref00_CopyWords.calls (A0 : Option Addr) (c0 : Nat) (l0 : List Int) (r : List Int) (w : World) (hr0 : Kd.C (Kd.int .u32) w A0 l0.length l0) (hc0 : l0.length ≤ c0) (h : pleatref00_CopyWords.f l0 = some r) :
    Calls Try.prog 70 #[.slice A0 l0.length c0] w fun e w' => ∃ v0_ : Value, e = .returned (v0_) ∧ Kd.R (Kd.int .u32) 38 w' w.heap.size (fun _ => True) v0_ r ∧ Below w.heap.size w w' := by
  have HR0 := Aside0.mk hr0
  have HC0 := Aside0.mk hc0
  clear hr0 hc0
  have HB := Aside0.mk (Below.refl w.heap.size w)
  have H := h
  clear h
  unfold pleatref00_CopyWords.f at H
  obtain ⟨c2, H⟩ := zG H
  have LMc2 := Aside0.mk c2
  clear c2
  obtain ⟨y101, hy101⟩ : ∃ y_ : List Int, y_ = (([] : List Int) ++ l0) := ⟨_, rfl⟩
  (try rw [← hy101] at H)
  have Ny101 := Aside0.mk hy101
  clear hy101
  obtain rfl := Option.some.inj H
  go_enter Try.func70, Try.ntmps70
  go_wp2_with (first | ((with_reducible refine gate_builtin (b := .append) (xs := #[.tmp 4, .tmp 5]) rfl ?_); at_builtin; refine Kd.R_append_rows (Kd.int .u32) (w0 := w) w.heap.size rfl (.tmp 4) (.tmp 5) 22 38 (.int .u32 0) 4 rfl Try.underlying22 info38 rfl (by decide) (by omega) (.slice none 0 0) ([] : List Int) l0 _ _ _ (fun _ => True) (fun _ => False) rfl rfl ?aO ?aR (fun _ _ h => h) (fun _ h => h.elim) ?aF ?aB ?aS ?aL ?_; (case aR => repeat (first | exact HR0.out | (with_reducible refine Kd.C_alloc ?_ _) | (with_reducible refine Kd.C_drewN ?_ _) | (with_reducible refine Kd.C_drew ?_))); (case aB => exact (zHB)); (case aF => exact (fun _ _ => trivial)); (case aO => exact ((Kd.R_nil _ _ _ _ (fun _ => True)))); (case aS => exact (below_size (zHB))); (case aL => have := LMc2.out; omega); intro v102 w3 ho hb hg hat; rw [← Ny101.out] at ho; refine zs hb (zs (ho) ?_); clear HB; intro HO103 HB; clear ho hb hg hat))
  go_ret
  exact ⟨_, zE, by (with_reducible repeat (first | apply Kd.R_alloc | apply Kd.R_drewN | apply Kd.R_drew)); exact HO103.out, zHB⟩

/-! ### pleatref00_CopyLongs: function 71 -/
def pleatref00_CopyLongs.f (l0 : List Int) : Option (List Int) := if ([] : List Int).length + l0.length < 17592186044416 then (some (([] : List Int) ++ l0)) else (none)
set_option maxHeartbeats 8000000 in
set_option maxRecDepth 100000 in
theorem pleatref00_CopyLongs.calls (A0 : Option Addr) (c0 : Nat) (l0 : List Int) (r : List Int) (w : World) (hr0 : Kd.C (Kd.int .i64) w A0 l0.length l0) (hc0 : l0.length ≤ c0) (h : pleatref00_CopyLongs.f l0 = some r) :
    Calls Try.prog 71 #[.slice A0 l0.length c0] w fun e w' => ∃ v0_ : Value, e = .returned (v0_) ∧ Kd.R (Kd.int .i64) 2 w' w.heap.size (fun _ => True) v0_ r ∧ Below w.heap.size w w' := by
  have HR0 := Aside0.mk hr0
  have HC0 := Aside0.mk hc0
  clear hr0 hc0
  have HB := Aside0.mk (Below.refl w.heap.size w)
  have H := h
  clear h
  unfold pleatref00_CopyLongs.f at H
  obtain ⟨c2, H⟩ := zG H
  have LMc2 := Aside0.mk c2
  clear c2
  obtain ⟨y104, hy104⟩ : ∃ y_ : List Int, y_ = (([] : List Int) ++ l0) := ⟨_, rfl⟩
  (try rw [← hy104] at H)
  have Ny104 := Aside0.mk hy104
  clear hy104
  obtain rfl := Option.some.inj H
  go_enter Try.func71, Try.ntmps71
  go_wp2_with (first | ((with_reducible refine gate_builtin (b := .append) (xs := #[.tmp 4, .tmp 5]) rfl ?_); at_builtin; refine Kd.R_append_rows (Kd.int .i64) (w0 := w) w.heap.size rfl (.tmp 4) (.tmp 5) 23 2 (.int .i64 0) 8 rfl Try.underlying23 info2 rfl (by decide) (by omega) (.slice none 0 0) ([] : List Int) l0 _ _ _ (fun _ => True) (fun _ => False) rfl rfl ?aO ?aR (fun _ _ h => h) (fun _ h => h.elim) ?aF ?aB ?aS ?aL ?_; (case aR => repeat (first | exact HR0.out | (with_reducible refine Kd.C_alloc ?_ _) | (with_reducible refine Kd.C_drewN ?_ _) | (with_reducible refine Kd.C_drew ?_))); (case aB => exact (zHB)); (case aF => exact (fun _ _ => trivial)); (case aO => exact ((Kd.R_nil _ _ _ _ (fun _ => True)))); (case aS => exact (below_size (zHB))); (case aL => have := LMc2.out; omega); intro v105 w3 ho hb hg hat; rw [← Ny104.out] at ho; refine zs hb (zs (ho) ?_); clear HB; intro HO106 HB; clear ho hb hg hat))
  go_ret
  exact ⟨_, zE, by (with_reducible repeat (first | apply Kd.R_alloc | apply Kd.R_drewN | apply Kd.R_drew)); exact HO106.out, zHB⟩

/-! ### pleatref00_CopyImage: function 15 -/
def pleatref00_CopyImage.f (l0_0 : List Int) (a0_1 : Int) (l0_2 : List Int) : Option (List Int × Int × List Int) := (pleatref00_CopyWords.f l0_0).bind fun t109 => ((pleatref00_CopyLongs.f l0_2).bind fun t112 => (some (t109, a0_1, t112)))
set_option maxHeartbeats 8000000 in
set_option maxRecDepth 100000 in
theorem pleatref00_CopyImage.calls (A0_0 : Option Addr) (c0_0 : Nat) (l0_0 : List Int) (a0_1 : Int) (A0_2 : Option Addr) (c0_2 : Nat) (l0_2 : List Int) (r1 : List Int) (r2 : Int) (r3 : List Int) (w : World) (hr0_0 : Kd.C (Kd.int .u32) w A0_0 l0_0.length l0_0) (hc0_0 : l0_0.length ≤ c0_0) (hr0_2 : Kd.C (Kd.int .i64) w A0_2 l0_2.length l0_2) (hc0_2 : l0_2.length ≤ c0_2) (h : pleatref00_CopyImage.f l0_0 a0_1 l0_2 = some (r1, r2, r3)) :
    Calls Try.prog 15 #[.agg #[.slice A0_0 l0_0.length c0_0, .int .i64 a0_1, .slice A0_2 l0_2.length c0_2]] w fun e w' => ∃ v0_ v2_ : Value, e = .returned (.agg #[v0_, .int .i64 r2, v2_]) ∧ Kd.R (Kd.int .u32) 38 w' w.heap.size (fun _ => True) v0_ r1 ∧ Kd.R (Kd.int .i64) 2 w' w.heap.size (fun _ => True) v2_ r3 ∧ Below w.heap.size w w' := by
  have hu25 := Try.underlying25
  have HR0_0 := Aside0.mk hr0_0
  have HC0_0 := Aside0.mk hc0_0
  clear hr0_0 hc0_0
  have HR0_2 := Aside0.mk hr0_2
  have HC0_2 := Aside0.mk hc0_2
  clear hr0_2 hc0_2
  have HB := Aside0.mk (Below.refl w.heap.size w)
  have H := h
  clear h
  unfold pleatref00_CopyImage.f at H
  replace H := Option.bind_eq_some_iff.mp H
  obtain ⟨t109, A20, H⟩ := H
  (try dsimp only at H)
  have A2 := Aside0.mk A20
  clear A20
  replace H := Option.bind_eq_some_iff.mp H
  obtain ⟨t112, A30, H⟩ := H
  (try dsimp only at H)
  have A3 := Aside0.mk A30
  clear A30
  simp only [Option.some.injEq, Prod.mk.injEq] at H
  obtain ⟨rfl, rfl, rfl⟩ := H
  go_enter Try.func15, Try.ntmps15
  go_wp2_with (first | ((with_reducible refine gate_dst (N := 1) rfl ?_); refine zBox (N := 1) (cs := #[.slice A0_0 l0_0.length c0_0, .int .i64 a0_1, .slice A0_2 l0_2.length c0_2]) (t := 25) ?_; intro gb107 hg w4 hbox hb; refine zs (below_step (zHB) hb) (zs hbox (zs (zGe hg zHB) (zs (zGe hg zHB) ?_))); clear HB; intro GE107 GW107 BK107 HB; clear hb hbox hg) | ((with_reducible refine gate_dst (N := 2) rfl ?_); refine zBox (N := 2) (cs := #[.slice none 0 0, .int .i64 0, .slice none 0 0]) (t := 25) ?_; intro gb108 hg w5 hbox hb; refine zs (blk_below (g := gb107) zBK hb) (zs (below_step (zHB) hb) (zs hbox (zs (zGe hg zHB) (zs (zGe hg zHB) (zs (zNl hg zBK : gb107 ≠ gb108) (zs ((zNg hg zBK : gb108 ≠ gb107)) ?_)))))); clear BK107 HB; intro NB108_107 NB107_108 GE108 GW108 BK108 HB BK107; clear hb hbox hg; have hnb6 := NB107_108.out; have hnc6 := NB108_107.out; have hcz7 := blk_cell BK107.out; have hfz7 := blk_frozen BK107.out) | ((with_reducible refine gate_callee (f := 70) rfl ?_); refine zGo (N := (some 5)) Try.func70 #[.slice A0_0 l0_0.length c0_0] ?_; (with_reducible refine (pleatref00_CopyWords.calls _ _ l0_0 t109 _ ?side1 ?side2 A2.out).mono ?_); (case side1 => exact zS); (case side2 => exact zS); rintro e w8 ⟨v110, rfl, ho0, hb⟩; refine ⟨_, rfl, ?_⟩; refine zs (Kd.R_lower ho0 (below_size (zHB))) (zs (blk_below (g := gb107) zBK hb) (zs (blk_below (g := gb108) zBK hb) (zs (below_step (zHB) hb) ?_))); clear BK107 BK108 HB; intro HB BK108 BK107 HO111; clear hb ho0; obtain ⟨Ao9, co9, eo9⟩ := Kd.R_slice HO111.out; subst eo9; have hcz10 := blk_cell BK107.out; have hfz10 := blk_frozen BK107.out) | ((with_reducible refine gate_callee (f := 71) rfl ?_); refine zGo (N := (some 9)) Try.func71 #[.slice A0_2 l0_2.length c0_2] ?_; (with_reducible refine (pleatref00_CopyLongs.calls _ _ l0_2 t112 _ ?side1 ?side2 A3.out).mono ?_); (case side1 => exact Kd.C_below HR0_2.out (zHB)); (case side2 => exact zS); rintro e w11 ⟨v113, rfl, ho0, hb⟩; refine ⟨_, rfl, ?_⟩; refine zs (Kd.R_below (by (with_reducible repeat (first | apply Kd.R_alloc | apply Kd.R_drewN | apply Kd.R_drew)); exact (Kd.R_mono (Kd.R_far (p := ⟨gb107, 0, none⟩) (Kd.R_types HO111.out BK107.out (by decide)) (fun _ hk => hk.2) (.slice Ao9 t109.length co9)) (fun _ h_ => h_.1))) hb) (zs (Kd.R_lower ho0 (below_size (zHB))) (zs (blk_below (g := gb107) (o := .cells #[.slice Ao9 t109.length co9, .int .i64 a0_1, .slice A0_2 l0_2.length c0_2] 25 (0, 0)) (zBK) hb) (zs (blk_below (g := gb108) zBK hb) (zs (below_step (zHB) hb) ?_)))); clear HO111 BK107 BK108 HB; intro HB BK108 BK107 HO114 HO111; clear hb ho0; obtain ⟨Ao12, co12, eo12⟩ := Kd.R_slice HO114.out; subst eo12; have hcz13 := blk_cell BK107.out; have hfz13 := blk_frozen BK107.out; have hcz14 := blk_cell BK108.out; have hfz14 := blk_frozen BK108.out))
  refine zRet gb108 25 #[.slice Ao9 t109.length co9, .int .i64 a0_1, .slice Ao12 t112.length co12] Try.underlying25 ?_
  exact ⟨_, _, zE, by (with_reducible repeat (first | apply Kd.R_alloc | apply Kd.R_drewN | apply Kd.R_drew)); exact Kd.R_mono (Kd.R_far (p := ⟨gb108, 2, none⟩) (Kd.R_far (p := ⟨gb108, 1, none⟩) (Kd.R_far (p := ⟨gb108, 0, none⟩) (Kd.R_far (p := ⟨gb107, 2, none⟩) (Kd.R_types (Kd.R_types HO111.out BK107.out (by decide)) BK108.out (by decide)) (fun _ hk => hk.1.2) (.slice Ao12 t112.length co12)) (fun _ hk => hk.2) (.slice Ao9 t109.length co9)) (fun _ hk => hk.2) (.int .i64 a0_1)) (fun _ hk => hk.2) (.slice Ao12 t112.length co12)) (fun _ hk => trivial), by (with_reducible repeat (first | apply Kd.R_alloc | apply Kd.R_drewN | apply Kd.R_drew)); exact Kd.R_mono (Kd.R_far (p := ⟨gb108, 2, none⟩) (Kd.R_far (p := ⟨gb108, 1, none⟩) (Kd.R_far (p := ⟨gb108, 0, none⟩) (Kd.R_far (p := ⟨gb107, 2, none⟩) (Kd.R_types (Kd.R_types HO114.out BK107.out (by decide)) BK108.out (by decide)) (fun _ hk => hk.1.2) (.slice Ao12 t112.length co12)) (fun _ hk => hk.2) (.slice Ao9 t109.length co9)) (fun _ hk => hk.2) (.int .i64 a0_1)) (fun _ hk => hk.2) (.slice Ao12 t112.length co12)) (fun _ hk => trivial), zHB⟩

/-! ### isa_has: function 72, by hand -/
def isa_fields.Rel (w : World) (v : Value) (w' : World) : Prop := (v = .int .i8 3 ∧ w' = (w.alloc (.cells #[.int .i64 0, .int .i64 0, .int .i64 0, .int .i64 0, .int .i64 0, .int .i64 0, .int .i64 0, .int .i64 0, .int .i64 0, .int .i64 0, .int .i64 0, .int .i64 0, .int .i64 0, .int .i64 0, .int .i64 0, .int .i64 0, .int .i64 0, .int .i64 0, .int .i64 0, .int .i64 0, .int .i64 0, .int .i64 0] 162)).alloc (.cells #[.int .i64 0, .int .i64 9, .int .i64 3, .int .i64 0, .int .i64 0, .int .i64 0, .int .i64 0, .int .i64 0, .int .i64 0, .int .i64 0, .int .i64 0, .int .i64 0, .int .i64 0, .int .i64 0, .int .i64 0, .int .i64 0, .int .i64 0, .int .i64 0, .int .i64 0, .int .i64 0, .int .i64 0, .int .i64 0] 162)) ∨ (v = .int .i8 4 ∧ w' = (w.alloc (.cells #[.int .i64 0, .int .i64 0, .int .i64 0, .int .i64 0, .int .i64 0, .int .i64 0, .int .i64 0, .int .i64 0, .int .i64 0, .int .i64 0, .int .i64 0, .int .i64 0, .int .i64 0, .int .i64 0, .int .i64 0, .int .i64 0, .int .i64 0, .int .i64 0, .int .i64 0, .int .i64 0, .int .i64 0, .int .i64 0] 162)).alloc (.cells #[.int .i64 0, .int .i64 9, .int .i64 3, .int .i64 7, .int .i64 0, .int .i64 0, .int .i64 0, .int .i64 0, .int .i64 0, .int .i64 0, .int .i64 0, .int .i64 0, .int .i64 0, .int .i64 0, .int .i64 0, .int .i64 0, .int .i64 0, .int .i64 0, .int .i64 0, .int .i64 0, .int .i64 0, .int .i64 0] 162)) ∨ (v = .int .i8 5 ∧ w' = (w.alloc (.cells #[.int .i64 0, .int .i64 0, .int .i64 0, .int .i64 0, .int .i64 0, .int .i64 0, .int .i64 0, .int .i64 0, .int .i64 0, .int .i64 0, .int .i64 0, .int .i64 0, .int .i64 0, .int .i64 0, .int .i64 0, .int .i64 0, .int .i64 0, .int .i64 0, .int .i64 0, .int .i64 0, .int .i64 0, .int .i64 0] 162)).alloc (.cells #[.int .i64 0, .int .i64 9, .int .i64 3, .int .i64 7, .int .i64 7, .int .i64 0, .int .i64 0, .int .i64 0, .int .i64 0, .int .i64 0, .int .i64 0, .int .i64 0, .int .i64 0, .int .i64 0, .int .i64 0, .int .i64 0, .int .i64 0, .int .i64 0, .int .i64 0, .int .i64 0, .int .i64 0, .int .i64 0] 162)) ∨ (v = .int .i8 6 ∧ w' = (w.alloc (.cells #[.int .i64 0, .int .i64 0, .int .i64 0, .int .i64 0, .int .i64 0, .int .i64 0, .int .i64 0, .int .i64 0, .int .i64 0, .int .i64 0, .int .i64 0, .int .i64 0, .int .i64 0, .int .i64 0, .int .i64 0, .int .i64 0, .int .i64 0, .int .i64 0, .int .i64 0, .int .i64 0, .int .i64 0, .int .i64 0] 162)).alloc (.cells #[.int .i64 0, .int .i64 9, .int .i64 3, .int .i64 7, .int .i64 7, .int .i64 7, .int .i64 0, .int .i64 0, .int .i64 0, .int .i64 0, .int .i64 0, .int .i64 0, .int .i64 0, .int .i64 0, .int .i64 0, .int .i64 0, .int .i64 0, .int .i64 0, .int .i64 0, .int .i64 0, .int .i64 0, .int .i64 0] 162)) ∨ (v = .int .i8 7 ∧ w' = (w.alloc (.cells #[.int .i64 0, .int .i64 0, .int .i64 0, .int .i64 0, .int .i64 0, .int .i64 0, .int .i64 0, .int .i64 0, .int .i64 0, .int .i64 0, .int .i64 0, .int .i64 0, .int .i64 0, .int .i64 0, .int .i64 0, .int .i64 0, .int .i64 0, .int .i64 0, .int .i64 0, .int .i64 0, .int .i64 0, .int .i64 0] 162)).alloc (.cells #[.int .i64 0, .int .i64 9, .int .i64 3, .int .i64 7, .int .i64 7, .int .i64 7, .int .i64 7, .int .i64 0, .int .i64 0, .int .i64 0, .int .i64 0, .int .i64 0, .int .i64 0, .int .i64 0, .int .i64 0, .int .i64 0, .int .i64 0, .int .i64 0, .int .i64 0, .int .i64 0, .int .i64 0, .int .i64 0] 162)) ∨ (v = .int .i8 8 ∧ w' = (w.alloc (.cells #[.int .i64 0, .int .i64 0, .int .i64 0, .int .i64 0, .int .i64 0, .int .i64 0, .int .i64 0, .int .i64 0, .int .i64 0, .int .i64 0, .int .i64 0, .int .i64 0, .int .i64 0, .int .i64 0, .int .i64 0, .int .i64 0, .int .i64 0, .int .i64 0, .int .i64 0, .int .i64 0, .int .i64 0, .int .i64 0] 162)).alloc (.cells #[.int .i64 0, .int .i64 9, .int .i64 3, .int .i64 7, .int .i64 7, .int .i64 7, .int .i64 7, .int .i64 7, .int .i64 0, .int .i64 0, .int .i64 0, .int .i64 0, .int .i64 0, .int .i64 0, .int .i64 0, .int .i64 0, .int .i64 0, .int .i64 0, .int .i64 0, .int .i64 0, .int .i64 0, .int .i64 0] 162)) ∨ (v = .int .i8 9 ∧ w' = (w.alloc (.cells #[.int .i64 0, .int .i64 0, .int .i64 0, .int .i64 0, .int .i64 0, .int .i64 0, .int .i64 0, .int .i64 0, .int .i64 0, .int .i64 0, .int .i64 0, .int .i64 0, .int .i64 0, .int .i64 0, .int .i64 0, .int .i64 0, .int .i64 0, .int .i64 0, .int .i64 0, .int .i64 0, .int .i64 0, .int .i64 0] 162)).alloc (.cells #[.int .i64 0, .int .i64 9, .int .i64 3, .int .i64 7, .int .i64 7, .int .i64 7, .int .i64 7, .int .i64 7, .int .i64 7, .int .i64 0, .int .i64 0, .int .i64 0, .int .i64 0, .int .i64 0, .int .i64 0, .int .i64 0, .int .i64 0, .int .i64 0, .int .i64 0, .int .i64 0, .int .i64 0, .int .i64 0] 162)) ∨ (v = .int .i8 10 ∧ w' = (w.alloc (.cells #[.int .i64 0, .int .i64 0, .int .i64 0, .int .i64 0, .int .i64 0, .int .i64 0, .int .i64 0, .int .i64 0, .int .i64 0, .int .i64 0, .int .i64 0, .int .i64 0, .int .i64 0, .int .i64 0, .int .i64 0, .int .i64 0, .int .i64 0, .int .i64 0, .int .i64 0, .int .i64 0, .int .i64 0, .int .i64 0] 162)).alloc (.cells #[.int .i64 0, .int .i64 9, .int .i64 3, .int .i64 7, .int .i64 7, .int .i64 7, .int .i64 7, .int .i64 7, .int .i64 7, .int .i64 7, .int .i64 0, .int .i64 0, .int .i64 0, .int .i64 0, .int .i64 0, .int .i64 0, .int .i64 0, .int .i64 0, .int .i64 0, .int .i64 0, .int .i64 0, .int .i64 0] 162)) ∨ (v = .int .i8 11 ∧ w' = (w.alloc (.cells #[.int .i64 0, .int .i64 0, .int .i64 0, .int .i64 0, .int .i64 0, .int .i64 0, .int .i64 0, .int .i64 0, .int .i64 0, .int .i64 0, .int .i64 0, .int .i64 0, .int .i64 0, .int .i64 0, .int .i64 0, .int .i64 0, .int .i64 0, .int .i64 0, .int .i64 0, .int .i64 0, .int .i64 0, .int .i64 0] 162)).alloc (.cells #[.int .i64 0, .int .i64 9, .int .i64 3, .int .i64 7, .int .i64 7, .int .i64 7, .int .i64 7, .int .i64 7, .int .i64 7, .int .i64 7, .int .i64 7, .int .i64 0, .int .i64 0, .int .i64 0, .int .i64 0, .int .i64 0, .int .i64 0, .int .i64 0, .int .i64 0, .int .i64 0, .int .i64 0, .int .i64 0] 162))
set_option maxRecDepth 100000 in
set_option maxHeartbeats 4000000 in
theorem isa_fields.calls (w : World) : Calls Try.prog 109 #[] w fun e w' => e = .returned (.agg #[.int .i64 0, .int .i64 9, .int .i64 3, .int .i64 7, .int .i64 7, .int .i64 7, .int .i64 7, .int .i64 7, .int .i64 7, .int .i64 7, .int .i64 7, .int .i64 11, .int .i64 14, .int .i64 1, .int .i64 10, .int .i64 24, .int .i64 26, .int .i64 24, .int .i64 2, .int .i64 2, .int .i64 25, .int .i64 0]) ∧ Below w.heap.size w w' := by
  go_enter Try.func109, Try.ntmps109
  go_wp2
  go_loopw [2] (fun v w' => isa_fields.Rel w v w') (fun v _ => 11 - (intOf v).toNat)
  case atStart => exact .inl ⟨rfl, rfl⟩
  case round =>
    rcases hrel with ⟨rfl, rfl⟩ | ⟨rfl, rfl⟩ | ⟨rfl, rfl⟩ | ⟨rfl, rfl⟩ | ⟨rfl, rfl⟩ | ⟨rfl, rfl⟩ | ⟨rfl, rfl⟩ | ⟨rfl, rfl⟩ | ⟨rfl, rfl⟩
    · go_wp2
      go_roundw
      case rel => exact .inr (.inl ⟨rfl, rfl⟩)
      case measure => simp [intOf]
    · go_wp2
      go_roundw
      case rel => exact .inr (.inr (.inl ⟨rfl, rfl⟩))
      case measure => simp [intOf]
    · go_wp2
      go_roundw
      case rel => exact .inr (.inr (.inr (.inl ⟨rfl, rfl⟩)))
      case measure => simp [intOf]
    · go_wp2
      go_roundw
      case rel => exact .inr (.inr (.inr (.inr (.inl ⟨rfl, rfl⟩))))
      case measure => simp [intOf]
    · go_wp2
      go_roundw
      case rel => exact .inr (.inr (.inr (.inr (.inr (.inl ⟨rfl, rfl⟩)))))
      case measure => simp [intOf]
    · go_wp2
      go_roundw
      case rel => exact .inr (.inr (.inr (.inr (.inr (.inr (.inl ⟨rfl, rfl⟩))))))
      case measure => simp [intOf]
    · go_wp2
      go_roundw
      case rel => exact .inr (.inr (.inr (.inr (.inr (.inr (.inr (.inl ⟨rfl, rfl⟩)))))))
      case measure => simp [intOf]
    · go_wp2
      go_roundw
      case rel => exact .inr (.inr (.inr (.inr (.inr (.inr (.inr (.inr (⟨rfl, rfl⟩))))))))
      case measure => simp [intOf]
    · have hl : ((w.alloc (.cells #[.int .i64 0, .int .i64 0, .int .i64 0, .int .i64 0, .int .i64 0, .int .i64 0, .int .i64 0, .int .i64 0, .int .i64 0, .int .i64 0, .int .i64 0, .int .i64 0, .int .i64 0, .int .i64 0, .int .i64 0, .int .i64 0, .int .i64 0, .int .i64 0, .int .i64 0, .int .i64 0, .int .i64 0, .int .i64 0] 162)).alloc (.cells #[.int .i64 0, .int .i64 9, .int .i64 3, .int .i64 7, .int .i64 7, .int .i64 7, .int .i64 7, .int .i64 7, .int .i64 7, .int .i64 7, .int .i64 7, .int .i64 11, .int .i64 14, .int .i64 1, .int .i64 10, .int .i64 24, .int .i64 26, .int .i64 24, .int .i64 2, .int .i64 2, .int .i64 25, .int .i64 0] 162)).heap[w.heap.size + 1]? = some (.cells #[.int .i64 0, .int .i64 9, .int .i64 3, .int .i64 7, .int .i64 7, .int .i64 7, .int .i64 7, .int .i64 7, .int .i64 7, .int .i64 7, .int .i64 7, .int .i64 11, .int .i64 14, .int .i64 1, .int .i64 10, .int .i64 24, .int .i64 26, .int .i64 24, .int .i64 2, .int .i64 2, .int .i64 25, .int .i64 0] 162 (0, 0)) := heap_alloc2_new _ _ _
      have hs : ((w.alloc (.cells #[.int .i64 0, .int .i64 0, .int .i64 0, .int .i64 0, .int .i64 0, .int .i64 0, .int .i64 0, .int .i64 0, .int .i64 0, .int .i64 0, .int .i64 0, .int .i64 0, .int .i64 0, .int .i64 0, .int .i64 0, .int .i64 0, .int .i64 0, .int .i64 0, .int .i64 0, .int .i64 0, .int .i64 0, .int .i64 0] 162)).alloc (.cells #[.int .i64 0, .int .i64 9, .int .i64 3, .int .i64 7, .int .i64 7, .int .i64 7, .int .i64 7, .int .i64 7, .int .i64 7, .int .i64 7, .int .i64 7, .int .i64 11, .int .i64 14, .int .i64 1, .int .i64 10, .int .i64 24, .int .i64 26, .int .i64 24, .int .i64 2, .int .i64 2, .int .i64 25, .int .i64 0] 162)).heap[w.heap.size]? = some (.cells #[.int .i64 0, .int .i64 0, .int .i64 0, .int .i64 0, .int .i64 0, .int .i64 0, .int .i64 0, .int .i64 0, .int .i64 0, .int .i64 0, .int .i64 0, .int .i64 0, .int .i64 0, .int .i64 0, .int .i64 0, .int .i64 0, .int .i64 0, .int .i64 0, .int .i64 0, .int .i64 0, .int .i64 0, .int .i64 0] 162 (0, 0)) := heap_alloc2_old _ _ _
      go_wp2_with (first | (refine wpList_load_row rfl 162 (.tmp 1) rfl (w.heap.size + 1) rfl 162 _ _ _ hl Try.underlying162 rfl (by kernel_rfl) ?_) | (refine wpList_store_row rfl 162 (.tmp 0) (.tmp 21) rfl w.heap.size _ rfl rfl 162 _ hs (by kernel_rfl) rfl (by simp [Value.oneCell']) ?_))
      exact bodyPost_ret (v := .agg #[.int .i64 0, .int .i64 9, .int .i64 3, .int .i64 7, .int .i64 7, .int .i64 7, .int .i64 7, .int .i64 7, .int .i64 7, .int .i64 7, .int .i64 7, .int .i64 11, .int .i64 14, .int .i64 1, .int .i64 10, .int .i64 24, .int .i64 26, .int .i64 24, .int .i64 2, .int .i64 2, .int .i64 25, .int .i64 0]) (results_cell_row rfl _ _ w.heap.size 162 _ _ _ rfl (setRow_heap _ _ _ _ _ _ hs) Try.underlying162 rfl (by kernel_rfl)) rfl ⟨rfl, below_setRow (((Below.refl w.heap.size w).alloc (Nat.le_refl _) _).alloc (by simp) _) (Nat.le_refl _) _⟩
def isa_hasT : List Int := [0, 9, 3, 7, 7, 7, 7, 7, 7, 7, 7, 11, 14, 1, 10, 24, 26, 24, 2, 2, 25, 0]
def isa_has.f (a0 : Int) : Option Int := some (if a0 < 0 then 0 else isa_hasT.getD a0.toNat 0)
theorem isa_has.index (n : Nat) (h : n < 22) : ∀ w : World, (Instr.index 162 (.agg #[.int .i64 0, .int .i64 9, .int .i64 3, .int .i64 7, .int .i64 7, .int .i64 7, .int .i64 7, .int .i64 7, .int .i64 7, .int .i64 7, .int .i64 7, .int .i64 11, .int .i64 14, .int .i64 1, .int .i64 10, .int .i64 24, .int .i64 26, .int .i64 24, .int .i64 2, .int .i64 2, .int .i64 25, .int .i64 0]) (.int .i8 n)).run Try.prog w = .ok (.int .i64 (isa_hasT.getD n 0)) w := by
  rcases n with _ | _ | _ | _ | _ | _ | _ | _ | _ | _ | _ | _ | _ | _ | _ | _ | _ | _ | _ | _ | _ | _ | n
  all_goals first | omega | (intro w; kernel_rfl)
set_option maxRecDepth 100000 in
set_option maxHeartbeats 4000000 in
theorem isa_has.calls (a0 r : Int) (w : World) (h : isa_has.f a0 = some r) : Calls Try.prog 72 #[.int .i8 a0] w fun e w' => e = .returned (.int .i64 r) ∧ Below w.heap.size w w' := by
  obtain rfl := Option.some.inj h
  clear h
  by_cases h0 : a0 < 0
  · rw [if_pos h0]
    go_enter Try.func72, Try.ntmps72
    go_wp2
    go_ret
    exact ⟨rfl, Below.refl _ _⟩
  · rw [if_neg h0]
    obtain ⟨n, rfl⟩ := Int.eq_ofNat_of_zero_le (Int.not_lt.1 h0)
    by_cases h1 : n < 22
    · have hi := isa_has.index n h1
      simp only [Int.toNat_natCast]
      generalize isa_hasT.getD n 0 = r at hi ⊢
      go_enter Try.func72, Try.ntmps72
      go_wp2_with (go_at_call 109; refine (isa_fields.calls _).mono ?_; rintro e w' ⟨rfl, hb⟩)
      go_ret
      exact ⟨rfl, hb⟩
    · have h2 : isa_hasT.getD n 0 = 0 := by rw [List.getD_eq_getElem?_getD, List.getElem?_eq_none (by simpa [isa_hasT] using h1)]; rfl
      rw [Int.toNat_natCast, h2]
      clear h2
      go_enter Try.func72, Try.ntmps72
      go_wp2
      go_ret
      exact ⟨rfl, Below.refl _ _⟩

/-! ### isa_Encode: function 73, by hand -/
def enc_ok (f r m : Int) : Prop := 0 ≤ r ∧ r < 16 ∧ (r = 0 ∨ (bits BinOp.and IntKind.i64 f m == 0) = false)
instance (f r m : Int) : Decidable (enc_ok f r m) := by unfold enc_ok; infer_instance
structure enc_oks (f D A B : Int) (k : Nat) : Prop where
  d : 0 < k → enc_ok f D 1
  a : 1 < k → enc_ok f A 2
  b : 2 < k → enc_ok f B 4
theorem enc_oks.next_d {f D A B : Int} (_h : enc_oks f D A B 0) (h1 : enc_ok f D 1) : enc_oks f D A B 1 := ⟨fun _ => h1, fun h => by omega, fun h => by omega⟩
theorem enc_oks.next_a {f D A B : Int} (h : enc_oks f D A B 1) (h1 : enc_ok f A 2) : enc_oks f D A B 2 := ⟨fun _ => h.d (by omega), fun _ => h1, fun h => by omega⟩
theorem enc_oks.next_b {f D A B : Int} (h : enc_oks f D A B 2) (h1 : enc_ok f B 4) : enc_oks f D A B 3 := ⟨fun _ => h.d (by omega), fun _ => h.a (by omega), fun _ => h1⟩
def enc_lo (f : Int) : Int := if (bits BinOp.and IntKind.i64 f 16 != 0) = true then 0 else if (bits BinOp.and IntKind.i64 f 8 != 0) = true then -16384 else 0
def enc_hi (f : Int) : Int := if (bits BinOp.and IntKind.i64 f 16 != 0) = true then 16383 else if (bits BinOp.and IntKind.i64 f 8 != 0) = true then 16383 else 0
theorem enc_16 {f : Int} (h : (bits BinOp.and IntKind.i64 f 16 != 0) = true) : enc_lo f = 0 ∧ enc_hi f = 16383 := by unfold enc_lo enc_hi; rw [if_pos h, if_pos h]; exact ⟨rfl, rfl⟩
theorem enc_8 {f : Int} (h : (bits BinOp.and IntKind.i64 f 16 != 0) = false) (h8 : (bits BinOp.and IntKind.i64 f 8 != 0) = true) : enc_lo f = -16384 ∧ enc_hi f = 16383 := by unfold enc_lo enc_hi; rw [h, h8]; exact ⟨rfl, rfl⟩
theorem enc_0 {f : Int} (h : (bits BinOp.and IntKind.i64 f 16 != 0) = false) (h8 : (bits BinOp.and IntKind.i64 f 8 != 0) = false) : enc_lo f = 0 ∧ enc_hi f = 0 := by unfold enc_lo enc_hi; rw [h, h8]; exact ⟨rfl, rfl⟩
def enc_pack (n D A B N : Int) : Int := n * 134217728 + D * 8388608 + A * 524288 + B * 32768 + N % 32768
def encF (f n D A B N : Int) : Int × Int := if enc_ok f D 1 ∧ enc_ok f A 2 ∧ enc_ok f B 4 then (if N < enc_lo f ∨ enc_hi f < N then (0, 11) else (enc_pack n D A B N, 0)) else (0, 11)
theorem encF_d {f n D A B N : Int} (h : ¬ enc_ok f D 1) : encF f n D A B N = (0, 11) := by unfold encF; rw [if_neg (fun h' => h h'.1)]
theorem encF_a {f n D A B N : Int} (h : ¬ enc_ok f A 2) : encF f n D A B N = (0, 11) := by unfold encF; rw [if_neg (fun h' => h h'.2.1)]
theorem encF_b {f n D A B N : Int} (h : ¬ enc_ok f B 4) : encF f n D A B N = (0, 11) := by unfold encF; rw [if_neg (fun h' => h h'.2.2)]
theorem encF_n {f n D A B N : Int} (h : N < enc_lo f ∨ enc_hi f < N) : encF f n D A B N = (0, 11) := by unfold encF; rw [if_pos h]; split <;> rfl
theorem encF_y {f n D A B N : Int} (h : enc_oks f D A B 3) (h1 : ¬ (N < enc_lo f ∨ enc_hi f < N)) : encF f n D A B N = (enc_pack n D A B N, 0) := by unfold encF; rw [if_pos ⟨h.d (by omega), h.a (by omega), h.b (by omega)⟩, if_neg h1]
def encPost (v : Int × Int) (e : Ending) : Prop := e = .returned (.tuple #[.int .u32 v.1, .int .i64 v.2])
theorem encPost_bad {v : Int × Int} (h : v = (0, 11)) : encPost v (.returned (.tuple #[.int .u32 0, .int .i64 11])) := by rw [h]; rfl
theorem u32_and32767 (n : Int) : bits .and .u32 n 32767 = n % 32768 := by
  have h127 : (BitVec.ofInt 32 32767).toNat = 2 ^ 15 - 1 := by decide
  have key : (BitVec.ofInt 32 n &&& BitVec.ofInt 32 32767).toNat = (n % ((2 ^ 32 : Nat) : Int)).toNat % 2 ^ 15 := by
    rw [BitVec.toNat_and, BitVec.toNat_ofInt, h127, Nat.and_two_pow_sub_one_eq_mod]
  show IntKind.u32.wrap ((BitVec.ofInt 32 n &&& BitVec.ofInt 32 32767).toNat : Nat) = n % 32768
  rw [key, IntKind.wrap_u32]
  omega
theorem wraps_u32 (n : Int) (h₀ : 0 ≤ n) (h₁ : n < 2 ^ 32) : IntKind.u32.wrap n = n := by rw [IntKind.wrap_u32]; omega
theorem enc_pack_bits (n D A B N : Int) (h0 : 0 ≤ n) (h1 : n < 22) (hD : 0 ≤ D) (hD' : D < 16) (hA : 0 ≤ A) (hA' : A < 16) (hB : 0 ≤ B) (hB' : B < 16) :
    bits .or .u32 (bits .or .u32 (bits .or .u32 (bits .or .u32 (n * 134217728) (D % 4294967296 * 8388608 % 4294967296)) (A % 4294967296 * 524288 % 4294967296)) (B % 4294967296 * 32768 % 4294967296)) (bits .and .u32 N 32767) = enc_pack n D A B N := by
  have e1 : D % 4294967296 * 8388608 % 4294967296 = D * 8388608 := by omega
  have e2 : A % 4294967296 * 524288 % 4294967296 = A * 524288 := by omega
  have e3 : B % 4294967296 * 32768 % 4294967296 = B * 32768 := by omega
  rw [e1, e2, e3, u32_and32767]
  rw [bits_join .u32 32 (by decide) wraps_u32 27 (n * 134217728) (D * 8388608) (by omega) (by omega) (by omega) (by omega) (by omega) (by omega)]
  rw [bits_join .u32 32 (by decide) wraps_u32 23 _ (A * 524288) (by omega) (by omega) (by omega) (by omega) (by omega) (by omega)]
  rw [bits_join .u32 32 (by decide) wraps_u32 19 _ (B * 32768) (by omega) (by omega) (by omega) (by omega) (by omega) (by omega)]
  rw [bits_join .u32 32 (by decide) wraps_u32 15 _ (N % 32768) (by omega) (by omega) (by omega) (by omega) (by omega) (by omega)]
  rfl
theorem encPost_good {f n D A B N : Int} (h0 : 0 ≤ n) (h1 : n < 22) (h : enc_oks f D A B 3) (h2 : enc_lo f ≤ N) (h3 : N ≤ enc_hi f) :
    encPost (encF f n D A B N) (.returned (.tuple #[.int .u32 (bits .or .u32 (bits .or .u32 (bits .or .u32 (bits .or .u32 (n * 134217728) (D % 4294967296 * 8388608 % 4294967296)) (A % 4294967296 * 524288 % 4294967296)) (B % 4294967296 * 32768 % 4294967296)) (bits .and .u32 N 32767)), .int .i64 0])) := by
  obtain ⟨d0, d1, _⟩ := h.d (by omega)
  obtain ⟨a0, a1, _⟩ := h.a (by omega)
  obtain ⟨b0, b1, _⟩ := h.b (by omega)
  rw [encF_y h (by omega), enc_pack_bits n D A B N h0 h1 d0 d1 a0 a1 b0 b1]
  rfl
theorem encPost_good2 {f n D A B N : Int} (h0 : 0 ≤ n) (h1 : n < 22) (h : enc_oks f D A B 3) (h2 : enc_lo f ≤ N) (h3 : N ≤ enc_hi f) :
    encPost (encF f n D A B N) (.returned (.tuple #[.int .u32 (bits .or .u32 (bits .or .u32 (bits .or .u32 (bits .or .u32 (n * 134217728) (D % 4294967296 * 8388608 % 4294967296)) (A % 4294967296 * 524288 % 4294967296)) (B % 4294967296 * 32768 % 4294967296)) (bits .and .u32 (N % 4294967296) 32767)), .int .i64 0])) := by
  obtain ⟨d0, d1, _⟩ := h.d (by omega)
  obtain ⟨a0, a1, _⟩ := h.a (by omega)
  obtain ⟨b0, b1, _⟩ := h.b (by omega)
  rw [show bits .and .u32 (N % 4294967296) 32767 = bits .and .u32 N 32767 by rw [u32_and32767, u32_and32767]; omega]
  rw [encF_y h (by omega), enc_pack_bits n D A B N h0 h1 d0 d1 a0 a1 b0 b1]
  rfl
set_option maxRecDepth 100000 in
set_option maxHeartbeats 4000000 in
theorem enc_walk (n : Nat) (hn : n < 22) (f D A B N : Int) (hf0 : 0 ≤ f) (hf1 : f ≤ 31) (w : World) (hh : ∀ w, Calls Try.prog 72 #[.int .i8 n] w fun e w' => e = .returned (.int .i64 f) ∧ Below w.heap.size w w') : Calls Try.prog 73 #[.agg #[.int .i8 n, .int .i8 D, .int .i8 A, .int .i8 B, .int .i64 N]] w fun e w' => encPost (encF f n D A B N) e ∧ Below w.heap.size w w' := by
  have H := Lib.hid hh
  clear hh
  have i0 : ∀ w, (Instr.index 164 (.agg #[.int .i8 D, .int .i8 A, .int .i8 B]) (.int .i64 0)).run Try.prog w = .ok (.int .i8 D) w := fun _ => by kernel_rfl
  have i1 : ∀ w, (Instr.index 164 (.agg #[.int .i8 D, .int .i8 A, .int .i8 B]) (.int .i64 1)).run Try.prog w = .ok (.int .i8 A) w := fun _ => by kernel_rfl
  have i2 : ∀ w, (Instr.index 164 (.agg #[.int .i8 D, .int .i8 A, .int .i8 B]) (.int .i64 2)).run Try.prog w = .ok (.int .i8 B) w := fun _ => by kernel_rfl
  go_enter Try.func73, Try.ntmps73
  go_wp2_with (go_at_call 72; refine (H.out _).mono ?_; rintro e w1 ⟨rfl, hb⟩; have hc : ∀ j, j < 5 → w1.cell? ⟨w.heap.size, j, none⟩ = _ := fun j hj => (hb.cell (p := ⟨w.heap.size, j, none⟩) (by simp)).trans rfl)
  have hz : w.heap.size + 1 ≤ w1.heap.size := by have := hb.size; simp at this; omega
  have hB1 : Below w.heap.size w w1 := ((Below.refl w.heap.size w).alloc (Nat.le_refl _) _).trans (hb.mono (by simp))
  obtain ⟨W2, hW2⟩ : ∃ W2 : World, W2 = w1.alloc (.cells #[.int .i8 D, .int .i8 A, .int .i8 B] 164) := ⟨_, rfl⟩
  have cc : ∀ j, j < 5 → W2.cell? ⟨w.heap.size, j, none⟩ = w1.cell? ⟨w.heap.size, j, none⟩ := fun j _ => by rw [hW2]; exact World.cell?_alloc_old _ _ _ (by show w.heap.size ≠ _; omega)
  have c0 : W2.cell? ⟨w.heap.size, 0, none⟩ = some (.int .i8 n) := (cc 0 (by omega)).trans ((hc 0 (by omega)).trans ((cell_of_row _ _ _ _ _ _ (heap_alloc_new _ _)).trans rfl))
  have c1 : W2.cell? ⟨w.heap.size, 1, none⟩ = some (.int .i8 D) := (cc 1 (by omega)).trans ((hc 1 (by omega)).trans ((cell_of_row _ _ _ _ _ _ (heap_alloc_new _ _)).trans rfl))
  have c2 : W2.cell? ⟨w.heap.size, 2, none⟩ = some (.int .i8 A) := (cc 2 (by omega)).trans ((hc 2 (by omega)).trans ((cell_of_row _ _ _ _ _ _ (heap_alloc_new _ _)).trans rfl))
  have c3 : W2.cell? ⟨w.heap.size, 3, none⟩ = some (.int .i8 B) := (cc 3 (by omega)).trans ((hc 3 (by omega)).trans ((cell_of_row _ _ _ _ _ _ (heap_alloc_new _ _)).trans rfl))
  have c4 : W2.cell? ⟨w.heap.size, 4, none⟩ = some (.int .i64 N) := (cc 4 (by omega)).trans ((hc 4 (by omega)).trans ((cell_of_row _ _ _ _ _ _ (heap_alloc_new _ _)).trans rfl))
  have hB : Hid (Below w.heap.size w W2) := Lib.hid (by rw [hW2]; exact hB1.alloc (by omega) _)
  rw [← hW2]
  clear hW2 cc hc hB1 hb hz
  go_loopw [29] (fun i w' => ∃ k : Nat, (k = 0 ∨ k = 1 ∨ k = 2 ∨ k = 3) ∧ i = .int .i64 k ∧ enc_oks f D A B k ∧ w' = W2) (fun i _ => 3 - (intOf i).toNat)
  case atStart => exact ⟨0, .inl rfl, rfl, ⟨fun h => by omega, fun h => by omega, fun h => by omega⟩, rfl⟩
  case round =>
    obtain ⟨k, hk, rfl, hO, rfl⟩ := hrel
    rcases hk with rfl | rfl | rfl | rfl
    · by_cases hz : D = 0
      · have hz1 : (D != 0) = false := by rw [hz]; rfl
        have Hz := Lib.hid hz
        clear hz
        go_wp2
        · exact ⟨⟨1, by omega, rfl, enc_oks.next_d hO ⟨by omega, by omega, .inl Hz.out⟩, trivial⟩, by simp [intOf]⟩
        all_goals
          go_ret2
          exact ⟨encPost_bad (encF_d (fun hq => by have := hq.1; have := hq.2.1; omega)), hB.out⟩
      · have hz1 : (D != 0) = true := by simpa using hz
        have Hz := Lib.hid hz
        clear hz
        go_wp2
        · go_ret2
          rename_i ho
          exact ⟨encPost_bad (encF_d (fun hq => by
            have h1 := hq.1
            have h2 := hq.2.1
            rcases hq.2.2 with h3 | h3
            · exact Hz.out h3
            · rcases ho with ho | ho
              · omega
              · rw [h3] at ho; cases ho)), hB.out⟩
        · rename_i ho
          exact ⟨⟨1, by omega, rfl, enc_oks.next_d hO ⟨ho.1.1, ho.1.2, .inr ho.2⟩, trivial⟩, by simp [intOf]⟩
        all_goals
          go_ret2
          exact ⟨encPost_bad (encF_d (fun hq => by have := hq.1; have := hq.2.1; omega)), hB.out⟩
    · by_cases hz : A = 0
      · have hz1 : (A != 0) = false := by rw [hz]; rfl
        have Hz := Lib.hid hz
        clear hz
        go_wp2
        · exact ⟨⟨2, by omega, rfl, enc_oks.next_a hO ⟨by omega, by omega, .inl Hz.out⟩, trivial⟩, by simp [intOf]⟩
        all_goals
          go_ret2
          exact ⟨encPost_bad (encF_a (fun hq => by have := hq.1; have := hq.2.1; omega)), hB.out⟩
      · have hz1 : (A != 0) = true := by simpa using hz
        have Hz := Lib.hid hz
        clear hz
        go_wp2
        · go_ret2
          rename_i ho
          exact ⟨encPost_bad (encF_a (fun hq => by
            have h1 := hq.1
            have h2 := hq.2.1
            rcases hq.2.2 with h3 | h3
            · exact Hz.out h3
            · rcases ho with ho | ho
              · omega
              · rw [h3] at ho; cases ho)), hB.out⟩
        · rename_i ho
          exact ⟨⟨2, by omega, rfl, enc_oks.next_a hO ⟨ho.1.1, ho.1.2, .inr ho.2⟩, trivial⟩, by simp [intOf]⟩
        all_goals
          go_ret2
          exact ⟨encPost_bad (encF_a (fun hq => by have := hq.1; have := hq.2.1; omega)), hB.out⟩
    · by_cases hz : B = 0
      · have hz1 : (B != 0) = false := by rw [hz]; rfl
        have Hz := Lib.hid hz
        clear hz
        go_wp2
        · exact ⟨⟨3, by omega, rfl, enc_oks.next_b hO ⟨by omega, by omega, .inl Hz.out⟩, trivial⟩, by simp [intOf]⟩
        all_goals
          go_ret2
          exact ⟨encPost_bad (encF_b (fun hq => by have := hq.1; have := hq.2.1; omega)), hB.out⟩
      · have hz1 : (B != 0) = true := by simpa using hz
        have Hz := Lib.hid hz
        clear hz
        go_wp2
        · go_ret2
          rename_i ho
          exact ⟨encPost_bad (encF_b (fun hq => by
            have h1 := hq.1
            have h2 := hq.2.1
            rcases hq.2.2 with h3 | h3
            · exact Hz.out h3
            · rcases ho with ho | ho
              · omega
              · rw [h3] at ho; cases ho)), hB.out⟩
        · rename_i ho
          exact ⟨⟨3, by omega, rfl, enc_oks.next_b hO ⟨ho.1.1, ho.1.2, .inr ho.2⟩, trivial⟩, by simp [intOf]⟩
        all_goals
          go_ret2
          exact ⟨encPost_bad (encF_b (fun hq => by have := hq.1; have := hq.2.1; omega)), hB.out⟩
    · go_wp2
      all_goals go_ret2
      all_goals
        first
          | (have h16 : (bits BinOp.and IntKind.i64 f 16 != 0) = true := by assumption
             obtain ⟨e1, e2⟩ := enc_16 h16
             first | exact ⟨encPost_good (by omega) (by omega) hO (by omega) (by omega), hB.out⟩ | exact ⟨encPost_bad (encF_n (by omega)), hB.out⟩)
          | (have h16 : (bits BinOp.and IntKind.i64 f 16 != 0) = false := by assumption
             have h8 : (bits BinOp.and IntKind.i64 f 8 != 0) = true := by assumption
             obtain ⟨e1, e2⟩ := enc_8 h16 h8
             first | exact ⟨encPost_good2 (by omega) (by omega) hO (by omega) (by omega), hB.out⟩ | exact ⟨encPost_good (by omega) (by omega) hO (by omega) (by omega), hB.out⟩ | exact ⟨encPost_bad (encF_n (by omega)), hB.out⟩)
          | (have h16 : (bits BinOp.and IntKind.i64 f 16 != 0) = false := by assumption
             have h8 : (bits BinOp.and IntKind.i64 f 8 != 0) = false := by assumption
             obtain ⟨e1, e2⟩ := enc_0 h16 h8
             first | exact ⟨encPost_good (by omega) (by omega) hO (by omega) (by omega), hB.out⟩ | exact ⟨encPost_bad (encF_n (by omega)), hB.out⟩)
def isa_Encode.f (a0_0 a0_1 a0_2 a0_3 a0_4 : Int) : Option (Int × Int) := some (if a0_0 < 0 ∨ 22 ≤ a0_0 then (0, 10) else encF (isa_hasT.getD a0_0.toNat 0) a0_0 a0_1 a0_2 a0_3 a0_4)
theorem isa_hasT_range : ∀ n, n < 22 → 0 ≤ isa_hasT.getD n 0 ∧ isa_hasT.getD n 0 ≤ 31 := by decide
set_option maxRecDepth 100000 in
set_option maxHeartbeats 4000000 in
theorem isa_Encode.calls (a0_0 a0_1 a0_2 a0_3 a0_4 r1 r2 : Int) (w : World) (h : isa_Encode.f a0_0 a0_1 a0_2 a0_3 a0_4 = some (r1, r2)) :
    Calls Try.prog 73 #[.agg #[.int .i8 a0_0, .int .i8 a0_1, .int .i8 a0_2, .int .i8 a0_3, .int .i64 a0_4]] w fun e w' => e = .returned (.tuple #[.int .u32 r1, .int .i64 r2]) ∧ Below w.heap.size w w' := by
  have h' := Option.some.inj h
  clear h
  by_cases h0 : a0_0 < 0 ∨ 22 ≤ a0_0
  · rw [if_pos h0] at h'
    obtain ⟨rfl, rfl⟩ := Prod.mk.inj h'
    clear h'
    rcases h0 with h0 | h0
    · go_enter Try.func73, Try.ntmps73
      go_wp2
      go_ret2
      exact ⟨rfl, (Below.refl _ _).alloc (Nat.le_refl _) _⟩
    · have h1 : ¬ a0_0 < 0 := by omega
      go_enter Try.func73, Try.ntmps73
      go_wp2
      go_ret2
      exact ⟨rfl, (Below.refl _ _).alloc (Nat.le_refl _) _⟩
  · rw [if_neg h0] at h'
    obtain ⟨n, rfl⟩ := Int.eq_ofNat_of_zero_le (show 0 ≤ a0_0 by omega)
    have hn : n < 22 := by omega
    rw [Int.toNat_natCast] at h'
    refine (enc_walk n hn (isa_hasT.getD n 0) a0_1 a0_2 a0_3 a0_4 (isa_hasT_range n hn).1 (isa_hasT_range n hn).2 w (fun w => isa_has.calls n _ w ?_)).mono ?_
    · unfold isa_has.f
      rw [if_neg (by omega), Int.toNat_natCast]
    · rintro e w' ⟨he, hb⟩
      rw [h'] at he
      exact ⟨he, hb⟩

end Go.Proofs.Ytfgdjpgdabjpmaa.PImageRound
