-- Written for this claim by a program of this session (wip/tools/pp.py, over the kit's print).
import Derived.Test.YtfgdjpgdabjpmaaDoorPNumberOfx0
import Derived.Test.YtfgdjpgdabjpmaaDoorPNumberOfx5
import Derived.Test.YtfgdjpgdabjpmaaDoorPNumberOfx7
import Derived.Test.YtfgdjpgdabjpmaaDoorPNumberOfx8
namespace Go.Proofs.YtfgdjpgdabjpmaaDoor.PNumberOf
open Go.RowKit Go.Proofs.YtfgdjpgdabjpmaaDoorW.PrintWords Go.Proofs.YtfgdjpgdabjpmaaDoorW.PrintLast Go.Proofs.YtfgdjpgdabjpmaaDoorW.PrintMore
attribute [local go_sem] max2_int min2_int max_two min_two max_three min_three max_four min_four   -- for this text's walks alone
set_option linter.unusedVariables false
set_option linter.unusedSimpArgs false

/-! ### pleatref13_Reads: function 95 -/
def pleatref13_Reads.f (k : Nat) (a0 : Int) : Option (Int) := (pleatref02_Decode.f k a0).bind fun bt215 => ((pleatref02_Has.f k bt215.1).bind fun bt221 => ((pleatref13_bit.f bt221.2.1 bt215.2.2.1).bind fun t227 => ((pleatref13_bit.f bt221.2.2.1 bt215.2.2.2.1).bind fun t228 => (some (Go.bits .or .u16 t227 t228)))))
theorem pleatref13_Reads.mono : ∀ a0 k, LeO (pleatref13_Reads.f k a0) (pleatref13_Reads.f (k + 1) a0) := by
  intro a0 k
  unfold pleatref13_Reads.f
  have m0 := @pleatref02_Decode.mono
  have m1 := @pleatref02_Has.mono
  exact zMo
def pleatref13_Reads.T3 : Bool × List (List Nat × List Nat) := (true, [([], []), ([0], [0]), ([], []), ([2], [2]), ([1, 3], [1, 3]), ([], []), ([5], [5]), ([], []), ([7], [7]), ([6, 8, 4], [6, 8]), ([4, 9], [4, 9]), ([10, 9, 0, 1, 2, 3, 4, 5, 6, 7, 8, 9, 10], [10])])
def pleatref13_Reads.B3 : List Nat := [0, 1, 0, 4, 15, 0, 32, 0, 128, 511, 1023, 2047]
theorem pleatref13_Reads.tab3 : rtab .any (opsOf Tryd.f95 3) = pleatref13_Reads.T3 := by kernel_rfl
theorem pleatref13_Reads.bits3 : waitsOk pleatref13_Reads.T3.2 pleatref13_Reads.B3 = true := by kernel_rfl
set_option maxHeartbeats 8000000 in
set_option maxRecDepth 100000 in
theorem pleatref13_Reads.calls (k : Nat) (a0 : Int) (r : Int) (w : World) (h : pleatref13_Reads.f k a0 = some r) :
    Calls Tryd.prog 95 #[.int .u32 a0] w fun e w' => e = .returned (.int .u16 r) ∧ Below w.heap.size w w' := by
  have hu94 := Tryd.underlying94
  have hu150 := Tryd.underlying150
  have HB := Aside0.mk (Below.refl w.heap.size w)
  have H := h
  clear h
  unfold pleatref13_Reads.f at H
  replace H := Option.bind_eq_some_iff.mp H
  obtain ⟨⟨t215, t216, t217, t218, t219⟩, A20, H⟩ := H
  (try dsimp only at H)
  have A2 := Aside0.mk A20
  clear A20
  replace H := Option.bind_eq_some_iff.mp H
  obtain ⟨⟨t221, t222, t223, t224, t225⟩, A30, H⟩ := H
  (try dsimp only at H)
  have A3 := Aside0.mk A30
  clear A30
  replace H := Option.bind_eq_some_iff.mp H
  obtain ⟨t227, A40, H⟩ := H
  (try dsimp only at H)
  have A4 := Aside0.mk A40
  clear A40
  replace H := Option.bind_eq_some_iff.mp H
  obtain ⟨t228, A50, H⟩ := H
  (try dsimp only at H)
  have A5 := Aside0.mk A50
  clear A50
  obtain rfl := Option.some.inj H
  go_enter Tryd.func95, Tryd.ntmps95
  try go_wp2_with (first | ((with_reducible refine gate_callee (f := 67) rfl ?_); refine zGo (N := (some 6)) Tryd.func67 #[.int .u32 a0] ?_; (with_reducible refine (pleatref02_Decode.calls k a0 t215 t216 t217 t218 t219 _ A2.out).mono ?_); rintro e w6 ⟨rfl, hb⟩; refine ⟨_, rfl, ?_⟩; refine zs (below_step (zHB) hb) ?_; clear HB; intro HB; clear hb) | ((with_reducible refine gate_dst (N := 3) rfl ?_); refine zBox (N := 3) (cs := #[.int .i8 0, .int .i8 0, .int .i8 0, .int .i8 0, .int .i64 0]) (t := 94) ?_; intro gb220 hg w7 hbox hb; refine zs (below_step (zHB) hb) (zs hbox (zs (zGe hg zHB) (zs (zGe hg zHB) ?_))); clear HB; intro GE220 GW220 BK220 HB; clear hb hbox hg; have hcz8 := blk_cell BK220.out; have hfz8 := blk_frozen BK220.out) | ((with_reducible refine gate_callee (f := 86) rfl ?_); refine zGo (N := (some 9)) Tryd.func86 #[.int .i8 t215] ?_; (with_reducible refine (pleatref02_Has.calls k t215 t221 t222 t223 t224 t225 _ A3.out).mono ?_); rintro e w9 ⟨rfl, hb⟩; refine ⟨_, rfl, ?_⟩; refine zs (blk_below (g := gb220) (o := .cells #[.int .i8 t215, .int .i8 t216, .int .i8 t217, .int .i8 t218, .int .i64 t219] 94 (0, 0)) (zBK) hb) (zs (below_step (zHB) hb) ?_); clear BK220 HB; intro HB BK220; clear hb) | ((with_reducible refine gate_dst (N := 4) rfl ?_); refine zBox (N := 4) (cs := #[.bool false, .bool false, .bool false, .bool false, .bool false]) (t := 150) ?_; intro gb226 hg w10 hbox hb; refine zs (blk_below (g := gb220) zBK hb) (zs (below_step (zHB) hb) (zs hbox (zs (zGe hg zHB) (zs (zGe hg zHB) (zs (zNl hg zBK : gb220 ≠ gb226) (zs ((zNg hg zBK : gb226 ≠ gb220)) ?_)))))); clear BK220 HB; intro NB226_220 NB220_226 GE226 GW226 BK226 HB BK220; clear hb hbox hg; have hnb11 := NB226_220.out; have hnc11 := NB220_226.out; have hcz12 := blk_cell BK226.out; have hfz12 := blk_frozen BK226.out))
  have n0_ : Aside0 ((((((w10.setCell ⟨gb226, 0, none⟩ (.bool t221)).setCell ⟨gb226, 1, none⟩ (.bool t222)).setCell ⟨gb226, 2, none⟩ (.bool t223)).setCell ⟨gb226, 3, none⟩ (.bool t224)).setCell ⟨gb226, 4, none⟩ (.bool t225)).heap[gb220]? = some (.cells #[.int .i8 t215, .int .i8 t216, .int .i8 t217, .int .i8 t218, .int .i64 t219] 94 (0, 0))) := ⟨zBK⟩
  have n1_ : Aside0 ((((((w10.setCell ⟨gb226, 0, none⟩ (.bool t221)).setCell ⟨gb226, 1, none⟩ (.bool t222)).setCell ⟨gb226, 2, none⟩ (.bool t223)).setCell ⟨gb226, 3, none⟩ (.bool t224)).setCell ⟨gb226, 4, none⟩ (.bool t225)).heap[gb226]? = some (.cells #[.bool t221, .bool t222, .bool t223, .bool t224, .bool t225] 150 (0, 0))) := ⟨zBK⟩
  have n2_ : Aside0 (Below w.heap.size w (((((w10.setCell ⟨gb226, 0, none⟩ (.bool t221)).setCell ⟨gb226, 1, none⟩ (.bool t222)).setCell ⟨gb226, 2, none⟩ (.bool t223)).setCell ⟨gb226, 3, none⟩ (.bool t224)).setCell ⟨gb226, 4, none⟩ (.bool t225))) := ⟨zHB⟩
  (try clear BK220)
  (try clear BK226)
  (try clear HB)
  generalize (((((w10.setCell ⟨gb226, 0, none⟩ (.bool t221)).setCell ⟨gb226, 1, none⟩ (.bool t222)).setCell ⟨gb226, 2, none⟩ (.bool t223)).setCell ⟨gb226, 3, none⟩ (.bool t224)).setCell ⟨gb226, 4, none⟩ (.bool t225)) = w13 at n0_ n1_ n2_ ⊢
  have BK220 := n0_
  have BK226 := n1_
  have HB := n2_
  clear n0_ n1_ n2_
  refine zs (blk_drew BK220.out) (zs (blk_drew BK226.out) (zs (below_drew1 HB.out) ?_))
  clear BK220 BK226 HB
  intro HB BK226 BK220
  refine start_ (n := 12) (S := fun w' => w'.cell? ⟨gb226, 0, none⟩ = some (.bool t221) ∧ w'.cell? ⟨gb226, 1, none⟩ = some (.bool t222) ∧ w'.cell? ⟨gb226, 2, none⟩ = some (.bool t223) ∧ w'.cell? ⟨gb226, 3, none⟩ = some (.bool t224) ∧ w'.cell? ⟨gb226, 4, none⟩ = some (.bool t225) ∧ w'.cell? ⟨gb220, 0, none⟩ = some (.int .i8 t215) ∧ w'.cell? ⟨gb220, 1, none⟩ = some (.int .i8 t216) ∧ w'.cell? ⟨gb220, 2, none⟩ = some (.int .i8 t217) ∧ w'.cell? ⟨gb220, 3, none⟩ = some (.int .i8 t218) ∧ w'.cell? ⟨gb220, 4, none⟩ = some (.int .i64 t219)) (ds := []) #[false, false, false, false, false, false, false, false, false, false, false, false] (by kernel_rfl) rfl rfl ⟨(blk_cell BK226.out 0).trans rfl, (blk_cell BK226.out 1).trans rfl, (blk_cell BK226.out 2).trans rfl, (blk_cell BK226.out 3).trans rfl, (blk_cell BK226.out 4).trans rfl, (blk_cell BK220.out 0).trans rfl, (blk_cell BK220.out 1).trans rfl, (blk_cell BK220.out 2).trans rfl, (blk_cell BK220.out 3).trans rfl, (blk_cell BK220.out 4).trans rfl⟩ (fun hHeld => ?_); refine with_tabW pleatref13_Reads.tab3 pleatref13_Reads.bits3 (fun HT_ HW_ => ?_)
  generalize w13.drew = w14 at BK220 BK226 HB hHeld ⊢
  refine pure_ (i := 0) (N := some 10) (v := ?_) (a' := ?_) #[true, false, false, false, false, false, false, false, false, false, false, false] rfl rfl (any_of HT_.out (by kernel_rfl)) (fun _ _ _ h => h) (Or.inl ⟨by rfl, ?_⟩) ?_ ?_
  rotate_left
  · intro w'
    go_simp
    with_reducible rfl
  rotate_left
  · simp only [Act.put, List.setIfInBounds_toArray, List.set_cons_zero, List.set_cons_succ, i64_w, i32_w]
    rfl
  refine pure_ (i := 2) (N := some 12) (v := ?_) (a' := ?_) #[true, false, true, false, false, false, false, false, false, false, false, false] rfl rfl (any_of HT_.out (by kernel_rfl)) (fun _ _ _ h => h) (Or.inl ⟨by rfl, ?_⟩) ?_ ?_
  rotate_left
  · intro w'
    go_simp
    with_reducible rfl
  rotate_left
  · simp only [Act.put, List.setIfInBounds_toArray, List.set_cons_zero, List.set_cons_succ, i64_w, i32_w]
    rfl
  refine pure_ (i := 5) (N := some 15) (v := ?_) (a' := ?_) #[true, false, true, false, false, true, false, false, false, false, false, false] rfl rfl (any_of HT_.out (by kernel_rfl)) (fun _ _ _ h => h) (Or.inl ⟨by rfl, ?_⟩) ?_ ?_
  rotate_left
  · intro w'
    go_simp
    with_reducible rfl
  rotate_left
  · simp only [Act.put, List.setIfInBounds_toArray, List.set_cons_zero, List.set_cons_succ, i64_w, i32_w]
    rfl
  refine pure_ (i := 7) (N := some 17) (v := ?_) (a' := ?_) #[true, false, true, false, false, true, false, true, false, false, false, false] rfl rfl (any_of HT_.out (by kernel_rfl)) (fun _ _ _ h => h) (Or.inl ⟨by rfl, ?_⟩) ?_ ?_
  rotate_left
  · intro w'
    go_simp
    with_reducible rfl
  rotate_left
  · simp only [Act.put, List.setIfInBounds_toArray, List.set_cons_zero, List.set_cons_succ, i64_w, i32_w]
    rfl
  refine take_ (i := 1) (N := some 11) (v := ?_) (a' := ?_) #[true, true, true, false, false, true, false, true, false, false, false, false] rfl rfl (take_ofW HT_.out HW_.out (by kernel_rfl)) (fun _ _ _ h => h) (Or.inl ⟨by rfl, ?_⟩) hHeld ?_ ?_
  rotate_left
  · rintro w' ⟨s0, s1, s2, s3, s4, s5, s6, s7, s8, s9⟩
    go_simp
    with_reducible rfl
  rotate_left
  · simp only [Act.put, List.setIfInBounds_toArray, List.set_cons_zero, List.set_cons_succ, i64_w, i32_w]
    rfl
  refine take_ (i := 3) (N := some 13) (v := ?_) (a' := ?_) #[true, true, true, true, false, true, false, true, false, false, false, false] rfl rfl (take_ofW HT_.out HW_.out (by kernel_rfl)) (fun _ _ _ h => h) (Or.inl ⟨by rfl, ?_⟩) hHeld ?_ ?_
  rotate_left
  · rintro w' ⟨s0, s1, s2, s3, s4, s5, s6, s7, s8, s9⟩
    go_simp
    with_reducible rfl
  rotate_left
  · simp only [Act.put, List.setIfInBounds_toArray, List.set_cons_zero, List.set_cons_succ, i64_w, i32_w]
    rfl
  refine take_ (i := 6) (N := some 16) (v := ?_) (a' := ?_) #[true, true, true, true, false, true, true, true, false, false, false, false] rfl rfl (take_ofW HT_.out HW_.out (by kernel_rfl)) (fun _ _ _ h => h) (Or.inl ⟨by rfl, ?_⟩) hHeld ?_ ?_
  rotate_left
  · rintro w' ⟨s0, s1, s2, s3, s4, s5, s6, s7, s8, s9⟩
    go_simp
    with_reducible rfl
  rotate_left
  · simp only [Act.put, List.setIfInBounds_toArray, List.set_cons_zero, List.set_cons_succ, i64_w, i32_w]
    rfl
  refine take_ (i := 8) (N := some 18) (v := ?_) (a' := ?_) #[true, true, true, true, false, true, true, true, true, false, false, false] rfl rfl (take_ofW HT_.out HW_.out (by kernel_rfl)) (fun _ _ _ h => h) (Or.inl ⟨by rfl, ?_⟩) hHeld ?_ ?_
  rotate_left
  · rintro w' ⟨s0, s1, s2, s3, s4, s5, s6, s7, s8, s9⟩
    go_simp
    with_reducible rfl
  rotate_left
  · simp only [Act.put, List.setIfInBounds_toArray, List.set_cons_zero, List.set_cons_succ, i64_w, i32_w]
    rfl
  refine one_ (i := 4) (N := some 14) #[true, true, true, true, true, true, true, true, true, false, false, false] rfl rfl (one_of HT_.out (by kernel_rfl)) (by decide) (fun K hK => ?_)
  refine goes_ Tryd.func102 (by kernel_rfl) rfl #[.bool t222, .int .i8 t217] (by rfl) rfl rfl (by (try simp only [List.map_toArray, List.map_cons, List.map_nil]); first | done | rfl | (simp only [List.length_drop, List.length_take]; rfl)) ?_
  with_reducible refine (pleatref13_bit.calls t222 t217 t227 _ A4.out).mono ?_
  rintro e w' ⟨rfl, ⟨nd, rfl⟩⟩
  refine ⟨_, rfl, ?_⟩
  refine hK.out _ _ ⟨(blk_cell BK226.out 0).trans rfl, (blk_cell BK226.out 1).trans rfl, (blk_cell BK226.out 2).trans rfl, (blk_cell BK226.out 3).trans rfl, (blk_cell BK226.out 4).trans rfl, (blk_cell BK220.out 0).trans rfl, (blk_cell BK220.out 1).trans rfl, (blk_cell BK220.out 2).trans rfl, (blk_cell BK220.out 3).trans rfl, (blk_cell BK220.out 4).trans rfl⟩ (fun hHeld => ?_)
  clear hK K
  refine norm_ (a' := ?_) ?_ ?_
  rotate_left
  · show Act.put _ (some 14) _ = _
    simp only [Act.put, List.setIfInBounds_toArray, List.set_cons_zero, List.set_cons_succ, i64_w, i32_w]
    rfl
  refine one_ (i := 9) (N := some 19) #[true, true, true, true, true, true, true, true, true, true, false, false] rfl rfl (one_of HT_.out (by kernel_rfl)) (by decide) (fun K hK => ?_)
  refine goes_ Tryd.func102 (by kernel_rfl) rfl #[.bool t223, .int .i8 t218] (by rfl) rfl rfl (by (try simp only [List.map_toArray, List.map_cons, List.map_nil]); first | done | rfl | (simp only [List.length_drop, List.length_take]; rfl)) ?_
  with_reducible refine (pleatref13_bit.calls t223 t218 t228 _ A5.out).mono ?_
  rintro e w' ⟨rfl, ⟨nd, rfl⟩⟩
  refine ⟨_, rfl, ?_⟩
  refine hK.out _ _ ⟨(blk_cell BK226.out 0).trans rfl, (blk_cell BK226.out 1).trans rfl, (blk_cell BK226.out 2).trans rfl, (blk_cell BK226.out 3).trans rfl, (blk_cell BK226.out 4).trans rfl, (blk_cell BK220.out 0).trans rfl, (blk_cell BK220.out 1).trans rfl, (blk_cell BK220.out 2).trans rfl, (blk_cell BK220.out 3).trans rfl, (blk_cell BK220.out 4).trans rfl⟩ (fun hHeld => ?_)
  clear hK K
  refine norm_ (a' := ?_) ?_ ?_
  rotate_left
  · show Act.put _ (some 19) _ = _
    simp only [Act.put, List.setIfInBounds_toArray, List.set_cons_zero, List.set_cons_succ, i64_w, i32_w]
    rfl
  refine pure_ (i := 10) (N := some 20) (v := ?_) (a' := ?_) #[true, true, true, true, true, true, true, true, true, true, true, false] rfl rfl (any_of HT_.out (by kernel_rfl)) (fun _ _ _ h => h) (Or.inl ⟨by rfl, ?_⟩) ?_ ?_
  rotate_left
  · intro w'
    go_simp
    with_reducible rfl
  rotate_left
  · simp only [Act.put, List.setIfInBounds_toArray, List.set_cons_zero, List.set_cons_succ, i64_w, i32_w]
    rfl
  refine pure_ (i := 11) (N := some 2) (v := ?_) (a' := ?_) #[true, true, true, true, true, true, true, true, true, true, true, true] rfl rfl (any_of HT_.out (by kernel_rfl)) (fun _ _ _ h => h) (Or.inl ⟨by rfl, ?_⟩) ?_ ?_
  rotate_left
  · intro w'
    go_simp
    with_reducible rfl
  rotate_left
  · simp only [Act.put, List.setIfInBounds_toArray, List.set_cons_zero, List.set_cons_succ, i64_w, i32_w]
    rfl
  refine done_ (done_of HT_.out (by kernel_rfl)) ?_
  try go_wp2
  go_ret
  exact ⟨zE, zHB⟩

/-! ### pleatref13_Writes: function 96 -/
def pleatref13_Writes.j0 : Nat → Bool → Int → Int → Int → Int → Int → Option (Int)
  | 0, _, _, _, _, _, _ => none
  | k + 1, x13, x235000, x235001, x235002, x235003, x235004 => if x13 = true then (some 32768) else ((pleatref02_Has.f k x235000).bind fun bt235 => ((pleatref13_bit.f bt235.1 x235001).bind fun t240 => (some t240)))
def pleatref13_Writes.f (k : Nat) (a0 : Int) : Option (Int) := (pleatref02_Decode.f k a0).bind fun bt229 => (if bt229.1 = 17 then (pleatref13_Writes.j0 k true bt229.1 bt229.2.1 bt229.2.2.1 bt229.2.2.2.1 bt229.2.2.2.2) else (pleatref13_Writes.j0 k (bt229.1 == 18) bt229.1 bt229.2.1 bt229.2.2.1 bt229.2.2.2.1 bt229.2.2.2.2))
theorem pleatref13_Writes.mono_l : ∀ k, (∀ y0 y1 y2 y3 y4 y5, LeO (pleatref13_Writes.j0 k y0 y1 y2 y3 y4 y5) (pleatref13_Writes.j0 (k + 1) y0 y1 y2 y3 y4 y5))
  | 0 => fun _ _ _ _ _ _ r h => by simp [pleatref13_Writes.j0] at h
  | k + 1 => by
    have ih0 := pleatref13_Writes.mono_l k
    · intro y0 y1 y2 y3 y4 y5
      unfold pleatref13_Writes.j0
      have m0 := @pleatref02_Decode.mono
      have m1 := @pleatref02_Has.mono
      exact zMo
theorem pleatref13_Writes.mono : ∀ a0 k, LeO (pleatref13_Writes.f k a0) (pleatref13_Writes.f (k + 1) a0) := by
  intro a0 k
  have ih0 := pleatref13_Writes.mono_l k
  unfold pleatref13_Writes.f
  have m0 := @pleatref02_Decode.mono
  have m1 := @pleatref02_Has.mono
  exact zMo
def pleatref13_Writes.T4 : Bool × List (List Nat × List Nat) := (true, [([], []), ([0], [0]), ([1], [1]), ([2], [2]), ([], []), ([4], [4]), ([3, 5, 2], [3, 5]), ([6, 6, 0, 1, 2, 3, 4, 5, 6], [6])])
def pleatref13_Writes.B4 : List Nat := [0, 1, 3, 7, 0, 16, 63, 127]
theorem pleatref13_Writes.tab4 : rtab .any (opsOf Tryd.f96 4) = pleatref13_Writes.T4 := by kernel_rfl
theorem pleatref13_Writes.bits4 : waitsOk pleatref13_Writes.T4.2 pleatref13_Writes.B4 = true := by kernel_rfl
set_option maxHeartbeats 8000000 in
set_option maxRecDepth 100000 in
theorem pleatref13_Writes.calls (k : Nat) (a0 : Int) (r : Int) (w : World) (h : pleatref13_Writes.f k a0 = some r) :
    Calls Tryd.prog 96 #[.int .u32 a0] w fun e w' => e = .returned (.int .u16 r) ∧ Below w.heap.size w w' := by
  have hu94 := Tryd.underlying94
  have hfd150_0 : ∀ (x0_ x1_ x2_ x3_ x4_ : Value) (W : World), (Instr.field 150 (.agg #[x0_, x1_, x2_, x3_, x4_]) 0).run Tryd.prog W = .ok (x0_) W := fun _ _ _ _ _ _ => by kernel_rfl
  have HB := Aside0.mk (Below.refl w.heap.size w)
  have H := h
  clear h
  unfold pleatref13_Writes.f at H
  replace H := Option.bind_eq_some_iff.mp H
  obtain ⟨⟨t229, t230, t231, t232, t233⟩, A20, H⟩ := H
  (try dsimp only at H)
  have A2 := Aside0.mk A20
  clear A20
  have HC3 := Aside0.mk H
  clear H
  go_enter Tryd.func96, Tryd.ntmps96
  go_upto_region 2 with (first | ((with_reducible refine gate_callee (f := 67) rfl ?_); refine zGo (N := (some 5)) Tryd.func67 #[.int .u32 a0] ?_; (with_reducible refine (pleatref02_Decode.calls k a0 t229 t230 t231 t232 t233 _ A2.out).mono ?_); rintro e w4 ⟨rfl, hb⟩; refine ⟨_, rfl, ?_⟩; refine zs (below_step (zHB) hb) ?_; clear HB; intro HB; clear hb) | ((with_reducible refine gate_dst (N := 3) rfl ?_); refine zBox (N := 3) (cs := #[.int .i8 0, .int .i8 0, .int .i8 0, .int .i8 0, .int .i64 0]) (t := 94) ?_; intro gb234 hg w5 hbox hb; refine zs (below_step (zHB) hb) (zs hbox (zs (zGe hg zHB) (zs (zGe hg zHB) ?_))); clear HB; intro GE234 GW234 BK234 HB; clear hb hbox hg; have hcz6 := blk_cell BK234.out; have hfz6 := blk_frozen BK234.out))
  (try simp only [Act.put, List.setIfInBounds_toArray, List.set_cons_zero, List.set_cons_succ])
  go_cut [13] (fun v13 wc => ∃ (kq : Nat) (x13_2 : Bool), v13 = .bool x13_2 ∧ Aside0 (pleatref13_Writes.j0 kq x13_2 t229 t230 t231 t232 t233 = some r) ∧ Aside0 (kq ≤ k) ∧ Aside0 (wc.heap[gb234]? = some (.cells #[.int .i8 t229, .int .i8 t230, .int .i8 t231, .int .i8 t232, .int .i64 t233] 94 (0, 0))) ∧ Aside0 (Below w.heap.size w wc))
  case first =>
    have H := HC3.out
    clear HC3
    by_cases c7 : t229 = 17
    · rw [if_pos c7] at H
      have c7b0 := beq_iff_eq.mpr c7
      have c7b1 := bne_eq_false_iff_eq.mpr c7
      clear c7
      (first | rw [c7b0] | (simp only [i64_w, i32_w]; rw [c7b0]) | skip)
      have H' := Aside0.mk H
      clear H
      have hcz8 := blk_cell BK234.out
      have hfz8 := blk_frozen BK234.out
      go_wp2
      go_meet
      case rel => exact ⟨_, (true), zF', H', ⟨zL⟩, ⟨zBK⟩, ⟨zHB⟩⟩
    · rw [if_neg c7] at H
      have c7b0 := beq_eq_false_iff_ne.mpr c7
      have c7b1 := bne_iff_ne.mpr c7
      (first | rw [c7b0] | (simp only [i64_w, i32_w]; rw [c7b0]) | skip)
      have H' := Aside0.mk H
      clear H
      have hcz9 := blk_cell BK234.out
      have hfz9 := blk_frozen BK234.out
      go_wp2
      go_meet
      case rel => exact ⟨_, ((t229 == 18)), zF', H', ⟨zL⟩, ⟨zBK⟩, ⟨zHB⟩⟩
  case rest =>
    clear HC3
    try clear hcz6
    try clear hfz6
    obtain ⟨kq, x13_2, rfl, HA, HJ2, BK234, HB⟩ := hcut
    cases kq with
    | zero => exact absurd HA.out (by simp [pleatref13_Writes.j0])
    | succ kj2 =>
      have H := HA.out
      clear HA
      simp only [pleatref13_Writes.j0] at H
      by_cases c10 : x13_2 = true
      · subst c10
        rw [if_pos rfl] at H
        obtain rfl := Option.some.inj H
        go_wp2
        go_ret
        exact ⟨zE, zHB⟩
      · replace c10 := Bool.eq_false_iff.mpr c10
        subst c10
        rw [if_neg (show ¬ (false = true) by decide)] at H
        replace H := Option.bind_eq_some_iff.mp H
        obtain ⟨⟨t235, t236, t237, t238, t239⟩, A110, H⟩ := H
        (try dsimp only at H)
        have A11 := Aside0.mk A110
        clear A110
        replace H := Option.bind_eq_some_iff.mp H
        obtain ⟨t240, A120, H⟩ := H
        (try dsimp only at H)
        have A12 := Aside0.mk A120
        clear A120
        obtain rfl := Option.some.inj H
        try go_wp2
        refine zs (blk_drew BK234.out) (zs (below_drew1 HB.out) ?_)
        clear BK234 HB
        intro HB BK234
        refine start_ (n := 8) (S := fun w' => w'.cell? ⟨gb234, 0, none⟩ = some (.int .i8 t229) ∧ w'.cell? ⟨gb234, 1, none⟩ = some (.int .i8 t230) ∧ w'.cell? ⟨gb234, 2, none⟩ = some (.int .i8 t231) ∧ w'.cell? ⟨gb234, 3, none⟩ = some (.int .i8 t232) ∧ w'.cell? ⟨gb234, 4, none⟩ = some (.int .i64 t233)) (ds := []) #[false, false, false, false, false, false, false, false] (by kernel_rfl) rfl rfl ⟨(blk_cell BK234.out 0).trans rfl, (blk_cell BK234.out 1).trans rfl, (blk_cell BK234.out 2).trans rfl, (blk_cell BK234.out 3).trans rfl, (blk_cell BK234.out 4).trans rfl⟩ (fun hHeld => ?_); refine with_tabW pleatref13_Writes.tab4 pleatref13_Writes.bits4 (fun HT_ HW_ => ?_)
        generalize wc.drew = w13 at BK234 HB hHeld ⊢
        refine pure_ (i := 0) (N := some 14) (v := ?_) (a' := ?_) #[true, false, false, false, false, false, false, false] rfl rfl (any_of HT_.out (by kernel_rfl)) (fun _ _ _ h => h) (Or.inl ⟨by rfl, ?_⟩) ?_ ?_
        rotate_left
        · intro w'
          go_simp
          with_reducible rfl
        rotate_left
        · simp only [Act.put, List.setIfInBounds_toArray, List.set_cons_zero, List.set_cons_succ, i64_w, i32_w]
          rfl
        refine pure_ (i := 4) (N := some 18) (v := ?_) (a' := ?_) #[true, false, false, false, true, false, false, false] rfl rfl (any_of HT_.out (by kernel_rfl)) (fun _ _ _ h => h) (Or.inl ⟨by rfl, ?_⟩) ?_ ?_
        rotate_left
        · intro w'
          go_simp
          with_reducible rfl
        rotate_left
        · simp only [Act.put, List.setIfInBounds_toArray, List.set_cons_zero, List.set_cons_succ, i64_w, i32_w]
          rfl
        refine take_ (i := 1) (N := some 15) (v := ?_) (a' := ?_) #[true, true, false, false, true, false, false, false] rfl rfl (take_ofW HT_.out HW_.out (by kernel_rfl)) (fun _ _ _ h => h) (Or.inl ⟨by rfl, ?_⟩) hHeld ?_ ?_
        rotate_left
        · rintro w' ⟨s0, s1, s2, s3, s4⟩
          go_simp
          with_reducible rfl
        rotate_left
        · simp only [Act.put, List.setIfInBounds_toArray, List.set_cons_zero, List.set_cons_succ, i64_w, i32_w]
          rfl
        refine take_ (i := 5) (N := some 19) (v := ?_) (a' := ?_) #[true, true, false, false, true, true, false, false] rfl rfl (take_ofW HT_.out HW_.out (by kernel_rfl)) (fun _ _ _ h => h) (Or.inl ⟨by rfl, ?_⟩) hHeld ?_ ?_
        rotate_left
        · rintro w' ⟨s0, s1, s2, s3, s4⟩
          go_simp
          with_reducible rfl
        rotate_left
        · simp only [Act.put, List.setIfInBounds_toArray, List.set_cons_zero, List.set_cons_succ, i64_w, i32_w]
          rfl
        refine one_ (i := 2) (N := some 16) #[true, true, true, false, true, true, false, false] rfl rfl (one_of HT_.out (by kernel_rfl)) (by decide) (fun K hK => ?_)
        refine goes_ Tryd.func86 (by kernel_rfl) rfl #[.int .i8 t229] (by rfl) rfl rfl (by (try simp only [List.map_toArray, List.map_cons, List.map_nil]); first | done | rfl | (simp only [List.length_drop, List.length_take]; rfl)) ?_
        with_reducible refine (pleatref02_Has.calls kj2 t229 t235 t236 t237 t238 t239 _ A11.out).mono ?_
        rintro e w14 ⟨rfl, hb⟩
        refine ⟨_, rfl, ?_⟩
        refine zs (blk_below (g := gb234) zBK hb) (zs (below_step (zHB) hb) ?_)
        clear BK234 HB
        intro HB BK234
        clear hb
        refine hK.out _ _ ⟨(blk_cell BK234.out 0).trans rfl, (blk_cell BK234.out 1).trans rfl, (blk_cell BK234.out 2).trans rfl, (blk_cell BK234.out 3).trans rfl, (blk_cell BK234.out 4).trans rfl⟩ (fun hHeld => ?_)
        clear hK K
        refine norm_ (a' := ?_) ?_ ?_
        rotate_left
        · show Act.put _ (some 16) _ = _
          simp only [Act.put, List.setIfInBounds_toArray, List.set_cons_zero, List.set_cons_succ, i64_w, i32_w]
          rfl
        refine pure_ (i := 3) (N := some 17) (v := ?_) (a' := ?_) #[true, true, true, true, true, true, false, false] rfl rfl (any_of HT_.out (by kernel_rfl)) (fun _ _ _ h => h) (Or.inl ⟨by rfl, ?_⟩) ?_ ?_
        rotate_left
        · intro w'
          go_simp
          with_reducible rfl
        rotate_left
        · simp only [Act.put, List.setIfInBounds_toArray, List.set_cons_zero, List.set_cons_succ, i64_w, i32_w]
          rfl
        refine one_ (i := 6) (N := some 20) #[true, true, true, true, true, true, true, false] rfl rfl (one_of HT_.out (by kernel_rfl)) (by decide) (fun K hK => ?_)
        refine goes_ Tryd.func102 (by kernel_rfl) rfl #[.bool t235, .int .i8 t230] (by rfl) rfl rfl (by (try simp only [List.map_toArray, List.map_cons, List.map_nil]); first | done | rfl | (simp only [List.length_drop, List.length_take]; rfl)) ?_
        with_reducible refine (pleatref13_bit.calls t235 t230 t240 _ A12.out).mono ?_
        rintro e w' ⟨rfl, ⟨nd, rfl⟩⟩
        refine ⟨_, rfl, ?_⟩
        refine hK.out _ _ ⟨(blk_cell BK234.out 0).trans rfl, (blk_cell BK234.out 1).trans rfl, (blk_cell BK234.out 2).trans rfl, (blk_cell BK234.out 3).trans rfl, (blk_cell BK234.out 4).trans rfl⟩ (fun hHeld => ?_)
        clear hK K
        refine norm_ (a' := ?_) ?_ ?_
        rotate_left
        · show Act.put _ (some 20) _ = _
          simp only [Act.put, List.setIfInBounds_toArray, List.set_cons_zero, List.set_cons_succ, i64_w, i32_w]
          rfl
        refine pure_ (i := 7) (N := some 2) (v := ?_) (a' := ?_) #[true, true, true, true, true, true, true, true] rfl rfl (any_of HT_.out (by kernel_rfl)) (fun _ _ _ h => h) (Or.inl ⟨by rfl, ?_⟩) ?_ ?_
        rotate_left
        · intro w'
          go_simp
          with_reducible rfl
        rotate_left
        · simp only [Act.put, List.setIfInBounds_toArray, List.set_cons_zero, List.set_cons_succ, i64_w, i32_w]
          rfl
        refine done_ (done_of HT_.out (by kernel_rfl)) ?_
        try go_wp2
        go_ret
        exact ⟨zE, zHB⟩

/-! ### pleatref13_Links: function 82 -/
def pleatref13_Links.f (k : Nat) (a0 : Int) : Option (Bool) := (pleatref13_Reads.f k a0).bind fun t241 => ((pleatref13_Writes.f k a0).bind fun t242 => (some (((Go.bits .or .u16 t241 t242) / 32768) == 1)))
theorem pleatref13_Links.mono : ∀ a0 k, LeO (pleatref13_Links.f k a0) (pleatref13_Links.f (k + 1) a0) := by
  intro a0 k
  unfold pleatref13_Links.f
  have m0 := @pleatref13_Reads.mono
  have m1 := @pleatref13_Writes.mono
  exact zMo
set_option maxHeartbeats 8000000 in
set_option maxRecDepth 100000 in
theorem pleatref13_Links.calls (k : Nat) (a0 : Int) (r : Bool) (w : World) (h : pleatref13_Links.f k a0 = some r) :
    Calls Tryd.prog 82 #[.int .u32 a0] w fun e w' => e = .returned (.bool r) ∧ Below w.heap.size w w' := by
  have HB := Aside0.mk (Below.refl w.heap.size w)
  have H := h
  clear h
  unfold pleatref13_Links.f at H
  replace H := Option.bind_eq_some_iff.mp H
  obtain ⟨t241, A20, H⟩ := H
  (try dsimp only at H)
  have A2 := Aside0.mk A20
  clear A20
  replace H := Option.bind_eq_some_iff.mp H
  obtain ⟨t242, A30, H⟩ := H
  (try dsimp only at H)
  have A3 := Aside0.mk A30
  clear A30
  obtain rfl := Option.some.inj H
  go_enter Tryd.func82, Tryd.ntmps82
  go_wp2_with (first | ((with_reducible refine gate_callee (f := 95) rfl ?_); refine zGo (N := (some 4)) Tryd.func95 #[.int .u32 a0] ?_; (with_reducible refine (pleatref13_Reads.calls k a0 t241 _ A2.out).mono ?_); rintro e w4 ⟨rfl, hb⟩; refine ⟨_, rfl, ?_⟩; refine zs (below_step (zHB) hb) ?_; clear HB; intro HB; clear hb) | ((with_reducible refine gate_callee (f := 96) rfl ?_); refine zGo (N := (some 6)) Tryd.func96 #[.int .u32 a0] ?_; (with_reducible refine (pleatref13_Writes.calls k a0 t242 _ A3.out).mono ?_); rintro e w5 ⟨rfl, hb⟩; refine ⟨_, rfl, ?_⟩; refine zs (below_step (zHB) hb) ?_; clear HB; intro HB; clear hb))
  go_ret
  exact ⟨zE, zHB⟩

end Go.Proofs.YtfgdjpgdabjpmaaDoor.PNumberOf
