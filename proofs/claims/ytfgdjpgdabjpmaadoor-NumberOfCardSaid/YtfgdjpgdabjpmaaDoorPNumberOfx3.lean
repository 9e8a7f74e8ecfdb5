-- Written for this claim by a program of this session (wip/tools/pp.py, over the kit's print).
import Derived.Test.YtfgdjpgdabjpmaaDoorPNumberOfx0
import Derived.Test.YtfgdjpgdabjpmaaDoorPNumberOfx1
import Derived.Test.YtfgdjpgdabjpmaaDoorPNumberOfx2
namespace Go.Proofs.YtfgdjpgdabjpmaaDoor.PNumberOf
open Go.RowKit Go.Proofs.YtfgdjpgdabjpmaaDoorW.PrintWords Go.Proofs.YtfgdjpgdabjpmaaDoorW.PrintLast Go.Proofs.YtfgdjpgdabjpmaaDoorW.PrintMore
attribute [local go_sem] max2_int min2_int max_two min_two max_three min_three max_four min_four   -- for this text's walks alone
set_option linter.unusedVariables false
set_option linter.unusedSimpArgs false

/-! ### touch_word_writes: function 94 -/
def touch_word_writes.f (a0_0 : Int) (a0_1 : Int) (a0_2 : Int) (a0_3 : Int) (a0_4 : Int) : Option (Int) := (isa_Has.f a0_0).bind fun bt133 => (if bt133.1 = true then (if 0 ≤ a0_1 then (some (shl .u16 1 a0_1)) else (none)) else (if a0_0 = 17 then (some 32768) else (if a0_0 = 18 then (some 32768) else (some 0))))
set_option maxHeartbeats 8000000 in
set_option maxRecDepth 100000 in
theorem touch_word_writes.calls (a0_0 : Int) (a0_1 : Int) (a0_2 : Int) (a0_3 : Int) (a0_4 : Int) (r : Int) (w : World) (h : touch_word_writes.f a0_0 a0_1 a0_2 a0_3 a0_4 = some r) :
    Calls Tryd.prog 94 #[.agg #[.int .i8 a0_0, .int .i8 a0_1, .int .i8 a0_2, .int .i8 a0_3, .int .i64 a0_4]] w fun e w' => e = .returned (.int .u16 r) ∧ Below w.heap.size w w' := by
  have hu157 := Tryd.underlying157
  have HB := Aside0.mk (Below.refl w.heap.size w)
  have H := h
  clear h
  unfold touch_word_writes.f at H
  replace H := Option.bind_eq_some_iff.mp H
  obtain ⟨⟨t133, t134, t135, t136, t137⟩, A20, H⟩ := H
  (try dsimp only at H)
  have A2 := Aside0.mk A20
  clear A20
  by_cases c3 : t133 = true
  · subst c3
    rw [if_pos rfl] at H
    obtain ⟨c4, H⟩ := zG H
    have c4b0 := eq_true c4
    have c4b1 : decide (0 ≤ a0_1) = true := decide_eq_true c4
    clear c4
    obtain ⟨ji5, hji5⟩ : ∃ j_ : Int, (shl .u16 1 a0_1) = j_ := ⟨_, rfl⟩
    (first | rw [hji5] at H | simp only [hji5] at H)
    (try rw [hji5] at A2)
    have hji5_ : (IntKind.u16.wrap (1 * 2 ^ min a0_1.toNat 16)) = ji5 := hji5
    have hji5z : a0_1 ≤ 16 → (IntKind.u16.wrap (1 * 2 ^ a0_1.toNat)) = ji5 := shl_small hji5
    have hji5u : (IntKind.u16.wrap (2 ^ min a0_1.toNat 16)) = ji5 := by have h_ := hji5_; rw [Int.one_mul] at h_; exact h_
    have hji5v : a0_1 ≤ 16 → (IntKind.u16.wrap (2 ^ a0_1.toNat)) = ji5 := fun hle_ => by have h_ := hji5z hle_; rw [Int.one_mul] at h_; exact h_
    obtain rfl := Option.some.inj H
    go_enter Tryd.func94, Tryd.ntmps94
    go_wp2_with (first | ((with_reducible refine gate_dst (N := 1) rfl ?_); refine zBox (N := 1) (cs := #[.int .i8 a0_0, .int .i8 a0_1, .int .i8 a0_2, .int .i8 a0_3, .int .i64 a0_4]) (t := 157) ?_; intro gb132 hg w6 hbox hb; refine zs (below_step (zHB) hb) (zs hbox (zs (zGe hg zHB) (zs (zGe hg zHB) ?_))); clear HB; intro GE132 GW132 BK132 HB; clear hb hbox hg; have hcz7 := blk_cell BK132.out; have hfz7 := blk_frozen BK132.out) | ((with_reducible refine gate_callee (f := 101) rfl ?_); refine zGo (N := (some 12)) Tryd.func101 #[.int .i8 a0_0] ?_; (with_reducible refine (isa_Has.calls a0_0 true t134 t135 t136 t137 _ A2.out).mono ?_); rintro e w8 ⟨rfl, hb⟩; refine ⟨_, rfl, ?_⟩; refine zs (blk_below (g := gb132) zBK hb) (zs (below_step (zHB) hb) ?_); clear BK132 HB; intro HB BK132; clear hb; have hcz9 := blk_cell BK132.out; have hfz9 := blk_frozen BK132.out))
    go_ret
    exact ⟨by first | rfl | (simp [errW_none, errW_some] <;> rfl) | (simp only [← hji5]; first | rfl | (simp [errW_none, errW_some] <;> rfl)) | (simp [*, errW_none, errW_some] <;> rfl), zHB⟩
  · replace c3 := Bool.eq_false_iff.mpr c3
    subst c3
    rw [if_neg (show ¬ (false = true) by decide)] at H
    by_cases c10 : a0_0 = 17
    · rw [if_pos c10] at H
      have c10b0 := beq_iff_eq.mpr c10
      have c10b1 := bne_eq_false_iff_eq.mpr c10
      clear c10
      obtain rfl := Option.some.inj H
      go_enter Tryd.func94, Tryd.ntmps94
      go_wp2_with (first | ((with_reducible refine gate_dst (N := 1) rfl ?_); refine zBox (N := 1) (cs := #[.int .i8 a0_0, .int .i8 a0_1, .int .i8 a0_2, .int .i8 a0_3, .int .i64 a0_4]) (t := 157) ?_; intro gb132 hg w11 hbox hb; refine zs (below_step (zHB) hb) (zs hbox (zs (zGe hg zHB) (zs (zGe hg zHB) ?_))); clear HB; intro GE132 GW132 BK132 HB; clear hb hbox hg; have hcz12 := blk_cell BK132.out; have hfz12 := blk_frozen BK132.out) | ((with_reducible refine gate_callee (f := 101) rfl ?_); refine zGo (N := (some 12)) Tryd.func101 #[.int .i8 a0_0] ?_; (with_reducible refine (isa_Has.calls a0_0 false t134 t135 t136 t137 _ A2.out).mono ?_); rintro e w13 ⟨rfl, hb⟩; refine ⟨_, rfl, ?_⟩; refine zs (blk_below (g := gb132) zBK hb) (zs (below_step (zHB) hb) ?_); clear BK132 HB; intro HB BK132; clear hb; have hcz14 := blk_cell BK132.out; have hfz14 := blk_frozen BK132.out))
      go_ret
      exact ⟨zE, zHB⟩
    · rw [if_neg c10] at H
      have c10b0 := beq_eq_false_iff_ne.mpr c10
      have c10b1 := bne_iff_ne.mpr c10
      by_cases c15 : a0_0 = 18
      · rw [if_pos c15] at H
        have c15b0 := beq_iff_eq.mpr c15
        have c15b1 := bne_eq_false_iff_eq.mpr c15
        clear c15
        obtain rfl := Option.some.inj H
        go_enter Tryd.func94, Tryd.ntmps94
        go_wp2_with (first | ((with_reducible refine gate_dst (N := 1) rfl ?_); refine zBox (N := 1) (cs := #[.int .i8 a0_0, .int .i8 a0_1, .int .i8 a0_2, .int .i8 a0_3, .int .i64 a0_4]) (t := 157) ?_; intro gb132 hg w16 hbox hb; refine zs (below_step (zHB) hb) (zs hbox (zs (zGe hg zHB) (zs (zGe hg zHB) ?_))); clear HB; intro GE132 GW132 BK132 HB; clear hb hbox hg; have hcz17 := blk_cell BK132.out; have hfz17 := blk_frozen BK132.out) | ((with_reducible refine gate_callee (f := 101) rfl ?_); refine zGo (N := (some 12)) Tryd.func101 #[.int .i8 a0_0] ?_; (with_reducible refine (isa_Has.calls a0_0 false t134 t135 t136 t137 _ A2.out).mono ?_); rintro e w18 ⟨rfl, hb⟩; refine ⟨_, rfl, ?_⟩; refine zs (blk_below (g := gb132) zBK hb) (zs (below_step (zHB) hb) ?_); clear BK132 HB; intro HB BK132; clear hb; have hcz19 := blk_cell BK132.out; have hfz19 := blk_frozen BK132.out))
        go_ret
        exact ⟨zE, zHB⟩
      · rw [if_neg c15] at H
        have c15b0 := beq_eq_false_iff_ne.mpr c15
        have c15b1 := bne_iff_ne.mpr c15
        obtain rfl := Option.some.inj H
        go_enter Tryd.func94, Tryd.ntmps94
        go_wp2_with (first | ((with_reducible refine gate_dst (N := 1) rfl ?_); refine zBox (N := 1) (cs := #[.int .i8 a0_0, .int .i8 a0_1, .int .i8 a0_2, .int .i8 a0_3, .int .i64 a0_4]) (t := 157) ?_; intro gb132 hg w20 hbox hb; refine zs (below_step (zHB) hb) (zs hbox (zs (zGe hg zHB) (zs (zGe hg zHB) ?_))); clear HB; intro GE132 GW132 BK132 HB; clear hb hbox hg; have hcz21 := blk_cell BK132.out; have hfz21 := blk_frozen BK132.out) | ((with_reducible refine gate_callee (f := 101) rfl ?_); refine zGo (N := (some 12)) Tryd.func101 #[.int .i8 a0_0] ?_; (with_reducible refine (isa_Has.calls a0_0 false t134 t135 t136 t137 _ A2.out).mono ?_); rintro e w22 ⟨rfl, hb⟩; refine ⟨_, rfl, ?_⟩; refine zs (blk_below (g := gb132) zBK hb) (zs (below_step (zHB) hb) ?_); clear BK132 HB; intro HB BK132; clear hb; have hcz23 := blk_cell BK132.out; have hfz23 := blk_frozen BK132.out))
        go_ret
        exact ⟨zE, zHB⟩

/-! ### touch_Links: function 81, by hand -/
def touch_Links.f (k : Nat) (a0 : Int) : Option Bool := (isa_Decode.f k a0).bind fun t => (touch_word_reads.f t.1 t.2.1 t.2.2.1 t.2.2.2.1 t.2.2.2.2).bind fun r => (touch_word_writes.f t.1 t.2.1 t.2.2.1 t.2.2.2.1 t.2.2.2.2).bind fun s => some (bits BinOp.and IntKind.u16 (bits BinOp.or IntKind.u16 (bits BinOp.or IntKind.u16 0 r) s) 32768 != 0)
theorem touch_Links.mono : ∀ a0 k, LeO (touch_Links.f k a0) (touch_Links.f (k + 1) a0) := by
  intro a0 k
  unfold touch_Links.f
  exact LeO.bind (isa_Decode.mono _ _) (fun _ => LeO.refl _)
set_option maxRecDepth 100000 in
set_option maxHeartbeats 4000000 in
theorem touch_sets.two (g : Nat) (x : Value) (r s : Int) (w : World) (c0 : w.cell? ⟨g, 0, none⟩ = some (.func (.func 93) #[x] #[])) (c1 : w.cell? ⟨g, 1, none⟩ = some (.func (.func 94) #[x] #[]))
    (H0 : ∀ W : World, Calls Tryd.prog 93 #[x] W fun e w' => e = .returned (.int .u16 r) ∧ Below W.heap.size W w') (H1 : ∀ W : World, Calls Tryd.prog 94 #[x] W fun e w' => e = .returned (.int .u16 s) ∧ Below W.heap.size W w') :
    Calls Tryd.prog 92 #[.slice (some ⟨g, 0, none⟩) 2 2] w fun e w' => e = .returned (.int .u16 (bits BinOp.or IntKind.u16 (bits BinOp.or IntKind.u16 0 r) s)) ∧ Below w.heap.size w w' := by
  have K0 := Aside0.mk H0
  have K1 := Aside0.mk H1
  clear H0 H1
  have hg := World.block_lt_of_cell? w _ c0
  go_enter Tryd.func92, Tryd.ntmps92
  go_wp2
  refine wp_loop_rounds 3 ?_
  rw [rounds_succ]
  go_wp2_with (go_at_call 93; refine (K0.out _).mono ?_; rintro e w1 ⟨rfl, hb1⟩; have d1 : w1.cell? ⟨g, 1, none⟩ = _ := (hb1.cell (p := ⟨g, 1, none⟩) hg).trans c1)
  rw [rounds_succ]
  go_wp2_with (go_at_call 94; refine (K1.out _).mono ?_; rintro e w2 ⟨rfl, hb2⟩)
  rw [rounds_succ]
  go_wp2
  go_ret
  exact ⟨rfl, hb1.trans (hb2.mono hb1.size)⟩
set_option maxRecDepth 100000 in
set_option maxHeartbeats 4000000 in
theorem touch_Links.calls (k : Nat) (a0 : Int) (r : Bool) (w : World) (h : touch_Links.f k a0 = some r) : Calls Tryd.prog 81 #[.int .u32 a0] w fun e w' => e = .returned (.bool r) ∧ Below w.heap.size w w' := by
  obtain ⟨⟨t0, t1, t2, t3, t4⟩, h0, h⟩ := Option.bind_eq_some_iff.1 h
  obtain ⟨r1, h1, h⟩ := Option.bind_eq_some_iff.1 h
  obtain ⟨s1, h2, h⟩ := Option.bind_eq_some_iff.1 h
  obtain rfl := Option.some.inj h
  clear h
  have hmf : ∀ (fn : Fn) (first cap : Array Value) (w : World), (Instr.makeFunc fn first cap).run Tryd.prog w = .ok (.func fn first cap) w := fun _ _ _ _ => rfl
  have A0 := Aside0.mk h0
  have A1 := Aside0.mk h1
  have A2 := Aside0.mk h2
  clear h0 h1 h2
  go_enter Tryd.func81, Tryd.ntmps81
  go_wp2_with (go_at_call 65; refine (isa_Decode.calls k a0 t0 t1 t2 t3 t4 _ A0.out).mono ?_; rintro e w1 ⟨rfl, hb1⟩)
  refine (touch_sets.two _ _ r1 s1 _ (cell_of_row _ _ _ _ _ _ (heap_alloc2_new _ _ _)) (cell_of_row _ _ _ _ _ _ (heap_alloc2_new _ _ _)) (fun W => touch_word_reads.calls _ _ _ _ _ r1 W A1.out) (fun W => touch_word_writes.calls _ _ _ _ _ s1 W A2.out)).mono ?_
  rintro e w2 ⟨rfl, hb2⟩
  go_wp2
  go_ret
  exact ⟨rfl, hb1.trans ((((Below.refl w1.heap.size w1).alloc (Nat.le_refl _) _).alloc (by simp) _).trans (hb2.mono (by simp; omega)) |>.mono hb1.size)⟩

/-! ### touch_Alone: function 41 -/
mutual
def touch_Alone.j0 : Nat → Int → Int → Bool → Int → Int → Int → Int → Int → Option (Bool)
  | 0, _, _, _, _, _, _, _, _ => none
  | k + 1, x0, x7, x8, x144000, x144001, x144002, x144003, x144004 => if x8 = true then (some true) else (if x7 = 19 then (touch_Alone.j1 k x0 x7 (x7 == 19) x144000 x144001 x144002 x144003 x144004) else (touch_Alone.j1 k x0 x7 (x7 == 17) x144000 x144001 x144002 x144003 x144004))
def touch_Alone.j1 : Nat → Int → Int → Bool → Int → Int → Int → Int → Int → Option (Bool)
  | 0, _, _, _, _, _, _, _, _ => none
  | k + 1, x0, x7, x11, x144000, x144001, x144002, x144003, x144004 => if x11 = true then (some false) else (if x7 = 18 then (some (x144002 == 15)) else ((touch_Links.f k x0).bind fun t144 => (some t144)))
end
def touch_Alone.f (k : Nat) (a0 : Int) : Option (Bool) := (isa_Decode.f k a0).bind fun bt138 => (if bt138.1 = (-1) then (touch_Alone.j0 k a0 bt138.1 (bt138.1 == (-1)) bt138.1 bt138.2.1 bt138.2.2.1 bt138.2.2.2.1 bt138.2.2.2.2) else (touch_Alone.j0 k a0 bt138.1 (bt138.1 == 16) bt138.1 bt138.2.1 bt138.2.2.1 bt138.2.2.2.1 bt138.2.2.2.2))
theorem touch_Alone.mono_l : ∀ k, (∀ y0 y1 y2 y3 y4 y5 y6 y7, LeO (touch_Alone.j0 k y0 y1 y2 y3 y4 y5 y6 y7) (touch_Alone.j0 (k + 1) y0 y1 y2 y3 y4 y5 y6 y7)) ∧ (∀ y0 y1 y2 y3 y4 y5 y6 y7, LeO (touch_Alone.j1 k y0 y1 y2 y3 y4 y5 y6 y7) (touch_Alone.j1 (k + 1) y0 y1 y2 y3 y4 y5 y6 y7))
  | 0 => ⟨fun _ _ _ _ _ _ _ _ r h => by simp [touch_Alone.j0] at h, fun _ _ _ _ _ _ _ _ r h => by simp [touch_Alone.j1] at h⟩
  | k + 1 => by
    obtain ⟨ih0, ih1⟩ := touch_Alone.mono_l k
    refine ⟨?_, ?_⟩
    · intro y0 y1 y2 y3 y4 y5 y6 y7
      unfold touch_Alone.j0
      have m0 := @isa_Decode.mono
      have m1 := @touch_Links.mono
      exact zMo
    · intro y0 y1 y2 y3 y4 y5 y6 y7
      unfold touch_Alone.j1
      have m0 := @isa_Decode.mono
      have m1 := @touch_Links.mono
      exact zMo
theorem touch_Alone.mono : ∀ a0 k, LeO (touch_Alone.f k a0) (touch_Alone.f (k + 1) a0) := by
  intro a0 k
  obtain ⟨ih0, ih1⟩ := touch_Alone.mono_l k
  unfold touch_Alone.f
  have m0 := @isa_Decode.mono
  have m1 := @touch_Links.mono
  exact zMo
set_option maxHeartbeats 8000000 in
set_option maxRecDepth 100000 in
theorem touch_Alone.calls (k : Nat) (a0 : Int) (r : Bool) (w : World) (h : touch_Alone.f k a0 = some r) :
    Calls Tryd.prog 41 #[.int .u32 a0] w fun e w' => e = .returned (.bool r) ∧ Below w.heap.size w w' := by
  have hu94 := Tryd.underlying94
  have HB := Aside0.mk (Below.refl w.heap.size w)
  have H := h
  clear h
  unfold touch_Alone.f at H
  replace H := Option.bind_eq_some_iff.mp H
  obtain ⟨⟨t138, t139, t140, t141, t142⟩, A20, H⟩ := H
  (try dsimp only at H)
  have A2 := Aside0.mk A20
  clear A20
  have HC3 := Aside0.mk H
  clear H
  go_enter Tryd.func41, Tryd.ntmps41
  go_upto_if 8 with (first | ((with_reducible refine gate_callee (f := 65) rfl ?_); refine zGo (N := (some 5)) Tryd.func65 #[.int .u32 a0] ?_; (with_reducible refine (isa_Decode.calls k a0 t138 t139 t140 t141 t142 _ A2.out).mono ?_); rintro e w4 ⟨rfl, hb⟩; refine ⟨_, rfl, ?_⟩; refine zs (below_step (zHB) hb) ?_; clear HB; intro HB; clear hb) | ((with_reducible refine gate_dst (N := 3) rfl ?_); refine zBox (N := 3) (cs := #[.int .i8 0, .int .i8 0, .int .i8 0, .int .i8 0, .int .i64 0]) (t := 94) ?_; intro gb143 hg w5 hbox hb; refine zs (below_step (zHB) hb) (zs hbox (zs (zGe hg zHB) (zs (zGe hg zHB) ?_))); clear HB; intro GE143 GW143 BK143 HB; clear hb hbox hg; have hcz6 := blk_cell BK143.out; have hfz6 := blk_frozen BK143.out))
  (try simp only [Act.put, List.setIfInBounds_toArray, List.set_cons_zero, List.set_cons_succ])
  go_cut [8] (fun v8 wc => ∃ (kq : Nat) (x8_2 : Bool), v8 = .bool x8_2 ∧ Aside0 (touch_Alone.j0 kq a0 t138 x8_2 t138 t139 t140 t141 t142 = some r) ∧ Aside0 (kq ≤ k) ∧ Aside0 (wc.heap[gb143]? = some (.cells #[.int .i8 t138, .int .i8 t139, .int .i8 t140, .int .i8 t141, .int .i64 t142] 94 (0, 0))) ∧ Aside0 (Below w.heap.size w wc))
  case first =>
    have H := HC3.out
    clear HC3
    by_cases c7 : t138 = (-1)
    · rw [if_pos c7] at H
      have c7b0 := beq_iff_eq.mpr c7
      have c7b1 := bne_eq_false_iff_eq.mpr c7
      clear c7
      (first | rw [c7b0] | (simp only [i64_w, i32_w]; rw [c7b0]) | skip)
      have H' := Aside0.mk H
      clear H
      go_wp2
      go_meet
      case rel => exact ⟨_, ((t138 == (-1))), zF', H', ⟨zL⟩, ⟨zBK⟩, ⟨zHB⟩⟩
    · rw [if_neg c7] at H
      have c7b0 := beq_eq_false_iff_ne.mpr c7
      have c7b1 := bne_iff_ne.mpr c7
      (first | rw [c7b0] | (simp only [i64_w, i32_w]; rw [c7b0]) | skip)
      have H' := Aside0.mk H
      clear H
      go_wp2
      go_meet
      case rel => exact ⟨_, ((t138 == 16)), zF', H', ⟨zL⟩, ⟨zBK⟩, ⟨zHB⟩⟩
  case rest =>
    clear HC3
    try clear hcz6
    try clear hfz6
    obtain ⟨kq, x8_2, rfl, HA, HJ2, BK143, HB⟩ := hcut
    cases kq with
    | zero => exact absurd HA.out (by simp [touch_Alone.j0])
    | succ kj2 =>
      have H := HA.out
      clear HA
      simp only [touch_Alone.j0] at H
      by_cases c8 : x8_2 = true
      · subst c8
        rw [if_pos rfl] at H
        obtain rfl := Option.some.inj H
        go_wp2
        go_ret
        exact ⟨zE, zHB⟩
      · replace c8 := Bool.eq_false_iff.mpr c8
        subst c8
        rw [if_neg (show ¬ (false = true) by decide)] at H
        have HC9 := Aside0.mk H
        clear H
        go_upto_if 11 with (fail)
        go_cut [11] (fun v11 wc => ∃ (kq : Nat) (x11_8 : Bool), v11 = .bool x11_8 ∧ Aside0 (touch_Alone.j1 kq a0 t138 x11_8 t138 t139 t140 t141 t142 = some r) ∧ Aside0 (kq ≤ kj2) ∧ Aside0 (wc.heap[gb143]? = some (.cells #[.int .i8 t138, .int .i8 t139, .int .i8 t140, .int .i8 t141, .int .i64 t142] 94 (0, 0))) ∧ Aside0 (Below w.heap.size w wc))
        case first =>
          have H := HC9.out
          clear HC9
          by_cases c10 : t138 = 19
          · rw [if_pos c10] at H
            have c10b0 := beq_iff_eq.mpr c10
            have c10b1 := bne_eq_false_iff_eq.mpr c10
            clear c10
            (first | rw [c10b0] | (simp only [i64_w, i32_w]; rw [c10b0]) | skip)
            have H' := Aside0.mk H
            clear H
            go_wp2
            go_meet
            case rel => exact ⟨_, ((t138 == 19)), zF', H', ⟨by have := HJ2.out; first | omega | exact Nat.le_refl _⟩, ⟨zBK⟩, ⟨zHB⟩⟩
          · rw [if_neg c10] at H
            have c10b0 := beq_eq_false_iff_ne.mpr c10
            have c10b1 := bne_iff_ne.mpr c10
            (first | rw [c10b0] | (simp only [i64_w, i32_w]; rw [c10b0]) | skip)
            have H' := Aside0.mk H
            clear H
            go_wp2
            go_meet
            case rel => exact ⟨_, ((t138 == 17)), zF', H', ⟨by have := HJ2.out; first | omega | exact Nat.le_refl _⟩, ⟨zBK⟩, ⟨zHB⟩⟩
        case rest =>
          clear HC9
          try clear hcz6
          try clear hfz6
          obtain ⟨kq, x11_8, rfl, HA, HJ8, BK143, HB⟩ := hcut
          cases kq with
          | zero => exact absurd HA.out (by simp [touch_Alone.j1])
          | succ kj8 =>
            have H := HA.out
            clear HA
            simp only [touch_Alone.j1] at H
            by_cases c11 : x11_8 = true
            · subst c11
              rw [if_pos rfl] at H
              obtain rfl := Option.some.inj H
              go_wp2
              go_ret
              exact ⟨zE, zHB⟩
            · replace c11 := Bool.eq_false_iff.mpr c11
              subst c11
              rw [if_neg (show ¬ (false = true) by decide)] at H
              by_cases c12 : t138 = 18
              · rw [if_pos c12] at H
                have c12b0 := beq_iff_eq.mpr c12
                have c12b1 := bne_eq_false_iff_eq.mpr c12
                clear c12
                obtain rfl := Option.some.inj H
                have hcz13 := blk_cell BK143.out
                have hfz13 := blk_frozen BK143.out
                go_wp2
                go_ret
                exact ⟨zE, zHB⟩
              · rw [if_neg c12] at H
                have c12b0 := beq_eq_false_iff_ne.mpr c12
                have c12b1 := bne_iff_ne.mpr c12
                replace H := Option.bind_eq_some_iff.mp H
                obtain ⟨t144, A140, H⟩ := H
                (try dsimp only at H)
                have A14 := Aside0.mk A140
                clear A140
                obtain rfl := Option.some.inj H
                go_wp2_with (first | ((with_reducible refine gate_callee (f := 81) rfl ?_); refine zGo (N := (some 20)) Tryd.func81 #[.int .u32 a0] ?_; (with_reducible refine (touch_Links.calls kj8 a0 t144 _ A14.out).mono ?_); rintro e w15 ⟨rfl, hb⟩; refine ⟨_, rfl, ?_⟩; refine zs (blk_below (g := gb143) zBK hb) (zs (below_step (zHB) hb) ?_); clear BK143 HB; intro HB BK143; clear hb))
                go_ret
                exact ⟨zE, zHB⟩

/-! ### number_Of: function 9, by hand -/
/-- The book in block g: its map in block b of at most c entries, the next number n. -/
structure IsBook (w : World) (g b c : Nat) (m : List (Int × Int)) (n : Int) : Prop where
  cells : w.heap[g]? = some (.cells #[.map (some b), .int .i64 n] 81 (0, 0))
  own : w.ownsMap Tryd.prog 26 (plainElem Tryd.prog 3) b c (Mapv.mview .u32 .i64 m)
  ne : g ≠ b
theorem info_zero_int (w : World) : (zeroValue 3).run Tryd.prog w = .ok (.int .i64 0) w := by kernel_rfl
set_option maxRecDepth 100000 in
set_option maxHeartbeats 4000000 in
theorem book_number.old (g b c : Nat) (m : List (Int × Int)) (n v x : Int) (w : World) (hB : IsBook w g b c m n) (hv : (Lit.int .u32 v).wf = true) (hl : m.lookup v = some x) :
    Calls Tryd.prog 39 #[.pointer (some ⟨g, 0, none⟩), .int .u32 v] w fun e w' => e = .returned (.int .i64 x) ∧ w = w' := by
  have c0 : w.cell? ⟨g, 0, none⟩ = some (.map (some b)) := (cell_of_row _ _ _ _ _ _ hB.cells).trans rfl
  have c1 : w.cell? ⟨g, 1, none⟩ = some (.int .i64 n) := (cell_of_row _ _ _ _ _ _ hB.cells).trans rfl
  have hkey : keyOf Tryd.prog 26 (.int .u32 v) = some (.int .u32 v) := Maps.keyOf_int_mk Tryd.underlying26 hv
  have hh : Maps.has (Mapv.mview .u32 .i64 m) (.int .u32 v) = true := by rw [Mapv.mview_has, hl]; rfl
  have ha := Mapv.mview_at .u32 .i64 v (.lit (.int .i64 0)) m
  rw [hl] at ha
  have A1 := Aside0.mk hB.own
  have A2 := Aside0.mk ha
  clear hB hl ha
  go_enter Tryd.func39, Tryd.ntmps39
  go_wp2_with (at_lookup; refine wpList_lookup_own_ok_int _ rfl _ _ 79 rfl 26 3 .i64 (Maps.int_keyed Tryd.underlying26) Tryd.underlying79 Tryd.underlying3 (info_zero_int _) b c _ rfl A1.out _ _ rfl hkey ?_; intro y hat hwc; obtain rfl : y = x := (by have := A2.out.symm.trans hat; cases this; rfl); clear hat)
  go_ret
  exact ⟨rfl, rfl⟩
/-- What was there below block g stays; the blocks g and b alone are written. -/
structure Kept2 (g b : Nat) (w w' : World) : Prop where
  os : w'.os = w.os
  tape : w'.tape = w.tape
  output : w'.output = w.output
  size : w.heap.size ≤ w'.heap.size
  block : ∀ k, k < w.heap.size → k ≠ g → k ≠ b → w'.heap[k]? = w.heap[k]?
set_option maxRecDepth 100000 in
set_option maxHeartbeats 4000000 in
theorem book_number.new (k : Nat) (al : Bool) (g b c : Nat) (m : List (Int × Int)) (n v : Int) (w : World) (hB : IsBook w g b c m n) (hv : (Lit.int .u32 v).wf = true) (hl : m.lookup v = none) (hn0 : 0 ≤ n) (hn1 : n ≤ 281474976710656) (hc : c < maxLen)
    (ha : touch_Alone.f k v = some al) :
    Calls Tryd.prog 39 #[.pointer (some ⟨g, 0, none⟩), .int .u32 v] w fun e w' => e = .returned (.int .i64 n) ∧ IsBook w' g b (c + 1) (if al = true then m else (v, n) :: m) (n + 1) ∧ Kept2 g b w w' := by
  have c0 : w.cell? ⟨g, 0, none⟩ = some (.map (some b)) := (cell_of_row _ _ _ _ _ _ hB.cells).trans rfl
  have c1 : w.cell? ⟨g, 1, none⟩ = some (.int .i64 n) := (cell_of_row _ _ _ _ _ _ hB.cells).trans rfl
  have f1 : w.frozen? ⟨g, 1, none⟩ = false := frozen_of_row _ _ _ _ _ hB.cells
  have hkey : keyOf Tryd.prog 26 (.int .u32 v) = some (.int .u32 v) := Maps.keyOf_int_mk Tryd.underlying26 hv
  have hh : Maps.has (Mapv.mview .u32 .i64 m) (.int .u32 v) = false := by rw [Mapv.mview_has, hl]; rfl
  have A1 := Aside0.mk hB.own
  have AB := Aside0.mk hB
  have AA := Aside0.mk ha
  have hwn : (Lit.int .i64 n).wf = true := by have hmin : IntKind.i64.min = -9223372036854775808 := rfl; have hmax : IntKind.i64.max = 9223372036854775807 := rfl; simp only [Lit.wf, Bool.and_eq_true, decide_eq_true_eq]; omega
  have hW := Aside0.mk hwn
  clear hB hl ha hwn
  have hlt : g < w.heap.size := (Array.getElem?_eq_some_iff.1 AB.out.cells).1
  have hltb : b < w.heap.size := A1.out.lt
  have hne := Aside0.mk AB.out.ne
  have heap1 : Aside0 ((w.setCell ⟨g, 1, none⟩ (.int .i64 (n + 1))).heap[g]? = some (.cells #[.map (some b), .int .i64 (n + 1)] 81 (0, 0))) := ⟨heap_setCell_same _ _ _ _ _ _ AB.out.cells⟩
  have own1 : Aside0 ((w.setCell ⟨g, 1, none⟩ (.int .i64 (n + 1))).ownsMap Tryd.prog 26 (plainElem Tryd.prog 3) b c (Mapv.mview .u32 .i64 m)) := ⟨A1.out.setCell (fun e => hne.out e.symm) _⟩
  have kept1 : Aside0 (Kept2 g b w (w.setCell ⟨g, 1, none⟩ (.int .i64 (n + 1)))) := ⟨rfl, rfl, rfl, by simp, fun k hk h1 h2 => heap_setCell_other _ _ _ _ h1⟩
  cases al with
  | true =>
    go_enter Tryd.func39, Tryd.ntmps39
    go_wp2_with (first | (at_lookup; refine wpList_lookup_own_ok_int _ rfl _ _ 79 rfl 26 3 .i64 (Maps.int_keyed Tryd.underlying26) Tryd.underlying79 Tryd.underlying3 (info_zero_int _) b c _ rfl A1.out _ _ rfl hkey ?_; intro y hat hwc; clear hat) | (go_at_call 41; refine (touch_Alone.calls k v true _ AA.out).mono ?_; rintro e w1 ⟨rfl, hb1⟩))
    go_ret
    refine ⟨rfl, ⟨(hb1.block g (by simpa using hlt)).trans heap1.out, (Mapv.ownsMap_below own1.out hb1 (by simpa using hltb)).mono (by omega), hne.out⟩, ?_⟩
    exact ⟨hb1.os.trans kept1.out.os, hb1.tape.trans kept1.out.tape, hb1.output.trans kept1.out.output, Nat.le_trans kept1.out.size hb1.size, fun i hi h1 h2 => (hb1.block i (Nat.lt_of_lt_of_le hi kept1.out.size)).trans (kept1.out.block i hi h1 h2)⟩
  | false =>
    go_enter Tryd.func39, Tryd.ntmps39
    go_wp2_with (first | (at_lookup; refine wpList_lookup_own_ok_int _ rfl _ _ 79 rfl 26 3 .i64 (Maps.int_keyed Tryd.underlying26) Tryd.underlying79 Tryd.underlying3 (info_zero_int _) b c _ rfl A1.out _ _ rfl hkey ?_; intro y hat hwc; clear hat) | (go_at_call 41; refine (touch_Alone.calls k v false _ AA.out).mono ?_; rintro e w1 ⟨rfl, hb1⟩; have heap2 := Aside0.mk ((hb1.block g (by simpa using hlt)).trans heap1.out); have own2 := Aside0.mk (Mapv.ownsMap_below own1.out hb1 (by simpa using hltb)); have d0 : w1.cell? ⟨g, 0, none⟩ = some (.map (some b)) := (cell_of_row _ _ _ _ _ _ heap2.out).trans rfl) | (at_mapUpdate; refine wpList_mapUpdate_own _ rfl _ _ _ 79 rfl 26 3 (Maps.int_keyed Tryd.underlying26) Tryd.underlying79 _ b c _ rfl own2.out hc _ _ _ rfl rfl hkey _ [] (plainElem_int Tryd.underlying3 hW.out) ?_; intro w2 hown2 hg2))
    go_ret
    refine ⟨rfl, ⟨Mapv.heap_kept heap2.out hg2 (by intro e; exact hne.out (Option.some.inj e)), hown2, hne.out⟩, ?_⟩
    exact ⟨hg2.os.trans (hb1.os.trans kept1.out.os), hg2.tape.trans (hb1.tape.trans kept1.out.tape), hg2.output.trans (hb1.output.trans kept1.out.output), Nat.le_trans kept1.out.size (Nat.le_trans hb1.size hg2.size), fun i hi h1 h2 => (hg2.block i (Nat.lt_of_lt_of_le hi (Nat.le_trans kept1.out.size hb1.size)) (by intro e; exact h2 (Option.some.inj e))).trans ((hb1.block i (Nat.lt_of_lt_of_le hi kept1.out.size)).trans (kept1.out.block i hi h1 h2))⟩
def number_Of.l (k : Nat) : List Int → List (Int × Int) → Int → List Int → Option (List Int)
  | [], _, _, l => some l
  | v :: ws, m, n, l => match m.lookup v with
    | some x => number_Of.l k ws m n (l ++ [x])
    | none => (touch_Alone.f k v).bind fun a => number_Of.l k ws (if a = true then m else (v, n) :: m) (n + 1) (l ++ [n])
def number_Of.f (k : Nat) (a0_0 : List Int) (a0_1 : Int) (a0_2 : List Int) : Option (List Int × Int) :=
  (image_Check.f k a0_0 a0_1 a0_2).bind fun c => if c.1 = 0 then (if a0_0.all (fun v => decide (0 ≤ v ∧ v < 4294967296)) = true ∧ a0_0.length ≤ 16384 then (number_Of.l k a0_0 [] 0 []).bind fun l => some (l, 0) else none) else some ([], c.1)
theorem number_Of.mono_l (k : Nat) : ∀ ws m n l, LeO (number_Of.l k ws m n l) (number_Of.l (k + 1) ws m n l)
  | [], _, _, _ => LeO.refl _
  | v :: ws, m, n, l => by
    unfold number_Of.l
    cases m.lookup v with
    | some x => exact number_Of.mono_l k ws _ _ _
    | none => exact LeO.bind (touch_Alone.mono _ _) (fun a => number_Of.mono_l k ws _ _ _)
theorem number_Of.mono : ∀ a0 a1 a2 k, LeO (number_Of.f k a0 a1 a2) (number_Of.f (k + 1) a0 a1 a2) := by
  intro a0 a1 a2 k
  unfold number_Of.f
  exact LeO.bind (image_Check.mono _ _ _ _) (fun c => LeO.ite (LeO.ite (LeO.bind (number_Of.mono_l k _ _ _ _) (fun _ => LeO.refl _)) (LeO.none _)) (LeO.refl _))
theorem Kept2.below {B g b : Nat} {w w1 w2 : World} (h : Below B w w1) (hk : Kept2 g b w1 w2) (hg : B ≤ g) (hb : B ≤ b) (hB : B ≤ w1.heap.size) : Below B w w2 :=
  ⟨hk.os.trans h.os, hk.tape.trans h.tape, hk.output.trans h.output, Nat.le_trans h.size hk.size, fun i hi => (hk.block i (Nat.lt_of_lt_of_le hi hB) (by omega) (by omega)).trans (h.block i hi)⟩
theorem IsBook.grown {w w1 : World} {g b c : Nat} {m : List (Int × Int)} {n : Int} {row : Option Nat} (h : IsBook w g b c m n) (hg : w.grownBy w1 row) (h1 : some g ≠ row) (h2 : some b ≠ row) : IsBook w1 g b c m n :=
  ⟨Mapv.heap_kept h.cells hg h1, h.own.kept hg h2, h.ne⟩
theorem drop_rd (l : List Int) (j : Nat) (h : j < l.length) : l.drop j = rd l (j : Int) :: l.drop (j + 1) := by
  rw [List.drop_eq_getElem_cons h]
  simp [rd, List.getD_eq_getElem?_getD, List.getElem?_eq_getElem h]
theorem all_rd {l : List Int} {p : Int → Prop} [DecidablePred p] (ha : l.all (fun v => decide (p v)) = true) (j : Nat) (h : j < l.length) : p (rd l (j : Int)) := by
  have h1 : rd l (j : Int) = l[j] := by simp [rd, List.getD_eq_getElem?_getD, List.getElem?_eq_getElem h]
  rw [h1]
  exact of_decide_eq_true (List.all_eq_true.1 ha _ (List.getElem_mem h))
theorem wf_u32_of {x : Int} (h : 0 ≤ x ∧ x < 4294967296) : (Lit.int .u32 x).wf = true := by
  have hmin : IntKind.u32.min = 0 := rfl
  have hmax : IntKind.u32.max = 4294967295 := rfl
  simp only [Lit.wf, Bool.and_eq_true, decide_eq_true_eq]
  omega
theorem heap_alloc2_new' (w : World) (A B : Obj) : ((w.alloc A).alloc B).heap[w.heap.size + 1]? = some B := heap_alloc2_new w A B
/-- What holds at the head of a round. -/
def NumRel (k : Nat) (w : World) (g b : Nat) (xs res : List Int) (i v : Value) (wr : World) : Prop :=
  ∃ (j c : Nat) (m : List (Int × Int)) (n : Int) (l : List Int), i = .int .i64 j ∧ j ≤ xs.length ∧ IsBook wr g b c m n ∧ c ≤ j ∧ 0 ≤ n ∧ n ≤ j ∧ l.length = j ∧
    wr.ownsRow w.heap.size 3 1 v l.length (nums .i64 l) ∧ v.ownBlock ≠ some g ∧ v.ownBlock ≠ some b ∧ Below w.heap.size w wr ∧ number_Of.l k (xs.drop j) m n l = some res
theorem NumRel.step {k : Nat} {w w2 w3 : World} {g b j c : Nat} {m : List (Int × Int)} {n y : Int} {l xs res : List Int} {v v1 : Value} (hB : IsBook w2 g b c m n) (hc : c ≤ j + 1) (hn0 : 0 ≤ n) (hn1 : n ≤ (j : Int) + 1) (hj : j < xs.length) (hll : l.length = j)
    (ho : w3.ownsRow w.heap.size 3 1 v1 (l ++ [y]).length (nums .i64 (l ++ [y]))) (hb : Below w.heap.size w w3) (hg : w2.grownBy w3 v.ownBlock) (hvg : v.ownBlock ≠ some g) (hvb : v.ownBlock ≠ some b)
    (hat : v1.ownBlock = v.ownBlock ∨ ∃ q, v1.ownBlock = some q ∧ w2.heap.size ≤ q) (hs : number_Of.l k (xs.drop (j + 1)) m n (l ++ [y]) = some res) :
    NumRel k w g b xs res (.int .i64 ((j : Int) + 1)) v1 w3 := by
  have hgl : g < w2.heap.size := (Array.getElem?_eq_some_iff.1 hB.cells).1
  have hbl : b < w2.heap.size := hB.own.lt
  refine ⟨j + 1, c, m, n, l ++ [y], by simp, by omega, hB.grown hg (fun e => hvg e.symm) (fun e => hvb e.symm), hc, hn0, by omega, by simp [hll], ho, ?_, ?_, hb, hs⟩
  · rcases hat with e | ⟨q, e, hq⟩
    · rw [e]; exact hvg
    · rw [e]; intro e'; have := Option.some.inj e'; omega
  · rcases hat with e | ⟨q, e, hq⟩
    · rw [e]; exact hvb
    · rw [e]; intro e'; have := Option.some.inj e'; omega
set_option maxRecDepth 100000 in
set_option maxHeartbeats 8000000 in
theorem number_Of.calls (k : Nat) (A0_0 : Option Addr) (c0_0 : Nat) (l0_0 : List Int) (a0_1 : Int) (A0_2 : Option Addr) (c0_2 : Nat) (l0_2 : List Int) (r1 : List Int) (r2 : Int) (w : World) (hr0_0 : Kd.C (Kd.int .u32) w A0_0 l0_0.length l0_0) (hc0_0 : l0_0.length ≤ c0_0) (hr0_2 : Kd.C (Kd.int .i64) w A0_2 l0_2.length l0_2) (hc0_2 : l0_2.length ≤ c0_2) (h : number_Of.f k l0_0 a0_1 l0_2 = some (r1, r2)) :
    Calls Tryd.prog 9 #[.agg #[.slice A0_0 l0_0.length c0_0, .int .i64 a0_1, .slice A0_2 l0_2.length c0_2]] w fun e w' => ∃ v0_ : Value, e = .returned (.tuple #[v0_, .int .i64 r2]) ∧ Kd.R (Kd.int .i64) 3 w' w.heap.size (fun _ => True) v0_ r1 ∧ Below w.heap.size w w' := by
  have hmm := @run_makeMap Tryd.prog
  have hmf : ∀ (fn : Fn) (first cap : Array Value) (w : World), (Instr.makeFunc fn first cap).run Tryd.prog w = .ok (.func fn first cap) w := fun _ _ _ _ => rfl
  unfold number_Of.f at h
  obtain ⟨⟨e1, e2⟩, h0, h⟩ := Option.bind_eq_some_iff.1 h
  have A0 := Aside0.mk h0
  have HR0 := Aside0.mk hr0_0
  have HR2 := Aside0.mk hr0_2
  clear h0 hr0_0 hr0_2
  by_cases he : e1 = 0
  · subst he
    have h' := h
    rw [if_pos rfl] at h'
    by_cases hg : l0_0.all (fun v => decide (0 ≤ v ∧ v < 4294967296)) = true ∧ l0_0.length ≤ 16384
    · rw [if_pos hg] at h'
      obtain ⟨res, h1, h2⟩ := Option.bind_eq_some_iff.1 h'
      obtain ⟨rfl, rfl⟩ := Prod.mk.inj (Option.some.inj h2)
      have HG := Aside0.mk hg
      have H1 := Aside0.mk h1
      clear h'
      clear h
      clear h1 h2 hg
      go_enter Tryd.func9, Tryd.ntmps9
      go_wp2_with (go_at_call 23; refine (image_Check.calls k A0_0 c0_0 l0_0 a0_1 A0_2 c0_2 l0_2 0 e2 _ (Kd.C_alloc HR0.out _) hc0_0 (Kd.C_alloc HR2.out _) hc0_2 A0.out).mono ?_; rintro e w1 ⟨rfl, hb1⟩; have d0 : w1.cell? ⟨w.heap.size, 0, none⟩ = some (.slice A0_0 l0_0.length c0_0) := (hb1.cell (p := ⟨w.heap.size, 0, none⟩) (by simp)).trans ((cell_of_row _ _ _ _ _ _ (heap_alloc_new _ _)).trans rfl); have hz : w.heap.size < w1.heap.size := by have := hb1.size; simp at this; omega)
      have hlen := Aside0.mk (Nat.le_trans HG.out.2 (by decide : (16384 : Nat) ≤ 140737488355328))
      have hW1 : Aside0 (Below w.heap.size w w1) := ⟨((Below.refl w.heap.size w).alloc (Nat.le_refl _) _).trans (hb1.mono (by simp))⟩
      have hwz := Aside0.mk (Nat.le_of_lt hz)
      clear hb1 d0
      go_loopw [27, 8] (fun i v wr => NumRel k w (w1.heap.size + 1) w1.heap.size l0_0 res i v wr) (fun i _ _ => l0_0.length - (intOf i).toNat)
      case atStart =>
        refine ⟨0, 0, [], 0, [], rfl, Nat.zero_le _, ⟨heap_alloc2_new' _ _ _, ?_, by omega⟩, Nat.le_refl _, by omega, by omega, rfl, own_nil _ _ _ _, by simp [Value.ownBlock], by simp [Value.ownBlock], ?_, H1.out⟩
        · exact (World.ownsMap_made (H := Unit) _ _ _ _).alloc _
        · exact (hW1.out.alloc hwz.out _).alloc (by simp; omega) _
      case round =>
        obtain ⟨j, c, m, n, l, rfl, hj, hbook, hc, hn0, hn1, hll, hrow, hvg, hvb, hbel, hsp⟩ := hrel
        have HS := Aside0.mk hsp
        have HB := Aside0.mk hbook
        have HR := Aside0.mk hrow
        have HL := Aside0.mk hbel
        have HVG := Aside0.mk hvg
        have HVB := Aside0.mk hvb
        have HLL := Aside0.mk hll
        clear hsp hbook hrow hbel hvg hvb hll
        by_cases hlt : j < l0_0.length
        · obtain ⟨ad, e, hx⟩ := Kd.at_int (Kd.C_below HR0.out HL.out) (j : Int) (by omega) (by omega)
          cases e
          rw [Int.toNat_natCast] at hx
          have hd := drop_rd l0_0 j hlt
          have hwf : (Lit.int .u32 (rd l0_0 (j : Int))).wf = true := wf_u32_of (all_rd HG.out.1 j hlt)
          have HX := Aside0.mk hwf
          generalize rd l0_0 (j : Int) = x at hx hd HX
          have hs := HS.out
          rw [hd] at hs
          unfold number_Of.l at hs
          have hll := HLL.out
          have hlen' := hlen.out
          have hbm : (l.length + 1) * 8 ≤ 140737488355328 := by have := HG.out.2; omega
          have HBM := Aside0.mk hbm
          have hj5 : (j : Int) ≤ 16384 := by have := HG.out.2; omega
          have hcl : c < maxLen := by have : maxLen = 9223372036854775807 := rfl; omega
          have HCL := Aside0.mk hcl
          cases hm : m.lookup x with
          | some y =>
            rw [hm] at hs
            have HS2 := Aside0.mk (show number_Of.l k (l0_0.drop (j + 1)) m n (l ++ [y]) = some _ from hs)
            have HM := Aside0.mk hm
            clear hs hm hd hwf hll hlen' hbm hcl
            go_wp2_with (first | (go_at_call 39; refine (book_number.old (w1.heap.size + 1) w1.heap.size c m n x y _ HB.out HX.out HM.out).mono ?_; rintro e w2 ⟨rfl, rfl⟩) | (at_builtin; refine print_append_num (w0 := w) w.heap.size rfl (.tmp 31) (.tmp 35) 27 3 .i64 8 rfl Tryd.underlying27 info3 (by decide) _ l y rfl rfl HR.out HL.out HL.out.size HBM.out ?_; intro v1 w3 ho hb hg hat))
            exact ⟨NumRel.step HB.out (by omega) hn0 (by omega) hlt HLL.out ho hb hg HVG.out HVB.out hat HS2.out, by simp [intOf]; omega⟩
          | none =>
            rw [hm] at hs
            obtain ⟨al, hal, hs⟩ := Option.bind_eq_some_iff.1 hs
            have HS2 := Aside0.mk hs
            have HM := Aside0.mk hm
            have HA := Aside0.mk hal
            clear hs hm hal hd hwf hll hlen' hbm
            have hgB : w.heap.size ≤ w1.heap.size := hwz.out
            go_wp2_with (first | (go_at_call 39; refine (book_number.new k al (w1.heap.size + 1) w1.heap.size c m n x _ HB.out HX.out HM.out hn0 (by omega) HCL.out HA.out).mono ?_; rintro e w2 ⟨rfl, hbk, hkp⟩; have HR2' := Aside0.mk (own_move HR.out (w1 := w2) (fun q hq => hkp.block q (own_lt HR.out q hq) (fun e => HVG.out (e ▸ hq)) (fun e => HVB.out (e ▸ hq)))); have HL2 := Aside0.mk (hkp.below HL.out (by omega) hgB HL.out.size); have HB2 := Aside0.mk hbk; clear hbk hkp) | (at_builtin; refine print_append_num (w0 := w) w.heap.size rfl (.tmp 31) (.tmp 35) 27 3 .i64 8 rfl Tryd.underlying27 info3 (by decide) _ l n rfl rfl HR2'.out HL2.out HL2.out.size HBM.out ?_; intro v1 w3 ho hb hg hat))
            exact ⟨NumRel.step HB2.out (by omega) (by omega) (by omega) hlt HLL.out ho hb hg HVG.out HVB.out hat HS2.out, by simp [intOf]; omega⟩
        · obtain rfl : j = l0_0.length := by omega
          have hs := HS.out
          rw [List.drop_length] at hs
          obtain rfl : l = res := Option.some.inj hs
          clear hs
          go_wp2
          go_ret2
          exact ⟨_, rfl, Kd.R_of_own HR.out (fun _ _ => trivial), HL.out⟩
    · rw [if_neg hg] at h'
      cases h'
  · rw [if_neg he] at h
    obtain ⟨rfl, rfl⟩ := Prod.mk.inj (Option.some.inj h)
    have h1 : (e1 != 0) = true := by simpa using he
    clear h he
    go_enter Tryd.func9, Tryd.ntmps9
    go_wp2_with (go_at_call 23; refine (image_Check.calls k A0_0 c0_0 l0_0 a0_1 A0_2 c0_2 l0_2 e1 e2 _ (Kd.C_alloc HR0.out _) hc0_0 (Kd.C_alloc HR2.out _) hc0_2 A0.out).mono ?_; rintro e w1 ⟨rfl, hb1⟩)
    go_ret2
    exact ⟨_, rfl, Kd.R_nil _ _ _ _ _, ((Below.refl w.heap.size w).alloc (Nat.le_refl _) _).trans (hb1.mono (by simp))⟩

end Go.Proofs.YtfgdjpgdabjpmaaDoor.PNumberOf
