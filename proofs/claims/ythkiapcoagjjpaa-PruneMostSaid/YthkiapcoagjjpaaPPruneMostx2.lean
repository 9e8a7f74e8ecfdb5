-- Written for this claim by a program of this session (wip/tools/pp.py, over the kit's print).
import Derived.Test.YthkiapcoagjjpaaPPruneMostx0
import Derived.Test.YthkiapcoagjjpaaPPruneMostx1
namespace Go.Proofs.Ythkiapcoagjjpaa.PPruneMost
open Go.RowKit Go.Proofs.YthkiapcoagjjpaaW.PrintWords Go.Proofs.YthkiapcoagjjpaaW.PrintLast Go.Proofs.YthkiapcoagjjpaaW.PrintMore
attribute [local go_sem] max2_int min2_int max_two min_two max_three min_three max_four min_four   -- for this text's walks alone
set_option linter.unusedVariables false
set_option linter.unusedSimpArgs false

/-! ### prune_Overlaps: function 10, by hand -/
open Go.Shelf Go.Maps
theorem wp_only {P : Program} {c : Code} {Q : Exit → Act → World → Prop} {a : Act} {w : World} (h : c.wp P (fun e a' w' => e = .normal ∧ Q .normal a' w') a w) : c.wp P Q a w :=
  Code.wp_mono (fun e a w q => by obtain ⟨rfl, q⟩ := q; exact q) h
def overL (n : Int) : List S27 → Nat → Nat
  | _, 0 => 0
  | L, j + 1 => overL n L j + ((L.take j).filter (ov n (rd_T27 L (j : Int)))).length
theorem overL_len (n : Int) (L : List S27) : ∀ j, overL n L j ≤ j * j
  | 0 => Nat.le_refl _
  | j + 1 => by
    have := overL_len n L j
    have h2 : ((L.take j).filter (ov n (rd_T27 L (j : Int)))).length ≤ j := Nat.le_trans (List.length_filter_le _ _) (by rw [List.length_take]; omega)
    unfold overL
    have : (j + 1) * (j + 1) = j * j + j + j + 1 := by rw [Nat.add_mul, Nat.mul_add, Nat.one_mul, Nat.mul_one]; omega
    omega
def prune_Overlaps.f (k : Nat) (a0 : Int) (l1 : List S27) : Option Int :=
  (prune_within.f k a0 l1).bind fun b => if b = true then (if l1.length ≤ 16384 then some ((overL a0 l1 l1.length : Nat) : Int) else none) else some 0
theorem prune_Overlaps.mono : ∀ a0 a1 k, LeO (prune_Overlaps.f k a0 a1) (prune_Overlaps.f (k + 1) a0 a1) := fun a0 a1 k =>
  LeO.bind (prune_within.mono _ _ _) (fun _ => LeO.refl _)
def ORel (w : World) (a0 : Int) (A1 : Option Addr) (c1 : Nat) (l1 : List S27) (a' : Act) (wr : World) : Prop :=
  ∃ (j : Nat) (ds : List Deferred) (u6 u7 u16 u17 u18 u19 u20 u21 u22 u23 u24 u25 u26 u27 u28 u29 : Value), a' = { tmps := #[.int .i64 a0, .slice A1 l1.length c1, undef, undef, .int .i64 0, .pointer (some ⟨w.heap.size, 0, none⟩), u6, u7, .int .i64 a0, .slice A1 l1.length c1, .bool true, .bool false, undef, .slice A1 l1.length c1, .int .i64 (l1.length : Int), .int .i64 (j : Int), u16, u17, u18, u19, u20, u21, u22, u23, u24, u25, u26, u27, u28, u29, undef], defers := ds } ∧ j ≤ l1.length ∧ Boxed wr w.heap.size 3 (.int .i64 ((overL a0 l1 j : Nat) : Int)) ∧ Below w.heap.size w wr ∧ Marks w.heap.size ds wr
attribute [local go_sem] Oper.semAt_some in
set_option maxRecDepth 100000 in
set_option maxHeartbeats 8000000 in
theorem prune_Overlaps.calls (k : Nat) (a0 : Int) (A1 : Option Addr) (c1 : Nat) (l1 : List S27) (r : Int) (w : World) (hr1 : Kd.C k27 w A1 l1.length l1) (hc1 : l1.length ≤ c1) (h : prune_Overlaps.f k a0 l1 = some r) :
    Calls Try.prog 10 #[.int .i64 a0, .slice A1 l1.length c1] w fun e w' => e = .returned (.int .i64 r) ∧ Below w.heap.size w w' := by
  obtain ⟨b, h1, h⟩ := Option.bind_eq_some_iff.1 h
  have A0 := Aside0.mk h1
  have HR := Aside0.mk hr1
  have HRA := Aside0.mk (Kd.C_alloc hr1 (.cells #[.int .i64 0] 3))
  have HB0 := Aside0.mk (below_alloc (Below.refl w.heap.size w) (.cells #[.int .i64 0] 3))
  have BX := Aside0.mk (Boxed.new w 3 (.int .i64 0))
  clear hr1 h1
  refine (callsIn_wide (n := 5)).1 (callsIn_of_wp_marks Try.func10 rfl trivial (wpIn_wide.2 ?_) rfl)
  simp only [Try.ntmps10, List.size_toArray, List.length_cons, List.length_nil, Nat.reduceAdd, Nat.reduceSub, Array.replicate_succ, Array.replicate_zero, List.push_toArray, List.append_toArray, List.nil_append, List.cons_append]
  cases b
  · rw [if_neg (by decide)] at h
    obtain rfl := Option.some.inj h
    go_wp2_with (go_at_call 29; refine (prune_within.calls k a0 A1 c1 l1 false _ HRA.out hc1 A0.out).mono ?_; rintro e w1 ⟨rfl, hb1⟩; have hx := hb1.block w.heap.size (by simp); have bx : Boxed w1 w.heap.size 3 (.int .i64 0) := hx.trans BX.out; have hc := bx.cell)
    exact ⟨_, results_tmp rfl _ _ _, rfl, HB0.out.trans (hb1.mono (by simp))⟩
  · rw [if_pos rfl] at h
    by_cases hl : l1.length ≤ 16384
    · rw [if_pos hl] at h
      obtain rfl := Option.some.inj h
      go_wp2_with (go_at_call 29; refine (prune_within.calls k a0 A1 c1 l1 true _ HRA.out hc1 A0.out).mono ?_; rintro e w1 ⟨rfl, hb1⟩; have hx := hb1.block w.heap.size (by simp); have bx : Boxed w1 w.heap.size 3 (.int .i64 0) := hx.trans BX.out)
      have hbw1 := HB0.out.trans (hb1.mono (by simp))
      clear hb1 hx
      refine wp_loop (ORel w a0 A1 c1 l1) (fun a' _ => l1.length - (intOf (a'.tmps.getD 15 undef)).toNat) ⟨0, [], undef, undef, undef, undef, undef, undef, undef, undef, undef, undef, undef, undef, undef, undef, undef, undef, rfl, Nat.zero_le _, bx, hbw1, trivial⟩ ?_
      clear bx hbw1
      rintro _ wr ⟨j, ds, u6, u7, u16, u17, u18, u19, u20, u21, u22, u23, u24, u25, u26, u27, u28, u29, rfl, hj, hX, hB, hM⟩
      have HX := Aside0.mk hX
      have HBB := Aside0.mk hB
      have HMM := Aside0.mk hM
      have HCC := Aside0.mk (Kd.C_below HR.out hB)
      have hbm := hX.lt
      clear hX hB hM
      by_cases hlt : j < l1.length
      · obtain ⟨ad, e, x0, x1, x2⟩ := at_T27 HCC.out (j : Int) (by omega) (by omega)
        cases e
        rw [Int.toNat_natCast] at x0 x1 x2
        have HT : Aside0 (overL a0 l1 (j + 1) = overL a0 l1 j + ((l1.take j).filter (ov a0 (rd_T27 l1 (j : Int)))).length) := ⟨rfl⟩
        generalize rd_T27 l1 (j : Int) = sp at x0 x1 x2 HT
        have hjc : (j : Int) ≤ (c1 : Int) := by omega
        go_wp2
        have bs0 := Aside0.mk (blk_drew (heap_alloc_new wr (.cells #[.int .i64 sp.f0, .int .i8 sp.f1, .int .i8 sp.f2] 27)))
        refine wp_only ?_
        refine start_ (n := 6) (S := fun w' => w'.cell? ⟨wr.heap.size, 0, none⟩ = some (.int .i64 sp.f0) ∧ w'.cell? ⟨wr.heap.size, 1, none⟩ = some (.int .i8 sp.f1) ∧ w'.cell? ⟨wr.heap.size, 2, none⟩ = some (.int .i8 sp.f2)) (ds := []) #[false, false, false, false, false, false] (by kernel_rfl) rfl rfl ⟨(blk_cell bs0.out 0).trans rfl, (blk_cell bs0.out 1).trans rfl, (blk_cell bs0.out 2).trans rfl⟩ (fun hHeld => ?_)
        refine pure_ (i := 0) (N := some 20) (v := ?_) (a' := ?_) #[true, false, false, false, false, false] rfl rfl (by kernel_rfl) (fun _ _ _ h => by cases h.1) (Or.inl ⟨by rfl, ?_⟩) ?_ ?_
        rotate_left
        · intro w'
          go_simp
          with_reducible rfl
        rotate_left
        · simp only [Act.put, List.setIfInBounds_toArray, List.set_cons_zero, List.set_cons_succ, i64_w, i32_w]
          rfl
        refine pure_ (i := 1) (N := some 21) (v := ?_) (a' := ?_) #[true, true, false, false, false, false] rfl rfl (by kernel_rfl) (fun _ _ _ h => by cases h.1) (Or.inl ⟨by rfl, ?_⟩) ?_ ?_
        rotate_left
        · intro w'
          go_simp
          with_reducible rfl
        rotate_left
        · simp only [Act.put, List.setIfInBounds_toArray, List.set_cons_zero, List.set_cons_succ, i64_w, i32_w]
          rfl
        refine pure_ (i := 2) (N := some 22) (v := ?_) (a' := ?_) #[true, true, true, false, false, false] rfl rfl (by kernel_rfl) (fun _ _ _ h => by cases h.1) (Or.inl ⟨by rfl, ?_⟩) ?_ ?_
        rotate_left
        · intro w'
          go_simp
          with_reducible rfl
        rotate_left
        · simp only [Act.put, List.setIfInBounds_toArray, List.set_cons_zero, List.set_cons_succ, i64_w, i32_w]
          rfl
        refine pure_ (i := 3) (N := some 23) (v := ?_) (a' := ?_) #[true, true, true, true, false, false] rfl rfl (by kernel_rfl) (fun _ _ _ h => by cases h.1) (Or.inl ⟨by rfl, ?_⟩) ?_ ?_
        rotate_left
        · intro w'
          go_simp
          with_reducible rfl
        rotate_left
        · simp only [Act.put, List.setIfInBounds_toArray, List.set_cons_zero, List.set_cons_succ, i64_w, i32_w]
          rfl
        refine take_ (i := 4) (N := some 24) (v := ?_) (a' := ?_) #[true, true, true, true, true, false] rfl rfl (by kernel_rfl) (fun _ _ _ h => by cases h.1) (Or.inl ⟨by rfl, ?_⟩) hHeld ?_ ?_
        rotate_left
        · rintro w' ⟨s0, s1, s2⟩
          go_simp
          with_reducible rfl
        rotate_left
        · simp only [Act.put, List.setIfInBounds_toArray, List.set_cons_zero, List.set_cons_succ, i64_w, i32_w]
          rfl
        refine one_ (i := 5) (N := some 25) #[true, true, true, true, true, true] rfl rfl (by kernel_rfl) (by decide) (fun K hK => ?_)
        refine goes_ Try.func30 (by kernel_rfl) rfl #[.int .i64 a0, .slice (some ad) j c1, .agg #[.int .i64 sp.f0, .int .i8 sp.f1, .int .i8 sp.f2]] (by rfl) rfl rfl (by (try simp only [List.map_toArray, List.map_cons, List.map_nil]); first | done | rfl | (simp; done)) ?_
        refine (over_calls a0 (some ad) j c1 sp _).mono ?_
        rintro e w2 ⟨rfl, rfl⟩
        have B0 := Aside0.mk (blk_alloc (blk_alloc (blk_alloc bs0.out (.cells #[.int .i64 a0] 3)) (.cells #[.slice (some ad) j c1 ] 22)) (.cells #[.int .i64 sp.f0, .int .i8 sp.f1, .int .i8 sp.f2] 27))
        have B2 := Aside0.mk (blk_alloc (blk_alloc (heap_alloc_new ((wr.alloc (.cells #[.int .i64 sp.f0, .int .i8 sp.f1, .int .i8 sp.f2] 27)).drew) (.cells #[.int .i64 a0] 3)) (.cells #[.slice (some ad) j c1] 22)) (.cells #[.int .i64 sp.f0, .int .i8 sp.f1, .int .i8 sp.f2] 27))
        have B3 := Aside0.mk (blk_alloc (heap_alloc_new (((wr.alloc (.cells #[.int .i64 sp.f0, .int .i8 sp.f1, .int .i8 sp.f2] 27)).drew).alloc (.cells #[.int .i64 a0] 3)) (.cells #[.slice (some ad) j c1] 22)) (.cells #[.int .i64 sp.f0, .int .i8 sp.f1, .int .i8 sp.f2] 27))
        have B4 := Aside0.mk (heap_alloc_new ((((wr.alloc (.cells #[.int .i64 sp.f0, .int .i8 sp.f1, .int .i8 sp.f2] 27)).drew).alloc (.cells #[.int .i64 a0] 3)).alloc (.cells #[.slice (some ad) j c1] 22)) (.cells #[.int .i64 sp.f0, .int .i8 sp.f1, .int .i8 sp.f2] 27))
        have HBL := Aside0.mk (below_alloc (below_alloc (below_alloc (below_drew (below_alloc (Below.refl wr.heap.size wr) (.cells #[.int .i64 sp.f0, .int .i8 sp.f1, .int .i8 sp.f2] 27))) (.cells #[.int .i64 a0] 3)) (.cells #[.slice (some ad) j c1] 22)) (.cells #[.int .i64 sp.f0, .int .i8 sp.f1, .int .i8 sp.f2] 27))
        have HSd : ((wr.alloc (.cells #[.int .i64 sp.f0, .int .i8 sp.f1, .int .i8 sp.f2] 27)).drew).heap.size = wr.heap.size + 1 := by simp
        have HS : (((((wr.alloc (.cells #[.int .i64 sp.f0, .int .i8 sp.f1, .int .i8 sp.f2] 27)).drew).alloc (.cells #[.int .i64 a0] 3)).alloc (.cells #[.slice (some ad) j c1] 22)).alloc (.cells #[.int .i64 sp.f0, .int .i8 sp.f1, .int .i8 sp.f2] 27)).heap.size = wr.heap.size + 1 + 1 + 1 + 1 := by simp only [World.size_alloc, HSd]
        simp only [World.size_alloc, HSd] at B2 B3 B4
        rw [HSd]
        have hX0 : Boxed (((((wr.alloc (.cells #[.int .i64 sp.f0, .int .i8 sp.f1, .int .i8 sp.f2] 27)).drew).alloc (.cells #[.int .i64 a0] 3)).alloc (.cells #[.slice (some ad) j c1] 22)).alloc (.cells #[.int .i64 sp.f0, .int .i8 sp.f1, .int .i8 sp.f2] 27)) w.heap.size 3 (.int .i64 ((overL a0 l1 j : Nat) : Int)) := (HBL.out.block _ HX.out.lt).trans HX.out
        generalize (((((wr.alloc (.cells #[.int .i64 sp.f0, .int .i8 sp.f1, .int .i8 sp.f2] 27)).drew).alloc (.cells #[.int .i64 a0] 3)).alloc (.cells #[.slice (some ad) j c1] 22)).alloc (.cells #[.int .i64 sp.f0, .int .i8 sp.f1, .int .i8 sp.f2] 27)) = wl at B0 B2 B3 B4 HBL HS hX0 ⊢
        refine ⟨_, rfl, hK.out _ _ ⟨(blk_cell B0.out 0).trans rfl, (blk_cell B0.out 1).trans rfl, (blk_cell B0.out 2).trans rfl⟩ (fun hHeld2 => ?_)⟩
        clear hK K
        refine norm_ (a' := ?_) ?_ ?_
        rotate_left
        · show Act.put _ (some 25) _ = _
          simp only [Act.put, List.setIfInBounds_toArray, List.set_cons_zero, List.set_cons_succ, i64_w, i32_w]
          rfl
        refine done_ (by kernel_rfl) ⟨rfl, ?_⟩
        go_wp2
        have hj2 : j ≤ 16384 := by omega
        have hov : overL a0 l1 j ≤ 268435456 := Nat.le_trans (overL_len a0 l1 j) (Nat.mul_le_mul hj2 hj2)
        have HJ : (l1.take j).length = j := by rw [List.length_take]; omega
        have hb0 : w.heap.size < wr.heap.size := HX.out.lt
        have HBWL := Aside0.mk (HBB.out.trans (HBL.out.mono (by omega)))
        have hK0 : Kp3 w.heap.size wl.heap.size w.heap.size wl wl := ⟨Below.refl _ _, fun _ _ _ => rfl⟩
        refine (wpIn_wide (n := 5)).1 (wpIn_rangeFunc_ownG (F := Fence.wide) (n := 5) rfl (by omega) (gf := 47) (lb := #[.pointer (some ⟨wr.heap.size + 1 + 1, 0, none⟩), .pointer (some ⟨wr.heap.size + 1 + 1 + 1, 0, none⟩), .pointer (some ⟨wr.heap.size + 1, 0, none⟩)]) rfl trivial (enters_of Try.func47 (by kernel_rfl) rfl)
          (over1_stops 4 (by omega) w.heap.size wl.heap.size w.heap.size (wr.heap.size + 1 + 1) (wr.heap.size + 1 + 1 + 1) (wr.heap.size + 1) (by omega) (by omega) (by omega) (by omega) a0 sp (some ad) c1 (l1.take j) w wl rfl rfl (Kd.C_take HR.out hj) (by omega) HBWL.out (by rw [HJ]; exact (blk_cell B3.out 0).trans rfl) ((blk_cell B4.out 0).trans rfl) ((blk_cell B2.out 0).trans rfl))
          (fun h k => h.trans k) (fun W l o o' hl hw hc hk => Kp3.of_below (belowK_b (w := wl) (Nat.le_refl _) W l o o' hl hw hc hk) (by omega)) (Below.refl _ _) (fun _ => rfl)
          (fun pre W => Kp3 w.heap.size wl.heap.size w.heap.size wl W ∧ Boxed W w.heap.size 3 (.int .i64 ((overL a0 l1 j + pre.length : Nat) : Int)))
          (fun _ _ _ => False)
          (fun s A B row hs hg hr => ⟨hs.1.grown hg (fun r e => (hr r e).1) (by omega) hs.1.1.size, hs.2.kept hg (fun e => by have := (hr _ e.symm).1; omega)⟩)
          (fun _ _ _ _ _ hs _ _ => hs)
          ⟨hK0, hX0⟩
          (fun x => { tmps := #[.int .i64 a0, .slice (some ad) l1.length c1, undef, undef, .int .i64 0, .pointer (some ⟨w.heap.size, 0, none⟩), .int .i64 (j : Int), .pointer (some ⟨wr.heap.size, 0, none⟩), .int .i64 a0, .slice (some ad) l1.length c1, .bool true, .bool false, undef, .slice (some ad) l1.length c1, .int .i64 (l1.length : Int), .int .i64 (j : Int), .bool true, .int .i64 (j : Int), .pointer (some (ad.add (j * 3))), .agg #[.int .i64 sp.f0, .int .i8 sp.f1, .int .i8 sp.f2], .int .i64 a0, .slice (some ad) l1.length c1, .int .i64 (j : Int), .slice (some ad) j c1, .agg #[.int .i64 sp.f0, .int .i8 sp.f1, .int .i8 sp.f2], .func (.func 47) #[] #[.pointer (some ⟨wr.heap.size + 1 + 1, 0, none⟩), .pointer (some ⟨wr.heap.size + 1 + 1 + 1, 0, none⟩), .pointer (some ⟨wr.heap.size + 1, 0, none⟩)], .agg #[.int .i64 x.f0, .int .i8 x.f1, .int .i8 x.f2], u27, u28, u29, undef], defers := [] }) ?assign ?body ?done ?stop)
        case assign =>
          intro l x W K hK
          gi_wp2
          simpa using hK
        case body =>
          rintro l pre x W ⟨hK, hb⟩ hlt2
          rw [HJ] at hlt2
          have hc := hb.cell
          have hf := hb.frozen
          have hm : overL a0 l1 j + pre.length < 1000000000 := by omega
          have hl : overL a0 l1 j + (pre ++ [x]).length = overL a0 l1 j + pre.length + 1 := by simp; omega
          have Hb := Aside0.mk hb
          have HK := Aside0.mk hK
          have HL := Aside0.mk hl
          clear hb hK hl hov hlt2
          generalize overL a0 l1 j + pre.length = m at hc hm Hb HL
          have hm1 : -9223372036854775808 ≤ (m : Int) + 1 ∧ (m : Int) + 1 ≤ 9223372036854775807 := by omega
          gi_wp2
          refine ⟨(KeepsOthers.setCell _ _ _).from _, ⟨(Below.refl _ _).setCell (p := ⟨w.heap.size, 0, none⟩) (Nat.le_refl _) _, fun k hk hne => Below.heap_setCell _ _ _ k (fun e => hne e)⟩, ⟨HK.out.1.setCell (p := ⟨w.heap.size, 0, none⟩) (Nat.le_refl _) _, fun k hk hne => (Below.heap_setCell _ _ _ k (fun e => hne e)).trans (HK.out.2 k hk hne)⟩, ?_⟩
          show Boxed _ _ _ (.int .i64 ((overL a0 l1 j + (pre ++ [x]).length : Nat) : Int))
          rw [HL.out]
          exact Hb.out.set _
        case done =>
          rintro D ys W hD hys ⟨hK, hb⟩ hDk
          have hsz : wl.heap.size ≤ W.heap.size := hK.1.size
          have HBF := Aside0.mk (HBWL.out.trans hK.1)
          have hn : ¬ IsMark ds D := fun e => by have := (Array.getElem?_eq_some_iff.1 (HMM.out.at_ e).2).1; omega
          have HM2 : Aside0 (Marks w.heap.size (⟨.collected D, #[]⟩ :: ds) W) := ⟨D, rfl, by omega, hDk, hn, HMM.out.keep fun k hk => by
            have hk1 := (HMM.out.at_ hk).2
            have hk2 := (Array.getElem?_eq_some_iff.1 hk1).1
            have hne : k ≠ w.heap.size := fun e => by
              have h1 : wr.heap[w.heap.size]? = some (.cells #[.int .i64 ((overL a0 l1 j : Nat) : Int)] 3 (0, 0)) := HX.out
              rw [e, h1] at hk1
              cases hk1
            exact (hK.2 k (by omega) hne).trans (HBL.out.block k hk2)⟩
          have HX2 : Aside0 (Boxed W w.heap.size 3 (.int .i64 ((overL a0 l1 (j + 1) : Nat) : Int))) := ⟨by rw [HT.out, ← hys]; exact hb⟩
          clear hb hK hov
          go_wp2
          exact ⟨⟨j + 1, ⟨.collected D, #[]⟩ :: ds, _, _, _, _, _, _, _, _, _, _, _, _, _, _, _, _, (by first | rfl | (simp; done)), by omega, HX2.out, HBF.out, HM2.out⟩, by simp [intOf]; omega⟩
        case stop =>
          rintro D c pre W _ _ h _
          exact h.elim
      · obtain rfl : j = l1.length := by omega
        have hc := HX.out.cell
        go_wp2
        refine leaves_marks ds wr HMM.out HBB.out.size fun w' hb' hk' => ?_
        exact ⟨_, results_tmp rfl _ _ _, rfl, HBB.out.trans hb'⟩
    · rw [if_neg hl] at h
      cases h

/-! ### pleatlaw20_works: function 8 -/
def pleatlaw20_works.f (k : Nat)  : Option (Bool) := (some (([(⟨0, 0, 0⟩ : S27), (⟨1, 0, 0⟩ : S27), (⟨2, 0, 0⟩ : S27), (⟨3, 0, 0⟩ : S27), (⟨4, 0, 0⟩ : S27)] : List (S27)) : List (S27))).bind fun y103 => ((prune_Apart.f k 2 y103).bind fun t106 => (if (t106.length : Int) = 3 then (if 1 < (t106.length : Int) then (if ((rd_T27 t106 1).f0) = 2 then ((prune_Overlaps.f k 2 y103).bind fun t110 => (some (t110 == 4))) else (some false)) else (none)) else (some false)))
theorem pleatlaw20_works.mono : ∀ k, LeO (pleatlaw20_works.f k ) (pleatlaw20_works.f (k + 1) ) := by
  intro  k
  unfold pleatlaw20_works.f
  repeat' first
      | (with_reducible exact prune_Apart.mono _ _ _)
      | (with_reducible exact prune_Overlaps.mono _ _ _)
      | (with_reducible exact LeO.refl _)
      | (with_reducible exact LeO.none _)
      | (with_reducible refine LeO.ite ?_ ?_)
      | (with_reducible refine LeO.bind ?_ (fun _ => ?_))
      | exact prune_Apart.mono _ _ _
      | exact prune_Overlaps.mono _ _ _
      | exact LeO.none _
      | refine LeO.ite ?_ ?_
      | refine LeO.bind ?_ (fun _ => ?_)
set_option maxHeartbeats 8000000 in
set_option maxRecDepth 100000 in
theorem pleatlaw20_works.calls (k : Nat)  (r : Bool) (w : World) (h : pleatlaw20_works.f k  = some r) :
    Calls Try.prog 8 #[] w fun e w' => e = .returned (.bool r) ∧ Below w.heap.size w w' := by
  have hu27 := Try.underlying27
  have HB := Aside0.mk (Below.refl w.heap.size w)
  have H : ((some (([(⟨0, 0, 0⟩ : S27), (⟨1, 0, 0⟩ : S27), (⟨2, 0, 0⟩ : S27), (⟨3, 0, 0⟩ : S27), (⟨4, 0, 0⟩ : S27)] : List (S27)) : List (S27))).bind fun y103 => ((prune_Apart.f k 2 y103).bind fun t106 => (if (t106.length : Int) = 3 then (if 1 < (t106.length : Int) then (if ((rd_T27 t106 1).f0) = 2 then ((prune_Overlaps.f k 2 y103).bind fun t110 => (some (t110 == 4))) else (some false)) else (none)) else (some false)))) = some r := h
  clear h
  obtain ⟨y103, hy103⟩ : ∃ y_ : List (S27), y_ = (([(⟨0, 0, 0⟩ : S27), (⟨1, 0, 0⟩ : S27), (⟨2, 0, 0⟩ : S27), (⟨3, 0, 0⟩ : S27), (⟨4, 0, 0⟩ : S27)] : List (S27))) := ⟨_, rfl⟩
  replace H : ((prune_Apart.f k 2 y103).bind fun t106 => (if (t106.length : Int) = 3 then (if 1 < (t106.length : Int) then (if ((rd_T27 t106 1).f0) = 2 then ((prune_Overlaps.f k 2 y103).bind fun t110 => (some (t110 == 4))) else (some false)) else (none)) else (some false))) = some r := by first | (rw [hy103]; with_reducible exact H) | (have H2_ := (Option.bind_some _ _).symm.trans H; rw [hy103]; with_reducible exact H2_) | (have H2_ := (Option.bind_some _ _).symm.trans H; with_reducible exact H2_) | with_reducible exact H | (rw [hy103]; exact H) | exact H
  have Ny103 := Aside0.mk hy103
  clear hy103
  replace H := Option.bind_eq_some_iff.mp H
  obtain ⟨t106, A10, H⟩ := H
  replace H : (if (t106.length : Int) = 3 then (if 1 < (t106.length : Int) then (if ((rd_T27 t106 1).f0) = 2 then ((prune_Overlaps.f k 2 y103).bind fun t110 => (some (t110 == 4))) else (some false)) else (none)) else (some false)) = some r := H
  have A1 := Aside0.mk A10
  clear A10
  by_cases c2 : (t106.length : Int) = 3
  · rw [if_pos c2] at H
    have c2b0 : ((t106.length : Int) == 3) = true := beq_iff_eq.mpr c2
    have c2b1 : ((t106.length : Int) != 3) = false := bne_eq_false_iff_eq.mpr c2
    clear c2
    by_cases c3 : 1 < (t106.length : Int)
    · rw [if_pos c3] at H
      have c3b0 : decide (1 < (t106.length : Int)) = true := decide_eq_true c3
      have c3b1 : decide (1 < t106.length) = true := decide_eq_true (by omega)
      clear c3
      by_cases c4 : ((rd_T27 t106 1).f0) = 2
      · rw [if_pos c4] at H
        have c4b0 : (((rd_T27 t106 1).f0) == 2) = true := beq_iff_eq.mpr c4
        have c4b1 : (((rd_T27 t106 1).f0) != 2) = false := bne_eq_false_iff_eq.mpr c4
        clear c4
        replace H := Option.bind_eq_some_iff.mp H
        obtain ⟨t110, A50, H⟩ := H
        replace H : (some (t110 == 4)) = some r := H
        have A5 := Aside0.mk A50
        clear A50
        obtain rfl := Option.some.inj H
        go_enter Try.func8, Try.ntmps8
        go_wp2_with (first | ((with_reducible refine gate_dst (N := 8) rfl ?_); refine Kd.R_lit k27 _ 27 ?hg (N := 8) ?hd (xs := ([(⟨0, 0, 0⟩ : S27), (⟨1, 0, 0⟩ : S27), (⟨2, 0, 0⟩ : S27), (⟨3, 0, 0⟩ : S27), (⟨4, 0, 0⟩ : S27)] : List (S27))) (inner := [.int .i64 0, .int .i8 0, .int .i8 0, .int .i64 1, .int .i8 0, .int .i8 0, .int .i64 2, .int .i8 0, .int .i8 0, .int .i64 3, .int .i8 0, .int .i8 0, .int .i64 4, .int .i8 0, .int .i8 0]) (ok := fun _ => True) (okp := fun _ => True) ?hr ?hp (fun _ hk => hk) trivial (Below.refl _ _) (Nat.le_refl _) (by simp) ?_; (case hd => rfl); (case hg => rfl); (case hr => first | (go_simp; done) | (go_simp; rfl)); (case hp => exact (Reps.c3 (show Kd.M k27 _ _ _ (⟨0, 0, 0⟩ : S27) [.int .i64 0, .int .i8 0, .int .i8 0] from (k27_mkM _ _ _ (⟨0, 0, 0⟩ : S27) )) (Reps.c3 (show Kd.M k27 _ _ _ (⟨1, 0, 0⟩ : S27) [.int .i64 1, .int .i8 0, .int .i8 0] from (k27_mkM _ _ _ (⟨1, 0, 0⟩ : S27) )) (Reps.c3 (show Kd.M k27 _ _ _ (⟨2, 0, 0⟩ : S27) [.int .i64 2, .int .i8 0, .int .i8 0] from (k27_mkM _ _ _ (⟨2, 0, 0⟩ : S27) )) (Reps.c3 (show Kd.M k27 _ _ _ (⟨3, 0, 0⟩ : S27) [.int .i64 3, .int .i8 0, .int .i8 0] from (k27_mkM _ _ _ (⟨3, 0, 0⟩ : S27) )) (Reps.c3 (show Kd.M k27 _ _ _ (⟨4, 0, 0⟩ : S27) [.int .i64 4, .int .i8 0, .int .i8 0] from (k27_mkM _ _ _ (⟨4, 0, 0⟩ : S27) )) (Reps.none _ _))))))); intro v104 w6 ho7 hb hg_ hnew_; clear hg_ hnew_; (first | rw [← Ny103.out] at ho7 | (simp only [Int.reduceToNat] at ho7; rw [← Ny103.out] at ho7)); have n0_ := Aside0.mk (Kd.R_lower ho7 (below_size (by repeat (first | (with_reducible first | exact HB.out | apply below_alloc | apply pw_below_drewN | apply below_drew1) | exact HB.out)))); have n1_ := Aside0.mk (below_step (by repeat (first | (with_reducible first | exact HB.out | apply below_alloc | apply pw_below_drewN | apply below_drew1) | exact HB.out)) hb); clear HB; have HO105 := n0_; have HB := n1_; clear n0_ n1_; clear hb ho7; obtain ⟨Ao8, co8, eo8⟩ := Kd.R_slice HO105.out; subst eo8) | ((with_reducible refine gate_callee (f := 9) rfl ?_); refine goesL_ (some 10) rfl rfl Try.func9 (by kernel_rfl) rfl #[.int .i64 2, .slice Ao8 y103.length co8] rfl (by (try simp only [List.map_toArray, List.map_cons, List.map_nil]); first | done | rfl | (simp only [List.length_drop, List.length_take]; rfl)) ?_; (with_reducible refine (prune_Apart.calls k 2 _ _ y103 t106 _ ?side1 ?side2 A1.out).mono ?_); (case side1 => repeat (first | exact (Kd.R_reads' HO105.out).2.2 | (with_reducible refine Kd.C_alloc ?_ _) | (with_reducible refine Kd.C_drewN ?_ _) | (with_reducible refine Kd.C_drew ?_))); (case side2 => exact (Kd.R_reads' HO105.out).2.1); rintro e w9 ⟨v107, rfl, ho0, hb⟩; refine ⟨_, rfl, ?_⟩; have n0_ := Aside0.mk (Kd.R_elder' (by (with_reducible repeat (first | apply Kd.R_alloc | apply Kd.R_drewN | apply Kd.R_drew)); exact HO105.out) (Kd.R_base ho0) hb); have n1_ := Aside0.mk (Kd.R_lower (Kd.R_new' ho0 (Kd.R_lt (by (with_reducible repeat (first | apply Kd.R_alloc | apply Kd.R_drewN | apply Kd.R_drew)); exact HO105.out))) (below_size (by repeat (first | (with_reducible first | exact HB.out | apply below_alloc | apply pw_below_drewN | apply below_drew1) | exact HB.out)))); have n2_ := Aside0.mk (below_step (by repeat (first | (with_reducible first | exact HB.out | apply below_alloc | apply pw_below_drewN | apply below_drew1) | exact HB.out)) hb); clear HO105; clear HB; have HO105 := n0_; have HO108 := n1_; have HB := n2_; clear n0_ n1_ n2_; (try clear hb); (try clear hb2); (try clear hk); (try clear hi); (try clear ho0); obtain ⟨Ao10, co10, eo10⟩ := Kd.R_slice HO108.out; subst eo10; have p109 : 0 ≤ (1 : Int) := (by omega); have q109 : 1 < (t106.length : Int) := of_decide_eq_true (by first | (with_reducible assumption) | assumption); obtain ⟨ad109, e109, hx109_0, hx109_1, hx109_2⟩ := at_T27 (Kd.R_reads' HO108.out).2.2 1 p109 q109; cases e109; (try simp only [show (1 : Int).toNat = 1 from rfl, Nat.reduceMul, Nat.reduceEqDiff, Go.Addr.add, ↓reduceIte] at hx109_0); (try simp only [show (1 : Int).toNat = 1 from rfl, Nat.reduceMul, Nat.reduceEqDiff, Go.Addr.add, ↓reduceIte] at hx109_1); (try simp only [show (1 : Int).toNat = 1 from rfl, Nat.reduceMul, Nat.reduceEqDiff, Go.Addr.add, ↓reduceIte] at hx109_2); have qi109 : (1 < t106.length) = True := eq_true (by omega); (try rw [show ((1 : Int)).toNat = 1 from rfl] at hx109_0); (try rw [show 1 * 3 = 3 from rfl] at hx109_0); (try rw [show ((1 : Int)).toNat = 1 from rfl] at hx109_1); (try rw [show 1 * 3 = 3 from rfl] at hx109_1); (try rw [show ((1 : Int)).toNat = 1 from rfl] at hx109_2); (try rw [show 1 * 3 = 3 from rfl] at hx109_2); replace p109 := eq_true p109; replace q109 := eq_true q109) | (go_at_call 10; (with_reducible refine (prune_Overlaps.calls k 2 _ _ y103 t110 _ ?side1 ?side2 A5.out).mono ?_); (case side1 => repeat (first | exact (Kd.R_reads' HO105.out).2.2 | (with_reducible refine Kd.C_alloc ?_ _) | (with_reducible refine Kd.C_drewN ?_ _) | (with_reducible refine Kd.C_drew ?_))); (case side2 => exact (Kd.R_reads' HO105.out).2.1); rintro e w11 ⟨rfl, hb⟩; have n0_ := Aside0.mk (Kd.R_below (by (with_reducible repeat (first | apply Kd.R_alloc | apply Kd.R_drewN | apply Kd.R_drew)); exact HO105.out) hb); have n1_ := Aside0.mk (Kd.R_below (by (with_reducible repeat (first | apply Kd.R_alloc | apply Kd.R_drewN | apply Kd.R_drew)); exact HO108.out) hb); have n2_ := Aside0.mk (below_step (by repeat (first | (with_reducible first | exact HB.out | apply below_alloc | apply pw_below_drewN | apply below_drew1) | exact HB.out)) hb); clear HO105; clear HO108; clear HB; have HO105 := n0_; have HO108 := n1_; have HB := n2_; clear n0_ n1_ n2_; (try clear hb); (try clear hb2); (try clear hk); (try clear hi)))
        go_ret
        exact ⟨by first | rfl | (simp [errW_none, errW_some] <;> rfl) | (simp [*, errW_none, errW_some] <;> rfl), by repeat (first | (with_reducible first | exact HB.out | apply below_alloc | apply pw_below_drewN | apply below_drew1) | exact HB.out)⟩
      · rw [if_neg c4] at H
        have c4b0 : (((rd_T27 t106 1).f0) == 2) = false := beq_eq_false_iff_ne.mpr c4
        have c4b1 : (((rd_T27 t106 1).f0) != 2) = true := bne_iff_ne.mpr c4
        obtain rfl := Option.some.inj H
        go_enter Try.func8, Try.ntmps8
        go_wp2_with (first | ((with_reducible refine gate_dst (N := 8) rfl ?_); refine Kd.R_lit k27 _ 27 ?hg (N := 8) ?hd (xs := ([(⟨0, 0, 0⟩ : S27), (⟨1, 0, 0⟩ : S27), (⟨2, 0, 0⟩ : S27), (⟨3, 0, 0⟩ : S27), (⟨4, 0, 0⟩ : S27)] : List (S27))) (inner := [.int .i64 0, .int .i8 0, .int .i8 0, .int .i64 1, .int .i8 0, .int .i8 0, .int .i64 2, .int .i8 0, .int .i8 0, .int .i64 3, .int .i8 0, .int .i8 0, .int .i64 4, .int .i8 0, .int .i8 0]) (ok := fun _ => True) (okp := fun _ => True) ?hr ?hp (fun _ hk => hk) trivial (Below.refl _ _) (Nat.le_refl _) (by simp) ?_; (case hd => rfl); (case hg => rfl); (case hr => first | (go_simp; done) | (go_simp; rfl)); (case hp => exact (Reps.c3 (show Kd.M k27 _ _ _ (⟨0, 0, 0⟩ : S27) [.int .i64 0, .int .i8 0, .int .i8 0] from (k27_mkM _ _ _ (⟨0, 0, 0⟩ : S27) )) (Reps.c3 (show Kd.M k27 _ _ _ (⟨1, 0, 0⟩ : S27) [.int .i64 1, .int .i8 0, .int .i8 0] from (k27_mkM _ _ _ (⟨1, 0, 0⟩ : S27) )) (Reps.c3 (show Kd.M k27 _ _ _ (⟨2, 0, 0⟩ : S27) [.int .i64 2, .int .i8 0, .int .i8 0] from (k27_mkM _ _ _ (⟨2, 0, 0⟩ : S27) )) (Reps.c3 (show Kd.M k27 _ _ _ (⟨3, 0, 0⟩ : S27) [.int .i64 3, .int .i8 0, .int .i8 0] from (k27_mkM _ _ _ (⟨3, 0, 0⟩ : S27) )) (Reps.c3 (show Kd.M k27 _ _ _ (⟨4, 0, 0⟩ : S27) [.int .i64 4, .int .i8 0, .int .i8 0] from (k27_mkM _ _ _ (⟨4, 0, 0⟩ : S27) )) (Reps.none _ _))))))); intro v104 w12 ho13 hb hg_ hnew_; clear hg_ hnew_; (first | rw [← Ny103.out] at ho13 | (simp only [Int.reduceToNat] at ho13; rw [← Ny103.out] at ho13)); have n0_ := Aside0.mk (Kd.R_lower ho13 (below_size (by repeat (first | (with_reducible first | exact HB.out | apply below_alloc | apply pw_below_drewN | apply below_drew1) | exact HB.out)))); have n1_ := Aside0.mk (below_step (by repeat (first | (with_reducible first | exact HB.out | apply below_alloc | apply pw_below_drewN | apply below_drew1) | exact HB.out)) hb); clear HB; have HO105 := n0_; have HB := n1_; clear n0_ n1_; clear hb ho13; obtain ⟨Ao14, co14, eo14⟩ := Kd.R_slice HO105.out; subst eo14) | ((with_reducible refine gate_callee (f := 9) rfl ?_); refine goesL_ (some 10) rfl rfl Try.func9 (by kernel_rfl) rfl #[.int .i64 2, .slice Ao14 y103.length co14] rfl (by (try simp only [List.map_toArray, List.map_cons, List.map_nil]); first | done | rfl | (simp only [List.length_drop, List.length_take]; rfl)) ?_; (with_reducible refine (prune_Apart.calls k 2 _ _ y103 t106 _ ?side1 ?side2 A1.out).mono ?_); (case side1 => repeat (first | exact (Kd.R_reads' HO105.out).2.2 | (with_reducible refine Kd.C_alloc ?_ _) | (with_reducible refine Kd.C_drewN ?_ _) | (with_reducible refine Kd.C_drew ?_))); (case side2 => exact (Kd.R_reads' HO105.out).2.1); rintro e w15 ⟨v107, rfl, ho0, hb⟩; refine ⟨_, rfl, ?_⟩; have n0_ := Aside0.mk (Kd.R_elder' (by (with_reducible repeat (first | apply Kd.R_alloc | apply Kd.R_drewN | apply Kd.R_drew)); exact HO105.out) (Kd.R_base ho0) hb); have n1_ := Aside0.mk (Kd.R_lower (Kd.R_new' ho0 (Kd.R_lt (by (with_reducible repeat (first | apply Kd.R_alloc | apply Kd.R_drewN | apply Kd.R_drew)); exact HO105.out))) (below_size (by repeat (first | (with_reducible first | exact HB.out | apply below_alloc | apply pw_below_drewN | apply below_drew1) | exact HB.out)))); have n2_ := Aside0.mk (below_step (by repeat (first | (with_reducible first | exact HB.out | apply below_alloc | apply pw_below_drewN | apply below_drew1) | exact HB.out)) hb); clear HO105; clear HB; have HO105 := n0_; have HO108 := n1_; have HB := n2_; clear n0_ n1_ n2_; (try clear hb); (try clear hb2); (try clear hk); (try clear hi); (try clear ho0); obtain ⟨Ao16, co16, eo16⟩ := Kd.R_slice HO108.out; subst eo16; have p109 : 0 ≤ (1 : Int) := (by omega); have q109 : 1 < (t106.length : Int) := of_decide_eq_true (by first | (with_reducible assumption) | assumption); obtain ⟨ad109, e109, hx109_0, hx109_1, hx109_2⟩ := at_T27 (Kd.R_reads' HO108.out).2.2 1 p109 q109; cases e109; (try simp only [show (1 : Int).toNat = 1 from rfl, Nat.reduceMul, Nat.reduceEqDiff, Go.Addr.add, ↓reduceIte] at hx109_0); (try simp only [show (1 : Int).toNat = 1 from rfl, Nat.reduceMul, Nat.reduceEqDiff, Go.Addr.add, ↓reduceIte] at hx109_1); (try simp only [show (1 : Int).toNat = 1 from rfl, Nat.reduceMul, Nat.reduceEqDiff, Go.Addr.add, ↓reduceIte] at hx109_2); have qi109 : (1 < t106.length) = True := eq_true (by omega); (try rw [show ((1 : Int)).toNat = 1 from rfl] at hx109_0); (try rw [show 1 * 3 = 3 from rfl] at hx109_0); (try rw [show ((1 : Int)).toNat = 1 from rfl] at hx109_1); (try rw [show 1 * 3 = 3 from rfl] at hx109_1); (try rw [show ((1 : Int)).toNat = 1 from rfl] at hx109_2); (try rw [show 1 * 3 = 3 from rfl] at hx109_2); replace p109 := eq_true p109; replace q109 := eq_true q109))
        go_ret
        exact ⟨by first | rfl | (simp [errW_none, errW_some] <;> rfl) | (simp [*, errW_none, errW_some] <;> rfl), by repeat (first | (with_reducible first | exact HB.out | apply below_alloc | apply pw_below_drewN | apply below_drew1) | exact HB.out)⟩
    · rw [if_neg c3] at H
      exact absurd H (by simp)
  · rw [if_neg c2] at H
    have c2b0 : ((t106.length : Int) == 3) = false := beq_eq_false_iff_ne.mpr c2
    have c2b1 : ((t106.length : Int) != 3) = true := bne_iff_ne.mpr c2
    obtain rfl := Option.some.inj H
    go_enter Try.func8, Try.ntmps8
    go_wp2_with (first | ((with_reducible refine gate_dst (N := 8) rfl ?_); refine Kd.R_lit k27 _ 27 ?hg (N := 8) ?hd (xs := ([(⟨0, 0, 0⟩ : S27), (⟨1, 0, 0⟩ : S27), (⟨2, 0, 0⟩ : S27), (⟨3, 0, 0⟩ : S27), (⟨4, 0, 0⟩ : S27)] : List (S27))) (inner := [.int .i64 0, .int .i8 0, .int .i8 0, .int .i64 1, .int .i8 0, .int .i8 0, .int .i64 2, .int .i8 0, .int .i8 0, .int .i64 3, .int .i8 0, .int .i8 0, .int .i64 4, .int .i8 0, .int .i8 0]) (ok := fun _ => True) (okp := fun _ => True) ?hr ?hp (fun _ hk => hk) trivial (Below.refl _ _) (Nat.le_refl _) (by simp) ?_; (case hd => rfl); (case hg => rfl); (case hr => first | (go_simp; done) | (go_simp; rfl)); (case hp => exact (Reps.c3 (show Kd.M k27 _ _ _ (⟨0, 0, 0⟩ : S27) [.int .i64 0, .int .i8 0, .int .i8 0] from (k27_mkM _ _ _ (⟨0, 0, 0⟩ : S27) )) (Reps.c3 (show Kd.M k27 _ _ _ (⟨1, 0, 0⟩ : S27) [.int .i64 1, .int .i8 0, .int .i8 0] from (k27_mkM _ _ _ (⟨1, 0, 0⟩ : S27) )) (Reps.c3 (show Kd.M k27 _ _ _ (⟨2, 0, 0⟩ : S27) [.int .i64 2, .int .i8 0, .int .i8 0] from (k27_mkM _ _ _ (⟨2, 0, 0⟩ : S27) )) (Reps.c3 (show Kd.M k27 _ _ _ (⟨3, 0, 0⟩ : S27) [.int .i64 3, .int .i8 0, .int .i8 0] from (k27_mkM _ _ _ (⟨3, 0, 0⟩ : S27) )) (Reps.c3 (show Kd.M k27 _ _ _ (⟨4, 0, 0⟩ : S27) [.int .i64 4, .int .i8 0, .int .i8 0] from (k27_mkM _ _ _ (⟨4, 0, 0⟩ : S27) )) (Reps.none _ _))))))); intro v104 w17 ho18 hb hg_ hnew_; clear hg_ hnew_; (first | rw [← Ny103.out] at ho18 | (simp only [Int.reduceToNat] at ho18; rw [← Ny103.out] at ho18)); have n0_ := Aside0.mk (Kd.R_lower ho18 (below_size (by repeat (first | (with_reducible first | exact HB.out | apply below_alloc | apply pw_below_drewN | apply below_drew1) | exact HB.out)))); have n1_ := Aside0.mk (below_step (by repeat (first | (with_reducible first | exact HB.out | apply below_alloc | apply pw_below_drewN | apply below_drew1) | exact HB.out)) hb); clear HB; have HO105 := n0_; have HB := n1_; clear n0_ n1_; clear hb ho18; obtain ⟨Ao19, co19, eo19⟩ := Kd.R_slice HO105.out; subst eo19) | ((with_reducible refine gate_callee (f := 9) rfl ?_); refine goesL_ (some 10) rfl rfl Try.func9 (by kernel_rfl) rfl #[.int .i64 2, .slice Ao19 y103.length co19] rfl (by (try simp only [List.map_toArray, List.map_cons, List.map_nil]); first | done | rfl | (simp only [List.length_drop, List.length_take]; rfl)) ?_; (with_reducible refine (prune_Apart.calls k 2 _ _ y103 t106 _ ?side1 ?side2 A1.out).mono ?_); (case side1 => repeat (first | exact (Kd.R_reads' HO105.out).2.2 | (with_reducible refine Kd.C_alloc ?_ _) | (with_reducible refine Kd.C_drewN ?_ _) | (with_reducible refine Kd.C_drew ?_))); (case side2 => exact (Kd.R_reads' HO105.out).2.1); rintro e w20 ⟨v107, rfl, ho0, hb⟩; refine ⟨_, rfl, ?_⟩; have n0_ := Aside0.mk (Kd.R_elder' (by (with_reducible repeat (first | apply Kd.R_alloc | apply Kd.R_drewN | apply Kd.R_drew)); exact HO105.out) (Kd.R_base ho0) hb); have n1_ := Aside0.mk (Kd.R_lower (Kd.R_new' ho0 (Kd.R_lt (by (with_reducible repeat (first | apply Kd.R_alloc | apply Kd.R_drewN | apply Kd.R_drew)); exact HO105.out))) (below_size (by repeat (first | (with_reducible first | exact HB.out | apply below_alloc | apply pw_below_drewN | apply below_drew1) | exact HB.out)))); have n2_ := Aside0.mk (below_step (by repeat (first | (with_reducible first | exact HB.out | apply below_alloc | apply pw_below_drewN | apply below_drew1) | exact HB.out)) hb); clear HO105; clear HB; have HO105 := n0_; have HO108 := n1_; have HB := n2_; clear n0_ n1_ n2_; (try clear hb); (try clear hb2); (try clear hk); (try clear hi); (try clear ho0); obtain ⟨Ao21, co21, eo21⟩ := Kd.R_slice HO108.out; subst eo21))
    go_ret
    exact ⟨by first | rfl | (simp [errW_none, errW_some] <;> rfl) | (simp [*, errW_none, errW_some] <;> rfl), by repeat (first | (with_reducible first | exact HB.out | apply below_alloc | apply pw_below_drewN | apply below_drew1) | exact HB.out)⟩

end Go.Proofs.Ythkiapcoagjjpaa.PPruneMost
