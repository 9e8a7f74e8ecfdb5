-- Written for this claim by a program of this session (wip/tools/pp.py, over the kit's print).
import Derived.Test.YthkiapcoagjjpaaPPruneMostx0
namespace Go.Proofs.Ythkiapcoagjjpaa.PPruneMost
open Go.RowKit Go.Proofs.YthkiapcoagjjpaaW.PrintWords Go.Proofs.YthkiapcoagjjpaaW.PrintLast Go.Proofs.YthkiapcoagjjpaaW.PrintMore
attribute [local go_sem] max2_int min2_int max_two min_two max_three min_three max_four min_four   -- for this text's walks alone
set_option linter.unusedVariables false
set_option linter.unusedSimpArgs false

/-! ### prune_within: function 29 -/
def prune_within.l0 : Nat → Int → List (S27) → Int → Int → Option (Bool)
  | 0, _, _, _, _ => none
  | k + 1, x0, x7, x8, x9 => if x9 < x8 then (if 0 ≤ x9 then (if x9 < (x7.length : Int) then (if ((rd_T27 x7 x9).f0) < 0 then (some false) else (if ((rd_T27 x7 x9).f0) > 16384 then (some false) else (prune_within.l0 k x0 x7 x8 (wrap64 (x9 + 1))))) else (none)) else (none)) else (if x0 ≥ 1 then (some (decide (x0 ≤ 16384))) else (some false))
def prune_within.f (k : Nat) (a0 : Int) (l1 : List (S27)) : Option (Bool) := prune_within.l0 k a0 l1 (l1.length : Int) 0
theorem prune_within.mono_l : ∀ k, (∀ y0 y1 y2 y3, LeO (prune_within.l0 k y0 y1 y2 y3) (prune_within.l0 (k + 1) y0 y1 y2 y3))
  | 0 => fun _ _ _ _ r h => by simp [prune_within.l0] at h
  | k + 1 => by
    have ih0 := prune_within.mono_l k
    · intro y0 y1 y2 y3
      unfold prune_within.l0
      repeat' first
      | (with_reducible exact ih0 _ _ _ _)
      | (with_reducible exact LeO.refl _)
      | (with_reducible exact LeO.none _)
      | (with_reducible refine LeO.ite ?_ ?_)
      | (with_reducible refine LeO.bind ?_ (fun _ => ?_))
      | exact ih0 _ _ _ _
      | exact LeO.none _
      | refine LeO.ite ?_ ?_
      | refine LeO.bind ?_ (fun _ => ?_)
theorem prune_within.mono : ∀ a0 a1 k, LeO (prune_within.f k a0 a1) (prune_within.f (k + 1) a0 a1) := by
  intro a0 a1 k
  have ih0 := prune_within.mono_l k
  unfold prune_within.f
  repeat' first
      | (with_reducible exact ih0 _ _ _ _)
      | (with_reducible exact LeO.refl _)
      | (with_reducible exact LeO.none _)
      | (with_reducible refine LeO.ite ?_ ?_)
      | (with_reducible refine LeO.bind ?_ (fun _ => ?_))
      | exact ih0 _ _ _ _
      | exact LeO.none _
      | refine LeO.ite ?_ ?_
      | refine LeO.bind ?_ (fun _ => ?_)
set_option maxHeartbeats 8000000 in
set_option maxRecDepth 100000 in
theorem prune_within.calls (k : Nat) (a0 : Int) (A1 : Option Addr) (c1 : Nat) (l1 : List (S27)) (r : Bool) (w : World) (hr1 : Kd.C k27 w A1 l1.length l1) (hc1 : l1.length ≤ c1) (h : prune_within.f k a0 l1 = some r) :
    Calls Try.prog 29 #[.int .i64 a0, .slice A1 l1.length c1] w fun e w' => e = .returned (.bool r) ∧ Below w.heap.size w w' := by
  have hu27 := Try.underlying27
  have HR1 := Aside0.mk hr1
  have HC1 := Aside0.mk hc1
  clear hr1 hc1
  have HB := Aside0.mk (Below.refl w.heap.size w)
  have H : (prune_within.l0 k a0 l1 (l1.length : Int) 0) = some r := h
  clear h
  have H' := Aside0.mk H
  clear H
  go_enter Try.func29, Try.ntmps29
  go_wp2
  go_loopg [9] k (fun kq v9 w' => ∃ (x9_1 : Int), v9 = .int .i64 x9_1 ∧ Aside0 (prune_within.l0 kq a0 l1 (l1.length : Int) x9_1 = some r) ∧ Aside0 (kq ≤ k) ∧ Aside0 (Below w.heap.size w w'))
  case atStart => exact ⟨(0), (by first | rfl | (simp; done) | (simp [*]; done)), H', ⟨Nat.le_refl _⟩, ⟨by repeat (first | (with_reducible first | exact HB.out | apply below_alloc | apply pw_below_drewN | apply below_drew1) | exact HB.out)⟩⟩
  case round =>
    clear H'
    try clear c1
    try clear c2
    try clear p2
    obtain ⟨x9_1, rfl, HA, HK1, HB⟩ := hrel
    cases gk with
    | zero => exact absurd HA.out (by simp [prune_within.l0])
    | succ k1 =>
      have H := HA.out
      clear HA
      simp only [prune_within.l0] at H
      by_cases c3 : x9_1 < (l1.length : Int)
      · rw [if_pos c3] at H
        have c3b0 : decide (x9_1 < (l1.length : Int)) = true := decide_eq_true c3
        clear c3
        by_cases c4 : 0 ≤ x9_1
        · rw [if_pos c4] at H
          have c4b0 : decide (0 ≤ x9_1) = true := decide_eq_true c4
          clear c4
          by_cases c5 : x9_1 < (l1.length : Int)
          · rw [if_pos c5] at H
            have c5b0 : decide (x9_1 < (l1.length : Int)) = true := decide_eq_true c5
            clear c5
            by_cases c6 : ((rd_T27 l1 x9_1).f0) < 0
            · rw [if_pos c6] at H
              have c6b0 : decide (((rd_T27 l1 x9_1).f0) < 0) = true := decide_eq_true c6
              clear c6
              obtain rfl := Option.some.inj H
              have p101 : 0 ≤ (x9_1 : Int) := of_decide_eq_true (by first | (with_reducible assumption) | assumption)
              have q101 : x9_1 < (l1.length : Int) := of_decide_eq_true (by first | (with_reducible assumption) | assumption)
              obtain ⟨ad101, e101, hx101_0, hx101_1, hx101_2⟩ := at_T27 HR1.out x9_1 p101 q101
              cases e101
              replace hx101_0 := (HB.out.cell (World.block_lt_of_cell? w _ hx101_0)).trans hx101_0
              replace hx101_1 := (HB.out.cell (World.block_lt_of_cell? w _ hx101_1)).trans hx101_1
              replace hx101_2 := (HB.out.cell (World.block_lt_of_cell? w _ hx101_2)).trans hx101_2
              replace p101 := eq_true p101
              replace q101 := eq_true q101
              go_wp2_with (first | ((with_reducible refine gate_dst (N := 6) rfl ?_); refine box_event ?hg (N := 6) ?hd (cs := #[.int .i64 0, .int .i8 0, .int .i8 0]) (t := 27) ?hr ?_; (case hd => rfl); (case hg => rfl); (case hr => first | (go_simp; done) | (go_simp; rfl)); intro gb102 hg w7 hbox hb; have n0_ := Aside0.mk (below_step (by repeat (first | (with_reducible first | exact HB.out | apply below_alloc | apply pw_below_drewN | apply below_drew1) | exact HB.out)) hb); have n1_ := Aside0.mk (hbox); have n2_ := Aside0.mk ((by rw [hg]; exact (below_size (by repeat (first | (with_reducible first | exact HB.out | apply below_alloc | apply pw_below_drewN | apply below_drew1) | exact HB.out))) : w.heap.size ≤ gb102)); have n3_ := Aside0.mk ((by rw [hg]; exact (below_size (by repeat (first | (with_reducible first | exact HB.out | apply below_alloc | apply pw_below_drewN | apply below_drew1) | exact HB.out))) : w.heap.size ≤ gb102)); clear HB; have HB := n0_; have BK102 := n1_; have GW102 := n2_; have GE102 := n3_; clear n0_ n1_ n2_ n3_; clear hb hbox hg; have hcz8_0 : w7.cell? ⟨gb102, 0, none⟩ = some (.int .i64 0) := (blk_cell BK102.out 0).trans rfl; have hcz8_1 : w7.cell? ⟨gb102, 1, none⟩ = some (.int .i8 0) := (blk_cell BK102.out 1).trans rfl; have hcz8_2 : w7.cell? ⟨gb102, 2, none⟩ = some (.int .i8 0) := (blk_cell BK102.out 2).trans rfl; have hfz8_0 := blk_frozen BK102.out 0; have hfz8_1 := blk_frozen BK102.out 1; have hfz8_2 := blk_frozen BK102.out 2))
              go_ret
              exact ⟨by first | rfl | (simp [errW_none, errW_some] <;> rfl) | (simp [*, errW_none, errW_some] <;> rfl), by repeat (first | (with_reducible first | exact HB.out | apply below_alloc | apply pw_below_drewN | apply below_drew1 | refine below_set ?_ GE102.out) | exact HB.out)⟩
            · rw [if_neg c6] at H
              have c6b0 : decide (((rd_T27 l1 x9_1).f0) < 0) = false := decide_eq_false c6
              clear c6
              by_cases c9 : ((rd_T27 l1 x9_1).f0) > 16384
              · rw [if_pos c9] at H
                have c9b0 : decide (16384 < ((rd_T27 l1 x9_1).f0)) = true := decide_eq_true c9
                clear c9
                obtain rfl := Option.some.inj H
                have p101 : 0 ≤ (x9_1 : Int) := of_decide_eq_true (by first | (with_reducible assumption) | assumption)
                have q101 : x9_1 < (l1.length : Int) := of_decide_eq_true (by first | (with_reducible assumption) | assumption)
                obtain ⟨ad101, e101, hx101_0, hx101_1, hx101_2⟩ := at_T27 HR1.out x9_1 p101 q101
                cases e101
                replace hx101_0 := (HB.out.cell (World.block_lt_of_cell? w _ hx101_0)).trans hx101_0
                replace hx101_1 := (HB.out.cell (World.block_lt_of_cell? w _ hx101_1)).trans hx101_1
                replace hx101_2 := (HB.out.cell (World.block_lt_of_cell? w _ hx101_2)).trans hx101_2
                replace p101 := eq_true p101
                replace q101 := eq_true q101
                go_wp2_with (first | ((with_reducible refine gate_dst (N := 6) rfl ?_); refine box_event ?hg (N := 6) ?hd (cs := #[.int .i64 0, .int .i8 0, .int .i8 0]) (t := 27) ?hr ?_; (case hd => rfl); (case hg => rfl); (case hr => first | (go_simp; done) | (go_simp; rfl)); intro gb102 hg w10 hbox hb; have n0_ := Aside0.mk (below_step (by repeat (first | (with_reducible first | exact HB.out | apply below_alloc | apply pw_below_drewN | apply below_drew1) | exact HB.out)) hb); have n1_ := Aside0.mk (hbox); have n2_ := Aside0.mk ((by rw [hg]; exact (below_size (by repeat (first | (with_reducible first | exact HB.out | apply below_alloc | apply pw_below_drewN | apply below_drew1) | exact HB.out))) : w.heap.size ≤ gb102)); have n3_ := Aside0.mk ((by rw [hg]; exact (below_size (by repeat (first | (with_reducible first | exact HB.out | apply below_alloc | apply pw_below_drewN | apply below_drew1) | exact HB.out))) : w.heap.size ≤ gb102)); clear HB; have HB := n0_; have BK102 := n1_; have GW102 := n2_; have GE102 := n3_; clear n0_ n1_ n2_ n3_; clear hb hbox hg; have hcz11_0 : w10.cell? ⟨gb102, 0, none⟩ = some (.int .i64 0) := (blk_cell BK102.out 0).trans rfl; have hcz11_1 : w10.cell? ⟨gb102, 1, none⟩ = some (.int .i8 0) := (blk_cell BK102.out 1).trans rfl; have hcz11_2 : w10.cell? ⟨gb102, 2, none⟩ = some (.int .i8 0) := (blk_cell BK102.out 2).trans rfl; have hfz11_0 := blk_frozen BK102.out 0; have hfz11_1 := blk_frozen BK102.out 1; have hfz11_2 := blk_frozen BK102.out 2))
                go_ret
                exact ⟨by first | rfl | (simp [errW_none, errW_some] <;> rfl) | (simp [*, errW_none, errW_some] <;> rfl), by repeat (first | (with_reducible first | exact HB.out | apply below_alloc | apply pw_below_drewN | apply below_drew1 | refine below_set ?_ GE102.out) | exact HB.out)⟩
              · rw [if_neg c9] at H
                have c9b0 : decide (16384 < ((rd_T27 l1 x9_1).f0)) = false := decide_eq_false c9
                clear c9
                have H' := Aside0.mk H
                clear H
                have p101 : 0 ≤ (x9_1 : Int) := of_decide_eq_true (by first | (with_reducible assumption) | assumption)
                have q101 : x9_1 < (l1.length : Int) := of_decide_eq_true (by first | (with_reducible assumption) | assumption)
                obtain ⟨ad101, e101, hx101_0, hx101_1, hx101_2⟩ := at_T27 HR1.out x9_1 p101 q101
                cases e101
                replace hx101_0 := (HB.out.cell (World.block_lt_of_cell? w _ hx101_0)).trans hx101_0
                replace hx101_1 := (HB.out.cell (World.block_lt_of_cell? w _ hx101_1)).trans hx101_1
                replace hx101_2 := (HB.out.cell (World.block_lt_of_cell? w _ hx101_2)).trans hx101_2
                replace p101 := eq_true p101
                replace q101 := eq_true q101
                go_wp2_with (first | ((with_reducible refine gate_dst (N := 6) rfl ?_); refine box_event ?hg (N := 6) ?hd (cs := #[.int .i64 0, .int .i8 0, .int .i8 0]) (t := 27) ?hr ?_; (case hd => rfl); (case hg => rfl); (case hr => first | (go_simp; done) | (go_simp; rfl)); intro gb102 hg w12 hbox hb; have n0_ := Aside0.mk (below_step (by repeat (first | (with_reducible first | exact HB.out | apply below_alloc | apply pw_below_drewN | apply below_drew1) | exact HB.out)) hb); have n1_ := Aside0.mk (hbox); have n2_ := Aside0.mk ((by rw [hg]; exact (below_size (by repeat (first | (with_reducible first | exact HB.out | apply below_alloc | apply pw_below_drewN | apply below_drew1) | exact HB.out))) : w.heap.size ≤ gb102)); have n3_ := Aside0.mk ((by rw [hg]; exact (below_size (by repeat (first | (with_reducible first | exact HB.out | apply below_alloc | apply pw_below_drewN | apply below_drew1) | exact HB.out))) : w.heap.size ≤ gb102)); clear HB; have HB := n0_; have BK102 := n1_; have GW102 := n2_; have GE102 := n3_; clear n0_ n1_ n2_ n3_; clear hb hbox hg; have hcz13_0 : w12.cell? ⟨gb102, 0, none⟩ = some (.int .i64 0) := (blk_cell BK102.out 0).trans rfl; have hcz13_1 : w12.cell? ⟨gb102, 1, none⟩ = some (.int .i8 0) := (blk_cell BK102.out 1).trans rfl; have hcz13_2 : w12.cell? ⟨gb102, 2, none⟩ = some (.int .i8 0) := (blk_cell BK102.out 2).trans rfl; have hfz13_0 := blk_frozen BK102.out 0; have hfz13_1 := blk_frozen BK102.out 1; have hfz13_2 := blk_frozen BK102.out 2))
                go_roundg k1
                case measure => have := HK1.out; omega
                case rel => exact ⟨(wrap64 (x9_1 + 1)), (by first | rfl | (simp; done) | (simp [*]; done)), H', ⟨by have := HK1.out; omega⟩, ⟨by repeat (first | (with_reducible first | exact HB.out | apply below_alloc | apply pw_below_drewN | apply below_drew1 | refine below_set ?_ GE102.out) | exact HB.out)⟩⟩
          · rw [if_neg c5] at H
            exact absurd H (by simp)
        · rw [if_neg c4] at H
          exact absurd H (by simp)
      · rw [if_neg c3] at H
        have c3b0 : decide (x9_1 < (l1.length : Int)) = false := decide_eq_false c3
        clear c3
        by_cases c14 : a0 ≥ 1
        · rw [if_pos c14] at H
          have c14b0 : decide (1 ≤ a0) = true := decide_eq_true c14
          clear c14
          obtain rfl := Option.some.inj H
          go_wp2
          go_ret
          exact ⟨by first | rfl | (simp [errW_none, errW_some] <;> rfl) | (simp [*, errW_none, errW_some] <;> rfl), by repeat (first | (with_reducible first | exact HB.out | apply below_alloc | apply pw_below_drewN | apply below_drew1) | exact HB.out)⟩
        · rw [if_neg c14] at H
          have c14b0 : decide (1 ≤ a0) = false := decide_eq_false c14
          clear c14
          obtain rfl := Option.some.inj H
          go_wp2
          go_ret
          exact ⟨by first | rfl | (simp [errW_none, errW_some] <;> rfl) | (simp [*, errW_none, errW_some] <;> rfl), by repeat (first | (with_reducible first | exact HB.out | apply below_alloc | apply pw_below_drewN | apply below_drew1) | exact HB.out)⟩

/-! ### prune_Apart: function 9, by hand -/
open Go.Shelf Go.Maps
/-- Does a spot overlap another? -/
def ov (n : Int) (s x : S27) : Bool := decide (wrap64 (x.f0 - s.f0) < n) && decide (wrap64 (-(wrap64 (x.f0 - s.f0))) < n)
/-- What a round that goes on keeps. -/
def Kp3 (n₀ n₁ bm : Nat) (W W' : World) : Prop := Below n₀ W W' ∧ ∀ k, k < n₁ → k ≠ bm → W'.heap[k]? = W.heap[k]?
theorem Kp3.trans {n₀ n₁ bm : Nat} {A B C : World} (h : Kp3 n₀ n₁ bm A B) (k : Kp3 n₀ n₁ bm B C) : Kp3 n₀ n₁ bm A C := ⟨h.1.trans k.1, fun j hj hn => (k.2 j hj hn).trans (h.2 j hj hn)⟩
theorem Kp3.of_below {n₀ n₁ bm : Nat} {A B : World} (h : Below n₁ A B) (hn : n₀ ≤ n₁) : Kp3 n₀ n₁ bm A B := ⟨h.mono hn, fun j hj _ => h.block j hj⟩
theorem Kp3.cell {n₀ n₁ bm b o : Nat} {A B : World} {v : Value} (h : Kp3 n₀ n₁ bm A B) (hb : b < n₁) (hn : b ≠ bm) (hc : A.cell? ⟨b, o, none⟩ = some v) : B.cell? ⟨b, o, none⟩ = some v := by
  have := h.2 b hb hn
  simpa [World.cell?, this] using hc
attribute [local go_sem] Oper.semAt_some in
set_option maxRecDepth 100000 in
set_option maxHeartbeats 4000000 in
theorem over1_in (n : Nat) (hn : 1 ≤ n) (l n₀ n₁ bm b1 b2 b3 : Nat) (hb1 : b1 < n₁ ∧ b1 ≠ bm) (hb2 : b2 < n₁ ∧ b2 ≠ bm) (hb3 : b3 < n₁ ∧ b3 ≠ bm) (hn₀ : n₀ ≤ n₁) (nn : Int) (sp : S27) (A : Option Addr) (c : Nat) (L : List S27) (w₀ : World) (hw₀ : w₀.heap.size = n₀) (hC : Kd.C k27 w₀ A L.length L) (hlen : L.length ≤ 1099511627776) (J Jx : List S27 → World → Prop)
    (hY : ∀ pre x W, J pre W → pre.length < L.length → YieldAt Fence.wide (n - 1) Try.prog l #[.agg #[.int .i64 x.f0, .int .i8 x.f1, .int .i8 x.f2]] W fun e W' =>
      (e = .returned (.bool true) ∧ J (pre ++ [x]) W' ∧ Kp3 n₀ n₁ bm W W') ∨ (e = .returned (.bool false) ∧ Jx (pre ++ [x]) W'))
    (W : World) (hJ : AbidesFrom W.heap.size J) (hW : n₁ ≤ W.heap.size) (hbel : Below n₀ w₀ W) (h1 : W.cell? ⟨b1, 0, none⟩ = some (.slice A L.length c)) (h2 : W.cell? ⟨b2, 0, none⟩ = some (.int .i64 sp.f0)) (h3 : W.cell? ⟨b3, 0, none⟩ = some (.int .i64 nn)) (h0 : J [] W) :
    CallsIn Fence.wide n Try.prog 47 #[.func (.yield l) #[] #[], .pointer (some ⟨b1, 0, none⟩), .pointer (some ⟨b2, 0, none⟩), .pointer (some ⟨b3, 0, none⟩)] W fun e W' => (∃ v, e = .returned v) ∧
      ((∃ ys, ys = L.filter (ov nn sp) ∧ J ys W') ∨ (∃ pre, pre ≠ [] ∧ pre <+: L.filter (ov nn sp) ∧ Jx pre W')) := by
  refine callsIn_of_wp Try.func47 rfl trivial ?_ rfl
  simp only [Try.ntmps47, List.size_toArray, List.length_cons, List.length_nil, Nat.reduceAdd, Nat.reduceSub, Array.replicate_succ, Array.replicate_zero, List.push_toArray, List.append_toArray, List.nil_append, List.cons_append]
  have HC := Aside0.mk hC
  clear hC
  gi_wp2
  gi_loopw [10] (fun i wr => ∃ k : Nat, k ≤ L.length ∧ i = .int .i64 k ∧ J ((L.take k).filter (ov nn sp)) wr ∧ Aside0 (Kp3 n₀ n₁ bm W wr))
    (fun i _ => L.length - (intOf i).toNat)
  case atStart => exact ⟨0, Nat.zero_le _, rfl, h0, ⟨Kp3.of_below (Below.refl _ _) hn₀⟩⟩
  case round =>
    obtain ⟨k, hk, rfl, hJs, HK⟩ := hrel
    have g2 := HK.out.cell hb2.1 hb2.2 h2
    have g3 := HK.out.cell hb3.1 hb3.2 h3
    have HCC := Aside0.mk (Kd.C_below HC.out (by rw [hw₀]; exact hbel.trans HK.out.1))
    by_cases hlt : k < L.length
    · obtain ⟨ad, e, x0, x1, x2⟩ := at_T27 HCC.out (k : Int) (by omega) (by omega)
      cases e
      rw [Int.toNat_natCast] at x0 x1 x2
      have ht : (L.take (k + 1)).filter (ov nn sp) = (L.take k).filter (ov nn sp) ++ (if ov nn sp (rd_T27 L (k : Int)) = true then [rd_T27 L (k : Int)] else []) := by
        rw [List.take_succ_eq_append_getElem hlt, List.filter_append]
        have e1 : rd_T27 L (k : Int) = L[k] := by simp [rd_T27, List.getD_eq_getElem?_getD, List.getElem?_eq_getElem hlt]
        rw [e1]
        cases hov : ov nn sp L[k] <;> simp [hov]
      generalize rd_T27 L (k : Int) = x at x0 x1 x2 ht
      have HA := Aside0.mk (show J ((L.take k).filter (ov nn sp)) (wr.alloc (.cells #[.int .i64 x.f0, .int .i8 x.f1, .int .i8 x.f2] 27)) from hJ _ _ _ none hJs (World.grownBy_alloc wr _ none) (fun r e => by cases e))
      have hsz : n₁ ≤ wr.heap.size := Nat.le_trans hW HK.out.1.size
      have HKA := Aside0.mk (HK.out.trans (Kp3.of_below (n₀ := n₀) (bm := bm) ((Below.refl n₁ wr).alloc hsz (.cells #[.int .i64 x.f0, .int .i8 x.f1, .int .i8 x.f2] 27)) hn₀))
      have g2' := HKA.out.cell hb2.1 hb2.2 h2
      have g3' := HKA.out.cell hb3.1 hb3.2 h3
      have hfl : ((L.take k).filter (ov nn sp)).length < L.length := Nat.lt_of_le_of_lt (List.length_filter_le _ _) (by rw [List.length_take]; omega)
      by_cases c1 : wrap64 (x.f0 - sp.f0) < nn
      · have c1b : decide (wrap64 (x.f0 - sp.f0) < nn) = true := decide_eq_true c1
        by_cases c2 : wrap64 (-(wrap64 (x.f0 - sp.f0))) < nn
        · have c2b : decide (wrap64 (-(wrap64 (x.f0 - sp.f0))) < nn) = true := decide_eq_true c2
          have ho : ov nn sp x = true := by simp [ov, c1, c2]
          rw [if_pos ho] at ht
          obtain ⟨fn, tmps, assign, body, hy, hR⟩ := hY _ x _ HA.out hfl
          clear c1 c2
          gi_wp2
          refine hR.mono ?_
          rintro e W3 (⟨rfl, hJ3, hk3⟩ | ⟨rfl, hJx3⟩)
          · gi_wp2
            go_roundw
            case rel => exact ⟨k + 1, by omega, by simp, by rw [ht]; exact hJ3, ⟨HKA.out.trans hk3⟩⟩
            case measure => simp [intOf]; omega
          · gi_wp2
            refine bodyPost_ret (results_none rfl _ _ _) rfl ?_
            refine ⟨⟨_, rfl⟩, .inr ⟨(L.take k).filter (ov nn sp) ++ [x], by simp, ?_, hJx3⟩⟩
            rw [← ht]
            exact (List.take_prefix _ _).filter _
        · have c2b : decide (wrap64 (-(wrap64 (x.f0 - sp.f0))) < nn) = false := decide_eq_false c2
          have ho : ov nn sp x = false := by simp [ov, c1, c2]
          rw [if_neg (by rw [ho]; decide), List.append_nil] at ht
          clear c1 c2
          gi_wp2
          refine ⟨fun _ h => (by cases h), ?_⟩
          gi_wp2
          go_roundw
          case rel => exact ⟨k + 1, by omega, by simp, by rw [ht]; exact HA.out, HKA⟩
          case measure => simp [intOf]; omega
      · have c1b : decide (wrap64 (x.f0 - sp.f0) < nn) = false := decide_eq_false c1
        have ho : ov nn sp x = false := by simp [ov, c1]
        rw [if_neg (by rw [ho]; decide), List.append_nil] at ht
        clear c1
        gi_wp2
        refine ⟨fun _ h => (by cases h), ?_⟩
        gi_wp2
        go_roundw
        case rel => exact ⟨k + 1, by omega, by simp, by rw [ht]; exact HA.out, HKA⟩
        case measure => simp [intOf]; omega
    · obtain rfl : k = L.length := by omega
      gi_wp2
      go_end0
      exact ⟨⟨_, rfl⟩, .inl ⟨_, rfl, by rwa [List.take_length] at hJs⟩⟩
theorem over_calls (nn : Int) (A : Option Addr) (len c : Nat) (sp : S27) (w : World) :
    Calls Try.prog 30 #[.int .i64 nn, .slice A len c, .agg #[.int .i64 sp.f0, .int .i8 sp.f1, .int .i8 sp.f2]] w fun e w' => e = .returned (.func (.func 47) #[] #[.pointer (some ⟨w.heap.size + 1, 0, none⟩), .pointer (some ⟨w.heap.size + 1 + 1, 0, none⟩), .pointer (some ⟨w.heap.size, 0, none⟩)]) ∧ w' = ((w.alloc (.cells #[.int .i64 nn] 3)).alloc (.cells #[.slice A len c] 22)).alloc (.cells #[.int .i64 sp.f0, .int .i8 sp.f1, .int .i8 sp.f2] 27) := by
  have hmf : ∀ (fn : Fn) (first cap : Array Value) (w : World), (Instr.makeFunc fn first cap).run Try.prog w = .ok (.func fn first cap) w := fun _ _ _ _ => rfl
  go_enter Try.func30, Try.ntmps30
  go_wp2
  go_ret
  exact ⟨rfl, rfl⟩
/-- The marks that an activation bears. -/
def IsMark (ds : List Deferred) (k : Nat) : Prop := (⟨.collected k, #[]⟩ : Deferred) ∈ ds
def Marks (B : Nat) : List Deferred → World → Prop
  | [], _ => True
  | d :: ds, w => ∃ D, d = ⟨.collected D, #[]⟩ ∧ B ≤ D ∧ w.heap[D]? = some (.deferred (some [])) ∧ ¬ IsMark ds D ∧ Marks B ds w
theorem Marks.at_ {B : Nat} : ∀ {ds : List Deferred} {w : World} {k : Nat}, Marks B ds w → IsMark ds k → B ≤ k ∧ w.heap[k]? = some (.deferred (some []))
  | [], _, _, _, h => by simp [IsMark] at h
  | d :: ds, w, k, ⟨D, hd, hB, hD, _, hm⟩, h => by
    rcases List.mem_cons.1 h with e | e
    · rw [hd] at e
      obtain rfl : k = D := by simpa using e
      exact ⟨hB, hD⟩
    · exact Marks.at_ hm e
theorem Marks.keep {B : Nat} : ∀ {ds : List Deferred} {w w' : World}, Marks B ds w → (∀ k, IsMark ds k → w'.heap[k]? = w.heap[k]?) → Marks B ds w'
  | [], _, _, _, _ => trivial
  | d :: ds, w, w', ⟨D, hd, hB, hD, hn, hm⟩, h => ⟨D, hd, hB, (h D (by rw [hd]; exact List.mem_cons_self)).trans hD, hn, Marks.keep hm fun k hk => h k (List.mem_cons_of_mem _ hk)⟩
theorem leaves_marks {F : Fence} {n : Nat} {P : Program} {fn : Func} {tmps : Array Value} {R : Ending → World → Prop} {B : Nat} : ∀ (ds : List Deferred) (w : World), Marks B ds w → B ≤ w.heap.size →
    (∀ w', Below B w w' → (∀ k, ¬ IsMark ds k → w'.heap[k]? = w.heap[k]?) → LeavesIn F n P fn tmps R [] .returning w') → LeavesInM F n P fn tmps R ds .returning w
  | [], w, _, _, h => h w (Below.refl _ _) (fun _ _ => rfl)
  | d :: ds, w, ⟨D, hd, hB, hD, hn, hm⟩, hs, h => by
    have hg := grownBy_putObj' w D (.deferred none)
    have hk : ∀ k, k ≠ D → (w.putObj D (.deferred none)).heap[k]? = w.heap[k]? := fun k hk => by
      rcases Nat.lt_or_ge k w.heap.size with c | c
      · exact hg.block k c (fun e => hk (Option.some.inj e))
      · have h1 : (w.putObj D (.deferred none)).heap.size = w.heap.size := by simp [World.putObj]
        rw [Array.getElem?_eq_none c, Array.getElem?_eq_none (by omega)]
    refine ⟨by simp, .inl ⟨D, _, by rw [hd], run_takeDeferred hD, ?_⟩⟩
    refine leaves_marks ds _ (hm.keep fun k hk' => hk k (fun e => hn (by rw [← e]; exact hk'))) (by simpa [World.putObj] using hs) fun w' hb hk' => ?_
    have hb1 : Below B w (w.putObj D (.deferred none)) := (Below.refl B w).grown hg hs (fun k e => by cases e; exact hB)
    refine h w' (hb1.trans hb) fun k hnk => ?_
    have h1 : ¬ IsMark ds k := fun e => hnk (List.mem_cons_of_mem _ e)
    have h2 : k ≠ D := fun e => hnk (by rw [e, hd]; exact List.mem_cons_self)
    exact (hk' k h1).trans (hk k h2)
def apartL (n : Int) : List S27 → Nat → List S27
  | _, 0 => []
  | L, j + 1 => if (apartL n L j).any (ov n (rd_T27 L (j : Int))) = true then apartL n L j else apartL n L j ++ [rd_T27 L (j : Int)]
theorem apartL_len (n : Int) (L : List S27) : ∀ j, (apartL n L j).length ≤ j
  | 0 => Nat.le_refl _
  | j + 1 => by
    have := apartL_len n L j
    unfold apartL
    split
    · omega
    · simp; omega
def prune_Apart.f (k : Nat) (a0 : Int) (l1 : List S27) : Option (List S27) :=
  (prune_within.f k a0 l1).bind fun b => if b = true then (if l1.length ≤ 1048576 then some (apartL a0 l1 l1.length) else none) else some []
theorem prune_Apart.mono : ∀ a0 a1 k, LeO (prune_Apart.f k a0 a1) (prune_Apart.f (k + 1) a0 a1) := fun a0 a1 k =>
  LeO.bind (prune_within.mono _ _ _) (fun _ => LeO.refl _)
theorem Kp3.grown {n₀ n₁ bm : Nat} {W A B : World} {row : Option Nat} (h : Kp3 n₀ n₁ bm W A) (hg : A.grownBy B row) (hr : ∀ r, row = some r → n₁ ≤ r) (hn : n₀ ≤ n₁) (hs : n₁ ≤ A.heap.size) : Kp3 n₀ n₁ bm W B :=
  ⟨h.1.grown hg (Nat.le_trans hn hs) (fun k e => Nat.le_trans hn (hr k e)), fun k hk hne => (hg.block k (by omega) (fun e => by have := hr k e.symm; omega)).trans (h.2 k hk hne)⟩
theorem over1_stops (n : Nat) (hn : 1 ≤ n) (n₀ n₁ bm b1 b2 b3 : Nat) (hb1 : b1 < n₁ ∧ b1 ≠ bm) (hb2 : b2 < n₁ ∧ b2 ≠ bm) (hb3 : b3 < n₁ ∧ b3 ≠ bm) (hn₀ : n₀ ≤ n₁) (nn : Int) (sp : S27) (A : Option Addr) (c : Nat) (L : List S27) (w₀ wl : World) (hw₀ : w₀.heap.size = n₀) (hwl : wl.heap.size = n₁) (hC : Kd.C k27 w₀ A L.length L) (hlen : L.length ≤ 1099511627776) (hbel : Below n₀ w₀ wl)
    (h1 : wl.cell? ⟨b1, 0, none⟩ = some (.slice A L.length c)) (h2 : wl.cell? ⟨b2, 0, none⟩ = some (.int .i64 sp.f0)) (h3 : wl.cell? ⟨b3, 0, none⟩ = some (.int .i64 nn)) :
    SeqStopsK Fence.wide n Try.prog 47 #[.pointer (some ⟨b1, 0, none⟩), .pointer (some ⟨b2, 0, none⟩), .pointer (some ⟨b3, 0, none⟩)] (fun x : S27 => #[.agg #[.int .i64 x.f0, .int .i8 x.f1, .int .i8 x.f2]]) (Kp3 n₀ n₁ bm) (fun ys => ys = L.filter (ov nn sp)) (fun pre => pre ≠ [] ∧ pre <+: L.filter (ov nn sp)) L.length wl := fun l J Jx W hW hJ _ hY h0 => by
  have hs : n₁ ≤ W.heap.size := by rw [← hwl]; exact hW.size
  refine (over1_in n hn l n₀ n₁ bm b1 b2 b3 hb1 hb2 hb3 hn₀ nn sp A c L w₀ hw₀ hC hlen J Jx hY W hJ hs (hbel.trans (hW.mono (by omega))) ((hW.cell (p := ⟨b1, 0, none⟩) (by rw [hwl]; exact hb1.1)).trans h1) ((hW.cell (p := ⟨b2, 0, none⟩) (by rw [hwl]; exact hb2.1)).trans h2) ((hW.cell (p := ⟨b3, 0, none⟩) (by rw [hwl]; exact hb3.1)).trans h3) h0).mono ?_
  rintro e W' ⟨he, h | ⟨p, hp, hq, hj⟩⟩
  · exact ⟨he, .inl h⟩
  · exact ⟨he, .inr ⟨p, ⟨hp, hq⟩, hj⟩⟩
def ARel (w1 : World) (a0 : Int) (A1 : Option Addr) (c1 : Nat) (l1 : List S27) (a' : Act) (wr : World) : Prop :=
  ∃ (j : Nat) (v : Value) (ds : List Deferred) (u7 u8 u16 u17 u18 u19 u20 u21 u22 u23 u24 u25 u26 u27 u28 u29 : Value), a' = { tmps := #[.int .i64 a0, .slice A1 l1.length c1, undef, undef, .slice none 0 0, v, undef, u7, u8, .int .i64 a0, .slice A1 l1.length c1, .bool true, .bool false, .slice A1 l1.length c1, .int .i64 (l1.length : Int), .int .i64 (j : Int), u16, u17, u18, u19, u20, u21, u22, u23, u24, u25, u26, u27, u28, u29, undef], defers := ds } ∧ j ≤ l1.length ∧ Kd.R k27 27 wr w1.heap.size (fun k => ¬ IsMark ds k) v (apartL a0 l1 j) ∧ Below w1.heap.size w1 wr ∧ Marks w1.heap.size ds wr
theorem info_spot : (Try.prog.info? 27).map (fun i => (i.zero, i.size, i.bytes)) = some (some (.agg #[.int .i64 0, .int .i8 0, .int .i8 0]), 3, 16) := by kernel_rfl
attribute [local go_sem] Oper.semAt_some in
set_option maxRecDepth 100000 in
set_option maxHeartbeats 8000000 in
theorem prune_Apart.calls (k : Nat) (a0 : Int) (A1 : Option Addr) (c1 : Nat) (l1 : List S27) (r : List S27) (w : World) (hr1 : Kd.C k27 w A1 l1.length l1) (hc1 : l1.length ≤ c1) (h : prune_Apart.f k a0 l1 = some r) :
    Calls Try.prog 9 #[.int .i64 a0, .slice A1 l1.length c1] w fun e w' => ∃ v0_ : Value, e = .returned v0_ ∧ Kd.R k27 27 w' w.heap.size (fun _ => True) v0_ r ∧ Below w.heap.size w w' := by
  obtain ⟨b, h1, h⟩ := Option.bind_eq_some_iff.1 h
  have A0 := Aside0.mk h1
  have HR := Aside0.mk hr1
  refine (callsIn_wide (n := 5)).1 (callsIn_of_wp_marks Try.func9 rfl trivial (wpIn_wide.2 ?_) rfl)
  simp only [Try.ntmps9, List.size_toArray, List.length_cons, List.length_nil, Nat.reduceAdd, Nat.reduceSub, Array.replicate_succ, Array.replicate_zero, List.push_toArray, List.append_toArray, List.nil_append, List.cons_append]
  cases b
  · rw [if_neg (by decide)] at h
    obtain rfl := Option.some.inj h
    go_wp2_with (go_at_call 29; refine (prune_within.calls k a0 A1 c1 l1 false w HR.out hc1 A0.out).mono ?_; rintro e w1 ⟨rfl, hb1⟩)
    exact ⟨_, results_tmp rfl _ _ _, _, rfl, Kd.R_nil _ _ _ _ _, hb1⟩
  · rw [if_pos rfl] at h
    by_cases hl : l1.length ≤ 1048576
    · rw [if_pos hl] at h
      obtain rfl := Option.some.inj h
      go_wp2_with (go_at_call 29; refine (prune_within.calls k a0 A1 c1 l1 true w HR.out hc1 A0.out).mono ?_; rintro e w1 ⟨rfl, hb1⟩)
      have HB1 := Aside0.mk hb1
      have HC1 := Aside0.mk (Kd.C_below HR.out hb1)
      clear hb1
      refine wp_loop (ARel w1 a0 A1 c1 l1) (fun a' _ => l1.length - (intOf (a'.tmps.getD 15 undef)).toNat) ⟨0, .slice none 0 0, [], undef, undef, undef, undef, undef, undef, undef, undef, undef, undef, undef, undef, undef, undef, undef, undef, rfl, Nat.zero_le _, Kd.R_nil _ _ _ _ _, Below.refl _ _, trivial⟩ ?_
      rintro _ wr ⟨j, v, ds, u7, u8, u16, u17, u18, u19, u20, u21, u22, u23, u24, u25, u26, u27, u28, u29, rfl, hj, hR, hB, hM⟩
      have HRR := Aside0.mk hR
      have HBB := Aside0.mk hB
      have HMM := Aside0.mk hM
      have HCC := Aside0.mk (Kd.C_below HC1.out hB)
      clear hR hB hM
      by_cases hlt : j < l1.length
      · obtain ⟨ad, e, x0, x1, x2⟩ := at_T27 HCC.out (j : Int) (by omega) (by omega)
        cases e
        rw [Int.toNat_natCast] at x0 x1 x2
        have HT : Aside0 (apartL a0 l1 (j + 1) = if (apartL a0 l1 j).any (ov a0 (rd_T27 l1 (j : Int))) = true then apartL a0 l1 j else apartL a0 l1 j ++ [rd_T27 l1 (j : Int)]) := ⟨rfl⟩
        generalize rd_T27 l1 (j : Int) = sp at x0 x1 x2 HT
        obtain ⟨Au, cu, rfl, hcu, hCu⟩ := Kd.R_reads HRR.out
        have HCU := Aside0.mk hCu
        clear hCu
        go_wp2_with (go_at_call 30; refine (over_calls a0 Au (apartL a0 l1 j).length cu sp _).mono ?_; rintro e w2 ⟨rfl, rfl⟩)
        have B0 := Aside0.mk (blk_alloc (blk_alloc (blk_alloc (blk_alloc (heap_alloc_new wr (.cells #[.int .i64 sp.f0, .int .i8 sp.f1, .int .i8 sp.f2] 27)) (.cells #[.bool true] 4)) (.cells #[.int .i64 a0] 3)) (.cells #[.slice Au (apartL a0 l1 j).length cu] 22)) (.cells #[.int .i64 sp.f0, .int .i8 sp.f1, .int .i8 sp.f2] 27))
        have B1 := Aside0.mk (blk_alloc (blk_alloc (blk_alloc (heap_alloc_new (wr.alloc (.cells #[.int .i64 sp.f0, .int .i8 sp.f1, .int .i8 sp.f2] 27)) (.cells #[.bool true] 4)) (.cells #[.int .i64 a0] 3)) (.cells #[.slice Au (apartL a0 l1 j).length cu] 22)) (.cells #[.int .i64 sp.f0, .int .i8 sp.f1, .int .i8 sp.f2] 27))
        have B2 := Aside0.mk (blk_alloc (blk_alloc (heap_alloc_new ((wr.alloc (.cells #[.int .i64 sp.f0, .int .i8 sp.f1, .int .i8 sp.f2] 27)).alloc (.cells #[.bool true] 4)) (.cells #[.int .i64 a0] 3)) (.cells #[.slice Au (apartL a0 l1 j).length cu] 22)) (.cells #[.int .i64 sp.f0, .int .i8 sp.f1, .int .i8 sp.f2] 27))
        have B3 := Aside0.mk (blk_alloc (heap_alloc_new (((wr.alloc (.cells #[.int .i64 sp.f0, .int .i8 sp.f1, .int .i8 sp.f2] 27)).alloc (.cells #[.bool true] 4)).alloc (.cells #[.int .i64 a0] 3)) (.cells #[.slice Au (apartL a0 l1 j).length cu] 22)) (.cells #[.int .i64 sp.f0, .int .i8 sp.f1, .int .i8 sp.f2] 27))
        have B4 := Aside0.mk (heap_alloc_new ((((wr.alloc (.cells #[.int .i64 sp.f0, .int .i8 sp.f1, .int .i8 sp.f2] 27)).alloc (.cells #[.bool true] 4)).alloc (.cells #[.int .i64 a0] 3)).alloc (.cells #[.slice Au (apartL a0 l1 j).length cu] 22)) (.cells #[.int .i64 sp.f0, .int .i8 sp.f1, .int .i8 sp.f2] 27))
        have HBL := Aside0.mk (below_alloc (below_alloc (below_alloc (below_alloc (below_alloc (Below.refl wr.heap.size wr) (.cells #[.int .i64 sp.f0, .int .i8 sp.f1, .int .i8 sp.f2] 27)) (.cells #[.bool true] 4)) (.cells #[.int .i64 a0] 3)) (.cells #[.slice Au (apartL a0 l1 j).length cu] 22)) (.cells #[.int .i64 sp.f0, .int .i8 sp.f1, .int .i8 sp.f2] 27))
        have HS : (((((wr.alloc (.cells #[.int .i64 sp.f0, .int .i8 sp.f1, .int .i8 sp.f2] 27)).alloc (.cells #[.bool true] 4)).alloc (.cells #[.int .i64 a0] 3)).alloc (.cells #[.slice Au (apartL a0 l1 j).length cu] 22)).alloc (.cells #[.int .i64 sp.f0, .int .i8 sp.f1, .int .i8 sp.f2] 27)).heap.size = wr.heap.size + 1 + 1 + 1 + 1 + 1 := by simp only [World.size_alloc]
        simp only [World.size_alloc] at B1 B2 B3 B4
        generalize (((((wr.alloc (.cells #[.int .i64 sp.f0, .int .i8 sp.f1, .int .i8 sp.f2] 27)).alloc (.cells #[.bool true] 4)).alloc (.cells #[.int .i64 a0] 3)).alloc (.cells #[.slice Au (apartL a0 l1 j).length cu] 22)).alloc (.cells #[.int .i64 sp.f0, .int .i8 sp.f1, .int .i8 sp.f2] 27)) = wl at B0 B1 B2 B3 B4 HBL HS ⊢
        have hK0 : Kp3 wr.heap.size wl.heap.size (wr.heap.size + 1) wl wl := ⟨Below.refl _ _, fun _ _ _ => rfl⟩
        have HAP : (apartL a0 l1 j).length ≤ 1048576 := by have := apartL_len a0 l1 j; omega
        refine (wpIn_wide (n := 5)).1 (wpIn_rangeFunc_ownG (F := Fence.wide) (n := 5) rfl (by omega) (gf := 47) (lb := #[.pointer (some ⟨wr.heap.size + 1 + 1 + 1, 0, none⟩), .pointer (some ⟨wr.heap.size + 1 + 1 + 1 + 1, 0, none⟩), .pointer (some ⟨wr.heap.size + 1 + 1, 0, none⟩)]) rfl trivial (enters_of Try.func47 (by kernel_rfl) rfl)
          (over1_stops 4 (by omega) wr.heap.size wl.heap.size (wr.heap.size + 1) (wr.heap.size + 1 + 1 + 1) (wr.heap.size + 1 + 1 + 1 + 1) (wr.heap.size + 1 + 1) (by omega) (by omega) (by omega) (by omega) a0 sp Au cu (apartL a0 l1 j) wr wl rfl rfl HCU.out (by omega) HBL.out ((blk_cell B3.out 0).trans rfl) ((blk_cell B4.out 0).trans rfl) ((blk_cell B2.out 0).trans rfl))
          (fun h k => h.trans k) (fun W l o o' hl hw hc hk => Kp3.of_below (belowK_b (w := wl) (Nat.le_refl _) W l o o' hl hw hc hk) (by omega)) (Below.refl _ _) (fun _ => rfl)
          (fun pre W => pre = [] ∧ Kp3 wr.heap.size wl.heap.size (wr.heap.size + 1) wl W ∧ Boxed W (wr.heap.size + 1) 4 (.bool true))
          (fun c pre W => c = .exit 2 ∧ Kp3 wr.heap.size wl.heap.size (wr.heap.size + 1) wl W ∧ Boxed W (wr.heap.size + 1) 4 (.bool false))
          (fun s A B row hs hg hr => ⟨hs.1, hs.2.1.grown hg (fun r e => (hr r e).1) (by omega) hs.2.1.1.size, hs.2.2.kept hg (fun e => by have := (hr _ e.symm).1; omega)⟩)
          (fun c s A B row hs hg hr => ⟨hs.1, hs.2.1.grown hg (fun r e => (hr r e).1) (by omega) hs.2.1.1.size, hs.2.2.kept hg (fun e => by have := (hr _ e.symm).1; omega)⟩)
          ⟨rfl, hK0, B1.out⟩
          (fun x => { tmps := #[.int .i64 a0, .slice (some ad) l1.length c1, undef, undef, .slice none 0 0, .slice Au (apartL a0 l1 j).length cu, undef, .pointer (some ⟨wr.heap.size, 0, none⟩), .pointer (some ⟨wr.heap.size + 1, 0, none⟩), .int .i64 a0, .slice (some ad) l1.length c1, .bool true, .bool false, .slice (some ad) l1.length c1, .int .i64 (l1.length : Int), .int .i64 (j : Int), .bool true, .pointer (some (ad.add (j * 3))), .agg #[.int .i64 sp.f0, .int .i8 sp.f1, .int .i8 sp.f2], .int .i64 a0, .slice Au (apartL a0 l1 j).length cu, .agg #[.int .i64 sp.f0, .int .i8 sp.f1, .int .i8 sp.f2], .func (.func 47) #[] #[.pointer (some ⟨wr.heap.size + 1 + 1 + 1, 0, none⟩), .pointer (some ⟨wr.heap.size + 1 + 1 + 1 + 1, 0, none⟩), .pointer (some ⟨wr.heap.size + 1 + 1, 0, none⟩)], .agg #[.int .i64 x.f0, .int .i8 x.f1, .int .i8 x.f2], u24, u25, u26, u27, u28, u29, undef], defers := [] }) ?assign ?body ?done ?stop)
        case assign =>
          intro l x W K hK
          gi_wp2
          simpa using hK
        case body =>
          rintro l pre x W ⟨rfl, hK, hb⟩ _
          have hc := hb.cell
          have hf := hb.frozen
          gi_wp2
          exact ⟨(KeepsOthers.setCell _ _ _).from _, rfl, ⟨hK.1.setCell (p := ⟨wr.heap.size + 1, 0, none⟩) (by simp) _, fun k hk hne => (Below.heap_setCell _ _ _ k (fun e => hne e)).trans (hK.2 k hk hne)⟩, hb.set _⟩
        case done =>
          rintro D ys W hD hys ⟨hnil, hK, hb⟩ hDk
          subst hnil
          have hany : (apartL a0 l1 j).any (ov a0 sp) = false := by
            rw [List.any_eq_false]
            intro x hx e
            have := List.filter_eq_nil_iff.1 hys.symm x hx
            exact this e
          have HT2 : Aside0 (apartL a0 l1 (j + 1) = apartL a0 l1 j ++ [sp]) := ⟨by rw [HT.out, hany]; rfl⟩
          have hsz : wl.heap.size ≤ W.heap.size := hK.1.size
          have HBW := Aside0.mk (HBL.out.trans hK.1)
          have HBF := Aside0.mk (HBB.out.trans (HBW.out.mono HBB.out.size))
          have hn : ¬ IsMark ds D := fun e => by have := (Array.getElem?_eq_some_iff.1 (HMM.out.at_ e).2).1; omega
          have HM2 : Aside0 (Marks w1.heap.size (⟨.collected D, #[]⟩ :: ds) W) := ⟨D, rfl, by have := HBB.out.size; omega, hDk, hn, HMM.out.keep fun k hk => by
            have hk1 := (HMM.out.at_ hk).2
            have hk2 := (Array.getElem?_eq_some_iff.1 hk1).1
            exact HBW.out.block k hk2⟩
          have HR2 : Aside0 (Kd.R k27 27 W w1.heap.size (fun k => ¬ IsMark (⟨.collected D, #[]⟩ :: ds) k) (.slice Au (apartL a0 l1 j).length cu) (apartL a0 l1 j)) := ⟨Kd.R_mono (Kd.R_move (Kd.R_bound HRR.out) (fun k hk => HBW.out.block k hk.2.2.1)) (fun k hk e => by
            rcases List.mem_cons.1 e with e | e
            · have : k = D := by simpa using e
              have := hk.2.2.1
              omega
            · exact hk.1 e)⟩
          have hfree := hb.cell
          have hs0 := hK.cell (b := wr.heap.size) (o := 0) (by omega) (by omega) ((blk_cell B0.out 0).trans rfl)
          have hs1 := hK.cell (b := wr.heap.size) (o := 1) (by omega) (by omega) ((blk_cell B0.out 1).trans rfl)
          have hs2 := hK.cell (b := wr.heap.size) (o := 2) (by omega) (by omega) ((blk_cell B0.out 2).trans rfl)
          have HB16 := Aside0.mk (show ((apartL a0 l1 j).length + 1) * 16 ≤ 140737488355328 by omega)
          go_wp2_with (at_builtin; refine Kd.R_append k27 (w0 := w1) w1.heap.size rfl (.tmp 25) (.tmp 27) 22 27 (.agg #[.int .i64 0, .int .i8 0, .int .i8 0]) 16 rfl Try.underlying22 info_spot rfl (by decide) (by omega) _ (apartL a0 l1 j) sp _ (fun k => ¬ IsMark (⟨.collected D, #[]⟩ :: ds) k) (fun _ => False) rfl (by first | rfl | (go_simp; done) | (simp; done)) (k27_mkM _ _ _ _) (fun _ h => h.elim) (fun k hk e => by have := (Array.getElem?_eq_some_iff.1 (HM2.out.at_ e).2).1; omega) HR2.out HBF.out HBF.out.size HB16.out ?_; intro v1 w3 ho hb9 hg9 hat9)
          have hown : ∀ k, (Value.slice Au (apartL a0 l1 j).length cu).ownBlock = some k → ¬ IsMark (⟨.collected D, #[]⟩ :: ds) k := HR2.out.1
          exact ⟨⟨j + 1, v1, ⟨.collected D, #[]⟩ :: ds, _, _, _, _, _, _, _, _, _, _, _, _, _, _, _, _, (by first | rfl | (simp; done)), by omega, (by rw [HT2.out]; exact ho), hb9, (HM2.out.keep fun k hk => hg9.block k (Array.getElem?_eq_some_iff.1 (HM2.out.at_ hk).2).1 (fun e => hown k e.symm hk))⟩, by simp [intOf]; omega⟩
        case stop =>
          rintro D c pre W hD ⟨hp, hq⟩ ⟨rfl, hK, hb⟩ hDk
          have hany : (apartL a0 l1 j).any (ov a0 sp) = true := by
            obtain ⟨x, hx⟩ := List.exists_mem_of_ne_nil _ hp
            have := List.mem_filter.1 (hq.subset hx)
            exact List.any_eq_true.2 ⟨x, this.1, this.2⟩
          have HT2 : Aside0 (apartL a0 l1 (j + 1) = apartL a0 l1 j) := ⟨by rw [HT.out, if_pos hany]⟩
          have hsz : wl.heap.size ≤ W.heap.size := hK.1.size
          have HBW := Aside0.mk (HBL.out.trans hK.1)
          have HBF := Aside0.mk (HBB.out.trans (HBW.out.mono HBB.out.size))
          have hn : ¬ IsMark ds D := fun e => by have := (Array.getElem?_eq_some_iff.1 (HMM.out.at_ e).2).1; omega
          have HM2 : Aside0 (Marks w1.heap.size (⟨.collected D, #[]⟩ :: ds) W) := ⟨D, rfl, by have := HBB.out.size; omega, hDk, hn, HMM.out.keep fun k hk => by
            have hk1 := (HMM.out.at_ hk).2
            have hk2 := (Array.getElem?_eq_some_iff.1 hk1).1
            exact HBW.out.block k hk2⟩
          have HR2 : Aside0 (Kd.R k27 27 W w1.heap.size (fun k => ¬ IsMark (⟨.collected D, #[]⟩ :: ds) k) (.slice Au (apartL a0 l1 j).length cu) (apartL a0 l1 j)) := ⟨Kd.R_mono (Kd.R_move (Kd.R_bound HRR.out) (fun k hk => HBW.out.block k hk.2.2.1)) (fun k hk e => by
            rcases List.mem_cons.1 e with e | e
            · have : k = D := by simpa using e
              have := hk.2.2.1
              omega
            · exact hk.1 e)⟩
          have hfree := hb.cell
          have hs0 := hK.cell (b := wr.heap.size) (o := 0) (by omega) (by omega) ((blk_cell B0.out 0).trans rfl)
          have hs1 := hK.cell (b := wr.heap.size) (o := 1) (by omega) (by omega) ((blk_cell B0.out 1).trans rfl)
          have hs2 := hK.cell (b := wr.heap.size) (o := 2) (by omega) (by omega) ((blk_cell B0.out 2).trans rfl)
          refine wpIn_wide.2 ?_
          go_wp2
          exact ⟨⟨j + 1, .slice Au (apartL a0 l1 j).length cu, ⟨.collected D, #[]⟩ :: ds, _, _, _, _, _, _, _, _, _, _, _, _, _, _, _, _, (by first | rfl | (simp; done)), by omega, (by rw [HT2.out]; exact HR2.out), HBF.out, HM2.out⟩, by simp [intOf]; omega⟩
      · obtain rfl : j = l1.length := by omega
        go_wp2
        refine leaves_marks ds wr HMM.out HBB.out.size fun w' hb' hk' => ?_
        exact ⟨_, results_tmp rfl _ _ _, _, rfl, Kd.R_mono (Kd.R_lower (Kd.R_step HRR.out (fun k ok _ => hk' k ok)) HB1.out.size) (fun _ _ => trivial), HB1.out.trans ((HBB.out.trans hb').mono HB1.out.size)⟩
    · rw [if_neg hl] at h
      cases h

end Go.Proofs.Ythkiapcoagjjpaa.PPruneMost
