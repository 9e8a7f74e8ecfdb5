-- SLIM: printed, then laid small (wip/tools/slimclaim.py).
import Derived.Test.YtfgdjpgdabjpmaaPEdgeListsx0
import Derived.Test.YtfgdjpgdabjpmaaPEdgeListsx4
namespace Go.Proofs.Ytfgdjpgdabjpmaa.PEdgeLists
open Go.RowKit Go.Proofs.YtfgdjpgdabjpmaaW.PrintWords Go.Proofs.YtfgdjpgdabjpmaaW.PrintLast Go.Proofs.YtfgdjpgdabjpmaaW.PrintMore
attribute [local go_sem] max2_int min2_int max_two min_two max_three min_three max_four min_four   -- for this text's walks alone
set_option linter.unusedVariables false
set_option linter.unusedSimpArgs false
mutual
def pleatref07_Check.j0 : Nat → Int → Bool → List Int → Int → List Int → Option (Int × Int)
 | 0, _, _, _, _, _ => none
 | k + 1, x4, x27, x138000, x138001, x138002 => if x27 = true then (some (41, 0)) else (pleatref07_Check.l0 k x4 0 x138000 x138001 x138002)
def pleatref07_Check.l0 : Nat → Int → Int → List Int → Int → List Int → Option (Int × Int)
 | 0, _, _, _, _, _ => none
 | k + 1, x4, x5, x138000, x138001, x138002 => if x5 < x4 then (if 0 ≤ x5 then (if x5 < (x138000.length : Int) then ((pleatref02_Target.f k (rd x138000 x5)).bind fun bt139 => (if bt139.2 = true then (if bt139.1 ≥ x4 then (some (22, x5)) else (pleatref07_Check.l0 k x4 (wrap64 (x5 + 1)) x138000 x138001 x138002)) else (pleatref07_Check.l0 k x4 (wrap64 (x5 + 1)) x138000 x138001 x138002))) else (none)) else (none)) else (if 0 ≤ (wrap64 (x4 - 1)) then (if (wrap64 (x4 - 1)) < (x138000.length : Int) then ((pleatref02_Decode.f k (rd x138000 (wrap64 (x4 - 1)))).bind fun bt142 => (if bt142.1 = 0 then (some (0, 0)) else (if bt142.1 = 15 then (some (0, 0)) else (if bt142.1 = 19 then (some (0, 0)) else (if bt142.1 = 21 then (some (0, 0)) else (some (50, wrap64 (x4 - 1)))))))) else (none)) else (none))
end
def pleatref07_Check.f (k : Nat) (l0_0 : List Int) (a0_1 : Int) (l0_2 : List Int) : Option (Int × Int) := if (l0_0.length : Int) = 0 then (some (50, 0)) else (if (l0_0.length : Int) > 16384 then (some (42, 16384)) else (if (l0_2.length : Int) > 4096 then (some (25, 4096)) else (if a0_1 < 0 then (pleatref07_Check.j0 k (l0_0.length : Int) true l0_0 a0_1 l0_2) else (pleatref07_Check.j0 k (l0_0.length : Int) (decide (a0_1 ≥ (l0_0.length : Int))) l0_0 a0_1 l0_2))))
theorem pleatref07_Check.mono_l : ∀ k, (∀ y0 y1 y2 y3 y4, LeO (pleatref07_Check.j0 k y0 y1 y2 y3 y4) (pleatref07_Check.j0 (k + 1) y0 y1 y2 y3 y4)) ∧ (∀ y0 y1 y2 y3 y4, LeO (pleatref07_Check.l0 k y0 y1 y2 y3 y4) (pleatref07_Check.l0 (k + 1) y0 y1 y2 y3 y4))
 | 0 => ⟨fun _ _ _ _ _ r h => by simp [pleatref07_Check.j0] at h, fun _ _ _ _ _ r h => by simp [pleatref07_Check.l0] at h⟩
 | k + 1 => by
  obtain ⟨ih0, ih1⟩ := pleatref07_Check.mono_l k;refine ⟨?_, ?_⟩
  ·intro y0 y1 y2 y3 y4
   unfold pleatref07_Check.j0
   repeat' first
   | (with_reducible exact ih0 _ _ _ _ _)
   | (with_reducible exact ih1 _ _ _ _ _)
   | (with_reducible exact pleatref02_Decode.mono _ _)
   | (with_reducible exact pleatref02_Target.mono _ _)
   | (with_reducible exact LeO.refl _)
   | (with_reducible exact LeO.none _)
   | (with_reducible refine LeO.ite ?_ ?_)
   | (with_reducible refine LeO.bind ?_ (fun _ => ?_))
   | exact ih0 _ _ _ _ _
   | exact ih1 _ _ _ _ _
   | exact pleatref02_Decode.mono _ _
   | exact pleatref02_Target.mono _ _
   | exact LeO.none _
   | refine LeO.ite ?_ ?_
   | refine LeO.bind ?_ (fun _ => ?_)
  ·intro y0 y1 y2 y3 y4
   unfold pleatref07_Check.l0
   repeat' first
   | (with_reducible exact ih0 _ _ _ _ _)
   | (with_reducible exact ih1 _ _ _ _ _)
   | (with_reducible exact pleatref02_Decode.mono _ _)
   | (with_reducible exact pleatref02_Target.mono _ _)
   | (with_reducible exact LeO.refl _)
   | (with_reducible exact LeO.none _)
   | (with_reducible refine LeO.ite ?_ ?_)
   | (with_reducible refine LeO.bind ?_ (fun _ => ?_))
   | exact ih0 _ _ _ _ _
   | exact ih1 _ _ _ _ _
   | exact pleatref02_Decode.mono _ _
   | exact pleatref02_Target.mono _ _
   | exact LeO.none _
   | refine LeO.ite ?_ ?_
   | refine LeO.bind ?_ (fun _ => ?_)
theorem pleatref07_Check.mono : ∀ a0 a1 a2 k, LeO (pleatref07_Check.f k a0 a1 a2) (pleatref07_Check.f (k + 1) a0 a1 a2) := by
 intro a0 a1 a2 k;obtain ⟨ih0, ih1⟩ := pleatref07_Check.mono_l k
 unfold pleatref07_Check.f
 repeat' first
   | (with_reducible exact ih0 _ _ _ _ _)
   | (with_reducible exact ih1 _ _ _ _ _)
   | (with_reducible exact pleatref02_Decode.mono _ _)
   | (with_reducible exact pleatref02_Target.mono _ _)
   | (with_reducible exact LeO.refl _)
   | (with_reducible exact LeO.none _)
   | (with_reducible refine LeO.ite ?_ ?_)
   | (with_reducible refine LeO.bind ?_ (fun _ => ?_))
   | exact ih0 _ _ _ _ _
   | exact ih1 _ _ _ _ _
   | exact pleatref02_Decode.mono _ _
   | exact pleatref02_Target.mono _ _
   | exact LeO.none _
   | refine LeO.ite ?_ ?_
   | refine LeO.bind ?_ (fun _ => ?_)
set_option maxHeartbeats 8000000 in
set_option maxRecDepth 100000 in
theorem pleatref07_Check.calls (k : Nat) (A0_0 : Option Addr) (c0_0 : Nat) (l0_0 : List Int) (a0_1 : Int) (A0_2 : Option Addr) (c0_2 : Nat) (l0_2 : List Int) (r1 : Int) (r2 : Int) (w : World) (hr0_0 : Kd.C (Kd.int .u32) w A0_0 l0_0.length l0_0) (hc0_0 : l0_0.length ≤ c0_0) (hr0_2 : Kd.C (Kd.int .i64) w A0_2 l0_2.length l0_2) (hc0_2 : l0_2.length ≤ c0_2) (h : pleatref07_Check.f k l0_0 a0_1 l0_2 = some (r1, r2)) :
  Calls Try.prog 12 #[.agg #[.slice A0_0 l0_0.length c0_0, .int .i64 a0_1, .slice A0_2 l0_2.length c0_2]] w fun e w' => e = .returned (.tuple #[.int .i64 r1, .int .i64 r2]) ∧ Below w.heap.size w w' := by
 have hu25 := Try.underlying25
 have hfd36_0 : ∀ (x0_ x1_ x2_ x3_ x4_ : Value) (W : World), (Instr.field 36 (.agg #[x0_, x1_, x2_, x3_, x4_]) 0).run Try.prog W = .ok (x0_) W := fun _ _ _ _ _ _ => by kernel_rfl
 have HR0_0 := zA hr0_0;have HC0_0 := zA hc0_0;clear hr0_0 hc0_0;have HR0_2 := zA hr0_2;have HC0_2 := zA hc0_2;clear hr0_2 hc0_2;have HB := zA (Below.refl w.heap.size w);have H : (if (l0_0.length : Int) = 0 then (some (50, 0)) else (if (l0_0.length : Int) > 16384 then (some (42, 16384)) else (if (l0_2.length : Int) > 4096 then (some (25, 4096)) else (if a0_1 < 0 then (pleatref07_Check.j0 k (l0_0.length : Int) true l0_0 a0_1 l0_2) else (pleatref07_Check.j0 k (l0_0.length : Int) (decide (a0_1 ≥ (l0_0.length : Int))) l0_0 a0_1 l0_2))))) = some (r1, r2) := h;clear h
 by_cases c2 : (l0_0.length : Int) = 0
 ·rw [if_pos c2] at H;have c2b0 : ((l0_0.length : Int) == 0) = true := beq_iff_eq.mpr c2;have c2b1 : ((l0_0.length : Int) != 0) = false := zne c2;clear c2;simp only [Option.some.injEq, Prod.mk.injEq] at H;obtain ⟨rfl, rfl⟩ := H
  go_enter Try.func12, Try.ntmps12
  go_wp2_with (first | ((with_reducible refine gate_dst (N := 1) rfl ?_); refine box_event ?hg (N := 1) ?hd (cs := #[.slice A0_0 l0_0.length c0_0, .int .i64 a0_1, .slice A0_2 l0_2.length c0_2]) (t := 25) ?hr ?_; (case hd => rfl); (case hg => rfl); (case hr => first | (go_simp; done) | (go_simp; rfl)); intro gb137 hg w3 hbox hb; have n0_ := zA (zt (by repeat (first | (with_reducible first | exact HB.out | apply zB | apply zN | apply zD) | exact HB.out)) hb); have n1_ := zA (hbox); have n2_ := zA ((by rw [hg]; exact (below_size (by repeat (first | (with_reducible first | exact HB.out | apply zB | apply zN | apply zD) | exact HB.out))) : w.heap.size ≤ gb137)); have n3_ := zA ((by rw [hg]; exact (below_size (by repeat (first | (with_reducible first | exact HB.out | apply zB | apply zN | apply zD) | exact HB.out))) : w.heap.size ≤ gb137)); clear HB; have HB := n0_; have BK137 := n1_; have GW137 := n2_; have GE137 := n3_; clear n0_ n1_ n2_ n3_; clear hb hbox hg; have hcz4_0 : w3.cell? ⟨gb137, 0, none⟩ = some (.slice A0_0 l0_0.length c0_0) := (zc BK137.out 0).trans rfl; have hcz4_1 : w3.cell? ⟨gb137, 1, none⟩ = some (.int .i64 a0_1) := (zc BK137.out 1).trans rfl; have hcz4_2 : w3.cell? ⟨gb137, 2, none⟩ = some (.slice A0_2 l0_2.length c0_2) := (zc BK137.out 2).trans rfl; have hfz4_0 := zF BK137.out 0; have hfz4_1 := zF BK137.out 1; have hfz4_2 := zF BK137.out 2))
  go_ret2
  exact ⟨by first | rfl | (simp <;> rfl) | (simp [*] <;> rfl), by repeat (first | (with_reducible first | exact HB.out | apply zB | apply zN | apply zD | refine zS ?_ GE137.out) | exact HB.out)⟩
 ·rw [if_neg c2] at H;have c2b0 : ((l0_0.length : Int) == 0) = false := zbe c2;have c2b1 : ((l0_0.length : Int) != 0) = true := bne_iff_ne.mpr c2;have c2b2 : ¬ (l0_0 = []) := fun h_ => c2 (by rw [h_]; rfl)
  by_cases c5 : (l0_0.length : Int) > 16384
  ·rw [if_pos c5] at H;have c5b0 : decide (16384 < (l0_0.length : Int)) = true := decide_eq_true c5;have c5b1 : decide (16384 < l0_0.length) = true := decide_eq_true (by omega);clear c5;simp only [Option.some.injEq, Prod.mk.injEq] at H;obtain ⟨rfl, rfl⟩ := H
   go_enter Try.func12, Try.ntmps12
   go_wp2_with (first | ((with_reducible refine gate_dst (N := 1) rfl ?_); refine box_event ?hg (N := 1) ?hd (cs := #[.slice A0_0 l0_0.length c0_0, .int .i64 a0_1, .slice A0_2 l0_2.length c0_2]) (t := 25) ?hr ?_; (case hd => rfl); (case hg => rfl); (case hr => first | (go_simp; done) | (go_simp; rfl)); intro gb137 hg w6 hbox hb; have n0_ := zA (zt (by repeat (first | (with_reducible first | exact HB.out | apply zB | apply zN | apply zD) | exact HB.out)) hb); have n1_ := zA (hbox); have n2_ := zA ((by rw [hg]; exact (below_size (by repeat (first | (with_reducible first | exact HB.out | apply zB | apply zN | apply zD) | exact HB.out))) : w.heap.size ≤ gb137)); have n3_ := zA ((by rw [hg]; exact (below_size (by repeat (first | (with_reducible first | exact HB.out | apply zB | apply zN | apply zD) | exact HB.out))) : w.heap.size ≤ gb137)); clear HB; have HB := n0_; have BK137 := n1_; have GW137 := n2_; have GE137 := n3_; clear n0_ n1_ n2_ n3_; clear hb hbox hg; have hcz7_0 : w6.cell? ⟨gb137, 0, none⟩ = some (.slice A0_0 l0_0.length c0_0) := (zc BK137.out 0).trans rfl; have hcz7_1 : w6.cell? ⟨gb137, 1, none⟩ = some (.int .i64 a0_1) := (zc BK137.out 1).trans rfl; have hcz7_2 : w6.cell? ⟨gb137, 2, none⟩ = some (.slice A0_2 l0_2.length c0_2) := (zc BK137.out 2).trans rfl; have hfz7_0 := zF BK137.out 0; have hfz7_1 := zF BK137.out 1; have hfz7_2 := zF BK137.out 2))
   go_ret2
   exact ⟨by first | rfl | (simp <;> rfl) | (simp [*] <;> rfl), by repeat (first | (with_reducible first | exact HB.out | apply zB | apply zN | apply zD | refine zS ?_ GE137.out) | exact HB.out)⟩
  ·rw [if_neg c5] at H;have c5b0 : decide (16384 < (l0_0.length : Int)) = false := decide_eq_false c5;have c5b1 : decide (16384 < l0_0.length) = false := decide_eq_false (by omega);clear c5
   by_cases c8 : (l0_2.length : Int) > 4096
   ·rw [if_pos c8] at H;have c8b0 : decide (4096 < (l0_2.length : Int)) = true := decide_eq_true c8;have c8b1 : decide (4096 < l0_2.length) = true := decide_eq_true (by omega);clear c8;simp only [Option.some.injEq, Prod.mk.injEq] at H;obtain ⟨rfl, rfl⟩ := H
    go_enter Try.func12, Try.ntmps12
    go_wp2_with (first | ((with_reducible refine gate_dst (N := 1) rfl ?_); refine box_event ?hg (N := 1) ?hd (cs := #[.slice A0_0 l0_0.length c0_0, .int .i64 a0_1, .slice A0_2 l0_2.length c0_2]) (t := 25) ?hr ?_; (case hd => rfl); (case hg => rfl); (case hr => first | (go_simp; done) | (go_simp; rfl)); intro gb137 hg w9 hbox hb; have n0_ := zA (zt (by repeat (first | (with_reducible first | exact HB.out | apply zB | apply zN | apply zD) | exact HB.out)) hb); have n1_ := zA (hbox); have n2_ := zA ((by rw [hg]; exact (below_size (by repeat (first | (with_reducible first | exact HB.out | apply zB | apply zN | apply zD) | exact HB.out))) : w.heap.size ≤ gb137)); have n3_ := zA ((by rw [hg]; exact (below_size (by repeat (first | (with_reducible first | exact HB.out | apply zB | apply zN | apply zD) | exact HB.out))) : w.heap.size ≤ gb137)); clear HB; have HB := n0_; have BK137 := n1_; have GW137 := n2_; have GE137 := n3_; clear n0_ n1_ n2_ n3_; clear hb hbox hg; have hcz10_0 : w9.cell? ⟨gb137, 0, none⟩ = some (.slice A0_0 l0_0.length c0_0) := (zc BK137.out 0).trans rfl; have hcz10_1 : w9.cell? ⟨gb137, 1, none⟩ = some (.int .i64 a0_1) := (zc BK137.out 1).trans rfl; have hcz10_2 : w9.cell? ⟨gb137, 2, none⟩ = some (.slice A0_2 l0_2.length c0_2) := (zc BK137.out 2).trans rfl; have hfz10_0 := zF BK137.out 0; have hfz10_1 := zF BK137.out 1; have hfz10_2 := zF BK137.out 2))
    go_ret2
    exact ⟨by first | rfl | (simp <;> rfl) | (simp [*] <;> rfl), by repeat (first | (with_reducible first | exact HB.out | apply zB | apply zN | apply zD | refine zS ?_ GE137.out) | exact HB.out)⟩
   ·rw [if_neg c8] at H;have c8b0 : decide (4096 < (l0_2.length : Int)) = false := decide_eq_false c8;have c8b1 : decide (4096 < l0_2.length) = false := decide_eq_false (by omega);clear c8;have HC11 := zA H;clear H
    go_enter Try.func12, Try.ntmps12
    go_upto_region 8 with (first | ((with_reducible refine gate_dst (N := 1) rfl ?_); refine box_event ?hg (N := 1) ?hd (cs := #[.slice A0_0 l0_0.length c0_0, .int .i64 a0_1, .slice A0_2 l0_2.length c0_2]) (t := 25) ?hr ?_; (case hd => rfl); (case hg => rfl); (case hr => first | (go_simp; done) | (go_simp; rfl)); intro gb137 hg w12 hbox hb; have n0_ := zA (zt (by repeat (first | (with_reducible first | exact HB.out | apply zB | apply zN | apply zD) | exact HB.out)) hb); have n1_ := zA (hbox); have n2_ := zA ((by rw [hg]; exact (below_size (by repeat (first | (with_reducible first | exact HB.out | apply zB | apply zN | apply zD) | exact HB.out))) : w.heap.size ≤ gb137)); have n3_ := zA ((by rw [hg]; exact (below_size (by repeat (first | (with_reducible first | exact HB.out | apply zB | apply zN | apply zD) | exact HB.out))) : w.heap.size ≤ gb137)); clear HB; have HB := n0_; have BK137 := n1_; have GW137 := n2_; have GE137 := n3_; clear n0_ n1_ n2_ n3_; clear hb hbox hg; have hcz13_0 : w12.cell? ⟨gb137, 0, none⟩ = some (.slice A0_0 l0_0.length c0_0) := (zc BK137.out 0).trans rfl; have hcz13_1 : w12.cell? ⟨gb137, 1, none⟩ = some (.int .i64 a0_1) := (zc BK137.out 1).trans rfl; have hcz13_2 : w12.cell? ⟨gb137, 2, none⟩ = some (.slice A0_2 l0_2.length c0_2) := (zc BK137.out 2).trans rfl; have hfz13_0 := zF BK137.out 0; have hfz13_1 := zF BK137.out 1; have hfz13_2 := zF BK137.out 2))
    (try simp only [Act.put, List.setIfInBounds_toArray, List.set_cons_zero, List.set_cons_succ])
    go_cut [27] (fun v27 wc => ∃ (kq : Nat) (x27_10 : Bool), v27 = .bool x27_10 ∧ Aside0 (pleatref07_Check.j0 kq (l0_0.length : Int) x27_10 l0_0 a0_1 l0_2 = some (r1, r2)) ∧ Aside0 (kq ≤ k) ∧ Aside0 (wc.heap[gb137]? = some (.cells #[(.slice A0_0 l0_0.length c0_0), .int .i64 a0_1, (.slice A0_2 l0_2.length c0_2)] 25 (0, 0))) ∧ Aside0 (Below w.heap.size w wc))
    case first =>
     have H := HC11.out;clear HC11
     by_cases c14 : a0_1 < 0
     ·rw [if_pos c14] at H;have c14b0 : decide (a0_1 < 0) = true := decide_eq_true c14;clear c14;(first | rw [c14b0] | (simp only [i64_w, i32_w]; rw [c14b0]) | skip);have H' := zA H;clear H;have hcz15_0 : w12.cell? ⟨gb137, 0, none⟩ = some (.slice A0_0 l0_0.length c0_0) := (zc BK137.out 0).trans rfl;have hcz15_1 : w12.cell? ⟨gb137, 1, none⟩ = some (.int .i64 a0_1) := (zc BK137.out 1).trans rfl;have hcz15_2 : w12.cell? ⟨gb137, 2, none⟩ = some (.slice A0_2 l0_2.length c0_2) := (zc BK137.out 2).trans rfl;have hfz15_0 := zF BK137.out 0;have hfz15_1 := zF BK137.out 1;have hfz15_2 := zF BK137.out 2
      go_wp2
      go_meet
      case rel => exact ⟨_, (true), (by first | rfl | (simp; done) | (simp [*]; done)), H', ⟨by first | omega | exact Nat.le_refl _⟩, ⟨by (with_reducible repeat (first |refine zn ?_ _|refine zd ?_|refine za ?_ _)); exact BK137.out⟩, ⟨by repeat (first | (with_reducible first | exact HB.out | apply zB | apply zN | apply zD | refine zS ?_ GE137.out) | exact HB.out)⟩⟩
     ·rw [if_neg c14] at H;have c14b0 : decide (a0_1 < 0) = false := decide_eq_false c14;clear c14;(first | rw [c14b0] | (simp only [i64_w, i32_w]; rw [c14b0]) | skip);have H' := zA H;clear H;have hcz16_0 : w12.cell? ⟨gb137, 0, none⟩ = some (.slice A0_0 l0_0.length c0_0) := (zc BK137.out 0).trans rfl;have hcz16_1 : w12.cell? ⟨gb137, 1, none⟩ = some (.int .i64 a0_1) := (zc BK137.out 1).trans rfl;have hcz16_2 : w12.cell? ⟨gb137, 2, none⟩ = some (.slice A0_2 l0_2.length c0_2) := (zc BK137.out 2).trans rfl;have hfz16_0 := zF BK137.out 0;have hfz16_1 := zF BK137.out 1;have hfz16_2 := zF BK137.out 2
      go_wp2
      go_meet
      case rel => exact ⟨_, (decide (a0_1 ≥ (l0_0.length : Int))), (by first | rfl | (simp; done) | (simp [*]; done)), H', ⟨by first | omega | exact Nat.le_refl _⟩, ⟨by (with_reducible repeat (first |refine zn ?_ _|refine zd ?_|refine za ?_ _)); exact BK137.out⟩, ⟨by repeat (first | (with_reducible first | exact HB.out | apply zB | apply zN | apply zD | refine zS ?_ GE137.out) | exact HB.out)⟩⟩
    case rest =>
     clear HC11;(try clear c1);(try clear c2);(try clear c2b0);(try clear c2b1);(try clear c2b2);(try clear p2);(try clear c5);(try clear c5b0);(try clear c5b1);(try clear c8);(try clear c8b0);(try clear c8b1);(try clear c12);(try clear c14);(try clear c14b0);(try clear hcz10_0);(try clear hcz10_1);(try clear hcz10_2);(try clear hcz13_0);(try clear hcz13_1);(try clear hcz13_2);(try clear hcz15_0);(try clear hcz15_1);(try clear hcz15_2);(try clear hcz16_0);(try clear hcz16_1);(try clear hcz16_2);(try clear hcz4_0);(try clear hcz4_1);(try clear hcz4_2);(try clear hcz7_0);(try clear hcz7_1);(try clear hcz7_2);(try clear hfz10_0);(try clear hfz10_1);(try clear hfz10_2);(try clear hfz13_0);(try clear hfz13_1);(try clear hfz13_2);(try clear hfz15_0);(try clear hfz15_1);(try clear hfz15_2);(try clear hfz16_0);(try clear hfz16_1);(try clear hfz16_2);(try clear hfz4_0);(try clear hfz4_1);(try clear hfz4_2);(try clear hfz7_0);(try clear hfz7_1);(try clear hfz7_2);obtain ⟨kq, x27_10, rfl, HA, HJ10, BK137, HB⟩ := hcut
     cases kq with
     | zero => exact absurd HA.out (by simp [pleatref07_Check.j0])
     | succ kj10 =>
      have H := HA.out;clear HA;simp only [pleatref07_Check.j0] at H
      by_cases c17 : x27_10 = true
      ·subst c17
       have H1 : (some (41, 0)) = some (r1, r2) := by rw [if_pos rfl] at H; exact H
       clear H;have H := H1;clear H1;simp only [Option.some.injEq, Prod.mk.injEq] at H;obtain ⟨rfl, rfl⟩ := H
       go_wp2
       go_ret2
       exact ⟨by first | rfl | (simp <;> rfl) | (simp [*] <;> rfl), by repeat (first | (with_reducible first | exact HB.out | apply zB | apply zN | apply zD | refine zS ?_ GE137.out) | exact HB.out)⟩
      ·replace c17 := Bool.eq_false_iff.mpr c17;subst c17
       have H1 : (pleatref07_Check.l0 kj10 (l0_0.length : Int) 0 l0_0 a0_1 l0_2) = some (r1, r2) := by rw [if_neg (show ¬ (false = true) by decide)] at H; exact H
       clear H;have H := H1;clear H1;have H' := zA H;clear H
       go_wp2
       go_loopg [5] kj10 (fun kq v5 w' => ∃ (x5_2 : Int), v5 = .int .i64 x5_2 ∧ Aside0 (pleatref07_Check.l0 kq (l0_0.length : Int) x5_2 l0_0 a0_1 l0_2 = some (r1, r2)) ∧ Aside0 (kq ≤ kj10) ∧ Aside0 (w'.heap[gb137]? = some (.cells #[(.slice A0_0 l0_0.length c0_0), .int .i64 a0_1, (.slice A0_2 l0_2.length c0_2)] 25 (0, 0))) ∧ Aside0 (Below w.heap.size w w'))
       case atStart => exact ⟨(0), (by first | rfl | (simp; done) | (simp [*]; done)), H', ⟨Nat.le_refl _⟩, ⟨by (with_reducible repeat (first |refine zn ?_ _|refine zd ?_|refine za ?_ _)); exact BK137.out⟩, ⟨by repeat (first | (with_reducible first | exact HB.out | apply zB | apply zN | apply zD | refine zS ?_ GE137.out) | exact HB.out)⟩⟩
       case round =>
        clear H';(try clear c1);(try clear c2);(try clear c2b0);(try clear c2b1);(try clear c2b2);(try clear p2);(try clear c5);(try clear c5b0);(try clear c5b1);(try clear c8);(try clear c8b0);(try clear c8b1);(try clear c12);(try clear c14);(try clear c14b0);(try clear c17);(try clear hcz10_0);(try clear hcz10_1);(try clear hcz10_2);(try clear hcz13_0);(try clear hcz13_1);(try clear hcz13_2);(try clear hcz15_0);(try clear hcz15_1);(try clear hcz15_2);(try clear hcz16_0);(try clear hcz16_1);(try clear hcz16_2);(try clear hcz4_0);(try clear hcz4_1);(try clear hcz4_2);(try clear hcz7_0);(try clear hcz7_1);(try clear hcz7_2);(try clear hfz10_0);(try clear hfz10_1);(try clear hfz10_2);(try clear hfz13_0);(try clear hfz13_1);(try clear hfz13_2);(try clear hfz15_0);(try clear hfz15_1);(try clear hfz15_2);(try clear hfz16_0);(try clear hfz16_1);(try clear hfz16_2);(try clear hfz4_0);(try clear hfz4_1);(try clear hfz4_2);(try clear hfz7_0);(try clear hfz7_1);(try clear hfz7_2);(try clear p2);obtain ⟨x5_2, rfl, HA, HK2, BK137, HB⟩ := hrel
        cases gk with
        | zero => exact absurd HA.out (by simp [pleatref07_Check.l0])
        | succ k2 =>
         have H := HA.out;clear HA;simp only [pleatref07_Check.l0] at H
         by_cases c18 : x5_2 < (l0_0.length : Int)
         ·rw [if_pos c18] at H;have c18b0 : decide (x5_2 < (l0_0.length : Int)) = true := decide_eq_true c18;clear c18
          by_cases c19 : 0 ≤ x5_2
          ·rw [if_pos c19] at H;have c19b0 : decide (0 ≤ x5_2) = true := decide_eq_true c19;clear c19
           by_cases c20 : x5_2 < (l0_0.length : Int)
           ·rw [if_pos c20] at H;have c20b0 : decide (x5_2 < (l0_0.length : Int)) = true := decide_eq_true c20;clear c20;replace H := zi H;obtain ⟨⟨t139, t140⟩, A210, H⟩ := H;replace H : (if t140 = true then (if t139 ≥ (l0_0.length : Int) then (some (22, x5_2)) else (pleatref07_Check.l0 k2 (l0_0.length : Int) (wrap64 (x5_2 + 1)) l0_0 a0_1 l0_2)) else (pleatref07_Check.l0 k2 (l0_0.length : Int) (wrap64 (x5_2 + 1)) l0_0 a0_1 l0_2)) = some (r1, r2) := H;have A21 := zA A210;clear A210
            by_cases c22 : t140 = true
            ·subst c22
             have H1 : (if t139 ≥ (l0_0.length : Int) then (some (22, x5_2)) else (pleatref07_Check.l0 k2 (l0_0.length : Int) (wrap64 (x5_2 + 1)) l0_0 a0_1 l0_2)) = some (r1, r2) := by rw [if_pos rfl] at H; exact H
             clear H;have H := H1;clear H1
             by_cases c23 : t139 ≥ (l0_0.length : Int)
             ·rw [if_pos c23] at H;have c23b0 : decide ((l0_0.length : Int) ≤ t139) = true := decide_eq_true c23;clear c23;simp only [Option.some.injEq, Prod.mk.injEq] at H;obtain ⟨rfl, rfl⟩ := H;have hcz24_0 : wr.cell? ⟨gb137, 0, none⟩ = some (.slice A0_0 l0_0.length c0_0) := (zc BK137.out 0).trans rfl;have hcz24_1 : wr.cell? ⟨gb137, 1, none⟩ = some (.int .i64 a0_1) := (zc BK137.out 1).trans rfl;have hcz24_2 : wr.cell? ⟨gb137, 2, none⟩ = some (.slice A0_2 l0_2.length c0_2) := (zc BK137.out 2).trans rfl;have hfz24_0 := zF BK137.out 0;have hfz24_1 := zF BK137.out 1;have hfz24_2 := zF BK137.out 2;have p138 : 0 ≤ (x5_2 : Int) := zo (by first | (with_reducible assumption) | assumption);have q138 : x5_2 < (l0_0.length : Int) := zo (by first | (with_reducible assumption) | assumption);obtain ⟨ad138, e138, hx138_0⟩ := Kd.at_int HR0_0.out x5_2 p138 q138
              cases e138
              replace hx138_0 := (HB.out.cell (zw w _ hx138_0)).trans hx138_0;replace p138 := eq_true p138;replace q138 := eq_true q138
              go_wp2_with (first | ((with_reducible refine gate_callee (f := 52) rfl ?_); refine goesL_ (some 39) rfl rfl Try.func52 (by kernel_rfl) rfl #[.int .u32 (rd l0_0 x5_2)] rfl (by (try simp only [List.map_toArray, List.map_cons, List.map_nil]); first | done | rfl | (simp only [List.length_drop, List.length_take]; rfl)) ?_; (with_reducible refine (pleatref02_Target.calls k2 (rd l0_0 x5_2) t139 true _ A21.out).mono ?_); rintro e w25 ⟨rfl, hb⟩; refine ⟨_, rfl, ?_⟩; have n0_ := zA (blk_below (g := gb137) (o := .cells #[.slice (some ad138) l0_0.length c0_0, .int .i64 a0_1, .slice A0_2 l0_2.length c0_2] 25 (0, 0)) (by (with_reducible repeat (first |refine zn ?_ _|refine zd ?_|refine za ?_ _)); exact BK137.out) hb); have n1_ := zA (zt (by repeat (first | (with_reducible first | exact HB.out | apply zB | apply zN | apply zD | refine zS ?_ GE137.out) | exact HB.out)) hb); clear BK137; clear HB; have BK137 := n0_; have HB := n1_; clear n0_ n1_; (try clear hb); (try clear hb2); (try clear hk); (try clear hi)))
              go_ret2
              exact ⟨by first | rfl | (simp <;> rfl) | (simp [*] <;> rfl), by repeat (first | (with_reducible first | exact HB.out | apply zB | apply zN | apply zD | refine zS ?_ GE137.out) | exact HB.out)⟩
             ·rw [if_neg c23] at H;have c23b0 : decide ((l0_0.length : Int) ≤ t139) = false := decide_eq_false c23;clear c23;have H' := zA H;clear H;have hcz26_0 : wr.cell? ⟨gb137, 0, none⟩ = some (.slice A0_0 l0_0.length c0_0) := (zc BK137.out 0).trans rfl;have hcz26_1 : wr.cell? ⟨gb137, 1, none⟩ = some (.int .i64 a0_1) := (zc BK137.out 1).trans rfl;have hcz26_2 : wr.cell? ⟨gb137, 2, none⟩ = some (.slice A0_2 l0_2.length c0_2) := (zc BK137.out 2).trans rfl;have hfz26_0 := zF BK137.out 0;have hfz26_1 := zF BK137.out 1;have hfz26_2 := zF BK137.out 2;have p138 : 0 ≤ (x5_2 : Int) := zo (by first | (with_reducible assumption) | assumption);have q138 : x5_2 < (l0_0.length : Int) := zo (by first | (with_reducible assumption) | assumption);obtain ⟨ad138, e138, hx138_0⟩ := Kd.at_int HR0_0.out x5_2 p138 q138
              cases e138
              replace hx138_0 := (HB.out.cell (zw w _ hx138_0)).trans hx138_0;replace p138 := eq_true p138;replace q138 := eq_true q138
              go_wp2_with (first | ((with_reducible refine gate_callee (f := 52) rfl ?_); refine goesL_ (some 39) rfl rfl Try.func52 (by kernel_rfl) rfl #[.int .u32 (rd l0_0 x5_2)] rfl (by (try simp only [List.map_toArray, List.map_cons, List.map_nil]); first | done | rfl | (simp only [List.length_drop, List.length_take]; rfl)) ?_; (with_reducible refine (pleatref02_Target.calls k2 (rd l0_0 x5_2) t139 true _ A21.out).mono ?_); rintro e w27 ⟨rfl, hb⟩; refine ⟨_, rfl, ?_⟩; have n0_ := zA (blk_below (g := gb137) (o := .cells #[.slice (some ad138) l0_0.length c0_0, .int .i64 a0_1, .slice A0_2 l0_2.length c0_2] 25 (0, 0)) (by (with_reducible repeat (first |refine zn ?_ _|refine zd ?_|refine za ?_ _)); exact BK137.out) hb); have n1_ := zA (zt (by repeat (first | (with_reducible first | exact HB.out | apply zB | apply zN | apply zD | refine zS ?_ GE137.out) | exact HB.out)) hb); clear BK137; clear HB; have BK137 := n0_; have HB := n1_; clear n0_ n1_; (try clear hb); (try clear hb2); (try clear hk); (try clear hi)))
              go_roundg k2
              case measure => have := HJ10.out; have := HK2.out; omega
              case rel => exact ⟨(wrap64 (x5_2 + 1)), (by first | rfl | (simp; done) | (simp [*]; done)), H', ⟨by have := HJ10.out; have := HK2.out; omega⟩, ⟨by (with_reducible repeat (first |refine zn ?_ _|refine zd ?_|refine za ?_ _)); exact BK137.out⟩, ⟨by repeat (first | (with_reducible first | exact HB.out | apply zB | apply zN | apply zD | refine zS ?_ GE137.out) | exact HB.out)⟩⟩
            ·replace c22 := Bool.eq_false_iff.mpr c22;subst c22
             have H1 : (pleatref07_Check.l0 k2 (l0_0.length : Int) (wrap64 (x5_2 + 1)) l0_0 a0_1 l0_2) = some (r1, r2) := by rw [if_neg (show ¬ (false = true) by decide)] at H; exact H
             clear H;have H := H1;clear H1;have H' := zA H;clear H;have hcz28_0 : wr.cell? ⟨gb137, 0, none⟩ = some (.slice A0_0 l0_0.length c0_0) := (zc BK137.out 0).trans rfl;have hcz28_1 : wr.cell? ⟨gb137, 1, none⟩ = some (.int .i64 a0_1) := (zc BK137.out 1).trans rfl;have hcz28_2 : wr.cell? ⟨gb137, 2, none⟩ = some (.slice A0_2 l0_2.length c0_2) := (zc BK137.out 2).trans rfl;have hfz28_0 := zF BK137.out 0;have hfz28_1 := zF BK137.out 1;have hfz28_2 := zF BK137.out 2;have p138 : 0 ≤ (x5_2 : Int) := zo (by first | (with_reducible assumption) | assumption);have q138 : x5_2 < (l0_0.length : Int) := zo (by first | (with_reducible assumption) | assumption);obtain ⟨ad138, e138, hx138_0⟩ := Kd.at_int HR0_0.out x5_2 p138 q138
             cases e138
             replace hx138_0 := (HB.out.cell (zw w _ hx138_0)).trans hx138_0;replace p138 := eq_true p138;replace q138 := eq_true q138
             go_wp2_with (first | ((with_reducible refine gate_callee (f := 52) rfl ?_); refine goesL_ (some 39) rfl rfl Try.func52 (by kernel_rfl) rfl #[.int .u32 (rd l0_0 x5_2)] rfl (by (try simp only [List.map_toArray, List.map_cons, List.map_nil]); first | done | rfl | (simp only [List.length_drop, List.length_take]; rfl)) ?_; (with_reducible refine (pleatref02_Target.calls k2 (rd l0_0 x5_2) t139 false _ A21.out).mono ?_); rintro e w29 ⟨rfl, hb⟩; refine ⟨_, rfl, ?_⟩; have n0_ := zA (blk_below (g := gb137) (o := .cells #[.slice (some ad138) l0_0.length c0_0, .int .i64 a0_1, .slice A0_2 l0_2.length c0_2] 25 (0, 0)) (by (with_reducible repeat (first |refine zn ?_ _|refine zd ?_|refine za ?_ _)); exact BK137.out) hb); have n1_ := zA (zt (by repeat (first | (with_reducible first | exact HB.out | apply zB | apply zN | apply zD | refine zS ?_ GE137.out) | exact HB.out)) hb); clear BK137; clear HB; have BK137 := n0_; have HB := n1_; clear n0_ n1_; (try clear hb); (try clear hb2); (try clear hk); (try clear hi)))
             go_roundg k2
             case measure => have := HJ10.out; have := HK2.out; omega
             case rel => exact ⟨(wrap64 (x5_2 + 1)), (by first | rfl | (simp; done) | (simp [*]; done)), H', ⟨by have := HJ10.out; have := HK2.out; omega⟩, ⟨by (with_reducible repeat (first |refine zn ?_ _|refine zd ?_|refine za ?_ _)); exact BK137.out⟩, ⟨by repeat (first | (with_reducible first | exact HB.out | apply zB | apply zN | apply zD | refine zS ?_ GE137.out) | exact HB.out)⟩⟩
           ·rw [if_neg c20] at H;exact absurd H (by simp)
          ·rw [if_neg c19] at H;exact absurd H (by simp)
         ·rw [if_neg c18] at H;have c18b0 : decide (x5_2 < (l0_0.length : Int)) = false := decide_eq_false c18;clear c18;obtain ⟨ji30, hji30⟩ : ∃ j_ : Int, (wrap64 ((l0_0.length : Int) - 1)) = j_ := ⟨_, rfl⟩
          replace H : (if 0 ≤ (ji30) then (if (ji30) < (l0_0.length : Int) then ((pleatref02_Decode.f k2 (rd l0_0 (ji30))).bind fun bt142 => (if bt142.1 = 0 then (some (0, 0)) else (if bt142.1 = 15 then (some (0, 0)) else (if bt142.1 = 19 then (some (0, 0)) else (if bt142.1 = 21 then (some (0, 0)) else (some (50, ji30))))))) else (none)) else (none)) = some (r1, r2) := by first | (rw [hji30] at H; exact H) | (simp only [hji30] at H ⊢; exact H)
          have hji30w : (IntKind.i64.wrap ((l0_0.length : Int) - 1)) = ji30 := (i64_w _).trans hji30
          by_cases c31 : 0 ≤ (ji30)
          ·rw [if_pos c31] at H;have c31b0 : decide (0 ≤ (ji30)) = true := decide_eq_true c31;clear c31
           by_cases c32 : (ji30) < (l0_0.length : Int)
           ·rw [if_pos c32] at H;have c32b0 : decide ((ji30) < (l0_0.length : Int)) = true := decide_eq_true c32;clear c32;replace H := zi H;obtain ⟨⟨t142, t143, t144, t145, t146⟩, A330, H⟩ := H;replace H : (if t142 = 0 then (some (0, 0)) else (if t142 = 15 then (some (0, 0)) else (if t142 = 19 then (some (0, 0)) else (if t142 = 21 then (some (0, 0)) else (some (50, ji30)))))) = some (r1, r2) := H;have A33 := zA A330;clear A330
            by_cases c34 : t142 = 0
            ·rw [if_pos c34] at H;have c34b0 : (t142 == 0) = true := beq_iff_eq.mpr c34;have c34b1 : (t142 != 0) = false := zne c34;clear c34;simp only [Option.some.injEq, Prod.mk.injEq] at H;obtain ⟨rfl, rfl⟩ := H;have hcz35_0 : wr.cell? ⟨gb137, 0, none⟩ = some (.slice A0_0 l0_0.length c0_0) := (zc BK137.out 0).trans rfl;have hcz35_1 : wr.cell? ⟨gb137, 1, none⟩ = some (.int .i64 a0_1) := (zc BK137.out 1).trans rfl;have hcz35_2 : wr.cell? ⟨gb137, 2, none⟩ = some (.slice A0_2 l0_2.length c0_2) := (zc BK137.out 2).trans rfl;have hfz35_0 := zF BK137.out 0;have hfz35_1 := zF BK137.out 1;have hfz35_2 := zF BK137.out 2;have p141 : 0 ≤ ((ji30) : Int) := zo (by first | (with_reducible assumption) | assumption);have q141 : (ji30) < (l0_0.length : Int) := zo (by first | (with_reducible assumption) | assumption);obtain ⟨ad141, e141, hx141_0⟩ := Kd.at_int HR0_0.out (ji30) p141 q141
             cases e141
             replace hx141_0 := (HB.out.cell (zw w _ hx141_0)).trans hx141_0;replace p141 := eq_true p141;replace q141 := eq_true q141
             go_wp2_with (first | ((with_reducible refine gate_callee (f := 66) rfl ?_); refine goesL_ (some 55) rfl rfl Try.func66 (by kernel_rfl) rfl #[.int .u32 (rd l0_0 (ji30))] rfl (by (try simp only [List.map_toArray, List.map_cons, List.map_nil]); first | done | (simp only [hji30]; rfl) | rfl | (simp only [List.length_drop, List.length_take]; rfl)) ?_; (with_reducible refine (pleatref02_Decode.calls k2 (rd l0_0 (ji30)) t142 t143 t144 t145 t146 _ A33.out).mono ?_); rintro e w36 ⟨rfl, hb⟩; refine ⟨_, rfl, ?_⟩; have n0_ := zA (blk_below (g := gb137) (o := .cells #[.slice (some ad141) l0_0.length c0_0, .int .i64 a0_1, .slice A0_2 l0_2.length c0_2] 25 (0, 0)) (by (with_reducible repeat (first |refine zn ?_ _|refine zd ?_|refine za ?_ _)); exact BK137.out) hb); have n1_ := zA (zt (by repeat (first | (with_reducible first | exact HB.out | apply zB | apply zN | apply zD | refine zS ?_ GE137.out) | exact HB.out)) hb); clear BK137; clear HB; have BK137 := n0_; have HB := n1_; clear n0_ n1_; (try clear hb); (try clear hb2); (try clear hk); (try clear hi)))
             go_ret2
             exact ⟨by first | rfl | (simp [errW_none, errW_some] <;> rfl) | (simp only [← hji30]; first | rfl | (simp [errW_none, errW_some] <;> rfl)) | (simp [*, errW_none, errW_some] <;> rfl), by repeat (first | (with_reducible first | exact HB.out | apply zB | apply zN | apply zD | refine zS ?_ GE137.out) | exact HB.out)⟩
            ·rw [if_neg c34] at H;have c34b0 : (t142 == 0) = false := zbe c34;have c34b1 : (t142 != 0) = true := bne_iff_ne.mpr c34
             by_cases c37 : t142 = 15
             ·rw [if_pos c37] at H;have c37b0 : (t142 == 15) = true := beq_iff_eq.mpr c37;have c37b1 : (t142 != 15) = false := zne c37;clear c37;simp only [Option.some.injEq, Prod.mk.injEq] at H;obtain ⟨rfl, rfl⟩ := H;have hcz38_0 : wr.cell? ⟨gb137, 0, none⟩ = some (.slice A0_0 l0_0.length c0_0) := (zc BK137.out 0).trans rfl;have hcz38_1 : wr.cell? ⟨gb137, 1, none⟩ = some (.int .i64 a0_1) := (zc BK137.out 1).trans rfl;have hcz38_2 : wr.cell? ⟨gb137, 2, none⟩ = some (.slice A0_2 l0_2.length c0_2) := (zc BK137.out 2).trans rfl;have hfz38_0 := zF BK137.out 0;have hfz38_1 := zF BK137.out 1;have hfz38_2 := zF BK137.out 2;have p141 : 0 ≤ ((ji30) : Int) := zo (by first | (with_reducible assumption) | assumption);have q141 : (ji30) < (l0_0.length : Int) := zo (by first | (with_reducible assumption) | assumption);obtain ⟨ad141, e141, hx141_0⟩ := Kd.at_int HR0_0.out (ji30) p141 q141
              cases e141
              replace hx141_0 := (HB.out.cell (zw w _ hx141_0)).trans hx141_0;replace p141 := eq_true p141;replace q141 := eq_true q141
              go_wp2_with (first | ((with_reducible refine gate_callee (f := 66) rfl ?_); refine goesL_ (some 55) rfl rfl Try.func66 (by kernel_rfl) rfl #[.int .u32 (rd l0_0 (ji30))] rfl (by (try simp only [List.map_toArray, List.map_cons, List.map_nil]); first | done | (simp only [hji30]; rfl) | rfl | (simp only [List.length_drop, List.length_take]; rfl)) ?_; (with_reducible refine (pleatref02_Decode.calls k2 (rd l0_0 (ji30)) t142 t143 t144 t145 t146 _ A33.out).mono ?_); rintro e w39 ⟨rfl, hb⟩; refine ⟨_, rfl, ?_⟩; have n0_ := zA (blk_below (g := gb137) (o := .cells #[.slice (some ad141) l0_0.length c0_0, .int .i64 a0_1, .slice A0_2 l0_2.length c0_2] 25 (0, 0)) (by (with_reducible repeat (first |refine zn ?_ _|refine zd ?_|refine za ?_ _)); exact BK137.out) hb); have n1_ := zA (zt (by repeat (first | (with_reducible first | exact HB.out | apply zB | apply zN | apply zD | refine zS ?_ GE137.out) | exact HB.out)) hb); clear BK137; clear HB; have BK137 := n0_; have HB := n1_; clear n0_ n1_; (try clear hb); (try clear hb2); (try clear hk); (try clear hi)))
              go_ret2
              exact ⟨by first | rfl | (simp [errW_none, errW_some] <;> rfl) | (simp only [← hji30]; first | rfl | (simp [errW_none, errW_some] <;> rfl)) | (simp [*, errW_none, errW_some] <;> rfl), by repeat (first | (with_reducible first | exact HB.out | apply zB | apply zN | apply zD | refine zS ?_ GE137.out) | exact HB.out)⟩
             ·rw [if_neg c37] at H;have c37b0 : (t142 == 15) = false := zbe c37;have c37b1 : (t142 != 15) = true := bne_iff_ne.mpr c37
              by_cases c40 : t142 = 19
              ·rw [if_pos c40] at H;have c40b0 : (t142 == 19) = true := beq_iff_eq.mpr c40;have c40b1 : (t142 != 19) = false := zne c40;clear c40;simp only [Option.some.injEq, Prod.mk.injEq] at H;obtain ⟨rfl, rfl⟩ := H;have hcz41_0 : wr.cell? ⟨gb137, 0, none⟩ = some (.slice A0_0 l0_0.length c0_0) := (zc BK137.out 0).trans rfl;have hcz41_1 : wr.cell? ⟨gb137, 1, none⟩ = some (.int .i64 a0_1) := (zc BK137.out 1).trans rfl;have hcz41_2 : wr.cell? ⟨gb137, 2, none⟩ = some (.slice A0_2 l0_2.length c0_2) := (zc BK137.out 2).trans rfl;have hfz41_0 := zF BK137.out 0;have hfz41_1 := zF BK137.out 1;have hfz41_2 := zF BK137.out 2;have p141 : 0 ≤ ((ji30) : Int) := zo (by first | (with_reducible assumption) | assumption);have q141 : (ji30) < (l0_0.length : Int) := zo (by first | (with_reducible assumption) | assumption);obtain ⟨ad141, e141, hx141_0⟩ := Kd.at_int HR0_0.out (ji30) p141 q141
               cases e141
               replace hx141_0 := (HB.out.cell (zw w _ hx141_0)).trans hx141_0;replace p141 := eq_true p141;replace q141 := eq_true q141
               go_wp2_with (first | ((with_reducible refine gate_callee (f := 66) rfl ?_); refine goesL_ (some 55) rfl rfl Try.func66 (by kernel_rfl) rfl #[.int .u32 (rd l0_0 (ji30))] rfl (by (try simp only [List.map_toArray, List.map_cons, List.map_nil]); first | done | (simp only [hji30]; rfl) | rfl | (simp only [List.length_drop, List.length_take]; rfl)) ?_; (with_reducible refine (pleatref02_Decode.calls k2 (rd l0_0 (ji30)) t142 t143 t144 t145 t146 _ A33.out).mono ?_); rintro e w42 ⟨rfl, hb⟩; refine ⟨_, rfl, ?_⟩; have n0_ := zA (blk_below (g := gb137) (o := .cells #[.slice (some ad141) l0_0.length c0_0, .int .i64 a0_1, .slice A0_2 l0_2.length c0_2] 25 (0, 0)) (by (with_reducible repeat (first |refine zn ?_ _|refine zd ?_|refine za ?_ _)); exact BK137.out) hb); have n1_ := zA (zt (by repeat (first | (with_reducible first | exact HB.out | apply zB | apply zN | apply zD | refine zS ?_ GE137.out) | exact HB.out)) hb); clear BK137; clear HB; have BK137 := n0_; have HB := n1_; clear n0_ n1_; (try clear hb); (try clear hb2); (try clear hk); (try clear hi)))
               go_ret2
               exact ⟨by first | rfl | (simp [errW_none, errW_some] <;> rfl) | (simp only [← hji30]; first | rfl | (simp [errW_none, errW_some] <;> rfl)) | (simp [*, errW_none, errW_some] <;> rfl), by repeat (first | (with_reducible first | exact HB.out | apply zB | apply zN | apply zD | refine zS ?_ GE137.out) | exact HB.out)⟩
              ·rw [if_neg c40] at H;have c40b0 : (t142 == 19) = false := zbe c40;have c40b1 : (t142 != 19) = true := bne_iff_ne.mpr c40
               by_cases c43 : t142 = 21
               ·rw [if_pos c43] at H;have c43b0 : (t142 == 21) = true := beq_iff_eq.mpr c43;have c43b1 : (t142 != 21) = false := zne c43;clear c43;simp only [Option.some.injEq, Prod.mk.injEq] at H;obtain ⟨rfl, rfl⟩ := H;have hcz44_0 : wr.cell? ⟨gb137, 0, none⟩ = some (.slice A0_0 l0_0.length c0_0) := (zc BK137.out 0).trans rfl;have hcz44_1 : wr.cell? ⟨gb137, 1, none⟩ = some (.int .i64 a0_1) := (zc BK137.out 1).trans rfl;have hcz44_2 : wr.cell? ⟨gb137, 2, none⟩ = some (.slice A0_2 l0_2.length c0_2) := (zc BK137.out 2).trans rfl;have hfz44_0 := zF BK137.out 0;have hfz44_1 := zF BK137.out 1;have hfz44_2 := zF BK137.out 2;have p141 : 0 ≤ ((ji30) : Int) := zo (by first | (with_reducible assumption) | assumption);have q141 : (ji30) < (l0_0.length : Int) := zo (by first | (with_reducible assumption) | assumption);obtain ⟨ad141, e141, hx141_0⟩ := Kd.at_int HR0_0.out (ji30) p141 q141
                cases e141
                replace hx141_0 := (HB.out.cell (zw w _ hx141_0)).trans hx141_0;replace p141 := eq_true p141;replace q141 := eq_true q141
                go_wp2_with (first | ((with_reducible refine gate_callee (f := 66) rfl ?_); refine goesL_ (some 55) rfl rfl Try.func66 (by kernel_rfl) rfl #[.int .u32 (rd l0_0 (ji30))] rfl (by (try simp only [List.map_toArray, List.map_cons, List.map_nil]); first | done | (simp only [hji30]; rfl) | rfl | (simp only [List.length_drop, List.length_take]; rfl)) ?_; (with_reducible refine (pleatref02_Decode.calls k2 (rd l0_0 (ji30)) t142 t143 t144 t145 t146 _ A33.out).mono ?_); rintro e w45 ⟨rfl, hb⟩; refine ⟨_, rfl, ?_⟩; have n0_ := zA (blk_below (g := gb137) (o := .cells #[.slice (some ad141) l0_0.length c0_0, .int .i64 a0_1, .slice A0_2 l0_2.length c0_2] 25 (0, 0)) (by (with_reducible repeat (first |refine zn ?_ _|refine zd ?_|refine za ?_ _)); exact BK137.out) hb); have n1_ := zA (zt (by repeat (first | (with_reducible first | exact HB.out | apply zB | apply zN | apply zD | refine zS ?_ GE137.out) | exact HB.out)) hb); clear BK137; clear HB; have BK137 := n0_; have HB := n1_; clear n0_ n1_; (try clear hb); (try clear hb2); (try clear hk); (try clear hi)))
                go_ret2
                exact ⟨by first | rfl | (simp [errW_none, errW_some] <;> rfl) | (simp only [← hji30]; first | rfl | (simp [errW_none, errW_some] <;> rfl)) | (simp [*, errW_none, errW_some] <;> rfl), by repeat (first | (with_reducible first | exact HB.out | apply zB | apply zN | apply zD | refine zS ?_ GE137.out) | exact HB.out)⟩
               ·rw [if_neg c43] at H;have c43b0 : (t142 == 21) = false := zbe c43;have c43b1 : (t142 != 21) = true := bne_iff_ne.mpr c43;simp only [Option.some.injEq, Prod.mk.injEq] at H;obtain ⟨rfl, rfl⟩ := H;have hcz46_0 : wr.cell? ⟨gb137, 0, none⟩ = some (.slice A0_0 l0_0.length c0_0) := (zc BK137.out 0).trans rfl;have hcz46_1 : wr.cell? ⟨gb137, 1, none⟩ = some (.int .i64 a0_1) := (zc BK137.out 1).trans rfl;have hcz46_2 : wr.cell? ⟨gb137, 2, none⟩ = some (.slice A0_2 l0_2.length c0_2) := (zc BK137.out 2).trans rfl;have hfz46_0 := zF BK137.out 0;have hfz46_1 := zF BK137.out 1;have hfz46_2 := zF BK137.out 2;have p141 : 0 ≤ ((ji30) : Int) := zo (by first | (with_reducible assumption) | assumption);have q141 : (ji30) < (l0_0.length : Int) := zo (by first | (with_reducible assumption) | assumption);obtain ⟨ad141, e141, hx141_0⟩ := Kd.at_int HR0_0.out (ji30) p141 q141
                cases e141
                replace hx141_0 := (HB.out.cell (zw w _ hx141_0)).trans hx141_0;replace p141 := eq_true p141;replace q141 := eq_true q141
                go_wp2_with (first | ((with_reducible refine gate_callee (f := 66) rfl ?_); refine goesL_ (some 55) rfl rfl Try.func66 (by kernel_rfl) rfl #[.int .u32 (rd l0_0 (ji30))] rfl (by (try simp only [List.map_toArray, List.map_cons, List.map_nil]); first | done | (simp only [hji30]; rfl) | rfl | (simp only [List.length_drop, List.length_take]; rfl)) ?_; (with_reducible refine (pleatref02_Decode.calls k2 (rd l0_0 (ji30)) t142 t143 t144 t145 t146 _ A33.out).mono ?_); rintro e w47 ⟨rfl, hb⟩; refine ⟨_, rfl, ?_⟩; have n0_ := zA (blk_below (g := gb137) (o := .cells #[.slice (some ad141) l0_0.length c0_0, .int .i64 a0_1, .slice A0_2 l0_2.length c0_2] 25 (0, 0)) (by (with_reducible repeat (first |refine zn ?_ _|refine zd ?_|refine za ?_ _)); exact BK137.out) hb); have n1_ := zA (zt (by repeat (first | (with_reducible first | exact HB.out | apply zB | apply zN | apply zD | refine zS ?_ GE137.out) | exact HB.out)) hb); clear BK137; clear HB; have BK137 := n0_; have HB := n1_; clear n0_ n1_; (try clear hb); (try clear hb2); (try clear hk); (try clear hi)))
                go_ret2
                exact ⟨by first | rfl | (simp [errW_none, errW_some] <;> rfl) | (simp only [← hji30]; first | rfl | (simp [errW_none, errW_some] <;> rfl)) | (simp [*, errW_none, errW_some] <;> rfl), by repeat (first | (with_reducible first | exact HB.out | apply zB | apply zN | apply zD | refine zS ?_ GE137.out) | exact HB.out)⟩
           ·rw [if_neg c32] at H;exact absurd H (by simp)
          ·rw [if_neg c31] at H;exact absurd H (by simp)
end Go.Proofs.Ytfgdjpgdabjpmaa.PEdgeLists
