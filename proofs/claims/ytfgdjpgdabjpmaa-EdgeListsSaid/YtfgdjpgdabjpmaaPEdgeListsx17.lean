-- SLIM: printed, then laid small (wip/tools/slimclaim.py).
import Derived.Test.YtfgdjpgdabjpmaaPEdgeListsx0
import Derived.Test.YtfgdjpgdabjpmaaPEdgeListsx4
namespace Go.Proofs.Ytfgdjpgdabjpmaa.PEdgeLists
open Go.RowKit Go.Proofs.YtfgdjpgdabjpmaaW.PrintWords Go.Proofs.YtfgdjpgdabjpmaaW.PrintLast Go.Proofs.YtfgdjpgdabjpmaaW.PrintMore
attribute [local go_sem] max2_int min2_int max_two min_two max_three min_three max_four min_four   -- for this text's walks alone
set_option linter.unusedVariables false
set_option linter.unusedSimpArgs false
mutual
def pleatref12_goes.j0 : Nat → Bool → Int → Bool → Int → Bool → Int → Int → Int → Int → Int → Option (Bool)
 | 0, _, _, _, _, _, _, _, _, _, _ => none
 | k + 1, x1, x2, x3, x13, x14, x281000, x281001, x281002, x281003, x281004 => if x14 = true then (some false) else (if x13 = 15 then (pleatref12_goes.j1 k x1 x2 x3 x13 (x13 == 15) x281000 x281001 x281002 x281003 x281004) else (pleatref12_goes.j1 k x1 x2 x3 x13 (x13 == 17) x281000 x281001 x281002 x281003 x281004))
def pleatref12_goes.j1 : Nat → Bool → Int → Bool → Int → Bool → Int → Int → Int → Int → Int → Option (Bool)
 | 0, _, _, _, _, _, _, _, _, _, _ => none
 | k + 1, x1, x2, x3, x13, x18, x281000, x281001, x281002, x281003, x281004 => if x18 = true then (some (x281004 == x2)) else (if x13 = 16 then (if x281004 = x2 then (some true) else (some x1)) else (if x13 = 18 then (some x3) else (if x13 = 19 then (some x3) else (some x1))))
end
def pleatref12_goes.f (k : Nat) (a0 : Int) (a1 : Bool) (a2 : Int) (a3 : Bool) : Option (Bool) := (pleatref02_Decode.f k a0).bind fun bt275 => (if bt275.1 = (-1) then (pleatref12_goes.j0 k a1 a2 a3 bt275.1 (bt275.1 == (-1)) bt275.1 bt275.2.1 bt275.2.2.1 bt275.2.2.2.1 bt275.2.2.2.2) else (if bt275.1 = 0 then (pleatref12_goes.j0 k a1 a2 a3 bt275.1 (bt275.1 == 0) bt275.1 bt275.2.1 bt275.2.2.1 bt275.2.2.2.1 bt275.2.2.2.2) else (pleatref12_goes.j0 k a1 a2 a3 bt275.1 (bt275.1 == 21) bt275.1 bt275.2.1 bt275.2.2.1 bt275.2.2.2.1 bt275.2.2.2.2)))
theorem pleatref12_goes.mono_l : ∀ k, (∀ y0 y1 y2 y3 y4 y5 y6 y7 y8 y9, LeO (pleatref12_goes.j0 k y0 y1 y2 y3 y4 y5 y6 y7 y8 y9) (pleatref12_goes.j0 (k + 1) y0 y1 y2 y3 y4 y5 y6 y7 y8 y9)) ∧ (∀ y0 y1 y2 y3 y4 y5 y6 y7 y8 y9, LeO (pleatref12_goes.j1 k y0 y1 y2 y3 y4 y5 y6 y7 y8 y9) (pleatref12_goes.j1 (k + 1) y0 y1 y2 y3 y4 y5 y6 y7 y8 y9))
 | 0 => ⟨fun _ _ _ _ _ _ _ _ _ _ r h => by simp [pleatref12_goes.j0] at h, fun _ _ _ _ _ _ _ _ _ _ r h => by simp [pleatref12_goes.j1] at h⟩
 | k + 1 => by
  obtain ⟨ih0, ih1⟩ := pleatref12_goes.mono_l k;refine ⟨?_, ?_⟩
  ·intro y0 y1 y2 y3 y4 y5 y6 y7 y8 y9
   unfold pleatref12_goes.j0
   repeat' first
   | (with_reducible exact ih0 _ _ _ _ _ _ _ _ _ _)
   | (with_reducible exact ih1 _ _ _ _ _ _ _ _ _ _)
   | (with_reducible exact pleatref02_Decode.mono _ _)
   | (with_reducible exact LeO.refl _)
   | (with_reducible exact LeO.none _)
   | (with_reducible refine LeO.ite ?_ ?_)
   | (with_reducible refine LeO.bind ?_ (fun _ => ?_))
   | exact ih0 _ _ _ _ _ _ _ _ _ _
   | exact ih1 _ _ _ _ _ _ _ _ _ _
   | exact pleatref02_Decode.mono _ _
   | exact LeO.none _
   | refine LeO.ite ?_ ?_
   | refine LeO.bind ?_ (fun _ => ?_)
  ·intro y0 y1 y2 y3 y4 y5 y6 y7 y8 y9
   unfold pleatref12_goes.j1
   repeat' first
   | (with_reducible exact ih0 _ _ _ _ _ _ _ _ _ _)
   | (with_reducible exact ih1 _ _ _ _ _ _ _ _ _ _)
   | (with_reducible exact pleatref02_Decode.mono _ _)
   | (with_reducible exact LeO.refl _)
   | (with_reducible exact LeO.none _)
   | (with_reducible refine LeO.ite ?_ ?_)
   | (with_reducible refine LeO.bind ?_ (fun _ => ?_))
   | exact ih0 _ _ _ _ _ _ _ _ _ _
   | exact ih1 _ _ _ _ _ _ _ _ _ _
   | exact pleatref02_Decode.mono _ _
   | exact LeO.none _
   | refine LeO.ite ?_ ?_
   | refine LeO.bind ?_ (fun _ => ?_)
theorem pleatref12_goes.mono : ∀ a0 a1 a2 a3 k, LeO (pleatref12_goes.f k a0 a1 a2 a3) (pleatref12_goes.f (k + 1) a0 a1 a2 a3) := by
 intro a0 a1 a2 a3 k;obtain ⟨ih0, ih1⟩ := pleatref12_goes.mono_l k
 unfold pleatref12_goes.f
 repeat' first
   | (with_reducible exact ih0 _ _ _ _ _ _ _ _ _ _)
   | (with_reducible exact ih1 _ _ _ _ _ _ _ _ _ _)
   | (with_reducible exact pleatref02_Decode.mono _ _)
   | (with_reducible exact LeO.refl _)
   | (with_reducible exact LeO.none _)
   | (with_reducible refine LeO.ite ?_ ?_)
   | (with_reducible refine LeO.bind ?_ (fun _ => ?_))
   | exact ih0 _ _ _ _ _ _ _ _ _ _
   | exact ih1 _ _ _ _ _ _ _ _ _ _
   | exact pleatref02_Decode.mono _ _
   | exact LeO.none _
   | refine LeO.ite ?_ ?_
   | refine LeO.bind ?_ (fun _ => ?_)
set_option maxHeartbeats 8000000 in
set_option maxRecDepth 100000 in
theorem pleatref12_goes.calls (k : Nat) (a0 : Int) (a1 : Bool) (a2 : Int) (a3 : Bool) (r : Bool) (w : World) (h : pleatref12_goes.f k a0 a1 a2 a3 = some r) :
  Calls Try.prog 90 #[.int .u32 a0, .bool a1, .int .i64 a2, .bool a3] w fun e w' => e = .returned (.bool r) ∧ Below w.heap.size w w' := by
 have hu36 := Try.underlying36;have HB := zA (Below.refl w.heap.size w);have H : ((pleatref02_Decode.f k a0).bind fun bt275 => (if bt275.1 = (-1) then (pleatref12_goes.j0 k a1 a2 a3 bt275.1 (bt275.1 == (-1)) bt275.1 bt275.2.1 bt275.2.2.1 bt275.2.2.2.1 bt275.2.2.2.2) else (if bt275.1 = 0 then (pleatref12_goes.j0 k a1 a2 a3 bt275.1 (bt275.1 == 0) bt275.1 bt275.2.1 bt275.2.2.1 bt275.2.2.2.1 bt275.2.2.2.2) else (pleatref12_goes.j0 k a1 a2 a3 bt275.1 (bt275.1 == 21) bt275.1 bt275.2.1 bt275.2.2.1 bt275.2.2.2.1 bt275.2.2.2.2)))) = some r := h;clear h;replace H := zi H;obtain ⟨⟨t275, t276, t277, t278, t279⟩, A50, H⟩ := H;replace H : (if t275 = (-1) then (pleatref12_goes.j0 k a1 a2 a3 t275 (t275 == (-1)) t275 t276 t277 t278 t279) else (if t275 = 0 then (pleatref12_goes.j0 k a1 a2 a3 t275 (t275 == 0) t275 t276 t277 t278 t279) else (pleatref12_goes.j0 k a1 a2 a3 t275 (t275 == 21) t275 t276 t277 t278 t279))) = some r := H;have A5 := zA A50;clear A50;have HC6 := zA H;clear H
 go_enter Try.func90, Try.ntmps90
 go_upto_if 14 with (first | ((with_reducible refine gate_callee (f := 66) rfl ?_); refine goesL_ (some 11) rfl rfl Try.func66 (by kernel_rfl) rfl #[.int .u32 a0] rfl (by (try simp only [List.map_toArray, List.map_cons, List.map_nil]); first | done | rfl | (simp only [List.length_drop, List.length_take]; rfl)) ?_; (with_reducible refine (pleatref02_Decode.calls k a0 t275 t276 t277 t278 t279 _ A5.out).mono ?_); rintro e w7 ⟨rfl, hb⟩; refine ⟨_, rfl, ?_⟩; have n0_ := zA (zt (by repeat (first | (with_reducible first | exact HB.out | apply zB | apply zN | apply zD) | exact HB.out)) hb); clear HB; have HB := n0_; clear n0_; (try clear hb); (try clear hb2); (try clear hk); (try clear hi)) | ((with_reducible refine gate_dst (N := 9) rfl ?_); refine box_event ?hg (N := 9) ?hd (cs := #[.int .i8 0, .int .i8 0, .int .i8 0, .int .i8 0, .int .i64 0]) (t := 36) ?hr ?_; (case hd => rfl); (case hg => rfl); (case hr => first | (go_simp; done) | (go_simp; rfl)); intro gb280 hg w8 hbox hb; have n0_ := zA (zt (by repeat (first | (with_reducible first | exact HB.out | apply zB | apply zN | apply zD) | exact HB.out)) hb); have n1_ := zA (hbox); have n2_ := zA ((by rw [hg]; exact (below_size (by repeat (first | (with_reducible first | exact HB.out | apply zB | apply zN | apply zD) | exact HB.out))) : w.heap.size ≤ gb280)); have n3_ := zA ((by rw [hg]; exact (below_size (by repeat (first | (with_reducible first | exact HB.out | apply zB | apply zN | apply zD) | exact HB.out))) : w.heap.size ≤ gb280)); clear HB; have HB := n0_; have BK280 := n1_; have GW280 := n2_; have GE280 := n3_; clear n0_ n1_ n2_ n3_; clear hb hbox hg; have hcz9_0 : w8.cell? ⟨gb280, 0, none⟩ = some (.int .i8 0) := (zc BK280.out 0).trans rfl; have hcz9_1 : w8.cell? ⟨gb280, 1, none⟩ = some (.int .i8 0) := (zc BK280.out 1).trans rfl; have hcz9_2 : w8.cell? ⟨gb280, 2, none⟩ = some (.int .i8 0) := (zc BK280.out 2).trans rfl; have hcz9_3 : w8.cell? ⟨gb280, 3, none⟩ = some (.int .i8 0) := (zc BK280.out 3).trans rfl; have hcz9_4 : w8.cell? ⟨gb280, 4, none⟩ = some (.int .i64 0) := (zc BK280.out 4).trans rfl; have hfz9_0 := zF BK280.out 0; have hfz9_1 := zF BK280.out 1; have hfz9_2 := zF BK280.out 2; have hfz9_3 := zF BK280.out 3; have hfz9_4 := zF BK280.out 4))
 (try simp only [Act.put, List.setIfInBounds_toArray, List.set_cons_zero, List.set_cons_succ])
 go_cut [14] (fun v14 wc => ∃ (kq : Nat) (x14_5 : Bool), v14 = .bool x14_5 ∧ Aside0 (pleatref12_goes.j0 kq a1 a2 a3 t275 x14_5 t275 t276 t277 t278 t279 = some r) ∧ Aside0 (kq ≤ k) ∧ Aside0 (wc.heap[gb280]? = some (.cells #[.int .i8 t275, .int .i8 t276, .int .i8 t277, .int .i8 t278, .int .i64 t279] 36 (0, 0))) ∧ Aside0 (Below w.heap.size w wc))
 case first =>
  have H := HC6.out;clear HC6
  by_cases c10 : t275 = (-1)
  ·rw [if_pos c10] at H;have c10b0 : (t275 == (-1)) = true := beq_iff_eq.mpr c10;have c10b1 : (t275 != (-1)) = false := zne c10;clear c10;(first | rw [c10b0] | (simp only [i64_w, i32_w]; rw [c10b0]) | skip);have H' := zA H;clear H
   go_wp2
   go_meet
   case rel => exact ⟨_, ((t275 == (-1))), (by first | rfl | (simp; done) | (simp [*]; done)), H', ⟨by first | omega | exact Nat.le_refl _⟩, ⟨by (with_reducible repeat (first |refine zn ?_ _|refine zd ?_|refine za ?_ _)); refine blk_put (cs := #[.int .i8 t275, .int .i8 t276, .int .i8 t277, .int .i8 t278, .int .i64 0]) ?_ 4 _ rfl; (with_reducible repeat (first |refine zn ?_ _|refine zd ?_|refine za ?_ _)); refine blk_put (cs := #[.int .i8 t275, .int .i8 t276, .int .i8 t277, .int .i8 0, .int .i64 0]) ?_ 3 _ rfl; (with_reducible repeat (first |refine zn ?_ _|refine zd ?_|refine za ?_ _)); refine blk_put (cs := #[.int .i8 t275, .int .i8 t276, .int .i8 0, .int .i8 0, .int .i64 0]) ?_ 2 _ rfl; (with_reducible repeat (first |refine zn ?_ _|refine zd ?_|refine za ?_ _)); refine blk_put (cs := #[.int .i8 t275, .int .i8 0, .int .i8 0, .int .i8 0, .int .i64 0]) ?_ 1 _ rfl; (with_reducible repeat (first |refine zn ?_ _|refine zd ?_|refine za ?_ _)); refine blk_put (cs := #[.int .i8 0, .int .i8 0, .int .i8 0, .int .i8 0, .int .i64 0]) ?_ 0 _ rfl; (with_reducible repeat (first |refine zn ?_ _|refine zd ?_|refine za ?_ _)); exact BK280.out⟩, ⟨by repeat (first | (with_reducible first | exact HB.out | apply zB | apply zN | apply zD | refine zS ?_ GE280.out) | exact HB.out)⟩⟩
  ·rw [if_neg c10] at H;have c10b0 : (t275 == (-1)) = false := zbe c10;have c10b1 : (t275 != (-1)) = true := bne_iff_ne.mpr c10;(first | rw [c10b0] | (simp only [i64_w, i32_w]; rw [c10b0]) | skip)
   by_cases c11 : t275 = 0
   ·rw [if_pos c11] at H;have c11b0 : (t275 == 0) = true := beq_iff_eq.mpr c11;have c11b1 : (t275 != 0) = false := zne c11;clear c11;have H' := zA H;clear H
    go_wp2
    go_meet
    case rel => exact ⟨_, ((t275 == 0)), (by first | rfl | (simp; done) | (simp [*]; done)), H', ⟨by first | omega | exact Nat.le_refl _⟩, ⟨by (with_reducible repeat (first |refine zn ?_ _|refine zd ?_|refine za ?_ _)); refine blk_put (cs := #[.int .i8 t275, .int .i8 t276, .int .i8 t277, .int .i8 t278, .int .i64 0]) ?_ 4 _ rfl; (with_reducible repeat (first |refine zn ?_ _|refine zd ?_|refine za ?_ _)); refine blk_put (cs := #[.int .i8 t275, .int .i8 t276, .int .i8 t277, .int .i8 0, .int .i64 0]) ?_ 3 _ rfl; (with_reducible repeat (first |refine zn ?_ _|refine zd ?_|refine za ?_ _)); refine blk_put (cs := #[.int .i8 t275, .int .i8 t276, .int .i8 0, .int .i8 0, .int .i64 0]) ?_ 2 _ rfl; (with_reducible repeat (first |refine zn ?_ _|refine zd ?_|refine za ?_ _)); refine blk_put (cs := #[.int .i8 t275, .int .i8 0, .int .i8 0, .int .i8 0, .int .i64 0]) ?_ 1 _ rfl; (with_reducible repeat (first |refine zn ?_ _|refine zd ?_|refine za ?_ _)); refine blk_put (cs := #[.int .i8 0, .int .i8 0, .int .i8 0, .int .i8 0, .int .i64 0]) ?_ 0 _ rfl; (with_reducible repeat (first |refine zn ?_ _|refine zd ?_|refine za ?_ _)); exact BK280.out⟩, ⟨by repeat (first | (with_reducible first | exact HB.out | apply zB | apply zN | apply zD | refine zS ?_ GE280.out) | exact HB.out)⟩⟩
   ·rw [if_neg c11] at H;have c11b0 : (t275 == 0) = false := zbe c11;have c11b1 : (t275 != 0) = true := bne_iff_ne.mpr c11;have H' := zA H;clear H
    go_wp2
    go_meet
    case rel => exact ⟨_, ((t275 == 21)), (by first | rfl | (simp; done) | (simp [*]; done)), H', ⟨by first | omega | exact Nat.le_refl _⟩, ⟨by (with_reducible repeat (first |refine zn ?_ _|refine zd ?_|refine za ?_ _)); refine blk_put (cs := #[.int .i8 t275, .int .i8 t276, .int .i8 t277, .int .i8 t278, .int .i64 0]) ?_ 4 _ rfl; (with_reducible repeat (first |refine zn ?_ _|refine zd ?_|refine za ?_ _)); refine blk_put (cs := #[.int .i8 t275, .int .i8 t276, .int .i8 t277, .int .i8 0, .int .i64 0]) ?_ 3 _ rfl; (with_reducible repeat (first |refine zn ?_ _|refine zd ?_|refine za ?_ _)); refine blk_put (cs := #[.int .i8 t275, .int .i8 t276, .int .i8 0, .int .i8 0, .int .i64 0]) ?_ 2 _ rfl; (with_reducible repeat (first |refine zn ?_ _|refine zd ?_|refine za ?_ _)); refine blk_put (cs := #[.int .i8 t275, .int .i8 0, .int .i8 0, .int .i8 0, .int .i64 0]) ?_ 1 _ rfl; (with_reducible repeat (first |refine zn ?_ _|refine zd ?_|refine za ?_ _)); refine blk_put (cs := #[.int .i8 0, .int .i8 0, .int .i8 0, .int .i8 0, .int .i64 0]) ?_ 0 _ rfl; (with_reducible repeat (first |refine zn ?_ _|refine zd ?_|refine za ?_ _)); exact BK280.out⟩, ⟨by repeat (first | (with_reducible first | exact HB.out | apply zB | apply zN | apply zD | refine zS ?_ GE280.out) | exact HB.out)⟩⟩
 case rest =>
  clear HC6;(try clear c1);(try clear p2);(try clear c6);(try clear c9);(try clear c10);(try clear c10b0);(try clear c10b1);(try clear c11);(try clear c11b0);(try clear c11b1);(try clear hcz9_0);(try clear hcz9_1);(try clear hcz9_2);(try clear hcz9_3);(try clear hcz9_4);(try clear hfz9_0);(try clear hfz9_1);(try clear hfz9_2);(try clear hfz9_3);(try clear hfz9_4);obtain ⟨kq, x14_5, rfl, HA, HJ5, BK280, HB⟩ := hcut
  cases kq with
  | zero => exact absurd HA.out (by simp [pleatref12_goes.j0])
  | succ kj5 =>
   have H := HA.out;clear HA;simp only [pleatref12_goes.j0] at H
   by_cases c12 : x14_5 = true
   ·subst c12
    have H1 : (some false) = some r := by rw [if_pos rfl] at H; exact H
    clear H;have H := H1;clear H1;obtain rfl := zj H
    go_wp2
    go_ret
    exact ⟨by first | rfl | (simp <;> rfl) | (simp [*] <;> rfl), by repeat (first | (with_reducible first | exact HB.out | apply zB | apply zN | apply zD | refine zS ?_ GE280.out) | exact HB.out)⟩
   ·replace c12 := Bool.eq_false_iff.mpr c12;subst c12
    have H1 : (if t275 = 15 then (pleatref12_goes.j1 kj5 a1 a2 a3 t275 (t275 == 15) t275 t276 t277 t278 t279) else (pleatref12_goes.j1 kj5 a1 a2 a3 t275 (t275 == 17) t275 t276 t277 t278 t279)) = some r := by rw [if_neg (show ¬ (false = true) by decide)] at H; exact H
    clear H;have H := H1;clear H1;have HC13 := zA H;clear H
    go_upto_if 18 with (fail)
    go_cut [18] (fun v18 wc => ∃ (kq : Nat) (x18_12 : Bool), v18 = .bool x18_12 ∧ Aside0 (pleatref12_goes.j1 kq a1 a2 a3 t275 x18_12 t275 t276 t277 t278 t279 = some r) ∧ Aside0 (kq ≤ kj5) ∧ Aside0 (wc.heap[gb280]? = some (.cells #[.int .i8 t275, .int .i8 t276, .int .i8 t277, .int .i8 t278, .int .i64 t279] 36 (0, 0))) ∧ Aside0 (Below w.heap.size w wc))
    case first =>
     have H := HC13.out;clear HC13
     by_cases c14 : t275 = 15
     ·rw [if_pos c14] at H;have c14b0 : (t275 == 15) = true := beq_iff_eq.mpr c14;have c14b1 : (t275 != 15) = false := zne c14;clear c14;(first | rw [c14b0] | (simp only [i64_w, i32_w]; rw [c14b0]) | skip);have H' := zA H;clear H
      go_wp2
      go_meet
      case rel => exact ⟨_, ((t275 == 15)), (by first | rfl | (simp; done) | (simp [*]; done)), H', ⟨by have := HJ5.out; first | omega | exact Nat.le_refl _⟩, ⟨by (with_reducible repeat (first |refine zn ?_ _|refine zd ?_|refine za ?_ _)); exact BK280.out⟩, ⟨by repeat (first | (with_reducible first | exact HB.out | apply zB | apply zN | apply zD | refine zS ?_ GE280.out) | exact HB.out)⟩⟩
     ·rw [if_neg c14] at H;have c14b0 : (t275 == 15) = false := zbe c14;have c14b1 : (t275 != 15) = true := bne_iff_ne.mpr c14;(first | rw [c14b0] | (simp only [i64_w, i32_w]; rw [c14b0]) | skip);have H' := zA H;clear H
      go_wp2
      go_meet
      case rel => exact ⟨_, ((t275 == 17)), (by first | rfl | (simp; done) | (simp [*]; done)), H', ⟨by have := HJ5.out; first | omega | exact Nat.le_refl _⟩, ⟨by (with_reducible repeat (first |refine zn ?_ _|refine zd ?_|refine za ?_ _)); exact BK280.out⟩, ⟨by repeat (first | (with_reducible first | exact HB.out | apply zB | apply zN | apply zD | refine zS ?_ GE280.out) | exact HB.out)⟩⟩
    case rest =>
     clear HC13;(try clear c1);(try clear p2);(try clear c6);(try clear c9);(try clear c10);(try clear c10b0);(try clear c10b1);(try clear c11);(try clear c11b0);(try clear c11b1);(try clear c12);(try clear c14);(try clear c14b0);(try clear c14b1);(try clear hcz9_0);(try clear hcz9_1);(try clear hcz9_2);(try clear hcz9_3);(try clear hcz9_4);(try clear hfz9_0);(try clear hfz9_1);(try clear hfz9_2);(try clear hfz9_3);(try clear hfz9_4);(try clear p2);obtain ⟨kq, x18_12, rfl, HA, HJ12, BK280, HB⟩ := hcut
     cases kq with
     | zero => exact absurd HA.out (by simp [pleatref12_goes.j1])
     | succ kj12 =>
      have H := HA.out;clear HA;simp only [pleatref12_goes.j1] at H
      by_cases c15 : x18_12 = true
      ·subst c15
       have H1 : (some (t279 == a2)) = some r := by rw [if_pos rfl] at H; exact H
       clear H;have H := H1;clear H1;obtain rfl := zj H;have hcz16_0 : wc.cell? ⟨gb280, 0, none⟩ = some (.int .i8 t275) := (zc BK280.out 0).trans rfl;have hcz16_1 : wc.cell? ⟨gb280, 1, none⟩ = some (.int .i8 t276) := (zc BK280.out 1).trans rfl;have hcz16_2 : wc.cell? ⟨gb280, 2, none⟩ = some (.int .i8 t277) := (zc BK280.out 2).trans rfl;have hcz16_3 : wc.cell? ⟨gb280, 3, none⟩ = some (.int .i8 t278) := (zc BK280.out 3).trans rfl;have hcz16_4 : wc.cell? ⟨gb280, 4, none⟩ = some (.int .i64 t279) := (zc BK280.out 4).trans rfl;have hfz16_0 := zF BK280.out 0;have hfz16_1 := zF BK280.out 1;have hfz16_2 := zF BK280.out 2;have hfz16_3 := zF BK280.out 3;have hfz16_4 := zF BK280.out 4
       go_wp2
       go_ret
       exact ⟨by first | rfl | (simp <;> rfl) | (simp [*] <;> rfl), by repeat (first | (with_reducible first | exact HB.out | apply zB | apply zN | apply zD | refine zS ?_ GE280.out) | exact HB.out)⟩
      ·replace c15 := Bool.eq_false_iff.mpr c15;subst c15
       have H1 : (if t275 = 16 then (if t279 = a2 then (some true) else (some a1)) else (if t275 = 18 then (some a3) else (if t275 = 19 then (some a3) else (some a1)))) = some r := by rw [if_neg (show ¬ (false = true) by decide)] at H; exact H
       clear H;have H := H1;clear H1
       by_cases c17 : t275 = 16
       ·rw [if_pos c17] at H;have c17b0 : (t275 == 16) = true := beq_iff_eq.mpr c17;have c17b1 : (t275 != 16) = false := zne c17;clear c17
        by_cases c18 : t279 = a2
        ·rw [if_pos c18] at H;have c18b0 : (t279 == a2) = true := beq_iff_eq.mpr c18;have c18b1 : (t279 != a2) = false := zne c18;clear c18;obtain rfl := zj H;have hcz19_0 : wc.cell? ⟨gb280, 0, none⟩ = some (.int .i8 t275) := (zc BK280.out 0).trans rfl;have hcz19_1 : wc.cell? ⟨gb280, 1, none⟩ = some (.int .i8 t276) := (zc BK280.out 1).trans rfl;have hcz19_2 : wc.cell? ⟨gb280, 2, none⟩ = some (.int .i8 t277) := (zc BK280.out 2).trans rfl;have hcz19_3 : wc.cell? ⟨gb280, 3, none⟩ = some (.int .i8 t278) := (zc BK280.out 3).trans rfl;have hcz19_4 : wc.cell? ⟨gb280, 4, none⟩ = some (.int .i64 t279) := (zc BK280.out 4).trans rfl;have hfz19_0 := zF BK280.out 0;have hfz19_1 := zF BK280.out 1;have hfz19_2 := zF BK280.out 2;have hfz19_3 := zF BK280.out 3;have hfz19_4 := zF BK280.out 4
         go_wp2
         go_ret
         exact ⟨by first | rfl | (simp <;> rfl) | (simp [*] <;> rfl), by repeat (first | (with_reducible first | exact HB.out | apply zB | apply zN | apply zD | refine zS ?_ GE280.out) | exact HB.out)⟩
        ·rw [if_neg c18] at H;have c18b0 : (t279 == a2) = false := zbe c18;have c18b1 : (t279 != a2) = true := bne_iff_ne.mpr c18;obtain rfl := zj H;have hcz20_0 : wc.cell? ⟨gb280, 0, none⟩ = some (.int .i8 t275) := (zc BK280.out 0).trans rfl;have hcz20_1 : wc.cell? ⟨gb280, 1, none⟩ = some (.int .i8 t276) := (zc BK280.out 1).trans rfl;have hcz20_2 : wc.cell? ⟨gb280, 2, none⟩ = some (.int .i8 t277) := (zc BK280.out 2).trans rfl;have hcz20_3 : wc.cell? ⟨gb280, 3, none⟩ = some (.int .i8 t278) := (zc BK280.out 3).trans rfl;have hcz20_4 : wc.cell? ⟨gb280, 4, none⟩ = some (.int .i64 t279) := (zc BK280.out 4).trans rfl;have hfz20_0 := zF BK280.out 0;have hfz20_1 := zF BK280.out 1;have hfz20_2 := zF BK280.out 2;have hfz20_3 := zF BK280.out 3;have hfz20_4 := zF BK280.out 4
         go_wp2
         go_ret
         exact ⟨by first | rfl | (simp <;> rfl) | (simp [*] <;> rfl), by repeat (first | (with_reducible first | exact HB.out | apply zB | apply zN | apply zD | refine zS ?_ GE280.out) | exact HB.out)⟩
       ·rw [if_neg c17] at H;have c17b0 : (t275 == 16) = false := zbe c17;have c17b1 : (t275 != 16) = true := bne_iff_ne.mpr c17
        by_cases c21 : t275 = 18
        ·rw [if_pos c21] at H;have c21b0 : (t275 == 18) = true := beq_iff_eq.mpr c21;have c21b1 : (t275 != 18) = false := zne c21;clear c21;obtain rfl := zj H
         go_wp2
         go_ret
         exact ⟨by first | rfl | (simp <;> rfl) | (simp [*] <;> rfl), by repeat (first | (with_reducible first | exact HB.out | apply zB | apply zN | apply zD | refine zS ?_ GE280.out) | exact HB.out)⟩
        ·rw [if_neg c21] at H;have c21b0 : (t275 == 18) = false := zbe c21;have c21b1 : (t275 != 18) = true := bne_iff_ne.mpr c21
         by_cases c22 : t275 = 19
         ·rw [if_pos c22] at H;have c22b0 : (t275 == 19) = true := beq_iff_eq.mpr c22;have c22b1 : (t275 != 19) = false := zne c22;clear c22;obtain rfl := zj H
          go_wp2
          go_ret
          exact ⟨by first | rfl | (simp <;> rfl) | (simp [*] <;> rfl), by repeat (first | (with_reducible first | exact HB.out | apply zB | apply zN | apply zD | refine zS ?_ GE280.out) | exact HB.out)⟩
         ·rw [if_neg c22] at H;have c22b0 : (t275 == 19) = false := zbe c22;have c22b1 : (t275 != 19) = true := bne_iff_ne.mpr c22;obtain rfl := zj H
          go_wp2
          go_ret
          exact ⟨by first | rfl | (simp <;> rfl) | (simp [*] <;> rfl), by repeat (first | (with_reducible first | exact HB.out | apply zB | apply zN | apply zD | refine zS ?_ GE280.out) | exact HB.out)⟩
end Go.Proofs.Ytfgdjpgdabjpmaa.PEdgeLists
