-- SLIM: printed, then laid small (wip/tools/slimclaim.py).
import Derived.Test.YtfgdjpgdabjpmaaPEdgeListsx0
import Derived.Test.YtfgdjpgdabjpmaaPEdgeListsx15
import Derived.Test.YtfgdjpgdabjpmaaPEdgeListsx16
import Derived.Test.YtfgdjpgdabjpmaaPEdgeListsx17
namespace Go.Proofs.Ytfgdjpgdabjpmaa.PEdgeLists
open Go.RowKit Go.Proofs.YtfgdjpgdabjpmaaW.PrintWords Go.Proofs.YtfgdjpgdabjpmaaW.PrintLast Go.Proofs.YtfgdjpgdabjpmaaW.PrintMore
attribute [local go_sem] max2_int min2_int max_two min_two max_three min_three max_four min_four   -- for this text's walks alone
set_option linter.unusedVariables false
set_option linter.unusedSimpArgs false
mutual
def pleatref12_Edges.l0 : Nat → List (S84) → List Bool → List Bool → List (List Int) → Int → List Int → Int → List Int → Option ((List (List Int)))
 | 0, _, _, _, _, _, _, _, _ => none
 | k + 1, x3, x4, x5, x6, x7, x282000, x282001, x282002 => if x7 < (x3.length : Int) then (if 0 ≤ x7 then (if 0 ≤ (wrap64 (((rd_T84 x3 x7).f1) - 1)) then (if (wrap64 (((rd_T84 x3 x7).f1) - 1)) < (x282000.length : Int) then (pleatref12_Edges.l1 k x3 x4 x5 x6 x7 ([] : List Int) (rd x282000 (wrap64 (((rd_T84 x3 x7).f1) - 1))) 0 x282000 x282001 x282002) else (none)) else (none)) else (none)) else (some x6)
def pleatref12_Edges.l1 : Nat → List (S84) → List Bool → List Bool → List (List Int) → Int → List Int → Int → Int → List Int → Int → List Int → Option ((List (List Int)))
 | 0, _, _, _, _, _, _, _, _, _, _, _ => none
 | k + 1, x3, x4, x5, x6, x7, x8, x9, x10, x282000, x282001, x282002 => if x10 < (x3.length : Int) then (if 0 ≤ x10 then (if 0 ≤ ((rd_T84 x3 x10).f0) then (if ((rd_T84 x3 x10).f0) < (x4.length : Int) then (if rdOf false x4 ((rd_T84 x3 x10).f0) = true then ((pleatref12_goes.f k x9 (x10 == (wrap64 (x7 + 1))) ((rd_T84 x3 x10).f0) true).bind fun t296 => (if t296 = true then (if x8.length < 17592186044416 then (pleatref12_Edges.l1 k x3 x4 x5 x6 x7 (x8 ++ [x10]) x9 (wrap64 (x10 + 1)) x282000 x282001 x282002) else (none)) else (pleatref12_Edges.l1 k x3 x4 x5 x6 x7 x8 x9 (wrap64 (x10 + 1)) x282000 x282001 x282002))) else (if ((rd_T84 x3 x10).f0) < (x5.length : Int) then ((pleatref12_goes.f k x9 (x10 == (wrap64 (x7 + 1))) ((rd_T84 x3 x10).f0) (rdOf false x5 ((rd_T84 x3 x10).f0))).bind fun t302 => (if t302 = true then (if x8.length < 17592186044416 then (pleatref12_Edges.l1 k x3 x4 x5 x6 x7 (x8 ++ [x10]) x9 (wrap64 (x10 + 1)) x282000 x282001 x282002) else (none)) else (pleatref12_Edges.l1 k x3 x4 x5 x6 x7 x8 x9 (wrap64 (x10 + 1)) x282000 x282001 x282002))) else (none))) else (none)) else (none)) else (none)) else (if x6.length < 5864062014805 then (pleatref12_Edges.l0 k x3 x4 x5 (x6 ++ [x8]) (wrap64 (x7 + 1)) x282000 x282001 x282002) else (none))
end
def pleatref12_Edges.f (k : Nat) (l0_0 : List Int) (a0_1 : Int) (l0_2 : List Int) : Option ((List (List Int))) := (pleatref11_Blocks.f k l0_0 a0_1 l0_2).bind fun t282 => ((pleatref11_Marks.f k l0_0 a0_1 l0_2 1).bind fun t285 => ((pleatref11_Marks.f k l0_0 a0_1 l0_2 2).bind fun t288 => (pleatref12_Edges.l0 k t282 t285 t288 ([] : List (List Int)) 0 l0_0 a0_1 l0_2)))
theorem pleatref12_Edges.mono_l : ∀ k, (∀ y0 y1 y2 y3 y4 y5 y6 y7, LeO (pleatref12_Edges.l0 k y0 y1 y2 y3 y4 y5 y6 y7) (pleatref12_Edges.l0 (k + 1) y0 y1 y2 y3 y4 y5 y6 y7)) ∧ (∀ y0 y1 y2 y3 y4 y5 y6 y7 y8 y9 y10, LeO (pleatref12_Edges.l1 k y0 y1 y2 y3 y4 y5 y6 y7 y8 y9 y10) (pleatref12_Edges.l1 (k + 1) y0 y1 y2 y3 y4 y5 y6 y7 y8 y9 y10))
 | 0 => ⟨fun _ _ _ _ _ _ _ _ r h => by simp [pleatref12_Edges.l0] at h, fun _ _ _ _ _ _ _ _ _ _ _ r h => by simp [pleatref12_Edges.l1] at h⟩
 | k + 1 => by
  obtain ⟨ih0, ih1⟩ := pleatref12_Edges.mono_l k;refine ⟨?_, ?_⟩
  ·intro y0 y1 y2 y3 y4 y5 y6 y7
   unfold pleatref12_Edges.l0
   repeat' first
   | (with_reducible exact ih0 _ _ _ _ _ _ _ _)
   | (with_reducible exact ih1 _ _ _ _ _ _ _ _ _ _ _)
   | (with_reducible exact pleatref11_Blocks.mono _ _ _ _)
   | (with_reducible exact pleatref11_Marks.mono _ _ _ _ _)
   | (with_reducible exact pleatref12_goes.mono _ _ _ _ _)
   | (with_reducible exact LeO.refl _)
   | (with_reducible exact LeO.none _)
   | (with_reducible refine LeO.ite ?_ ?_)
   | (with_reducible refine LeO.bind ?_ (fun _ => ?_))
   | exact ih0 _ _ _ _ _ _ _ _
   | exact ih1 _ _ _ _ _ _ _ _ _ _ _
   | exact pleatref11_Blocks.mono _ _ _ _
   | exact pleatref11_Marks.mono _ _ _ _ _
   | exact pleatref12_goes.mono _ _ _ _ _
   | exact LeO.none _
   | refine LeO.ite ?_ ?_
   | refine LeO.bind ?_ (fun _ => ?_)
  ·intro y0 y1 y2 y3 y4 y5 y6 y7 y8 y9 y10
   unfold pleatref12_Edges.l1
   repeat' first
   | (with_reducible exact ih0 _ _ _ _ _ _ _ _)
   | (with_reducible exact ih1 _ _ _ _ _ _ _ _ _ _ _)
   | (with_reducible exact pleatref11_Blocks.mono _ _ _ _)
   | (with_reducible exact pleatref11_Marks.mono _ _ _ _ _)
   | (with_reducible exact pleatref12_goes.mono _ _ _ _ _)
   | (with_reducible exact LeO.refl _)
   | (with_reducible exact LeO.none _)
   | (with_reducible refine LeO.ite ?_ ?_)
   | (with_reducible refine LeO.bind ?_ (fun _ => ?_))
   | exact ih0 _ _ _ _ _ _ _ _
   | exact ih1 _ _ _ _ _ _ _ _ _ _ _
   | exact pleatref11_Blocks.mono _ _ _ _
   | exact pleatref11_Marks.mono _ _ _ _ _
   | exact pleatref12_goes.mono _ _ _ _ _
   | exact LeO.none _
   | refine LeO.ite ?_ ?_
   | refine LeO.bind ?_ (fun _ => ?_)
theorem pleatref12_Edges.mono : ∀ a0 a1 a2 k, LeO (pleatref12_Edges.f k a0 a1 a2) (pleatref12_Edges.f (k + 1) a0 a1 a2) := by
 intro a0 a1 a2 k;obtain ⟨ih0, ih1⟩ := pleatref12_Edges.mono_l k
 unfold pleatref12_Edges.f
 repeat' first
   | (with_reducible exact ih0 _ _ _ _ _ _ _ _)
   | (with_reducible exact ih1 _ _ _ _ _ _ _ _ _ _ _)
   | (with_reducible exact pleatref11_Blocks.mono _ _ _ _)
   | (with_reducible exact pleatref11_Marks.mono _ _ _ _ _)
   | (with_reducible exact pleatref12_goes.mono _ _ _ _ _)
   | (with_reducible exact LeO.refl _)
   | (with_reducible exact LeO.none _)
   | (with_reducible refine LeO.ite ?_ ?_)
   | (with_reducible refine LeO.bind ?_ (fun _ => ?_))
   | exact ih0 _ _ _ _ _ _ _ _
   | exact ih1 _ _ _ _ _ _ _ _ _ _ _
   | exact pleatref11_Blocks.mono _ _ _ _
   | exact pleatref11_Marks.mono _ _ _ _ _
   | exact pleatref12_goes.mono _ _ _ _ _
   | exact LeO.none _
   | refine LeO.ite ?_ ?_
   | refine LeO.bind ?_ (fun _ => ?_)
def pleatref12_Edges.T9 : Bool × List (List Nat × List Nat) := (true, [([], []), ([0], [0]), ([], []), ([], []), ([2, 3], [2, 3]), ([4], [4]), ([5], [5]), ([6], [6]), ([1, 7], [1, 7]), ([8], [8]), ([9, 0, 1, 2, 3, 4, 5, 6, 7, 8, 9], [9])])
def pleatref12_Edges.B9 : List Nat := [0, 1, 0, 0, 12, 28, 60, 124, 255, 511, 1023]
theorem pleatref12_Edges.tab9 : rtab .any (opsOf Try.f35 9) = pleatref12_Edges.T9 := by kernel_rfl
theorem pleatref12_Edges.bits9 : waitsOk pleatref12_Edges.T9.2 pleatref12_Edges.B9 = true := by kernel_rfl
def pleatref12_Edges.T13 : Bool × List (List Nat × List Nat) := (true, [([], []), ([], []), ([], []), ([2], [2]), ([1, 3], [1, 3]), ([], []), ([], []), ([5, 6], [5, 6]), ([7], [7]), ([8], [8]), ([], []), ([], []), ([], []), ([11, 12], [11, 12]), ([13], [13]), ([14], [14]), ([10, 15], [10, 15]), ([16], [16]), ([17], [17]), ([18], [18]), ([18], [18]), ([18], [18]), ([20, 21, 18], [18, 20, 21]), ([22, 18], [18, 22]), ([23, 18], [18, 23]), ([19, 24, 18], [18, 19, 24]), ([25, 18], [18, 25]), ([18, 26], [18, 26]), ([0, 4, 9, 27, 18], [0, 4, 9, 27])])
def pleatref12_Edges.B13 : List Nat := [0, 0, 0, 4, 14, 0, 0, 96, 224, 480, 0, 0, 0, 6144, 14336, 30720, 64512, 130048, 261120, 523264, 523264, 523264, 3668992, 7863296, 16251904, 33553408, 67107840, 134216704, 268435455]
theorem pleatref12_Edges.tab13 : rtab .any (opsOf Try.f35 13) = pleatref12_Edges.T13 := by kernel_rfl
theorem pleatref12_Edges.bits13 : waitsOk pleatref12_Edges.T13.2 pleatref12_Edges.B13 = true := by kernel_rfl
set_option maxHeartbeats 8000000 in
set_option maxRecDepth 100000 in
theorem pleatref12_Edges.calls (k : Nat) (A0_0 : Option Addr) (c0_0 : Nat) (l0_0 : List Int) (a0_1 : Int) (A0_2 : Option Addr) (c0_2 : Nat) (l0_2 : List Int) (r : List (List Int)) (w : World) (hr0_0 : Kd.C (Kd.int .u32) w A0_0 l0_0.length l0_0) (hc0_0 : l0_0.length ≤ c0_0) (hr0_2 : Kd.C (Kd.int .i64) w A0_2 l0_2.length l0_2) (hc0_2 : l0_2.length ≤ c0_2) (h : pleatref12_Edges.f k l0_0 a0_1 l0_2 = some r) :
  Calls Try.prog 35 #[.agg #[.slice A0_0 l0_0.length c0_0, .int .i64 a0_1, .slice A0_2 l0_2.length c0_2]] w fun e w' => ∃ v0_ : Value, e = .returned (v0_) ∧ Kd.S (Kd.slice 3 (Kd.int .i64)) 30 w' w.heap.size (fun _ => True) v0_ r ∧ Below w.heap.size w w' := by
 have hu25 := Try.underlying25;have HR0_0 := zA hr0_0;have HC0_0 := zA hc0_0;clear hr0_0 hc0_0;have HR0_2 := zA hr0_2;have HC0_2 := zA hc0_2;clear hr0_2 hc0_2;have HB := zA (Below.refl w.heap.size w);have H : ((pleatref11_Blocks.f k l0_0 a0_1 l0_2).bind fun t282 => ((pleatref11_Marks.f k l0_0 a0_1 l0_2 1).bind fun t285 => ((pleatref11_Marks.f k l0_0 a0_1 l0_2 2).bind fun t288 => (pleatref12_Edges.l0 k t282 t285 t288 ([] : List (List Int)) 0 l0_0 a0_1 l0_2)))) = some r := h;clear h;replace H := zi H;obtain ⟨t282, A20, H⟩ := H;replace H : ((pleatref11_Marks.f k l0_0 a0_1 l0_2 1).bind fun t285 => ((pleatref11_Marks.f k l0_0 a0_1 l0_2 2).bind fun t288 => (pleatref12_Edges.l0 k t282 t285 t288 ([] : List (List Int)) 0 l0_0 a0_1 l0_2))) = some r := H;have A2 := zA A20;clear A20;replace H := zi H;obtain ⟨t285, A30, H⟩ := H;replace H : ((pleatref11_Marks.f k l0_0 a0_1 l0_2 2).bind fun t288 => (pleatref12_Edges.l0 k t282 t285 t288 ([] : List (List Int)) 0 l0_0 a0_1 l0_2)) = some r := H;have A3 := zA A30;clear A30;replace H := zi H;obtain ⟨t288, A40, H⟩ := H;replace H : (pleatref12_Edges.l0 k t282 t285 t288 ([] : List (List Int)) 0 l0_0 a0_1 l0_2) = some r := H;have A4 := zA A40;clear A40;have H' := zA H;clear H
 go_enter Try.func35, Try.ntmps35
 go_wp2_with (first | ((with_reducible refine gate_dst (N := 1) rfl ?_); refine box_event ?hg (N := 1) ?hd (cs := #[.slice A0_0 l0_0.length c0_0, .int .i64 a0_1, .slice A0_2 l0_2.length c0_2]) (t := 25) ?hr ?_; (case hd => rfl); (case hg => rfl); (case hr => first | (go_simp; done) | (go_simp; rfl)); intro gb281 hg w5 hbox hb; have n0_ := zA (zt (by repeat (first | (with_reducible first | exact HB.out | apply zB | apply zN | apply zD) | exact HB.out)) hb); have n1_ := zA (hbox); have n2_ := zA ((by rw [hg]; exact (below_size (by repeat (first | (with_reducible first | exact HB.out | apply zB | apply zN | apply zD) | exact HB.out))) : w.heap.size ≤ gb281)); have n3_ := zA ((by rw [hg]; exact (below_size (by repeat (first | (with_reducible first | exact HB.out | apply zB | apply zN | apply zD) | exact HB.out))) : w.heap.size ≤ gb281)); clear HB; have HB := n0_; have BK281 := n1_; have GW281 := n2_; have GE281 := n3_; clear n0_ n1_ n2_ n3_; clear hb hbox hg; have hcz6_0 : w5.cell? ⟨gb281, 0, none⟩ = some (.slice A0_0 l0_0.length c0_0) := (zc BK281.out 0).trans rfl; have hcz6_1 : w5.cell? ⟨gb281, 1, none⟩ = some (.int .i64 a0_1) := (zc BK281.out 1).trans rfl; have hcz6_2 : w5.cell? ⟨gb281, 2, none⟩ = some (.slice A0_2 l0_2.length c0_2) := (zc BK281.out 2).trans rfl; have hfz6_0 := zF BK281.out 0; have hfz6_1 := zF BK281.out 1; have hfz6_2 := zF BK281.out 2) | ((with_reducible refine gate_callee (f := 88) rfl ?_); refine goesL_ (some 12) rfl rfl Try.func88 (by kernel_rfl) rfl #[.agg #[.slice A0_0 l0_0.length c0_0, .int .i64 a0_1, .slice A0_2 l0_2.length c0_2]] rfl (by (try simp only [List.map_toArray, List.map_cons, List.map_nil]); first | done | rfl | (simp only [List.length_drop, List.length_take]; rfl)) ?_; (with_reducible refine (pleatref11_Blocks.calls k _ _ l0_0 a0_1 _ _ l0_2 t282 _ ?side1 ?side2 ?side3 ?side4 A2.out).mono ?_); (case side1 => repeat (first | exact (Kd.C_below HR0_0.out HB.out) | (with_reducible refine Kd.C_alloc ?_ _) | (with_reducible refine Kd.C_drewN ?_ _) | (with_reducible refine Kd.C_drew ?_))); (case side2 => exact HC0_0.out); (case side3 => repeat (first | exact (Kd.C_below HR0_2.out HB.out) | (with_reducible refine Kd.C_alloc ?_ _) | (with_reducible refine Kd.C_drewN ?_ _) | (with_reducible refine Kd.C_drew ?_))); (case side4 => exact HC0_2.out); rintro e w7 ⟨v283, rfl, ho0, hb⟩; refine ⟨_, rfl, ?_⟩; have n0_ := zA (Kd.R_lower ho0 (below_size (by repeat (first | (with_reducible first | exact HB.out | apply zB | apply zN | apply zD | refine zS ?_ GE281.out) | exact HB.out)))); have n1_ := zA (blk_below (g := gb281) (o := .cells #[.slice A0_0 l0_0.length c0_0, .int .i64 a0_1, .slice A0_2 l0_2.length c0_2] 25 (0, 0)) (by (with_reducible repeat (first |refine zn ?_ _|refine zd ?_|refine za ?_ _)); exact BK281.out) hb); have n2_ := zA (zt (by repeat (first | (with_reducible first | exact HB.out | apply zB | apply zN | apply zD | refine zS ?_ GE281.out) | exact HB.out)) hb); clear BK281; clear HB; have HO284 := n0_; have BK281 := n1_; have HB := n2_; clear n0_ n1_ n2_; (try clear hb); (try clear hb2); (try clear hk); (try clear hi); (try clear ho0); have hcz8_0 : w7.cell? ⟨gb281, 0, none⟩ = some (.slice A0_0 l0_0.length c0_0) := (zc BK281.out 0).trans rfl; have hcz8_1 : w7.cell? ⟨gb281, 1, none⟩ = some (.int .i64 a0_1) := (zc BK281.out 1).trans rfl; have hcz8_2 : w7.cell? ⟨gb281, 2, none⟩ = some (.slice A0_2 l0_2.length c0_2) := (zc BK281.out 2).trans rfl; have hfz8_0 := zF BK281.out 0; have hfz8_1 := zF BK281.out 1; have hfz8_2 := zF BK281.out 2) | ((with_reducible refine gate_callee (f := 89) rfl ?_); refine goesL_ (some 14) rfl rfl Try.func89 (by kernel_rfl) rfl #[.agg #[.slice A0_0 l0_0.length c0_0, .int .i64 a0_1, .slice A0_2 l0_2.length c0_2], .int .i64 1] rfl (by (try simp only [List.map_toArray, List.map_cons, List.map_nil]); first | done | rfl | (simp only [List.length_drop, List.length_take]; rfl)) ?_; (with_reducible refine (pleatref11_Marks.calls k _ _ l0_0 a0_1 _ _ l0_2 1 t285 _ ?side1 ?side2 ?side3 ?side4 A3.out).mono ?_); (case side1 => repeat (first | exact (Kd.C_below HR0_0.out HB.out) | (with_reducible refine Kd.C_alloc ?_ _) | (with_reducible refine Kd.C_drewN ?_ _) | (with_reducible refine Kd.C_drew ?_))); (case side2 => exact HC0_0.out); (case side3 => repeat (first | exact (Kd.C_below HR0_2.out HB.out) | (with_reducible refine Kd.C_alloc ?_ _) | (with_reducible refine Kd.C_drewN ?_ _) | (with_reducible refine Kd.C_drew ?_))); (case side4 => exact HC0_2.out); rintro e w9 ⟨v286, rfl, ho0, hb⟩; refine ⟨_, rfl, ?_⟩; have n0_ := zA (Kd.R_below (by (with_reducible repeat (first | apply zRa | apply zRn | apply zRd)); exact HO284.out) hb); have n1_ := zA (Kd.R_lower ho0 (below_size (by repeat (first | (with_reducible first | exact HB.out | apply zB | apply zN | apply zD | refine zS ?_ GE281.out) | exact HB.out)))); have n2_ := zA (blk_below (g := gb281) (o := .cells #[.slice A0_0 l0_0.length c0_0, .int .i64 a0_1, .slice A0_2 l0_2.length c0_2] 25 (0, 0)) (by (with_reducible repeat (first |refine zn ?_ _|refine zd ?_|refine za ?_ _)); exact BK281.out) hb); have n3_ := zA (zt (by repeat (first | (with_reducible first | exact HB.out | apply zB | apply zN | apply zD | refine zS ?_ GE281.out) | exact HB.out)) hb); clear HO284; clear BK281; clear HB; have HO284 := n0_; have HO287 := n1_; have BK281 := n2_; have HB := n3_; clear n0_ n1_ n2_ n3_; (try clear hb); (try clear hb2); (try clear hk); (try clear hi); (try clear ho0); have hcz10_0 : w9.cell? ⟨gb281, 0, none⟩ = some (.slice A0_0 l0_0.length c0_0) := (zc BK281.out 0).trans rfl; have hcz10_1 : w9.cell? ⟨gb281, 1, none⟩ = some (.int .i64 a0_1) := (zc BK281.out 1).trans rfl; have hcz10_2 : w9.cell? ⟨gb281, 2, none⟩ = some (.slice A0_2 l0_2.length c0_2) := (zc BK281.out 2).trans rfl; have hfz10_0 := zF BK281.out 0; have hfz10_1 := zF BK281.out 1; have hfz10_2 := zF BK281.out 2) | ((with_reducible refine gate_callee (f := 89) rfl ?_); refine goesL_ (some 16) rfl rfl Try.func89 (by kernel_rfl) rfl #[.agg #[.slice A0_0 l0_0.length c0_0, .int .i64 a0_1, .slice A0_2 l0_2.length c0_2], .int .i64 2] rfl (by (try simp only [List.map_toArray, List.map_cons, List.map_nil]); first | done | rfl | (simp only [List.length_drop, List.length_take]; rfl)) ?_; (with_reducible refine (pleatref11_Marks.calls k _ _ l0_0 a0_1 _ _ l0_2 2 t288 _ ?side1 ?side2 ?side3 ?side4 A4.out).mono ?_); (case side1 => repeat (first | exact (Kd.C_below HR0_0.out HB.out) | (with_reducible refine Kd.C_alloc ?_ _) | (with_reducible refine Kd.C_drewN ?_ _) | (with_reducible refine Kd.C_drew ?_))); (case side2 => exact HC0_0.out); (case side3 => repeat (first | exact (Kd.C_below HR0_2.out HB.out) | (with_reducible refine Kd.C_alloc ?_ _) | (with_reducible refine Kd.C_drewN ?_ _) | (with_reducible refine Kd.C_drew ?_))); (case side4 => exact HC0_2.out); rintro e w11 ⟨v289, rfl, ho0, hb⟩; refine ⟨_, rfl, ?_⟩; have n0_ := zA (Kd.R_below (by (with_reducible repeat (first | apply zRa | apply zRn | apply zRd)); exact HO284.out) hb); have n1_ := zA (Kd.R_elder' (by (with_reducible repeat (first | apply zRa | apply zRn | apply zRd)); exact HO287.out) (Kd.R_base ho0) hb); have n2_ := zA (Kd.R_lower (Kd.R_new' ho0 (Kd.R_lt (by (with_reducible repeat (first | apply zRa | apply zRn | apply zRd)); exact HO287.out))) (below_size (by repeat (first | (with_reducible first | exact HB.out | apply zB | apply zN | apply zD | refine zS ?_ GE281.out) | exact HB.out)))); have n3_ := zA (blk_below (g := gb281) (o := .cells #[.slice A0_0 l0_0.length c0_0, .int .i64 a0_1, .slice A0_2 l0_2.length c0_2] 25 (0, 0)) (by (with_reducible repeat (first |refine zn ?_ _|refine zd ?_|refine za ?_ _)); exact BK281.out) hb); have n4_ := zA (zt (by repeat (first | (with_reducible first | exact HB.out | apply zB | apply zN | apply zD | refine zS ?_ GE281.out) | exact HB.out)) hb); clear HO284; clear HO287; clear BK281; clear HB; have HO284 := n0_; have HO287 := n1_; have HO290 := n2_; have BK281 := n3_; have HB := n4_; clear n0_ n1_ n2_ n3_ n4_; (try clear hb); (try clear hb2); (try clear hk); (try clear hi); (try clear ho0)))
 go_loopg [6, 7] k (fun kq v6 v7 w' => ∃ (x6_1 : List (List Int)) (x7_1 : Int), v7 = .int .i64 x7_1 ∧ Aside0 (pleatref12_Edges.l0 kq t282 t285 t288 x6_1 x7_1 l0_0 a0_1 l0_2 = some r) ∧ Aside0 (kq ≤ k) ∧ Aside0 (Kd.R k84 84 w' w.heap.size (fun _ => True) v283 t282) ∧ Aside0 (Kd.R Kd.bool 4 w' w.heap.size (fun k_ => some k_ ≠ (v289 : Value).ownBlock) v286 t285) ∧ Aside0 (Kd.R Kd.bool 4 w' w.heap.size (fun k_ => some k_ ≠ (v286 : Value).ownBlock) v289 t288) ∧ Aside0 (Kd.S (Kd.slice 3 (Kd.int .i64)) 30 w' w.heap.size (fun _ => True) v6 x6_1) ∧ Aside0 (w'.heap[gb281]? = some (.cells #[(.slice A0_0 l0_0.length c0_0), .int .i64 a0_1, (.slice A0_2 l0_2.length c0_2)] 25 (0, 0))) ∧ Aside0 (Below w.heap.size w w'))
 case atStart => exact ⟨(([] : List (List Int))), (0), (by first | rfl | (simp; done) | (simp [*]; done)), H', ⟨Nat.le_refl _⟩, ⟨by (with_reducible repeat (first | apply zRa | apply zRn | apply zRd)); exact HO284.out⟩, ⟨by (with_reducible repeat (first | apply zRa | apply zRn | apply zRd)); exact Kd.R_mono HO287.out (fun _ hk => hk.2)⟩, ⟨by (with_reducible repeat (first | apply zRa | apply zRn | apply zRd)); exact Kd.R_mono HO290.out (fun _ hk => hk.2)⟩, ⟨by first | exact Kd.S_nil _ _ _ _ _ | exact Kd.N_nil _ _ _ _ _ | exact Kd.V_nil _ _ _ _ _ | exact Kd.Q_nil _ _ _ _ _ | exact Kd.R_nil _ _ _ _ _⟩, ⟨by (with_reducible repeat (first |refine zn ?_ _|refine zd ?_|refine za ?_ _)); exact BK281.out⟩, ⟨by repeat (first | (with_reducible first | exact HB.out | apply zB | apply zN | apply zD | refine zS ?_ GE281.out) | exact HB.out)⟩⟩
 case round =>
  clear H';(try clear p2);(try clear c3);(try clear c8);(try clear hcz10_0);(try clear hcz10_1);(try clear hcz10_2);(try clear hcz6_0);(try clear hcz6_1);(try clear hcz6_2);(try clear hcz8_0);(try clear hcz8_1);(try clear hcz8_2);(try clear hfz10_0);(try clear hfz10_1);(try clear hfz10_2);(try clear hfz6_0);(try clear hfz6_1);(try clear hfz6_2);(try clear hfz8_0);(try clear hfz8_1);(try clear hfz8_2);obtain ⟨x6_1, x7_1, rfl, HA, HK1, HO_3, HO_4, HO_5, HO_6, BK281, HB⟩ := hrel
  cases gk with
  | zero => exact absurd HA.out (by simp [pleatref12_Edges.l0])
  | succ k1 =>
   have H := HA.out;clear HA;simp only [pleatref12_Edges.l0] at H
   by_cases c12 : x7_1 < (t282.length : Int)
   ·rw [if_pos c12] at H;have c12b0 : decide (x7_1 < (t282.length : Int)) = true := decide_eq_true c12;clear c12
    by_cases c13 : 0 ≤ x7_1
    ·rw [if_pos c13] at H;have c13b0 : decide (0 ≤ x7_1) = true := decide_eq_true c13;clear c13;obtain ⟨ji14, hji14⟩ : ∃ j_ : Int, (wrap64 (((rd_T84 t282 x7_1).f1) - 1)) = j_ := ⟨_, rfl⟩
     replace H : (if 0 ≤ (ji14) then (if (ji14) < (l0_0.length : Int) then (pleatref12_Edges.l1 k1 t282 t285 t288 x6_1 x7_1 ([] : List Int) (rd l0_0 (ji14)) 0 l0_0 a0_1 l0_2) else (none)) else (none)) = some r := by first | (rw [hji14] at H; exact H) | (simp only [hji14] at H ⊢; exact H)
     have hji14w : (IntKind.i64.wrap (((rd_T84 t282 x7_1).f1) - 1)) = ji14 := (i64_w _).trans hji14
     by_cases c15 : 0 ≤ (ji14)
     ·rw [if_pos c15] at H;have c15b0 : decide (0 ≤ (ji14)) = true := decide_eq_true c15;clear c15
      by_cases c16 : (ji14) < (l0_0.length : Int)
      ·rw [if_pos c16] at H;have c16b0 : decide ((ji14) < (l0_0.length : Int)) = true := decide_eq_true c16;clear c16;have H' := zA H;clear H;obtain ⟨Ao17, co17, eo17⟩ := Kd.R_slice HO_3.out;subst eo17
       try go_wp2
       have n0_ := zA (zRd HO_3.out);have n1_ := zA (zRd HO_4.out);have n2_ := zA (zRd HO_5.out);have n3_ := zA (Kd.S_drew HO_6.out);have n4_ := zA (zd BK281.out);have n5_ := zA (zD HB.out);clear HO_3;clear HO_4;clear HO_5;clear HO_6;clear BK281;clear HB;have HO_3 := n0_;have HO_4 := n1_;have HO_5 := n2_;have HO_6 := n3_;have BK281 := n4_;have HB := n5_;clear n0_ n1_ n2_ n3_ n4_ n5_;have p291 : 0 ≤ (x7_1 : Int) := zo (by first | (with_reducible assumption) | assumption);have q291 : x7_1 < (t282.length : Int) := zo (by first | (with_reducible assumption) | assumption);obtain ⟨ad291, e291, hx291_0, hx291_1⟩ := at_T84 (Kd.R_reads' HO_3.out).2.2 x7_1 p291 q291
       cases e291
       replace p291 := eq_true p291;replace q291 := eq_true q291;have p292 : 0 ≤ ((ji14) : Int) := zo (by first | (with_reducible assumption) | assumption);have q292 : (ji14) < (l0_0.length : Int) := zo (by first | (with_reducible assumption) | assumption);obtain ⟨ad292, e292, hx292_0⟩ := Kd.at_int HR0_0.out (ji14) p292 q292;have hw292_0 := hx292_0
       cases e292
       replace hx292_0 := (HB.out.cell (zw w _ hx292_0)).trans hx292_0;replace p292 := eq_true p292;replace q292 := eq_true q292;refine start_ (n := 11) (S := fun w' => w'.cell? ⟨gb281, 0, none⟩ = some (.slice (some ad292) l0_0.length c0_0) ∧ w'.cell? ⟨gb281, 1, none⟩ = some (.int .i64 a0_1) ∧ w'.cell? ⟨gb281, 2, none⟩ = some (.slice A0_2 l0_2.length c0_2) ∧ w'.cell? (ad291.add ((x7_1).toNat * 2)) = some (.int .i64 ((rd_T84 t282 x7_1).f0)) ∧ w'.cell? ⟨(ad291.add ((x7_1).toNat * 2)).block, (ad291.add ((x7_1).toNat * 2)).off + 1, none⟩ = some (.int .i64 ((rd_T84 t282 x7_1).f1)) ∧ w'.cell? (ad292.add ((ji14)).toNat) = some (.int .u32 (rd l0_0 (ji14)))) (ds := []) #[false, false, false, false, false, false, false, false, false, false, false] (by kernel_rfl) rfl rfl ⟨(zc BK281.out 0).trans rfl, (zc BK281.out 1).trans rfl, (zc BK281.out 2).trans rfl, hx291_0, hx291_1, ((HB.out.cell (zw w _ hw292_0)).trans hw292_0)⟩ (fun hHeld => ?_); refine with_tabW pleatref12_Edges.tab9 pleatref12_Edges.bits9 (fun HT_ HW_ => ?_);generalize wr.drew = w18 at HO_3 HO_4 HO_5 HO_6 BK281 HB hx291_0 hx291_1 hx292_0 hHeld ⊢;refine pure_ (i := 0) (N := some 23) (v := ?_) (a' := ?_) #[true, false, false, false, false, false, false, false, false, false, false] rfl rfl (any_of HT_.out (by kernel_rfl)) (fun _ _ _ h => h) (Or.inl ⟨by rfl, ?_⟩) ?_ ?_;rotate_left
       ·intro w'
        go_simp
        with_reducible rfl
       rotate_left
       ·simp only [Act.put, List.setIfInBounds_toArray, List.set_cons_zero, List.set_cons_succ, i64_w, i32_w];rfl
       refine pure_ (i := 2) (N := some 25) (v := ?_) (a' := ?_) #[true, false, true, false, false, false, false, false, false, false, false] rfl rfl (any_of HT_.out (by kernel_rfl)) (fun _ _ _ h => h) (Or.inl ⟨by rfl, ?_⟩) ?_ ?_;rotate_left
       ·intro w'
        go_simp
        with_reducible rfl
       rotate_left
       ·simp only [Act.put, List.setIfInBounds_toArray, List.set_cons_zero, List.set_cons_succ, i64_w, i32_w];rfl
       refine pure_ (i := 3) (N := some 26) (v := ?_) (a' := ?_) #[true, false, true, true, false, false, false, false, false, false, false] rfl rfl (any_of HT_.out (by kernel_rfl)) (fun _ _ _ h => h) (Or.inl ⟨by rfl, ?_⟩) ?_ ?_;rotate_left
       ·intro w'
        go_simp
        with_reducible rfl
       rotate_left
       ·simp only [Act.put, List.setIfInBounds_toArray, List.set_cons_zero, List.set_cons_succ, i64_w, i32_w];rfl
       refine pure_ (i := 4) (N := some 27) (v := ?_) (a' := ?_) #[true, false, true, true, true, false, false, false, false, false, false] rfl rfl (any_of HT_.out (by kernel_rfl)) (fun _ _ _ h => h) (Or.inl ⟨by rfl, ?_⟩) ?_ ?_;rotate_left
       ·intro w'
        go_simp
        with_reducible rfl
       rotate_left
       ·simp only [Act.put, List.setIfInBounds_toArray, List.set_cons_zero, List.set_cons_succ, i64_w, i32_w];rfl
       refine pure_ (i := 5) (N := some 28) (v := ?_) (a' := ?_) #[true, false, true, true, true, true, false, false, false, false, false] rfl rfl (any_of HT_.out (by kernel_rfl)) (fun _ _ _ h => h) (Or.inl ⟨by rfl, ?_⟩) ?_ ?_;rotate_left
       ·intro w'
        go_simp
        with_reducible rfl
       rotate_left
       ·simp only [Act.put, List.setIfInBounds_toArray, List.set_cons_zero, List.set_cons_succ, i64_w, i32_w];rfl
       refine take_ (i := 1) (N := some 24) (v := ?_) (a' := ?_) #[true, true, true, true, true, true, false, false, false, false, false] rfl rfl (take_ofW HT_.out HW_.out (by kernel_rfl)) (fun _ _ _ h => h) (Or.inl ⟨by rfl, ?_⟩) hHeld ?_ ?_;rotate_left
       ·rintro w' ⟨s0, s1, s2, s3, s4, s5⟩
        go_simp
        with_reducible rfl
       rotate_left
       ·simp only [Act.put, List.setIfInBounds_toArray, List.set_cons_zero, List.set_cons_succ, i64_w, i32_w];rfl
       refine take_ (i := 6) (N := some 29) (v := ?_) (a' := ?_) #[true, true, true, true, true, true, true, false, false, false, false] rfl rfl (take_ofW HT_.out HW_.out (by kernel_rfl)) (fun _ _ _ h => h) (Or.inl ⟨by rfl, ?_⟩) hHeld ?_ ?_;rotate_left
       ·rintro w' ⟨s0, s1, s2, s3, s4, s5⟩
        go_simp
        with_reducible rfl
       rotate_left
       ·simp only [Act.put, List.setIfInBounds_toArray, List.set_cons_zero, List.set_cons_succ, i64_w, i32_w];rfl
       refine pure_ (i := 7) (N := some 30) (v := ?_) (a' := ?_) #[true, true, true, true, true, true, true, true, false, false, false] rfl rfl (any_of HT_.out (by kernel_rfl)) (fun _ _ _ h => h) (Or.inl ⟨by rfl, ?_⟩) ?_ ?_;rotate_left
       ·intro w'
        go_simp
        with_reducible rfl
       rotate_left
       ·simp only [Act.put, List.setIfInBounds_toArray, List.set_cons_zero, List.set_cons_succ, i64_w, i32_w];rfl
       refine pure_ (i := 8) (N := some 31) (v := ?_) (a' := ?_) #[true, true, true, true, true, true, true, true, true, false, false] rfl rfl (any_of HT_.out (by kernel_rfl)) (fun _ _ _ h => h) (Or.inl ⟨by rfl, ?_⟩) ?_ ?_;rotate_left
       ·intro w'
        go_simp
        with_reducible rfl
       rotate_left
       ·simp only [Act.put, List.setIfInBounds_toArray, List.set_cons_zero, List.set_cons_succ, i64_w, i32_w];rfl
       refine take_ (i := 9) (N := some 32) (v := ?_) (a' := ?_) #[true, true, true, true, true, true, true, true, true, true, false] rfl rfl (take_ofW HT_.out HW_.out (by kernel_rfl)) (fun _ _ _ h => h) (Or.inl ⟨by rfl, ?_⟩) hHeld ?_ ?_;rotate_left
       ·rintro w' ⟨s0, s1, s2, s3, s4, s5⟩
        go_simp
        with_reducible rfl
       rotate_left
       ·simp only [Act.put, List.setIfInBounds_toArray, List.set_cons_zero, List.set_cons_succ, i64_w, i32_w];rfl
       refine pure_ (i := 10) (N := some 9) (v := ?_) (a' := ?_) #[true, true, true, true, true, true, true, true, true, true, true] rfl rfl (any_of HT_.out (by kernel_rfl)) (fun _ _ _ h => h) (Or.inl ⟨by rfl, ?_⟩) ?_ ?_;rotate_left
       ·intro w'
        go_simp
        with_reducible rfl
       rotate_left
       ·simp only [Act.put, List.setIfInBounds_toArray, List.set_cons_zero, List.set_cons_succ, i64_w, i32_w];rfl
       refine done_ (done_of HT_.out (by kernel_rfl)) ?_
       try go_wp2
       go_loopg [8, 10] k1 (fun kq v8 v10 w' => ∃ (x8_2 : List Int) (x10_2 : Int), v10 = .int .i64 x10_2 ∧ Aside0 (pleatref12_Edges.l1 kq t282 t285 t288 x6_1 x7_1 x8_2 (rd l0_0 (ji14)) x10_2 l0_0 a0_1 l0_2 = some r) ∧ Aside0 (kq ≤ k1) ∧ Aside0 (Kd.R k84 84 w' w.heap.size (fun _ => True) (.slice (some ad291) t282.length co17) t282) ∧ Aside0 (Kd.R Kd.bool 4 w' w.heap.size (fun k_ => some k_ ≠ (v289 : Value).ownBlock) v286 t285) ∧ Aside0 (Kd.R Kd.bool 4 w' w.heap.size (fun k_ => some k_ ≠ (v286 : Value).ownBlock) v289 t288) ∧ Aside0 (Kd.S (Kd.slice 3 (Kd.int .i64)) 30 w' w.heap.size (fun k_ => some k_ ≠ (v8 : Value).ownBlock) u6 x6_1) ∧ Aside0 (Kd.R (Kd.int .i64) 3 w' w.heap.size (fun _ => True) v8 x8_2) ∧ Aside0 (w'.heap[gb281]? = some (.cells #[(.slice (some ad292) l0_0.length c0_0), .int .i64 a0_1, (.slice A0_2 l0_2.length c0_2)] 25 (0, 0))) ∧ Aside0 (Below w.heap.size w w'))
       case atStart => exact ⟨(([] : List Int)), (0), (by first | rfl | (simp; done) | (simp [*]; done)), H', ⟨Nat.le_refl _⟩, ⟨by (with_reducible repeat (first | apply zRa | apply zRn | apply zRd)); exact HO_3.out⟩, ⟨by (with_reducible repeat (first | apply zRa | apply zRn | apply zRd)); exact HO_4.out⟩, ⟨by (with_reducible repeat (first | apply zRa | apply zRn | apply zRd)); exact HO_5.out⟩, ⟨by (with_reducible repeat (first | apply Kd.S_alloc | apply Kd.S_drewN | apply Kd.S_drew)); exact Kd.S_mono HO_6.out (fun _ hk => (by simp [Value.ownBlock]))⟩, ⟨by first | exact Kd.R_nil _ _ _ _ _ | exact Kd.N_nil _ _ _ _ _ | exact Kd.V_nil _ _ _ _ _ | exact Kd.Q_nil _ _ _ _ _ | exact Kd.S_nil _ _ _ _ _⟩, ⟨by (with_reducible repeat (first |refine zn ?_ _|refine zd ?_|refine za ?_ _)); exact BK281.out⟩, ⟨by repeat (first | (with_reducible first | exact HB.out | apply zB | apply zN | apply zD | refine zS ?_ GE281.out) | exact HB.out)⟩⟩
       case round =>
        clear H';(try clear c1);(try clear p2);(try clear q2);(try clear hx2);(try clear c3);(try clear p6);(try clear c8);(try clear c12);(try clear c12b0);(try clear c13);(try clear c13b0);(try clear c15);(try clear c15b0);(try clear c16);(try clear c16b0);(try clear hcz10_0);(try clear hcz10_1);(try clear hcz10_2);(try clear hcz6_0);(try clear hcz6_1);(try clear hcz6_2);(try clear hcz8_0);(try clear hcz8_1);(try clear hcz8_2);(try clear hfz10_0);(try clear hfz10_1);(try clear hfz10_2);(try clear hfz6_0);(try clear hfz6_1);(try clear hfz6_2);(try clear hfz8_0);(try clear hfz8_1);(try clear hfz8_2);(try clear hx291_0);(try clear hx291_1);(try clear hx292_0);(try clear p2);(try clear p291);(try clear p292);(try clear q291);(try clear q292);obtain ⟨x8_2, x10_2, rfl, HA, HK2, HO_3, HO_4, HO_5, HO_6, HO_8, BK281, HB⟩ := hrel
        cases gk with
        | zero => exact absurd HA.out (by simp [pleatref12_Edges.l1])
        | succ k2 =>
         have H := HA.out;clear HA;simp only [pleatref12_Edges.l1] at H
         by_cases c19 : x10_2 < (t282.length : Int)
         ·rw [if_pos c19] at H;have c19b0 : decide (x10_2 < (t282.length : Int)) = true := decide_eq_true c19;clear c19
          by_cases c20 : 0 ≤ x10_2
          ·rw [if_pos c20] at H;have c20b0 : decide (0 ≤ x10_2) = true := decide_eq_true c20;clear c20
           by_cases c21 : 0 ≤ ((rd_T84 t282 x10_2).f0)
           ·rw [if_pos c21] at H;have c21b0 : decide (0 ≤ ((rd_T84 t282 x10_2).f0)) = true := decide_eq_true c21;clear c21
            by_cases c22 : ((rd_T84 t282 x10_2).f0) < (t285.length : Int)
            ·rw [if_pos c22] at H;have c22b0 : decide (((rd_T84 t282 x10_2).f0) < (t285.length : Int)) = true := decide_eq_true c22;clear c22;obtain ⟨bq23, hbq23⟩ : ∃ b_ : Bool, b_ = (rdOf false t285 ((rd_T84 t282 x10_2).f0)) := ⟨_, rfl⟩
             replace H : (if bq23 = true then ((pleatref12_goes.f k2 (rd l0_0 (ji14)) (x10_2 == (wrap64 (x7_1 + 1))) ((rd_T84 t282 x10_2).f0) true).bind fun t296 => (if t296 = true then (if x8_2.length < 17592186044416 then (pleatref12_Edges.l1 k2 t282 t285 t288 x6_1 x7_1 (x8_2 ++ [x10_2]) (rd l0_0 (ji14)) (wrap64 (x10_2 + 1)) l0_0 a0_1 l0_2) else (none)) else (pleatref12_Edges.l1 k2 t282 t285 t288 x6_1 x7_1 x8_2 (rd l0_0 (ji14)) (wrap64 (x10_2 + 1)) l0_0 a0_1 l0_2))) else (if ((rd_T84 t282 x10_2).f0) < (t288.length : Int) then ((pleatref12_goes.f k2 (rd l0_0 (ji14)) (x10_2 == (wrap64 (x7_1 + 1))) ((rd_T84 t282 x10_2).f0) (rdOf false t288 ((rd_T84 t282 x10_2).f0))).bind fun t302 => (if t302 = true then (if x8_2.length < 17592186044416 then (pleatref12_Edges.l1 k2 t282 t285 t288 x6_1 x7_1 (x8_2 ++ [x10_2]) (rd l0_0 (ji14)) (wrap64 (x10_2 + 1)) l0_0 a0_1 l0_2) else (none)) else (pleatref12_Edges.l1 k2 t282 t285 t288 x6_1 x7_1 x8_2 (rd l0_0 (ji14)) (wrap64 (x10_2 + 1)) l0_0 a0_1 l0_2))) else (none))) = some r := by rw [← hbq23] at H; exact H
             have Nbq23 := zA hbq23;clear hbq23
             by_cases c24 : bq23 = true
             ·subst c24
              have H1 : ((pleatref12_goes.f k2 (rd l0_0 (ji14)) (x10_2 == (wrap64 (x7_1 + 1))) ((rd_T84 t282 x10_2).f0) true).bind fun t296 => (if t296 = true then (if x8_2.length < 17592186044416 then (pleatref12_Edges.l1 k2 t282 t285 t288 x6_1 x7_1 (x8_2 ++ [x10_2]) (rd l0_0 (ji14)) (wrap64 (x10_2 + 1)) l0_0 a0_1 l0_2) else (none)) else (pleatref12_Edges.l1 k2 t282 t285 t288 x6_1 x7_1 x8_2 (rd l0_0 (ji14)) (wrap64 (x10_2 + 1)) l0_0 a0_1 l0_2))) = some r := by rw [if_pos rfl] at H; exact H
              clear H;have H := H1;clear H1;replace H := zi H;obtain ⟨t296, A250, H⟩ := H;replace H : (if t296 = true then (if x8_2.length < 17592186044416 then (pleatref12_Edges.l1 k2 t282 t285 t288 x6_1 x7_1 (x8_2 ++ [x10_2]) (rd l0_0 (ji14)) (wrap64 (x10_2 + 1)) l0_0 a0_1 l0_2) else (none)) else (pleatref12_Edges.l1 k2 t282 t285 t288 x6_1 x7_1 x8_2 (rd l0_0 (ji14)) (wrap64 (x10_2 + 1)) l0_0 a0_1 l0_2)) = some r := H;have A25 := zA A250;clear A250
              by_cases c26 : t296 = true
              ·subst c26
               have H1 : (if x8_2.length < 17592186044416 then (pleatref12_Edges.l1 k2 t282 t285 t288 x6_1 x7_1 (x8_2 ++ [x10_2]) (rd l0_0 (ji14)) (wrap64 (x10_2 + 1)) l0_0 a0_1 l0_2) else (none)) = some r := by rw [if_pos rfl] at H; exact H
               clear H;have H := H1;clear H1
               by_cases c27 : x8_2.length < 17592186044416
               ·rw [if_pos c27] at H;have LMc27 := zA c27;clear c27;obtain ⟨y297, hy297⟩ : ∃ y_ : List Int, y_ = (x8_2 ++ [x10_2]) := ⟨_, rfl⟩
                replace H : (pleatref12_Edges.l1 k2 t282 t285 t288 x6_1 x7_1 y297 (rd l0_0 (ji14)) (wrap64 (x10_2 + 1)) l0_0 a0_1 l0_2) = some r := by first | (rw [hy297]; with_reducible exact H) | (have H2_ := (Option.bind_some _ _).symm.trans H; rw [hy297]; with_reducible exact H2_) | (have H2_ := (Option.bind_some _ _).symm.trans H; with_reducible exact H2_) | with_reducible exact H | (rw [hy297]; exact H) | exact H
                have Ny297 := zA hy297;clear hy297;have H' := zA H;clear H
                try go_wp2
                have n0_ := zA (zRd HO_3.out);have n1_ := zA (zRd HO_4.out);have n2_ := zA (zRd HO_5.out);have n3_ := zA (Kd.S_drew HO_6.out);have n4_ := zA (zRd HO_8.out);have n5_ := zA (zd BK281.out);have n6_ := zA (zD HB.out);clear HO_3;clear HO_4;clear HO_5;clear HO_6;clear HO_8;clear BK281;clear HB;have HO_3 := n0_;have HO_4 := n1_;have HO_5 := n2_;have HO_6 := n3_;have HO_8 := n4_;have BK281 := n5_;have HB := n6_;clear n0_ n1_ n2_ n3_ n4_ n5_ n6_;have p293 : 0 ≤ (x10_2 : Int) := zo (by first | (with_reducible assumption) | assumption);have q293 : x10_2 < (t282.length : Int) := zo (by first | (with_reducible assumption) | assumption);obtain ⟨ad293, e293, hx293_0, hx293_1⟩ := at_T84 (Kd.R_reads' HO_3.out).2.2 x10_2 p293 q293;obtain rfl : ad291 = ad293 := (by injection e293);replace p293 := eq_true p293;replace q293 := eq_true q293;have p294 : 0 ≤ (x10_2 : Int) := zo (by first | (with_reducible assumption) | assumption);have q294 : x10_2 < (t282.length : Int) := zo (by first | (with_reducible assumption) | assumption);obtain ⟨ad294, e294, hx294_0, hx294_1⟩ := at_T84 (Kd.R_reads' HO_3.out).2.2 x10_2 p294 q294;obtain rfl : ad291 = ad294 := (by injection e294);replace p294 := eq_true p294;replace q294 := eq_true q294;obtain ⟨Ao29, co29, eo29⟩ := Kd.R_slice HO_4.out;(first | subst eo29 | (injection eo29 with f1_ f2_ f3_; have f4_ := f1_.symm; have f5_ := f3_.symm; clear f1_ f2_ f3_; subst f4_; subst f5_));have p295 : 0 ≤ (((rd_T84 t282 x10_2).f0) : Int) := zo (by first | (with_reducible assumption) | assumption);have q295 : ((rd_T84 t282 x10_2).f0) < (t285.length : Int) := zo (by first | (with_reducible assumption) | assumption);obtain ⟨ad295, e295, hx295_0⟩ := Kd.at_bool (Kd.R_reads' HO_4.out).2.2 ((rd_T84 t282 x10_2).f0) p295 q295;(try rw [← Nbq23.out] at hx295_0)
                cases e295
                replace p295 := eq_true p295;replace q295 := eq_true q295;refine start_ (n := 29) (S := fun w' => w'.cell? (ad291.add ((x10_2).toNat * 2)) = some (.int .i64 ((rd_T84 t282 x10_2).f0)) ∧ w'.cell? ⟨(ad291.add ((x10_2).toNat * 2)).block, (ad291.add ((x10_2).toNat * 2)).off + 1, none⟩ = some (.int .i64 ((rd_T84 t282 x10_2).f1)) ∧ w'.cell? (ad291.add ((x10_2).toNat * 2)) = some (.int .i64 ((rd_T84 t282 x10_2).f0)) ∧ w'.cell? ⟨(ad291.add ((x10_2).toNat * 2)).block, (ad291.add ((x10_2).toNat * 2)).off + 1, none⟩ = some (.int .i64 ((rd_T84 t282 x10_2).f1)) ∧ w'.cell? (ad295.add (((rd_T84 t282 x10_2).f0)).toNat) = some (.bool true)) (ds := []) #[false, false, false, false, false, false, false, false, false, false, false, false, false, false, false, false, false, false, false, false, false, false, false, false, false, false, false, false, false] (by kernel_rfl) rfl rfl ⟨hx293_0, hx293_1, hx294_0, hx294_1, hx295_0⟩ (fun hHeld => ?_); refine with_tabW pleatref12_Edges.tab13 pleatref12_Edges.bits13 (fun HT_ HW_ => ?_);generalize wr.drew = w28 at HO_3 HO_4 HO_5 HO_6 HO_8 BK281 HB hx293_0 hx293_1 hx294_0 hx294_1 hx295_0 hHeld ⊢;refine pure_ (i := 0) (N := some 39) (v := ?_) (a' := ?_) #[true, false, false, false, false, false, false, false, false, false, false, false, false, false, false, false, false, false, false, false, false, false, false, false, false, false, false, false, false] rfl rfl (any_of HT_.out (by kernel_rfl)) (fun _ _ _ h => h) (Or.inl ⟨by rfl, ?_⟩) ?_ ?_;rotate_left
                ·intro w'
                 go_simp
                 with_reducible rfl
                rotate_left
                ·simp only [Act.put, List.setIfInBounds_toArray, List.set_cons_zero, List.set_cons_succ, i64_w, i32_w];rfl
                refine pure_ (i := 1) (N := some 40) (v := ?_) (a' := ?_) #[true, true, false, false, false, false, false, false, false, false, false, false, false, false, false, false, false, false, false, false, false, false, false, false, false, false, false, false, false] rfl rfl (any_of HT_.out (by kernel_rfl)) (fun _ _ _ h => h) (Or.inl ⟨by rfl, ?_⟩) ?_ ?_;rotate_left
                ·intro w'
                 go_simp
                 with_reducible rfl
                rotate_left
                ·simp only [Act.put, List.setIfInBounds_toArray, List.set_cons_zero, List.set_cons_succ, i64_w, i32_w];rfl
                refine pure_ (i := 2) (N := some 41) (v := ?_) (a' := ?_) #[true, true, true, false, false, false, false, false, false, false, false, false, false, false, false, false, false, false, false, false, false, false, false, false, false, false, false, false, false] rfl rfl (any_of HT_.out (by kernel_rfl)) (fun _ _ _ h => h) (Or.inl ⟨by rfl, ?_⟩) ?_ ?_;rotate_left
                ·intro w'
                 go_simp
                 with_reducible rfl
                rotate_left
                ·simp only [Act.put, List.setIfInBounds_toArray, List.set_cons_zero, List.set_cons_succ, i64_w, i32_w];rfl
                refine pure_ (i := 3) (N := some 42) (v := ?_) (a' := ?_) #[true, true, true, true, false, false, false, false, false, false, false, false, false, false, false, false, false, false, false, false, false, false, false, false, false, false, false, false, false] rfl rfl (any_of HT_.out (by kernel_rfl)) (fun _ _ _ h => h) (Or.inl ⟨by rfl, ?_⟩) ?_ ?_;rotate_left
                ·intro w'
                 go_simp
                 with_reducible rfl
                rotate_left
                ·simp only [Act.put, List.setIfInBounds_toArray, List.set_cons_zero, List.set_cons_succ, i64_w, i32_w];rfl
                refine pure_ (i := 4) (N := some 43) (v := ?_) (a' := ?_) #[true, true, true, true, true, false, false, false, false, false, false, false, false, false, false, false, false, false, false, false, false, false, false, false, false, false, false, false, false] rfl rfl (any_of HT_.out (by kernel_rfl)) (fun _ _ _ h => h) (Or.inl ⟨by rfl, ?_⟩) ?_ ?_;rotate_left
                ·intro w'
                 go_simp
                 with_reducible rfl
                rotate_left
                ·simp only [Act.put, List.setIfInBounds_toArray, List.set_cons_zero, List.set_cons_succ, i64_w, i32_w];rfl
                refine pure_ (i := 5) (N := some 44) (v := ?_) (a' := ?_) #[true, true, true, true, true, true, false, false, false, false, false, false, false, false, false, false, false, false, false, false, false, false, false, false, false, false, false, false, false] rfl rfl (any_of HT_.out (by kernel_rfl)) (fun _ _ _ h => h) (Or.inl ⟨by rfl, ?_⟩) ?_ ?_;rotate_left
                ·intro w'
                 go_simp
                 with_reducible rfl
                rotate_left
                ·simp only [Act.put, List.setIfInBounds_toArray, List.set_cons_zero, List.set_cons_succ, i64_w, i32_w];rfl
                refine pure_ (i := 6) (N := some 45) (v := ?_) (a' := ?_) #[true, true, true, true, true, true, true, false, false, false, false, false, false, false, false, false, false, false, false, false, false, false, false, false, false, false, false, false, false] rfl rfl (any_of HT_.out (by kernel_rfl)) (fun _ _ _ h => h) (Or.inl ⟨by rfl, ?_⟩) ?_ ?_;rotate_left
                ·intro w'
                 go_simp
                 with_reducible rfl
                rotate_left
                ·simp only [Act.put, List.setIfInBounds_toArray, List.set_cons_zero, List.set_cons_succ, i64_w, i32_w];rfl
                refine pure_ (i := 7) (N := some 46) (v := ?_) (a' := ?_) #[true, true, true, true, true, true, true, true, false, false, false, false, false, false, false, false, false, false, false, false, false, false, false, false, false, false, false, false, false] rfl rfl (any_of HT_.out (by kernel_rfl)) (fun _ _ _ h => h) (Or.inl ⟨by rfl, ?_⟩) ?_ ?_;rotate_left
                ·intro w'
                 go_simp
                 with_reducible rfl
                rotate_left
                ·simp only [Act.put, List.setIfInBounds_toArray, List.set_cons_zero, List.set_cons_succ, i64_w, i32_w];rfl
                refine pure_ (i := 8) (N := some 47) (v := ?_) (a' := ?_) #[true, true, true, true, true, true, true, true, true, false, false, false, false, false, false, false, false, false, false, false, false, false, false, false, false, false, false, false, false] rfl rfl (any_of HT_.out (by kernel_rfl)) (fun _ _ _ h => h) (Or.inl ⟨by rfl, ?_⟩) ?_ ?_;rotate_left
                ·intro w'
                 go_simp
                 with_reducible rfl
                rotate_left
                ·simp only [Act.put, List.setIfInBounds_toArray, List.set_cons_zero, List.set_cons_succ, i64_w, i32_w];rfl
                refine pure_ (i := 10) (N := some 49) (v := ?_) (a' := ?_) #[true, true, true, true, true, true, true, true, true, false, true, false, false, false, false, false, false, false, false, false, false, false, false, false, false, false, false, false, false] rfl rfl (any_of HT_.out (by kernel_rfl)) (fun _ _ _ h => h) (Or.inl ⟨by rfl, ?_⟩) ?_ ?_;rotate_left
                ·intro w'
                 go_simp
                 with_reducible rfl
                rotate_left
                ·simp only [Act.put, List.setIfInBounds_toArray, List.set_cons_zero, List.set_cons_succ, i64_w, i32_w];rfl
                refine pure_ (i := 11) (N := some 50) (v := ?_) (a' := ?_) #[true, true, true, true, true, true, true, true, true, false, true, true, false, false, false, false, false, false, false, false, false, false, false, false, false, false, false, false, false] rfl rfl (any_of HT_.out (by kernel_rfl)) (fun _ _ _ h => h) (Or.inl ⟨by rfl, ?_⟩) ?_ ?_;rotate_left
                ·intro w'
                 go_simp
                 with_reducible rfl
                rotate_left
                ·simp only [Act.put, List.setIfInBounds_toArray, List.set_cons_zero, List.set_cons_succ, i64_w, i32_w];rfl
                refine pure_ (i := 12) (N := some 51) (v := ?_) (a' := ?_) #[true, true, true, true, true, true, true, true, true, false, true, true, true, false, false, false, false, false, false, false, false, false, false, false, false, false, false, false, false] rfl rfl (any_of HT_.out (by kernel_rfl)) (fun _ _ _ h => h) (Or.inl ⟨by rfl, ?_⟩) ?_ ?_;rotate_left
                ·intro w'
                 go_simp
                 with_reducible rfl
                rotate_left
                ·simp only [Act.put, List.setIfInBounds_toArray, List.set_cons_zero, List.set_cons_succ, i64_w, i32_w];rfl
                refine pure_ (i := 13) (N := some 52) (v := ?_) (a' := ?_) #[true, true, true, true, true, true, true, true, true, false, true, true, true, true, false, false, false, false, false, false, false, false, false, false, false, false, false, false, false] rfl rfl (any_of HT_.out (by kernel_rfl)) (fun _ _ _ h => h) (Or.inl ⟨by rfl, ?_⟩) ?_ ?_;rotate_left
                ·intro w'
                 go_simp
                 with_reducible rfl
                rotate_left
                ·simp only [Act.put, List.setIfInBounds_toArray, List.set_cons_zero, List.set_cons_succ, i64_w, i32_w];rfl
                refine pure_ (i := 14) (N := some 53) (v := ?_) (a' := ?_) #[true, true, true, true, true, true, true, true, true, false, true, true, true, true, true, false, false, false, false, false, false, false, false, false, false, false, false, false, false] rfl rfl (any_of HT_.out (by kernel_rfl)) (fun _ _ _ h => h) (Or.inl ⟨by rfl, ?_⟩) ?_ ?_;rotate_left
                ·intro w'
                 go_simp
                 with_reducible rfl
                rotate_left
                ·simp only [Act.put, List.setIfInBounds_toArray, List.set_cons_zero, List.set_cons_succ, i64_w, i32_w];rfl
                refine take_ (i := 9) (N := some 48) (v := ?_) (a' := ?_) #[true, true, true, true, true, true, true, true, true, true, true, true, true, true, true, false, false, false, false, false, false, false, false, false, false, false, false, false, false] rfl rfl (take_ofW HT_.out HW_.out (by kernel_rfl)) (fun _ _ _ h => h) (Or.inl ⟨by rfl, ?_⟩) hHeld ?_ ?_;rotate_left
                ·rintro w' ⟨s0, s1, s2, s3, s4⟩
                 go_simp
                 with_reducible rfl
                rotate_left
                ·simp only [Act.put, List.setIfInBounds_toArray, List.set_cons_zero, List.set_cons_succ, i64_w, i32_w];rfl
                refine take_ (i := 15) (N := some 54) (v := ?_) (a' := ?_) #[true, true, true, true, true, true, true, true, true, true, true, true, true, true, true, true, false, false, false, false, false, false, false, false, false, false, false, false, false] rfl rfl (take_ofW HT_.out HW_.out (by kernel_rfl)) (fun _ _ _ h => h) (Or.inl ⟨by rfl, ?_⟩) hHeld ?_ ?_;rotate_left
                ·rintro w' ⟨s0, s1, s2, s3, s4⟩
                 go_simp
                 with_reducible rfl
                rotate_left
                ·simp only [Act.put, List.setIfInBounds_toArray, List.set_cons_zero, List.set_cons_succ, i64_w, i32_w];rfl
                refine pure_ (i := 16) (N := some 55) (v := ?_) (a' := ?_) #[true, true, true, true, true, true, true, true, true, true, true, true, true, true, true, true, true, false, false, false, false, false, false, false, false, false, false, false, false] rfl rfl (any_of HT_.out (by kernel_rfl)) (fun _ _ _ h => h) (Or.inl ⟨by rfl, ?_⟩) ?_ ?_;rotate_left
                ·intro w'
                 go_simp
                 with_reducible rfl
                rotate_left
                ·simp only [Act.put, List.setIfInBounds_toArray, List.set_cons_zero, List.set_cons_succ, i64_w, i32_w];rfl
                refine take_ (i := 17) (N := some 56) (v := ?_) (a' := ?_) #[true, true, true, true, true, true, true, true, true, true, true, true, true, true, true, true, true, true, false, false, false, false, false, false, false, false, false, false, false] rfl rfl (take_ofW HT_.out HW_.out (by kernel_rfl)) (fun _ _ _ h => h) (Or.inl ⟨by rfl, ?_⟩) hHeld ?_ ?_;rotate_left
                ·rintro w' ⟨s0, s1, s2, s3, s4⟩
                 go_simp
                 with_reducible rfl
                rotate_left
                ·simp only [Act.put, List.setIfInBounds_toArray, List.set_cons_zero, List.set_cons_succ, i64_w, i32_w];rfl
                refine pure_ (i := 18) (N := some 57) (v := ?_) (a' := ?_) #[true, true, true, true, true, true, true, true, true, true, true, true, true, true, true, true, true, true, true, false, false, false, false, false, false, false, false, false, false] rfl rfl (any_of HT_.out (by kernel_rfl)) (fun _ _ _ h => h) (Or.inl ⟨by rfl, ?_⟩) ?_ ?_;rotate_left
                ·intro w'
                 go_simp
                 with_reducible rfl
                rotate_left
                ·simp only [Act.put, List.setIfInBounds_toArray, List.set_cons_zero, List.set_cons_succ, i64_w, i32_w];rfl
                refine pure_ (i := 19) (N := some 58) (v := undef) (a' := ?_) #[true, true, true, true, true, true, true, true, true, true, true, true, true, true, true, true, true, true, true, true, false, false, false, false, false, false, false, false, false] rfl rfl (any_of HT_.out (by kernel_rfl)) (fun _ _ _ h => h) (Or.inr ⟨by rfl, rfl⟩) ?_ ?_;rotate_left
                ·simp only [Act.put, List.setIfInBounds_toArray, List.set_cons_zero, List.set_cons_succ, i64_w, i32_w];rfl
                refine pure_ (i := 20) (N := some 59) (v := undef) (a' := ?_) #[true, true, true, true, true, true, true, true, true, true, true, true, true, true, true, true, true, true, true, true, true, false, false, false, false, false, false, false, false] rfl rfl (any_of HT_.out (by kernel_rfl)) (fun _ _ _ h => h) (Or.inr ⟨by rfl, rfl⟩) ?_ ?_;rotate_left
                ·simp only [Act.put, List.setIfInBounds_toArray, List.set_cons_zero, List.set_cons_succ, i64_w, i32_w];rfl
                refine pure_ (i := 21) (N := some 60) (v := undef) (a' := ?_) #[true, true, true, true, true, true, true, true, true, true, true, true, true, true, true, true, true, true, true, true, true, true, false, false, false, false, false, false, false] rfl rfl (any_of HT_.out (by kernel_rfl)) (fun _ _ _ h => h) (Or.inr ⟨by rfl, rfl⟩) ?_ ?_;rotate_left
                ·simp only [Act.put, List.setIfInBounds_toArray, List.set_cons_zero, List.set_cons_succ, i64_w, i32_w];rfl
                refine pure_ (i := 22) (N := some 61) (v := undef) (a' := ?_) #[true, true, true, true, true, true, true, true, true, true, true, true, true, true, true, true, true, true, true, true, true, true, true, false, false, false, false, false, false] rfl rfl (any_of HT_.out (by kernel_rfl)) (fun _ _ _ h => h) (Or.inr ⟨by rfl, rfl⟩) ?_ ?_;rotate_left
                ·simp only [Act.put, List.setIfInBounds_toArray, List.set_cons_zero, List.set_cons_succ, i64_w, i32_w];rfl
                refine pure_ (i := 23) (N := some 62) (v := undef) (a' := ?_) #[true, true, true, true, true, true, true, true, true, true, true, true, true, true, true, true, true, true, true, true, true, true, true, true, false, false, false, false, false] rfl rfl (any_of HT_.out (by kernel_rfl)) (fun _ _ _ h => h) (Or.inr ⟨by rfl, rfl⟩) ?_ ?_;rotate_left
                ·simp only [Act.put, List.setIfInBounds_toArray, List.set_cons_zero, List.set_cons_succ, i64_w, i32_w];rfl
                refine pure_ (i := 24) (N := some 63) (v := undef) (a' := ?_) #[true, true, true, true, true, true, true, true, true, true, true, true, true, true, true, true, true, true, true, true, true, true, true, true, true, false, false, false, false] rfl rfl (any_of HT_.out (by kernel_rfl)) (fun _ _ _ h => h) (Or.inr ⟨by rfl, rfl⟩) ?_ ?_;rotate_left
                ·simp only [Act.put, List.setIfInBounds_toArray, List.set_cons_zero, List.set_cons_succ, i64_w, i32_w];rfl
                refine pure_ (i := 25) (N := some 64) (v := undef) (a' := ?_) #[true, true, true, true, true, true, true, true, true, true, true, true, true, true, true, true, true, true, true, true, true, true, true, true, true, true, false, false, false] rfl rfl (any_of HT_.out (by kernel_rfl)) (fun _ _ _ h => h) (Or.inr ⟨by rfl, rfl⟩) ?_ ?_;rotate_left
                ·simp only [Act.put, List.setIfInBounds_toArray, List.set_cons_zero, List.set_cons_succ, i64_w, i32_w];rfl
                refine pure_ (i := 26) (N := some 65) (v := undef) (a' := ?_) #[true, true, true, true, true, true, true, true, true, true, true, true, true, true, true, true, true, true, true, true, true, true, true, true, true, true, true, false, false] rfl rfl (any_of HT_.out (by kernel_rfl)) (fun _ _ _ h => h) (Or.inr ⟨by rfl, rfl⟩) ?_ ?_;rotate_left
                ·simp only [Act.put, List.setIfInBounds_toArray, List.set_cons_zero, List.set_cons_succ, i64_w, i32_w];rfl
                refine pure_ (i := 27) (N := some 66) (v := ?_) (a' := ?_) #[true, true, true, true, true, true, true, true, true, true, true, true, true, true, true, true, true, true, true, true, true, true, true, true, true, true, true, true, false] rfl rfl (any_of HT_.out (by kernel_rfl)) (fun _ _ _ h => h) (Or.inl ⟨by rfl, ?_⟩) ?_ ?_;rotate_left
                ·intro w'
                 go_simp
                 with_reducible rfl
                rotate_left
                ·simp only [Act.put, List.setIfInBounds_toArray, List.set_cons_zero, List.set_cons_succ, i64_w, i32_w];rfl
                refine one_ (i := 28) (N := some 67) #[true, true, true, true, true, true, true, true, true, true, true, true, true, true, true, true, true, true, true, true, true, true, true, true, true, true, true, true, true] rfl rfl (one_of HT_.out (by kernel_rfl)) (by decide) (fun K hK => ?_);refine goes_ Try.func90 (by kernel_rfl) rfl #[.int .u32 (rd l0_0 (ji14)), .bool (x10_2 == (wrap64 (x7_1 + 1))), .int .i64 ((rd_T84 t282 x10_2).f0), .bool true] (by rfl) rfl rfl (by (try simp only [List.map_toArray, List.map_cons, List.map_nil]); first | done | (simp only [hji14]; rfl) | rfl | (simp only [List.length_drop, List.length_take]; rfl)) ?_
                with_reducible refine (pleatref12_goes.calls k2 (rd l0_0 (ji14)) (x10_2 == (wrap64 (x7_1 + 1))) ((rd_T84 t282 x10_2).f0) true true _ A25.out).mono ?_
                rintro e w30 ⟨rfl, hb⟩;have HS0_ := (hb.cell (zw _ _ (hHeld.1))).trans (hHeld.1);have HS1_ := (hb.cell (zw _ _ (hHeld.2.1))).trans (hHeld.2.1);have HS2_ := (hb.cell (zw _ _ (hHeld.2.2.1))).trans (hHeld.2.2.1);have HS3_ := (hb.cell (zw _ _ (hHeld.2.2.2.1))).trans (hHeld.2.2.2.1);have HS4_ := (hb.cell (zw _ _ (hHeld.2.2.2.2))).trans (hHeld.2.2.2.2);refine ⟨_, rfl, ?_⟩;have n0_ := zA (Kd.R_below (by (with_reducible repeat (first | apply zRa | apply zRn | apply zRd)); exact HO_3.out) hb);have n1_ := zA (Kd.R_below (by (with_reducible repeat (first | apply zRa | apply zRn | apply zRd)); exact HO_4.out) hb);have n2_ := zA (Kd.R_below (by (with_reducible repeat (first | apply zRa | apply zRn | apply zRd)); exact HO_5.out) hb);have n3_ := zA (Kd.S_below (by (with_reducible repeat (first | apply Kd.S_alloc | apply Kd.S_drewN | apply Kd.S_drew)); exact HO_6.out) hb);have n4_ := zA (Kd.R_below (by (with_reducible repeat (first | apply zRa | apply zRn | apply zRd)); exact HO_8.out) hb);have n5_ := zA (blk_below (g := gb281) (o := .cells #[.slice (some ad292) l0_0.length c0_0, .int .i64 a0_1, .slice A0_2 l0_2.length c0_2] 25 (0, 0)) (by (with_reducible repeat (first |refine zn ?_ _|refine zd ?_|refine za ?_ _)); exact BK281.out) hb);have n6_ := zA (zt (by repeat (first | (with_reducible first | exact HB.out | apply zB | apply zN | apply zD | refine zS ?_ GE281.out) | exact HB.out)) hb);clear HO_3;clear HO_4;clear HO_5;clear HO_6;clear HO_8;clear BK281;clear HB;have HO_3 := n0_;have HO_4 := n1_;have HO_5 := n2_;have HO_6 := n3_;have HO_8 := n4_;have BK281 := n5_;have HB := n6_;clear n0_ n1_ n2_ n3_ n4_ n5_ n6_;(try clear hb);(try clear hb2);(try clear hk);(try clear hi);refine hK.out _ _ ⟨HS0_, HS1_, HS2_, HS3_, HS4_⟩ (fun hHeld => ?_);clear hK K;refine norm_ (a' := ?_) ?_ ?_;rotate_left
                ·show Act.put _ (some 67) _ = _;simp only [Act.put, List.setIfInBounds_toArray, List.set_cons_zero, List.set_cons_succ, i64_w, i32_w];rfl
                refine done_ (done_of HT_.out (by kernel_rfl)) ?_
                try go_wp2_with (first | ((with_reducible refine gate_builtin (b := .append) (xs := #[.tmp 68, .tmp 70]) rfl ?_); at_builtin; refine Kd.R_append (Kd.int .i64) (w0 := w) w.heap.size rfl (.tmp 68) (.tmp 70) 30 3 (.int .i64 0) 8 rfl Try.underlying30 info3 rfl (by decide) (by omega) u8 x8_2 x10_2 [.int .i64 x10_2] (fun _ => True) (fun _ => False) rfl rfl ?aP (fun _ hk => hk.elim) ?aF ?aO ?aB ?aS ?aL ?_; (case aP => exact rfl); (case aB => exact (by repeat (first | (with_reducible first | exact HB.out | apply zB | apply zN | apply zD | refine zS ?_ GE281.out) | exact HB.out))); (case aF => exact (fun _ _ => trivial)); (case aO => exact (by (with_reducible repeat (first | apply zRa | apply zRn | apply zRd)); exact HO_8.out)); (case aS => exact (below_size (by repeat (first | (with_reducible first | exact HB.out | apply zB | apply zN | apply zD | refine zS ?_ GE281.out) | exact HB.out)))); (case aL => have := LMc27.out; omega); intro v298 w31 ho hb hg hat; rw [← Ny297.out] at ho; have n0_ := zA (Kd.R_over' (by (with_reducible repeat (first | apply zRa | apply zRn | apply zRd)); exact HO_3.out) (Kd.R_typed (by (with_reducible repeat (first | apply zRa | apply zRn | apply zRd)); exact HO_8.out)) (by decide) hg); have n1_ := zA (Kd.R_over' (by (with_reducible repeat (first | apply zRa | apply zRn | apply zRd)); exact HO_4.out) (Kd.R_typed (by (with_reducible repeat (first | apply zRa | apply zRn | apply zRd)); exact HO_8.out)) (by decide) hg); have n2_ := zA (Kd.R_over' (by (with_reducible repeat (first | apply zRa | apply zRn | apply zRd)); exact HO_5.out) (Kd.R_typed (by (with_reducible repeat (first | apply zRa | apply zRn | apply zRd)); exact HO_8.out)) (by decide) hg); have n3_ := zA (Kd.S_after (ok := (fun _ => True)) (by (with_reducible repeat (first | apply Kd.S_alloc | apply Kd.S_drewN | apply Kd.S_drew)); exact Kd.S_mono HO_6.out (fun _ hk => ⟨trivial, hk⟩)) hg hat); have n4_ := zA (blk_grown (g := gb281) (o := .cells #[.slice (some ad292) l0_0.length c0_0, .int .i64 a0_1, .slice A0_2 l0_2.length c0_2] 25 (0, 0)) (by (with_reducible repeat (first |refine zn ?_ _|refine zd ?_|refine za ?_ _)); exact BK281.out) hg (Kd.R_ne HO_8.out BK281.out (by decide))); have n5_ := zA (hb); have n6_ := zA (ho); clear HO_3; clear HO_4; clear HO_5; clear HO_6; clear BK281; clear HB; clear HO_8; have HO_3 := n0_; have HO_4 := n1_; have HO_5 := n2_; have HO_6 := n3_; have BK281 := n4_; have HB := n5_; have HO299 := n6_; clear n0_ n1_ n2_ n3_ n4_ n5_ n6_; clear ho hb hg hat))
                go_roundg k2
                case measure => have := HK1.out; have := HK2.out; omega
                case rel => exact ⟨(y297), (wrap64 (x10_2 + 1)), (by first | rfl | (simp; done) | (simp [*]; done)), H', ⟨by have := HK1.out; have := HK2.out; omega⟩, ⟨by (with_reducible repeat (first | apply zRa | apply zRn | apply zRd)); exact HO_3.out⟩, ⟨by (with_reducible repeat (first | apply zRa | apply zRn | apply zRd)); exact HO_4.out⟩, ⟨by (with_reducible repeat (first | apply zRa | apply zRn | apply zRd)); exact HO_5.out⟩, ⟨by (with_reducible repeat (first | apply Kd.S_alloc | apply Kd.S_drewN | apply Kd.S_drew)); exact Kd.S_mono HO_6.out (fun _ hk => hk.2)⟩, ⟨by (with_reducible repeat (first | apply zRa | apply zRn | apply zRd)); exact HO299.out⟩, ⟨by (with_reducible repeat (first |refine zn ?_ _|refine zd ?_|refine za ?_ _)); exact BK281.out⟩, ⟨by repeat (first | (with_reducible first | exact HB.out | apply zB | apply zN | apply zD | refine zS ?_ GE281.out) | exact HB.out)⟩⟩
               ·rw [if_neg c27] at H;exact absurd H (by simp)
              ·replace c26 := Bool.eq_false_iff.mpr c26;subst c26
               have H1 : (pleatref12_Edges.l1 k2 t282 t285 t288 x6_1 x7_1 x8_2 (rd l0_0 (ji14)) (wrap64 (x10_2 + 1)) l0_0 a0_1 l0_2) = some r := by rw [if_neg (show ¬ (false = true) by decide)] at H; exact H
               clear H;have H := H1;clear H1;have H' := zA H;clear H
               try go_wp2
               have n0_ := zA (zRd HO_3.out);have n1_ := zA (zRd HO_4.out);have n2_ := zA (zRd HO_5.out);have n3_ := zA (Kd.S_drew HO_6.out);have n4_ := zA (zRd HO_8.out);have n5_ := zA (zd BK281.out);have n6_ := zA (zD HB.out);clear HO_3;clear HO_4;clear HO_5;clear HO_6;clear HO_8;clear BK281;clear HB;have HO_3 := n0_;have HO_4 := n1_;have HO_5 := n2_;have HO_6 := n3_;have HO_8 := n4_;have BK281 := n5_;have HB := n6_;clear n0_ n1_ n2_ n3_ n4_ n5_ n6_;have p293 : 0 ≤ (x10_2 : Int) := zo (by first | (with_reducible assumption) | assumption);have q293 : x10_2 < (t282.length : Int) := zo (by first | (with_reducible assumption) | assumption);obtain ⟨ad293, e293, hx293_0, hx293_1⟩ := at_T84 (Kd.R_reads' HO_3.out).2.2 x10_2 p293 q293;obtain rfl : ad291 = ad293 := (by injection e293);replace p293 := eq_true p293;replace q293 := eq_true q293;have p294 : 0 ≤ (x10_2 : Int) := zo (by first | (with_reducible assumption) | assumption);have q294 : x10_2 < (t282.length : Int) := zo (by first | (with_reducible assumption) | assumption);obtain ⟨ad294, e294, hx294_0, hx294_1⟩ := at_T84 (Kd.R_reads' HO_3.out).2.2 x10_2 p294 q294;obtain rfl : ad291 = ad294 := (by injection e294);replace p294 := eq_true p294;replace q294 := eq_true q294;obtain ⟨Ao33, co33, eo33⟩ := Kd.R_slice HO_4.out;(first | subst eo33 | (injection eo33 with f1_ f2_ f3_; have f4_ := f1_.symm; have f5_ := f3_.symm; clear f1_ f2_ f3_; subst f4_; subst f5_));have p295 : 0 ≤ (((rd_T84 t282 x10_2).f0) : Int) := zo (by first | (with_reducible assumption) | assumption);have q295 : ((rd_T84 t282 x10_2).f0) < (t285.length : Int) := zo (by first | (with_reducible assumption) | assumption);obtain ⟨ad295, e295, hx295_0⟩ := Kd.at_bool (Kd.R_reads' HO_4.out).2.2 ((rd_T84 t282 x10_2).f0) p295 q295;(try rw [← Nbq23.out] at hx295_0)
               cases e295
               replace p295 := eq_true p295;replace q295 := eq_true q295;refine start_ (n := 29) (S := fun w' => w'.cell? (ad291.add ((x10_2).toNat * 2)) = some (.int .i64 ((rd_T84 t282 x10_2).f0)) ∧ w'.cell? ⟨(ad291.add ((x10_2).toNat * 2)).block, (ad291.add ((x10_2).toNat * 2)).off + 1, none⟩ = some (.int .i64 ((rd_T84 t282 x10_2).f1)) ∧ w'.cell? (ad291.add ((x10_2).toNat * 2)) = some (.int .i64 ((rd_T84 t282 x10_2).f0)) ∧ w'.cell? ⟨(ad291.add ((x10_2).toNat * 2)).block, (ad291.add ((x10_2).toNat * 2)).off + 1, none⟩ = some (.int .i64 ((rd_T84 t282 x10_2).f1)) ∧ w'.cell? (ad295.add (((rd_T84 t282 x10_2).f0)).toNat) = some (.bool true)) (ds := []) #[false, false, false, false, false, false, false, false, false, false, false, false, false, false, false, false, false, false, false, false, false, false, false, false, false, false, false, false, false] (by kernel_rfl) rfl rfl ⟨hx293_0, hx293_1, hx294_0, hx294_1, hx295_0⟩ (fun hHeld => ?_); refine with_tabW pleatref12_Edges.tab13 pleatref12_Edges.bits13 (fun HT_ HW_ => ?_);generalize wr.drew = w32 at HO_3 HO_4 HO_5 HO_6 HO_8 BK281 HB hx293_0 hx293_1 hx294_0 hx294_1 hx295_0 hHeld ⊢;refine pure_ (i := 0) (N := some 39) (v := ?_) (a' := ?_) #[true, false, false, false, false, false, false, false, false, false, false, false, false, false, false, false, false, false, false, false, false, false, false, false, false, false, false, false, false] rfl rfl (any_of HT_.out (by kernel_rfl)) (fun _ _ _ h => h) (Or.inl ⟨by rfl, ?_⟩) ?_ ?_;rotate_left
               ·intro w'
                go_simp
                with_reducible rfl
               rotate_left
               ·simp only [Act.put, List.setIfInBounds_toArray, List.set_cons_zero, List.set_cons_succ, i64_w, i32_w];rfl
               refine pure_ (i := 1) (N := some 40) (v := ?_) (a' := ?_) #[true, true, false, false, false, false, false, false, false, false, false, false, false, false, false, false, false, false, false, false, false, false, false, false, false, false, false, false, false] rfl rfl (any_of HT_.out (by kernel_rfl)) (fun _ _ _ h => h) (Or.inl ⟨by rfl, ?_⟩) ?_ ?_;rotate_left
               ·intro w'
                go_simp
                with_reducible rfl
               rotate_left
               ·simp only [Act.put, List.setIfInBounds_toArray, List.set_cons_zero, List.set_cons_succ, i64_w, i32_w];rfl
               refine pure_ (i := 2) (N := some 41) (v := ?_) (a' := ?_) #[true, true, true, false, false, false, false, false, false, false, false, false, false, false, false, false, false, false, false, false, false, false, false, false, false, false, false, false, false] rfl rfl (any_of HT_.out (by kernel_rfl)) (fun _ _ _ h => h) (Or.inl ⟨by rfl, ?_⟩) ?_ ?_;rotate_left
               ·intro w'
                go_simp
                with_reducible rfl
               rotate_left
               ·simp only [Act.put, List.setIfInBounds_toArray, List.set_cons_zero, List.set_cons_succ, i64_w, i32_w];rfl
               refine pure_ (i := 3) (N := some 42) (v := ?_) (a' := ?_) #[true, true, true, true, false, false, false, false, false, false, false, false, false, false, false, false, false, false, false, false, false, false, false, false, false, false, false, false, false] rfl rfl (any_of HT_.out (by kernel_rfl)) (fun _ _ _ h => h) (Or.inl ⟨by rfl, ?_⟩) ?_ ?_;rotate_left
               ·intro w'
                go_simp
                with_reducible rfl
               rotate_left
               ·simp only [Act.put, List.setIfInBounds_toArray, List.set_cons_zero, List.set_cons_succ, i64_w, i32_w];rfl
               refine pure_ (i := 4) (N := some 43) (v := ?_) (a' := ?_) #[true, true, true, true, true, false, false, false, false, false, false, false, false, false, false, false, false, false, false, false, false, false, false, false, false, false, false, false, false] rfl rfl (any_of HT_.out (by kernel_rfl)) (fun _ _ _ h => h) (Or.inl ⟨by rfl, ?_⟩) ?_ ?_;rotate_left
               ·intro w'
                go_simp
                with_reducible rfl
               rotate_left
               ·simp only [Act.put, List.setIfInBounds_toArray, List.set_cons_zero, List.set_cons_succ, i64_w, i32_w];rfl
               refine pure_ (i := 5) (N := some 44) (v := ?_) (a' := ?_) #[true, true, true, true, true, true, false, false, false, false, false, false, false, false, false, false, false, false, false, false, false, false, false, false, false, false, false, false, false] rfl rfl (any_of HT_.out (by kernel_rfl)) (fun _ _ _ h => h) (Or.inl ⟨by rfl, ?_⟩) ?_ ?_;rotate_left
               ·intro w'
                go_simp
                with_reducible rfl
               rotate_left
               ·simp only [Act.put, List.setIfInBounds_toArray, List.set_cons_zero, List.set_cons_succ, i64_w, i32_w];rfl
               refine pure_ (i := 6) (N := some 45) (v := ?_) (a' := ?_) #[true, true, true, true, true, true, true, false, false, false, false, false, false, false, false, false, false, false, false, false, false, false, false, false, false, false, false, false, false] rfl rfl (any_of HT_.out (by kernel_rfl)) (fun _ _ _ h => h) (Or.inl ⟨by rfl, ?_⟩) ?_ ?_;rotate_left
               ·intro w'
                go_simp
                with_reducible rfl
               rotate_left
               ·simp only [Act.put, List.setIfInBounds_toArray, List.set_cons_zero, List.set_cons_succ, i64_w, i32_w];rfl
               refine pure_ (i := 7) (N := some 46) (v := ?_) (a' := ?_) #[true, true, true, true, true, true, true, true, false, false, false, false, false, false, false, false, false, false, false, false, false, false, false, false, false, false, false, false, false] rfl rfl (any_of HT_.out (by kernel_rfl)) (fun _ _ _ h => h) (Or.inl ⟨by rfl, ?_⟩) ?_ ?_;rotate_left
               ·intro w'
                go_simp
                with_reducible rfl
               rotate_left
               ·simp only [Act.put, List.setIfInBounds_toArray, List.set_cons_zero, List.set_cons_succ, i64_w, i32_w];rfl
               refine pure_ (i := 8) (N := some 47) (v := ?_) (a' := ?_) #[true, true, true, true, true, true, true, true, true, false, false, false, false, false, false, false, false, false, false, false, false, false, false, false, false, false, false, false, false] rfl rfl (any_of HT_.out (by kernel_rfl)) (fun _ _ _ h => h) (Or.inl ⟨by rfl, ?_⟩) ?_ ?_;rotate_left
               ·intro w'
                go_simp
                with_reducible rfl
               rotate_left
               ·simp only [Act.put, List.setIfInBounds_toArray, List.set_cons_zero, List.set_cons_succ, i64_w, i32_w];rfl
               refine pure_ (i := 10) (N := some 49) (v := ?_) (a' := ?_) #[true, true, true, true, true, true, true, true, true, false, true, false, false, false, false, false, false, false, false, false, false, false, false, false, false, false, false, false, false] rfl rfl (any_of HT_.out (by kernel_rfl)) (fun _ _ _ h => h) (Or.inl ⟨by rfl, ?_⟩) ?_ ?_;rotate_left
               ·intro w'
                go_simp
                with_reducible rfl
               rotate_left
               ·simp only [Act.put, List.setIfInBounds_toArray, List.set_cons_zero, List.set_cons_succ, i64_w, i32_w];rfl
               refine pure_ (i := 11) (N := some 50) (v := ?_) (a' := ?_) #[true, true, true, true, true, true, true, true, true, false, true, true, false, false, false, false, false, false, false, false, false, false, false, false, false, false, false, false, false] rfl rfl (any_of HT_.out (by kernel_rfl)) (fun _ _ _ h => h) (Or.inl ⟨by rfl, ?_⟩) ?_ ?_;rotate_left
               ·intro w'
                go_simp
                with_reducible rfl
               rotate_left
               ·simp only [Act.put, List.setIfInBounds_toArray, List.set_cons_zero, List.set_cons_succ, i64_w, i32_w];rfl
               refine pure_ (i := 12) (N := some 51) (v := ?_) (a' := ?_) #[true, true, true, true, true, true, true, true, true, false, true, true, true, false, false, false, false, false, false, false, false, false, false, false, false, false, false, false, false] rfl rfl (any_of HT_.out (by kernel_rfl)) (fun _ _ _ h => h) (Or.inl ⟨by rfl, ?_⟩) ?_ ?_;rotate_left
               ·intro w'
                go_simp
                with_reducible rfl
               rotate_left
               ·simp only [Act.put, List.setIfInBounds_toArray, List.set_cons_zero, List.set_cons_succ, i64_w, i32_w];rfl
               refine pure_ (i := 13) (N := some 52) (v := ?_) (a' := ?_) #[true, true, true, true, true, true, true, true, true, false, true, true, true, true, false, false, false, false, false, false, false, false, false, false, false, false, false, false, false] rfl rfl (any_of HT_.out (by kernel_rfl)) (fun _ _ _ h => h) (Or.inl ⟨by rfl, ?_⟩) ?_ ?_;rotate_left
               ·intro w'
                go_simp
                with_reducible rfl
               rotate_left
               ·simp only [Act.put, List.setIfInBounds_toArray, List.set_cons_zero, List.set_cons_succ, i64_w, i32_w];rfl
               refine pure_ (i := 14) (N := some 53) (v := ?_) (a' := ?_) #[true, true, true, true, true, true, true, true, true, false, true, true, true, true, true, false, false, false, false, false, false, false, false, false, false, false, false, false, false] rfl rfl (any_of HT_.out (by kernel_rfl)) (fun _ _ _ h => h) (Or.inl ⟨by rfl, ?_⟩) ?_ ?_;rotate_left
               ·intro w'
                go_simp
                with_reducible rfl
               rotate_left
               ·simp only [Act.put, List.setIfInBounds_toArray, List.set_cons_zero, List.set_cons_succ, i64_w, i32_w];rfl
               refine take_ (i := 9) (N := some 48) (v := ?_) (a' := ?_) #[true, true, true, true, true, true, true, true, true, true, true, true, true, true, true, false, false, false, false, false, false, false, false, false, false, false, false, false, false] rfl rfl (take_ofW HT_.out HW_.out (by kernel_rfl)) (fun _ _ _ h => h) (Or.inl ⟨by rfl, ?_⟩) hHeld ?_ ?_;rotate_left
               ·rintro w' ⟨s0, s1, s2, s3, s4⟩
                go_simp
                with_reducible rfl
               rotate_left
               ·simp only [Act.put, List.setIfInBounds_toArray, List.set_cons_zero, List.set_cons_succ, i64_w, i32_w];rfl
               refine take_ (i := 15) (N := some 54) (v := ?_) (a' := ?_) #[true, true, true, true, true, true, true, true, true, true, true, true, true, true, true, true, false, false, false, false, false, false, false, false, false, false, false, false, false] rfl rfl (take_ofW HT_.out HW_.out (by kernel_rfl)) (fun _ _ _ h => h) (Or.inl ⟨by rfl, ?_⟩) hHeld ?_ ?_;rotate_left
               ·rintro w' ⟨s0, s1, s2, s3, s4⟩
                go_simp
                with_reducible rfl
               rotate_left
               ·simp only [Act.put, List.setIfInBounds_toArray, List.set_cons_zero, List.set_cons_succ, i64_w, i32_w];rfl
               refine pure_ (i := 16) (N := some 55) (v := ?_) (a' := ?_) #[true, true, true, true, true, true, true, true, true, true, true, true, true, true, true, true, true, false, false, false, false, false, false, false, false, false, false, false, false] rfl rfl (any_of HT_.out (by kernel_rfl)) (fun _ _ _ h => h) (Or.inl ⟨by rfl, ?_⟩) ?_ ?_;rotate_left
               ·intro w'
                go_simp
                with_reducible rfl
               rotate_left
               ·simp only [Act.put, List.setIfInBounds_toArray, List.set_cons_zero, List.set_cons_succ, i64_w, i32_w];rfl
               refine take_ (i := 17) (N := some 56) (v := ?_) (a' := ?_) #[true, true, true, true, true, true, true, true, true, true, true, true, true, true, true, true, true, true, false, false, false, false, false, false, false, false, false, false, false] rfl rfl (take_ofW HT_.out HW_.out (by kernel_rfl)) (fun _ _ _ h => h) (Or.inl ⟨by rfl, ?_⟩) hHeld ?_ ?_;rotate_left
               ·rintro w' ⟨s0, s1, s2, s3, s4⟩
                go_simp
                with_reducible rfl
               rotate_left
               ·simp only [Act.put, List.setIfInBounds_toArray, List.set_cons_zero, List.set_cons_succ, i64_w, i32_w];rfl
               refine pure_ (i := 18) (N := some 57) (v := ?_) (a' := ?_) #[true, true, true, true, true, true, true, true, true, true, true, true, true, true, true, true, true, true, true, false, false, false, false, false, false, false, false, false, false] rfl rfl (any_of HT_.out (by kernel_rfl)) (fun _ _ _ h => h) (Or.inl ⟨by rfl, ?_⟩) ?_ ?_;rotate_left
               ·intro w'
                go_simp
                with_reducible rfl
               rotate_left
               ·simp only [Act.put, List.setIfInBounds_toArray, List.set_cons_zero, List.set_cons_succ, i64_w, i32_w];rfl
               refine pure_ (i := 19) (N := some 58) (v := undef) (a' := ?_) #[true, true, true, true, true, true, true, true, true, true, true, true, true, true, true, true, true, true, true, true, false, false, false, false, false, false, false, false, false] rfl rfl (any_of HT_.out (by kernel_rfl)) (fun _ _ _ h => h) (Or.inr ⟨by rfl, rfl⟩) ?_ ?_;rotate_left
               ·simp only [Act.put, List.setIfInBounds_toArray, List.set_cons_zero, List.set_cons_succ, i64_w, i32_w];rfl
               refine pure_ (i := 20) (N := some 59) (v := undef) (a' := ?_) #[true, true, true, true, true, true, true, true, true, true, true, true, true, true, true, true, true, true, true, true, true, false, false, false, false, false, false, false, false] rfl rfl (any_of HT_.out (by kernel_rfl)) (fun _ _ _ h => h) (Or.inr ⟨by rfl, rfl⟩) ?_ ?_;rotate_left
               ·simp only [Act.put, List.setIfInBounds_toArray, List.set_cons_zero, List.set_cons_succ, i64_w, i32_w];rfl
               refine pure_ (i := 21) (N := some 60) (v := undef) (a' := ?_) #[true, true, true, true, true, true, true, true, true, true, true, true, true, true, true, true, true, true, true, true, true, true, false, false, false, false, false, false, false] rfl rfl (any_of HT_.out (by kernel_rfl)) (fun _ _ _ h => h) (Or.inr ⟨by rfl, rfl⟩) ?_ ?_;rotate_left
               ·simp only [Act.put, List.setIfInBounds_toArray, List.set_cons_zero, List.set_cons_succ, i64_w, i32_w];rfl
               refine pure_ (i := 22) (N := some 61) (v := undef) (a' := ?_) #[true, true, true, true, true, true, true, true, true, true, true, true, true, true, true, true, true, true, true, true, true, true, true, false, false, false, false, false, false] rfl rfl (any_of HT_.out (by kernel_rfl)) (fun _ _ _ h => h) (Or.inr ⟨by rfl, rfl⟩) ?_ ?_;rotate_left
               ·simp only [Act.put, List.setIfInBounds_toArray, List.set_cons_zero, List.set_cons_succ, i64_w, i32_w];rfl
               refine pure_ (i := 23) (N := some 62) (v := undef) (a' := ?_) #[true, true, true, true, true, true, true, true, true, true, true, true, true, true, true, true, true, true, true, true, true, true, true, true, false, false, false, false, false] rfl rfl (any_of HT_.out (by kernel_rfl)) (fun _ _ _ h => h) (Or.inr ⟨by rfl, rfl⟩) ?_ ?_;rotate_left
               ·simp only [Act.put, List.setIfInBounds_toArray, List.set_cons_zero, List.set_cons_succ, i64_w, i32_w];rfl
               refine pure_ (i := 24) (N := some 63) (v := undef) (a' := ?_) #[true, true, true, true, true, true, true, true, true, true, true, true, true, true, true, true, true, true, true, true, true, true, true, true, true, false, false, false, false] rfl rfl (any_of HT_.out (by kernel_rfl)) (fun _ _ _ h => h) (Or.inr ⟨by rfl, rfl⟩) ?_ ?_;rotate_left
               ·simp only [Act.put, List.setIfInBounds_toArray, List.set_cons_zero, List.set_cons_succ, i64_w, i32_w];rfl
               refine pure_ (i := 25) (N := some 64) (v := undef) (a' := ?_) #[true, true, true, true, true, true, true, true, true, true, true, true, true, true, true, true, true, true, true, true, true, true, true, true, true, true, false, false, false] rfl rfl (any_of HT_.out (by kernel_rfl)) (fun _ _ _ h => h) (Or.inr ⟨by rfl, rfl⟩) ?_ ?_;rotate_left
               ·simp only [Act.put, List.setIfInBounds_toArray, List.set_cons_zero, List.set_cons_succ, i64_w, i32_w];rfl
               refine pure_ (i := 26) (N := some 65) (v := undef) (a' := ?_) #[true, true, true, true, true, true, true, true, true, true, true, true, true, true, true, true, true, true, true, true, true, true, true, true, true, true, true, false, false] rfl rfl (any_of HT_.out (by kernel_rfl)) (fun _ _ _ h => h) (Or.inr ⟨by rfl, rfl⟩) ?_ ?_;rotate_left
               ·simp only [Act.put, List.setIfInBounds_toArray, List.set_cons_zero, List.set_cons_succ, i64_w, i32_w];rfl
               refine pure_ (i := 27) (N := some 66) (v := ?_) (a' := ?_) #[true, true, true, true, true, true, true, true, true, true, true, true, true, true, true, true, true, true, true, true, true, true, true, true, true, true, true, true, false] rfl rfl (any_of HT_.out (by kernel_rfl)) (fun _ _ _ h => h) (Or.inl ⟨by rfl, ?_⟩) ?_ ?_;rotate_left
               ·intro w'
                go_simp
                with_reducible rfl
               rotate_left
               ·simp only [Act.put, List.setIfInBounds_toArray, List.set_cons_zero, List.set_cons_succ, i64_w, i32_w];rfl
               refine one_ (i := 28) (N := some 67) #[true, true, true, true, true, true, true, true, true, true, true, true, true, true, true, true, true, true, true, true, true, true, true, true, true, true, true, true, true] rfl rfl (one_of HT_.out (by kernel_rfl)) (by decide) (fun K hK => ?_);refine goes_ Try.func90 (by kernel_rfl) rfl #[.int .u32 (rd l0_0 (ji14)), .bool (x10_2 == (wrap64 (x7_1 + 1))), .int .i64 ((rd_T84 t282 x10_2).f0), .bool true] (by rfl) rfl rfl (by (try simp only [List.map_toArray, List.map_cons, List.map_nil]); first | done | (simp only [hji14]; rfl) | rfl | (simp only [List.length_drop, List.length_take]; rfl)) ?_
               with_reducible refine (pleatref12_goes.calls k2 (rd l0_0 (ji14)) (x10_2 == (wrap64 (x7_1 + 1))) ((rd_T84 t282 x10_2).f0) true false _ A25.out).mono ?_
               rintro e w34 ⟨rfl, hb⟩;have HS0_ := (hb.cell (zw _ _ (hHeld.1))).trans (hHeld.1);have HS1_ := (hb.cell (zw _ _ (hHeld.2.1))).trans (hHeld.2.1);have HS2_ := (hb.cell (zw _ _ (hHeld.2.2.1))).trans (hHeld.2.2.1);have HS3_ := (hb.cell (zw _ _ (hHeld.2.2.2.1))).trans (hHeld.2.2.2.1);have HS4_ := (hb.cell (zw _ _ (hHeld.2.2.2.2))).trans (hHeld.2.2.2.2);refine ⟨_, rfl, ?_⟩;have n0_ := zA (Kd.R_below (by (with_reducible repeat (first | apply zRa | apply zRn | apply zRd)); exact HO_3.out) hb);have n1_ := zA (Kd.R_below (by (with_reducible repeat (first | apply zRa | apply zRn | apply zRd)); exact HO_4.out) hb);have n2_ := zA (Kd.R_below (by (with_reducible repeat (first | apply zRa | apply zRn | apply zRd)); exact HO_5.out) hb);have n3_ := zA (Kd.S_below (by (with_reducible repeat (first | apply Kd.S_alloc | apply Kd.S_drewN | apply Kd.S_drew)); exact HO_6.out) hb);have n4_ := zA (Kd.R_below (by (with_reducible repeat (first | apply zRa | apply zRn | apply zRd)); exact HO_8.out) hb);have n5_ := zA (blk_below (g := gb281) (o := .cells #[.slice (some ad292) l0_0.length c0_0, .int .i64 a0_1, .slice A0_2 l0_2.length c0_2] 25 (0, 0)) (by (with_reducible repeat (first |refine zn ?_ _|refine zd ?_|refine za ?_ _)); exact BK281.out) hb);have n6_ := zA (zt (by repeat (first | (with_reducible first | exact HB.out | apply zB | apply zN | apply zD | refine zS ?_ GE281.out) | exact HB.out)) hb);clear HO_3;clear HO_4;clear HO_5;clear HO_6;clear HO_8;clear BK281;clear HB;have HO_3 := n0_;have HO_4 := n1_;have HO_5 := n2_;have HO_6 := n3_;have HO_8 := n4_;have BK281 := n5_;have HB := n6_;clear n0_ n1_ n2_ n3_ n4_ n5_ n6_;(try clear hb);(try clear hb2);(try clear hk);(try clear hi);refine hK.out _ _ ⟨HS0_, HS1_, HS2_, HS3_, HS4_⟩ (fun hHeld => ?_);clear hK K;refine norm_ (a' := ?_) ?_ ?_;rotate_left
               ·show Act.put _ (some 67) _ = _;simp only [Act.put, List.setIfInBounds_toArray, List.set_cons_zero, List.set_cons_succ, i64_w, i32_w];rfl
               refine done_ (done_of HT_.out (by kernel_rfl)) ?_
               try go_wp2
               go_roundg k2
               case measure => have := HK1.out; have := HK2.out; omega
               case rel => exact ⟨(x8_2), (wrap64 (x10_2 + 1)), (by first | rfl | (simp; done) | (simp [*]; done)), H', ⟨by have := HK1.out; have := HK2.out; omega⟩, ⟨by (with_reducible repeat (first | apply zRa | apply zRn | apply zRd)); exact HO_3.out⟩, ⟨by (with_reducible repeat (first | apply zRa | apply zRn | apply zRd)); exact HO_4.out⟩, ⟨by (with_reducible repeat (first | apply zRa | apply zRn | apply zRd)); exact HO_5.out⟩, ⟨by (with_reducible repeat (first | apply Kd.S_alloc | apply Kd.S_drewN | apply Kd.S_drew)); exact HO_6.out⟩, ⟨by (with_reducible repeat (first | apply zRa | apply zRn | apply zRd)); exact HO_8.out⟩, ⟨by (with_reducible repeat (first |refine zn ?_ _|refine zd ?_|refine za ?_ _)); exact BK281.out⟩, ⟨by repeat (first | (with_reducible first | exact HB.out | apply zB | apply zN | apply zD | refine zS ?_ GE281.out) | exact HB.out)⟩⟩
             ·replace c24 := Bool.eq_false_iff.mpr c24;subst c24
              have H1 : (if ((rd_T84 t282 x10_2).f0) < (t288.length : Int) then ((pleatref12_goes.f k2 (rd l0_0 (ji14)) (x10_2 == (wrap64 (x7_1 + 1))) ((rd_T84 t282 x10_2).f0) (rdOf false t288 ((rd_T84 t282 x10_2).f0))).bind fun t302 => (if t302 = true then (if x8_2.length < 17592186044416 then (pleatref12_Edges.l1 k2 t282 t285 t288 x6_1 x7_1 (x8_2 ++ [x10_2]) (rd l0_0 (ji14)) (wrap64 (x10_2 + 1)) l0_0 a0_1 l0_2) else (none)) else (pleatref12_Edges.l1 k2 t282 t285 t288 x6_1 x7_1 x8_2 (rd l0_0 (ji14)) (wrap64 (x10_2 + 1)) l0_0 a0_1 l0_2))) else (none)) = some r := by rw [if_neg (show ¬ (false = true) by decide)] at H; exact H
              clear H;have H := H1;clear H1
              by_cases c35 : ((rd_T84 t282 x10_2).f0) < (t288.length : Int)
              ·rw [if_pos c35] at H;have c35b0 : decide (((rd_T84 t282 x10_2).f0) < (t288.length : Int)) = true := decide_eq_true c35;clear c35;replace H := zi H;obtain ⟨t302, A360, H⟩ := H;replace H : (if t302 = true then (if x8_2.length < 17592186044416 then (pleatref12_Edges.l1 k2 t282 t285 t288 x6_1 x7_1 (x8_2 ++ [x10_2]) (rd l0_0 (ji14)) (wrap64 (x10_2 + 1)) l0_0 a0_1 l0_2) else (none)) else (pleatref12_Edges.l1 k2 t282 t285 t288 x6_1 x7_1 x8_2 (rd l0_0 (ji14)) (wrap64 (x10_2 + 1)) l0_0 a0_1 l0_2)) = some r := H;have A36 := zA A360;clear A360
               by_cases c37 : t302 = true
               ·subst c37
                have H1 : (if x8_2.length < 17592186044416 then (pleatref12_Edges.l1 k2 t282 t285 t288 x6_1 x7_1 (x8_2 ++ [x10_2]) (rd l0_0 (ji14)) (wrap64 (x10_2 + 1)) l0_0 a0_1 l0_2) else (none)) = some r := by rw [if_pos rfl] at H; exact H
                clear H;have H := H1;clear H1
                by_cases c38 : x8_2.length < 17592186044416
                ·rw [if_pos c38] at H;have LMc38 := zA c38;clear c38;obtain ⟨y303, hy303⟩ : ∃ y_ : List Int, y_ = (x8_2 ++ [x10_2]) := ⟨_, rfl⟩
                 replace H : (pleatref12_Edges.l1 k2 t282 t285 t288 x6_1 x7_1 y303 (rd l0_0 (ji14)) (wrap64 (x10_2 + 1)) l0_0 a0_1 l0_2) = some r := by first | (rw [hy303]; with_reducible exact H) | (have H2_ := (Option.bind_some _ _).symm.trans H; rw [hy303]; with_reducible exact H2_) | (have H2_ := (Option.bind_some _ _).symm.trans H; with_reducible exact H2_) | with_reducible exact H | (rw [hy303]; exact H) | exact H
                 have Ny303 := zA hy303;clear hy303;have H' := zA H;clear H
                 try go_wp2
                 have n0_ := zA (zRd HO_3.out);have n1_ := zA (zRd HO_4.out);have n2_ := zA (zRd HO_5.out);have n3_ := zA (Kd.S_drew HO_6.out);have n4_ := zA (zRd HO_8.out);have n5_ := zA (zd BK281.out);have n6_ := zA (zD HB.out);clear HO_3;clear HO_4;clear HO_5;clear HO_6;clear HO_8;clear BK281;clear HB;have HO_3 := n0_;have HO_4 := n1_;have HO_5 := n2_;have HO_6 := n3_;have HO_8 := n4_;have BK281 := n5_;have HB := n6_;clear n0_ n1_ n2_ n3_ n4_ n5_ n6_;have p293 : 0 ≤ (x10_2 : Int) := zo (by first | (with_reducible assumption) | assumption);have q293 : x10_2 < (t282.length : Int) := zo (by first | (with_reducible assumption) | assumption);obtain ⟨ad293, e293, hx293_0, hx293_1⟩ := at_T84 (Kd.R_reads' HO_3.out).2.2 x10_2 p293 q293;obtain rfl : ad291 = ad293 := (by injection e293);replace p293 := eq_true p293;replace q293 := eq_true q293;have p294 : 0 ≤ (x10_2 : Int) := zo (by first | (with_reducible assumption) | assumption);have q294 : x10_2 < (t282.length : Int) := zo (by first | (with_reducible assumption) | assumption);obtain ⟨ad294, e294, hx294_0, hx294_1⟩ := at_T84 (Kd.R_reads' HO_3.out).2.2 x10_2 p294 q294;obtain rfl : ad291 = ad294 := (by injection e294);replace p294 := eq_true p294;replace q294 := eq_true q294;obtain ⟨Ao40, co40, eo40⟩ := Kd.R_slice HO_4.out;(first | subst eo40 | (injection eo40 with f1_ f2_ f3_; have f4_ := f1_.symm; have f5_ := f3_.symm; clear f1_ f2_ f3_; subst f4_; subst f5_));have p295 : 0 ≤ (((rd_T84 t282 x10_2).f0) : Int) := zo (by first | (with_reducible assumption) | assumption);have q295 : ((rd_T84 t282 x10_2).f0) < (t285.length : Int) := zo (by first | (with_reducible assumption) | assumption);obtain ⟨ad295, e295, hx295_0⟩ := Kd.at_bool (Kd.R_reads' HO_4.out).2.2 ((rd_T84 t282 x10_2).f0) p295 q295;(try rw [← Nbq23.out] at hx295_0)
                 cases e295
                 replace p295 := eq_true p295;replace q295 := eq_true q295;have p300 : 0 ≤ (x10_2 : Int) := zo (by first | (with_reducible assumption) | assumption);have q300 : x10_2 < (t282.length : Int) := zo (by first | (with_reducible assumption) | assumption);obtain ⟨ad300, e300, hx300_0, hx300_1⟩ := at_T84 (Kd.R_reads' HO_3.out).2.2 x10_2 p300 q300;obtain rfl : ad291 = ad300 := (by injection e300);replace p300 := eq_true p300;replace q300 := eq_true q300;obtain ⟨Ao41, co41, eo41⟩ := Kd.R_slice HO_5.out;(first | subst eo41 | (injection eo41 with f1_ f2_ f3_; have f4_ := f1_.symm; have f5_ := f3_.symm; clear f1_ f2_ f3_; subst f4_; subst f5_));have p301 : 0 ≤ (((rd_T84 t282 x10_2).f0) : Int) := zo (by first | (with_reducible assumption) | assumption);have q301 : ((rd_T84 t282 x10_2).f0) < (t288.length : Int) := zo (by first | (with_reducible assumption) | assumption);obtain ⟨ad301, e301, hx301_0⟩ := Kd.at_bool (Kd.R_reads' HO_5.out).2.2 ((rd_T84 t282 x10_2).f0) p301 q301;(try rw [← Nbq23.out] at hx301_0)
                 cases e301
                 replace p301 := eq_true p301;replace q301 := eq_true q301;refine start_ (n := 29) (S := fun w' => w'.cell? (ad291.add ((x10_2).toNat * 2)) = some (.int .i64 ((rd_T84 t282 x10_2).f0)) ∧ w'.cell? ⟨(ad291.add ((x10_2).toNat * 2)).block, (ad291.add ((x10_2).toNat * 2)).off + 1, none⟩ = some (.int .i64 ((rd_T84 t282 x10_2).f1)) ∧ w'.cell? (ad291.add ((x10_2).toNat * 2)) = some (.int .i64 ((rd_T84 t282 x10_2).f0)) ∧ w'.cell? ⟨(ad291.add ((x10_2).toNat * 2)).block, (ad291.add ((x10_2).toNat * 2)).off + 1, none⟩ = some (.int .i64 ((rd_T84 t282 x10_2).f1)) ∧ w'.cell? (ad295.add (((rd_T84 t282 x10_2).f0)).toNat) = some (.bool false) ∧ w'.cell? (ad291.add ((x10_2).toNat * 2)) = some (.int .i64 ((rd_T84 t282 x10_2).f0)) ∧ w'.cell? ⟨(ad291.add ((x10_2).toNat * 2)).block, (ad291.add ((x10_2).toNat * 2)).off + 1, none⟩ = some (.int .i64 ((rd_T84 t282 x10_2).f1)) ∧ w'.cell? (ad301.add (((rd_T84 t282 x10_2).f0)).toNat) = some (.bool (rdOf false t288 ((rd_T84 t282 x10_2).f0)))) (ds := []) #[false, false, false, false, false, false, false, false, false, false, false, false, false, false, false, false, false, false, false, false, false, false, false, false, false, false, false, false, false] (by kernel_rfl) rfl rfl ⟨hx293_0, hx293_1, hx294_0, hx294_1, hx295_0, hx300_0, hx300_1, hx301_0⟩ (fun hHeld => ?_); refine with_tabW pleatref12_Edges.tab13 pleatref12_Edges.bits13 (fun HT_ HW_ => ?_);generalize wr.drew = w39 at HO_3 HO_4 HO_5 HO_6 HO_8 BK281 HB hx293_0 hx293_1 hx294_0 hx294_1 hx295_0 hx300_0 hx300_1 hx301_0 hHeld ⊢;refine pure_ (i := 0) (N := some 39) (v := ?_) (a' := ?_) #[true, false, false, false, false, false, false, false, false, false, false, false, false, false, false, false, false, false, false, false, false, false, false, false, false, false, false, false, false] rfl rfl (any_of HT_.out (by kernel_rfl)) (fun _ _ _ h => h) (Or.inl ⟨by rfl, ?_⟩) ?_ ?_;rotate_left
                 ·intro w'
                  go_simp
                  with_reducible rfl
                 rotate_left
                 ·simp only [Act.put, List.setIfInBounds_toArray, List.set_cons_zero, List.set_cons_succ, i64_w, i32_w];rfl
                 refine pure_ (i := 1) (N := some 40) (v := ?_) (a' := ?_) #[true, true, false, false, false, false, false, false, false, false, false, false, false, false, false, false, false, false, false, false, false, false, false, false, false, false, false, false, false] rfl rfl (any_of HT_.out (by kernel_rfl)) (fun _ _ _ h => h) (Or.inl ⟨by rfl, ?_⟩) ?_ ?_;rotate_left
                 ·intro w'
                  go_simp
                  with_reducible rfl
                 rotate_left
                 ·simp only [Act.put, List.setIfInBounds_toArray, List.set_cons_zero, List.set_cons_succ, i64_w, i32_w];rfl
                 refine pure_ (i := 2) (N := some 41) (v := ?_) (a' := ?_) #[true, true, true, false, false, false, false, false, false, false, false, false, false, false, false, false, false, false, false, false, false, false, false, false, false, false, false, false, false] rfl rfl (any_of HT_.out (by kernel_rfl)) (fun _ _ _ h => h) (Or.inl ⟨by rfl, ?_⟩) ?_ ?_;rotate_left
                 ·intro w'
                  go_simp
                  with_reducible rfl
                 rotate_left
                 ·simp only [Act.put, List.setIfInBounds_toArray, List.set_cons_zero, List.set_cons_succ, i64_w, i32_w];rfl
                 refine pure_ (i := 3) (N := some 42) (v := ?_) (a' := ?_) #[true, true, true, true, false, false, false, false, false, false, false, false, false, false, false, false, false, false, false, false, false, false, false, false, false, false, false, false, false] rfl rfl (any_of HT_.out (by kernel_rfl)) (fun _ _ _ h => h) (Or.inl ⟨by rfl, ?_⟩) ?_ ?_;rotate_left
                 ·intro w'
                  go_simp
                  with_reducible rfl
                 rotate_left
                 ·simp only [Act.put, List.setIfInBounds_toArray, List.set_cons_zero, List.set_cons_succ, i64_w, i32_w];rfl
                 refine pure_ (i := 4) (N := some 43) (v := ?_) (a' := ?_) #[true, true, true, true, true, false, false, false, false, false, false, false, false, false, false, false, false, false, false, false, false, false, false, false, false, false, false, false, false] rfl rfl (any_of HT_.out (by kernel_rfl)) (fun _ _ _ h => h) (Or.inl ⟨by rfl, ?_⟩) ?_ ?_;rotate_left
                 ·intro w'
                  go_simp
                  with_reducible rfl
                 rotate_left
                 ·simp only [Act.put, List.setIfInBounds_toArray, List.set_cons_zero, List.set_cons_succ, i64_w, i32_w];rfl
                 refine pure_ (i := 5) (N := some 44) (v := ?_) (a' := ?_) #[true, true, true, true, true, true, false, false, false, false, false, false, false, false, false, false, false, false, false, false, false, false, false, false, false, false, false, false, false] rfl rfl (any_of HT_.out (by kernel_rfl)) (fun _ _ _ h => h) (Or.inl ⟨by rfl, ?_⟩) ?_ ?_;rotate_left
                 ·intro w'
                  go_simp
                  with_reducible rfl
                 rotate_left
                 ·simp only [Act.put, List.setIfInBounds_toArray, List.set_cons_zero, List.set_cons_succ, i64_w, i32_w];rfl
                 refine pure_ (i := 6) (N := some 45) (v := ?_) (a' := ?_) #[true, true, true, true, true, true, true, false, false, false, false, false, false, false, false, false, false, false, false, false, false, false, false, false, false, false, false, false, false] rfl rfl (any_of HT_.out (by kernel_rfl)) (fun _ _ _ h => h) (Or.inl ⟨by rfl, ?_⟩) ?_ ?_;rotate_left
                 ·intro w'
                  go_simp
                  with_reducible rfl
                 rotate_left
                 ·simp only [Act.put, List.setIfInBounds_toArray, List.set_cons_zero, List.set_cons_succ, i64_w, i32_w];rfl
                 refine pure_ (i := 7) (N := some 46) (v := ?_) (a' := ?_) #[true, true, true, true, true, true, true, true, false, false, false, false, false, false, false, false, false, false, false, false, false, false, false, false, false, false, false, false, false] rfl rfl (any_of HT_.out (by kernel_rfl)) (fun _ _ _ h => h) (Or.inl ⟨by rfl, ?_⟩) ?_ ?_;rotate_left
                 ·intro w'
                  go_simp
                  with_reducible rfl
                 rotate_left
                 ·simp only [Act.put, List.setIfInBounds_toArray, List.set_cons_zero, List.set_cons_succ, i64_w, i32_w];rfl
                 refine pure_ (i := 8) (N := some 47) (v := ?_) (a' := ?_) #[true, true, true, true, true, true, true, true, true, false, false, false, false, false, false, false, false, false, false, false, false, false, false, false, false, false, false, false, false] rfl rfl (any_of HT_.out (by kernel_rfl)) (fun _ _ _ h => h) (Or.inl ⟨by rfl, ?_⟩) ?_ ?_;rotate_left
                 ·intro w'
                  go_simp
                  with_reducible rfl
                 rotate_left
                 ·simp only [Act.put, List.setIfInBounds_toArray, List.set_cons_zero, List.set_cons_succ, i64_w, i32_w];rfl
                 refine pure_ (i := 10) (N := some 49) (v := ?_) (a' := ?_) #[true, true, true, true, true, true, true, true, true, false, true, false, false, false, false, false, false, false, false, false, false, false, false, false, false, false, false, false, false] rfl rfl (any_of HT_.out (by kernel_rfl)) (fun _ _ _ h => h) (Or.inl ⟨by rfl, ?_⟩) ?_ ?_;rotate_left
                 ·intro w'
                  go_simp
                  with_reducible rfl
                 rotate_left
                 ·simp only [Act.put, List.setIfInBounds_toArray, List.set_cons_zero, List.set_cons_succ, i64_w, i32_w];rfl
                 refine pure_ (i := 11) (N := some 50) (v := ?_) (a' := ?_) #[true, true, true, true, true, true, true, true, true, false, true, true, false, false, false, false, false, false, false, false, false, false, false, false, false, false, false, false, false] rfl rfl (any_of HT_.out (by kernel_rfl)) (fun _ _ _ h => h) (Or.inl ⟨by rfl, ?_⟩) ?_ ?_;rotate_left
                 ·intro w'
                  go_simp
                  with_reducible rfl
                 rotate_left
                 ·simp only [Act.put, List.setIfInBounds_toArray, List.set_cons_zero, List.set_cons_succ, i64_w, i32_w];rfl
                 refine pure_ (i := 12) (N := some 51) (v := ?_) (a' := ?_) #[true, true, true, true, true, true, true, true, true, false, true, true, true, false, false, false, false, false, false, false, false, false, false, false, false, false, false, false, false] rfl rfl (any_of HT_.out (by kernel_rfl)) (fun _ _ _ h => h) (Or.inl ⟨by rfl, ?_⟩) ?_ ?_;rotate_left
                 ·intro w'
                  go_simp
                  with_reducible rfl
                 rotate_left
                 ·simp only [Act.put, List.setIfInBounds_toArray, List.set_cons_zero, List.set_cons_succ, i64_w, i32_w];rfl
                 refine pure_ (i := 13) (N := some 52) (v := ?_) (a' := ?_) #[true, true, true, true, true, true, true, true, true, false, true, true, true, true, false, false, false, false, false, false, false, false, false, false, false, false, false, false, false] rfl rfl (any_of HT_.out (by kernel_rfl)) (fun _ _ _ h => h) (Or.inl ⟨by rfl, ?_⟩) ?_ ?_;rotate_left
                 ·intro w'
                  go_simp
                  with_reducible rfl
                 rotate_left
                 ·simp only [Act.put, List.setIfInBounds_toArray, List.set_cons_zero, List.set_cons_succ, i64_w, i32_w];rfl
                 refine pure_ (i := 14) (N := some 53) (v := ?_) (a' := ?_) #[true, true, true, true, true, true, true, true, true, false, true, true, true, true, true, false, false, false, false, false, false, false, false, false, false, false, false, false, false] rfl rfl (any_of HT_.out (by kernel_rfl)) (fun _ _ _ h => h) (Or.inl ⟨by rfl, ?_⟩) ?_ ?_;rotate_left
                 ·intro w'
                  go_simp
                  with_reducible rfl
                 rotate_left
                 ·simp only [Act.put, List.setIfInBounds_toArray, List.set_cons_zero, List.set_cons_succ, i64_w, i32_w];rfl
                 refine take_ (i := 9) (N := some 48) (v := ?_) (a' := ?_) #[true, true, true, true, true, true, true, true, true, true, true, true, true, true, true, false, false, false, false, false, false, false, false, false, false, false, false, false, false] rfl rfl (take_ofW HT_.out HW_.out (by kernel_rfl)) (fun _ _ _ h => h) (Or.inl ⟨by rfl, ?_⟩) hHeld ?_ ?_;rotate_left
                 ·rintro w' ⟨s0, s1, s2, s3, s4, s5, s6, s7⟩
                  go_simp
                  with_reducible rfl
                 rotate_left
                 ·simp only [Act.put, List.setIfInBounds_toArray, List.set_cons_zero, List.set_cons_succ, i64_w, i32_w];rfl
                 refine take_ (i := 15) (N := some 54) (v := ?_) (a' := ?_) #[true, true, true, true, true, true, true, true, true, true, true, true, true, true, true, true, false, false, false, false, false, false, false, false, false, false, false, false, false] rfl rfl (take_ofW HT_.out HW_.out (by kernel_rfl)) (fun _ _ _ h => h) (Or.inl ⟨by rfl, ?_⟩) hHeld ?_ ?_;rotate_left
                 ·rintro w' ⟨s0, s1, s2, s3, s4, s5, s6, s7⟩
                  go_simp
                  with_reducible rfl
                 rotate_left
                 ·simp only [Act.put, List.setIfInBounds_toArray, List.set_cons_zero, List.set_cons_succ, i64_w, i32_w];rfl
                 refine pure_ (i := 16) (N := some 55) (v := ?_) (a' := ?_) #[true, true, true, true, true, true, true, true, true, true, true, true, true, true, true, true, true, false, false, false, false, false, false, false, false, false, false, false, false] rfl rfl (any_of HT_.out (by kernel_rfl)) (fun _ _ _ h => h) (Or.inl ⟨by rfl, ?_⟩) ?_ ?_;rotate_left
                 ·intro w'
                  go_simp
                  with_reducible rfl
                 rotate_left
                 ·simp only [Act.put, List.setIfInBounds_toArray, List.set_cons_zero, List.set_cons_succ, i64_w, i32_w];rfl
                 refine take_ (i := 17) (N := some 56) (v := ?_) (a' := ?_) #[true, true, true, true, true, true, true, true, true, true, true, true, true, true, true, true, true, true, false, false, false, false, false, false, false, false, false, false, false] rfl rfl (take_ofW HT_.out HW_.out (by kernel_rfl)) (fun _ _ _ h => h) (Or.inl ⟨by rfl, ?_⟩) hHeld ?_ ?_;rotate_left
                 ·rintro w' ⟨s0, s1, s2, s3, s4, s5, s6, s7⟩
                  go_simp
                  with_reducible rfl
                 rotate_left
                 ·simp only [Act.put, List.setIfInBounds_toArray, List.set_cons_zero, List.set_cons_succ, i64_w, i32_w];rfl
                 refine pure_ (i := 18) (N := some 57) (v := ?_) (a' := ?_) #[true, true, true, true, true, true, true, true, true, true, true, true, true, true, true, true, true, true, true, false, false, false, false, false, false, false, false, false, false] rfl rfl (any_of HT_.out (by kernel_rfl)) (fun _ _ _ h => h) (Or.inl ⟨by rfl, ?_⟩) ?_ ?_;rotate_left
                 ·intro w'
                  go_simp
                  with_reducible rfl
                 rotate_left
                 ·simp only [Act.put, List.setIfInBounds_toArray, List.set_cons_zero, List.set_cons_succ, i64_w, i32_w];rfl
                 refine pure_ (i := 19) (N := some 58) (v := ?_) (a' := ?_) #[true, true, true, true, true, true, true, true, true, true, true, true, true, true, true, true, true, true, true, true, false, false, false, false, false, false, false, false, false] rfl rfl (any_of HT_.out (by kernel_rfl)) (fun _ _ _ h => h) (Or.inl ⟨by rfl, ?_⟩) ?_ ?_;rotate_left
                 ·intro w'
                  go_simp
                  with_reducible rfl
                 rotate_left
                 ·simp only [Act.put, List.setIfInBounds_toArray, List.set_cons_zero, List.set_cons_succ, i64_w, i32_w];rfl
                 refine pure_ (i := 20) (N := some 59) (v := ?_) (a' := ?_) #[true, true, true, true, true, true, true, true, true, true, true, true, true, true, true, true, true, true, true, true, true, false, false, false, false, false, false, false, false] rfl rfl (any_of HT_.out (by kernel_rfl)) (fun _ _ _ h => h) (Or.inl ⟨by rfl, ?_⟩) ?_ ?_;rotate_left
                 ·intro w'
                  go_simp
                  with_reducible rfl
                 rotate_left
                 ·simp only [Act.put, List.setIfInBounds_toArray, List.set_cons_zero, List.set_cons_succ, i64_w, i32_w];rfl
                 refine pure_ (i := 21) (N := some 60) (v := ?_) (a' := ?_) #[true, true, true, true, true, true, true, true, true, true, true, true, true, true, true, true, true, true, true, true, true, true, false, false, false, false, false, false, false] rfl rfl (any_of HT_.out (by kernel_rfl)) (fun _ _ _ h => h) (Or.inl ⟨by rfl, ?_⟩) ?_ ?_;rotate_left
                 ·intro w'
                  go_simp
                  with_reducible rfl
                 rotate_left
                 ·simp only [Act.put, List.setIfInBounds_toArray, List.set_cons_zero, List.set_cons_succ, i64_w, i32_w];rfl
                 refine pure_ (i := 22) (N := some 61) (v := ?_) (a' := ?_) #[true, true, true, true, true, true, true, true, true, true, true, true, true, true, true, true, true, true, true, true, true, true, true, false, false, false, false, false, false] rfl rfl (any_of HT_.out (by kernel_rfl)) (fun _ _ _ h => h) (Or.inl ⟨by rfl, ?_⟩) ?_ ?_;rotate_left
                 ·intro w'
                  go_simp
                  with_reducible rfl
                 rotate_left
                 ·simp only [Act.put, List.setIfInBounds_toArray, List.set_cons_zero, List.set_cons_succ, i64_w, i32_w];rfl
                 refine pure_ (i := 23) (N := some 62) (v := ?_) (a' := ?_) #[true, true, true, true, true, true, true, true, true, true, true, true, true, true, true, true, true, true, true, true, true, true, true, true, false, false, false, false, false] rfl rfl (any_of HT_.out (by kernel_rfl)) (fun _ _ _ h => h) (Or.inl ⟨by rfl, ?_⟩) ?_ ?_;rotate_left
                 ·intro w'
                  go_simp
                  with_reducible rfl
                 rotate_left
                 ·simp only [Act.put, List.setIfInBounds_toArray, List.set_cons_zero, List.set_cons_succ, i64_w, i32_w];rfl
                 refine take_ (i := 24) (N := some 63) (v := ?_) (a' := ?_) #[true, true, true, true, true, true, true, true, true, true, true, true, true, true, true, true, true, true, true, true, true, true, true, true, true, false, false, false, false] rfl rfl (take_ofW HT_.out HW_.out (by kernel_rfl)) (fun _ _ _ h => h) (Or.inl ⟨by rfl, ?_⟩) hHeld ?_ ?_;rotate_left
                 ·rintro w' ⟨s0, s1, s2, s3, s4, s5, s6, s7⟩
                  go_simp
                  with_reducible rfl
                 rotate_left
                 ·simp only [Act.put, List.setIfInBounds_toArray, List.set_cons_zero, List.set_cons_succ, i64_w, i32_w];rfl
                 refine pure_ (i := 25) (N := some 64) (v := ?_) (a' := ?_) #[true, true, true, true, true, true, true, true, true, true, true, true, true, true, true, true, true, true, true, true, true, true, true, true, true, true, false, false, false] rfl rfl (any_of HT_.out (by kernel_rfl)) (fun _ _ _ h => h) (Or.inl ⟨by rfl, ?_⟩) ?_ ?_;rotate_left
                 ·intro w'
                  go_simp
                  with_reducible rfl
                 rotate_left
                 ·simp only [Act.put, List.setIfInBounds_toArray, List.set_cons_zero, List.set_cons_succ, i64_w, i32_w];rfl
                 refine take_ (i := 26) (N := some 65) (v := ?_) (a' := ?_) #[true, true, true, true, true, true, true, true, true, true, true, true, true, true, true, true, true, true, true, true, true, true, true, true, true, true, true, false, false] rfl rfl (take_ofW HT_.out HW_.out (by kernel_rfl)) (fun _ _ _ h => h) (Or.inl ⟨by rfl, ?_⟩) hHeld ?_ ?_;rotate_left
                 ·rintro w' ⟨s0, s1, s2, s3, s4, s5, s6, s7⟩
                  go_simp
                  with_reducible rfl
                 rotate_left
                 ·simp only [Act.put, List.setIfInBounds_toArray, List.set_cons_zero, List.set_cons_succ, i64_w, i32_w];rfl
                 refine pure_ (i := 27) (N := some 66) (v := ?_) (a' := ?_) #[true, true, true, true, true, true, true, true, true, true, true, true, true, true, true, true, true, true, true, true, true, true, true, true, true, true, true, true, false] rfl rfl (any_of HT_.out (by kernel_rfl)) (fun _ _ _ h => h) (Or.inl ⟨by rfl, ?_⟩) ?_ ?_;rotate_left
                 ·intro w'
                  go_simp
                  with_reducible rfl
                 rotate_left
                 ·simp only [Act.put, List.setIfInBounds_toArray, List.set_cons_zero, List.set_cons_succ, i64_w, i32_w];rfl
                 refine one_ (i := 28) (N := some 67) #[true, true, true, true, true, true, true, true, true, true, true, true, true, true, true, true, true, true, true, true, true, true, true, true, true, true, true, true, true] rfl rfl (one_of HT_.out (by kernel_rfl)) (by decide) (fun K hK => ?_);refine goes_ Try.func90 (by kernel_rfl) rfl #[.int .u32 (rd l0_0 (ji14)), .bool (x10_2 == (wrap64 (x7_1 + 1))), .int .i64 ((rd_T84 t282 x10_2).f0), .bool (rdOf false t288 ((rd_T84 t282 x10_2).f0))] (by rfl) rfl rfl (by (try simp only [List.map_toArray, List.map_cons, List.map_nil]); first | done | (simp only [hji14]; rfl) | rfl | (simp only [List.length_drop, List.length_take]; rfl)) ?_
                 with_reducible refine (pleatref12_goes.calls k2 (rd l0_0 (ji14)) (x10_2 == (wrap64 (x7_1 + 1))) ((rd_T84 t282 x10_2).f0) (rdOf false t288 ((rd_T84 t282 x10_2).f0)) true _ A36.out).mono ?_
                 rintro e w42 ⟨rfl, hb⟩;have HS0_ := (hb.cell (zw _ _ (hHeld.1))).trans (hHeld.1);have HS1_ := (hb.cell (zw _ _ (hHeld.2.1))).trans (hHeld.2.1);have HS2_ := (hb.cell (zw _ _ (hHeld.2.2.1))).trans (hHeld.2.2.1);have HS3_ := (hb.cell (zw _ _ (hHeld.2.2.2.1))).trans (hHeld.2.2.2.1);have HS4_ := (hb.cell (zw _ _ (hHeld.2.2.2.2.1))).trans (hHeld.2.2.2.2.1);have HS5_ := (hb.cell (zw _ _ (hHeld.2.2.2.2.2.1))).trans (hHeld.2.2.2.2.2.1);have HS6_ := (hb.cell (zw _ _ (hHeld.2.2.2.2.2.2.1))).trans (hHeld.2.2.2.2.2.2.1);have HS7_ := (hb.cell (zw _ _ (hHeld.2.2.2.2.2.2.2))).trans (hHeld.2.2.2.2.2.2.2);refine ⟨_, rfl, ?_⟩;have n0_ := zA (Kd.R_below (by (with_reducible repeat (first | apply zRa | apply zRn | apply zRd)); exact HO_3.out) hb);have n1_ := zA (Kd.R_below (by (with_reducible repeat (first | apply zRa | apply zRn | apply zRd)); exact HO_4.out) hb);have n2_ := zA (Kd.R_below (by (with_reducible repeat (first | apply zRa | apply zRn | apply zRd)); exact HO_5.out) hb);have n3_ := zA (Kd.S_below (by (with_reducible repeat (first | apply Kd.S_alloc | apply Kd.S_drewN | apply Kd.S_drew)); exact HO_6.out) hb);have n4_ := zA (Kd.R_below (by (with_reducible repeat (first | apply zRa | apply zRn | apply zRd)); exact HO_8.out) hb);have n5_ := zA (blk_below (g := gb281) (o := .cells #[.slice (some ad292) l0_0.length c0_0, .int .i64 a0_1, .slice A0_2 l0_2.length c0_2] 25 (0, 0)) (by (with_reducible repeat (first |refine zn ?_ _|refine zd ?_|refine za ?_ _)); exact BK281.out) hb);have n6_ := zA (zt (by repeat (first | (with_reducible first | exact HB.out | apply zB | apply zN | apply zD | refine zS ?_ GE281.out) | exact HB.out)) hb);clear HO_3;clear HO_4;clear HO_5;clear HO_6;clear HO_8;clear BK281;clear HB;have HO_3 := n0_;have HO_4 := n1_;have HO_5 := n2_;have HO_6 := n3_;have HO_8 := n4_;have BK281 := n5_;have HB := n6_;clear n0_ n1_ n2_ n3_ n4_ n5_ n6_;(try clear hb);(try clear hb2);(try clear hk);(try clear hi);refine hK.out _ _ ⟨HS0_, HS1_, HS2_, HS3_, HS4_, HS5_, HS6_, HS7_⟩ (fun hHeld => ?_);clear hK K;refine norm_ (a' := ?_) ?_ ?_;rotate_left
                 ·show Act.put _ (some 67) _ = _;simp only [Act.put, List.setIfInBounds_toArray, List.set_cons_zero, List.set_cons_succ, i64_w, i32_w];rfl
                 refine done_ (done_of HT_.out (by kernel_rfl)) ?_
                 try go_wp2_with (first | ((with_reducible refine gate_builtin (b := .append) (xs := #[.tmp 68, .tmp 70]) rfl ?_); at_builtin; refine Kd.R_append (Kd.int .i64) (w0 := w) w.heap.size rfl (.tmp 68) (.tmp 70) 30 3 (.int .i64 0) 8 rfl Try.underlying30 info3 rfl (by decide) (by omega) u8 x8_2 x10_2 [.int .i64 x10_2] (fun _ => True) (fun _ => False) rfl rfl ?aP (fun _ hk => hk.elim) ?aF ?aO ?aB ?aS ?aL ?_; (case aP => exact rfl); (case aB => exact (by repeat (first | (with_reducible first | exact HB.out | apply zB | apply zN | apply zD | refine zS ?_ GE281.out) | exact HB.out))); (case aF => exact (fun _ _ => trivial)); (case aO => exact (by (with_reducible repeat (first | apply zRa | apply zRn | apply zRd)); exact HO_8.out)); (case aS => exact (below_size (by repeat (first | (with_reducible first | exact HB.out | apply zB | apply zN | apply zD | refine zS ?_ GE281.out) | exact HB.out)))); (case aL => have := LMc38.out; omega); intro v304 w43 ho hb hg hat; rw [← Ny303.out] at ho; have n0_ := zA (Kd.R_over' (by (with_reducible repeat (first | apply zRa | apply zRn | apply zRd)); exact HO_3.out) (Kd.R_typed (by (with_reducible repeat (first | apply zRa | apply zRn | apply zRd)); exact HO_8.out)) (by decide) hg); have n1_ := zA (Kd.R_over' (by (with_reducible repeat (first | apply zRa | apply zRn | apply zRd)); exact HO_4.out) (Kd.R_typed (by (with_reducible repeat (first | apply zRa | apply zRn | apply zRd)); exact HO_8.out)) (by decide) hg); have n2_ := zA (Kd.R_over' (by (with_reducible repeat (first | apply zRa | apply zRn | apply zRd)); exact HO_5.out) (Kd.R_typed (by (with_reducible repeat (first | apply zRa | apply zRn | apply zRd)); exact HO_8.out)) (by decide) hg); have n3_ := zA (Kd.S_after (ok := (fun _ => True)) (by (with_reducible repeat (first | apply Kd.S_alloc | apply Kd.S_drewN | apply Kd.S_drew)); exact Kd.S_mono HO_6.out (fun _ hk => ⟨trivial, hk⟩)) hg hat); have n4_ := zA (blk_grown (g := gb281) (o := .cells #[.slice (some ad292) l0_0.length c0_0, .int .i64 a0_1, .slice A0_2 l0_2.length c0_2] 25 (0, 0)) (by (with_reducible repeat (first |refine zn ?_ _|refine zd ?_|refine za ?_ _)); exact BK281.out) hg (Kd.R_ne HO_8.out BK281.out (by decide))); have n5_ := zA (hb); have n6_ := zA (ho); clear HO_3; clear HO_4; clear HO_5; clear HO_6; clear BK281; clear HB; clear HO_8; have HO_3 := n0_; have HO_4 := n1_; have HO_5 := n2_; have HO_6 := n3_; have BK281 := n4_; have HB := n5_; have HO305 := n6_; clear n0_ n1_ n2_ n3_ n4_ n5_ n6_; clear ho hb hg hat))
                 go_roundg k2
                 case measure => have := HK1.out; have := HK2.out; omega
                 case rel => exact ⟨(y303), (wrap64 (x10_2 + 1)), (by first | rfl | (simp; done) | (simp [*]; done)), H', ⟨by have := HK1.out; have := HK2.out; omega⟩, ⟨by (with_reducible repeat (first | apply zRa | apply zRn | apply zRd)); exact HO_3.out⟩, ⟨by (with_reducible repeat (first | apply zRa | apply zRn | apply zRd)); exact HO_4.out⟩, ⟨by (with_reducible repeat (first | apply zRa | apply zRn | apply zRd)); exact HO_5.out⟩, ⟨by (with_reducible repeat (first | apply Kd.S_alloc | apply Kd.S_drewN | apply Kd.S_drew)); exact Kd.S_mono HO_6.out (fun _ hk => hk.2)⟩, ⟨by (with_reducible repeat (first | apply zRa | apply zRn | apply zRd)); exact HO305.out⟩, ⟨by (with_reducible repeat (first |refine zn ?_ _|refine zd ?_|refine za ?_ _)); exact BK281.out⟩, ⟨by repeat (first | (with_reducible first | exact HB.out | apply zB | apply zN | apply zD | refine zS ?_ GE281.out) | exact HB.out)⟩⟩
                ·rw [if_neg c38] at H;exact absurd H (by simp)
               ·replace c37 := Bool.eq_false_iff.mpr c37;subst c37
                have H1 : (pleatref12_Edges.l1 k2 t282 t285 t288 x6_1 x7_1 x8_2 (rd l0_0 (ji14)) (wrap64 (x10_2 + 1)) l0_0 a0_1 l0_2) = some r := by rw [if_neg (show ¬ (false = true) by decide)] at H; exact H
                clear H;have H := H1;clear H1;have H' := zA H;clear H
                try go_wp2
                have n0_ := zA (zRd HO_3.out);have n1_ := zA (zRd HO_4.out);have n2_ := zA (zRd HO_5.out);have n3_ := zA (Kd.S_drew HO_6.out);have n4_ := zA (zRd HO_8.out);have n5_ := zA (zd BK281.out);have n6_ := zA (zD HB.out);clear HO_3;clear HO_4;clear HO_5;clear HO_6;clear HO_8;clear BK281;clear HB;have HO_3 := n0_;have HO_4 := n1_;have HO_5 := n2_;have HO_6 := n3_;have HO_8 := n4_;have BK281 := n5_;have HB := n6_;clear n0_ n1_ n2_ n3_ n4_ n5_ n6_;have p293 : 0 ≤ (x10_2 : Int) := zo (by first | (with_reducible assumption) | assumption);have q293 : x10_2 < (t282.length : Int) := zo (by first | (with_reducible assumption) | assumption);obtain ⟨ad293, e293, hx293_0, hx293_1⟩ := at_T84 (Kd.R_reads' HO_3.out).2.2 x10_2 p293 q293;obtain rfl : ad291 = ad293 := (by injection e293);replace p293 := eq_true p293;replace q293 := eq_true q293;have p294 : 0 ≤ (x10_2 : Int) := zo (by first | (with_reducible assumption) | assumption);have q294 : x10_2 < (t282.length : Int) := zo (by first | (with_reducible assumption) | assumption);obtain ⟨ad294, e294, hx294_0, hx294_1⟩ := at_T84 (Kd.R_reads' HO_3.out).2.2 x10_2 p294 q294;obtain rfl : ad291 = ad294 := (by injection e294);replace p294 := eq_true p294;replace q294 := eq_true q294;obtain ⟨Ao45, co45, eo45⟩ := Kd.R_slice HO_4.out;(first | subst eo45 | (injection eo45 with f1_ f2_ f3_; have f4_ := f1_.symm; have f5_ := f3_.symm; clear f1_ f2_ f3_; subst f4_; subst f5_));have p295 : 0 ≤ (((rd_T84 t282 x10_2).f0) : Int) := zo (by first | (with_reducible assumption) | assumption);have q295 : ((rd_T84 t282 x10_2).f0) < (t285.length : Int) := zo (by first | (with_reducible assumption) | assumption);obtain ⟨ad295, e295, hx295_0⟩ := Kd.at_bool (Kd.R_reads' HO_4.out).2.2 ((rd_T84 t282 x10_2).f0) p295 q295;(try rw [← Nbq23.out] at hx295_0)
                cases e295
                replace p295 := eq_true p295;replace q295 := eq_true q295;have p300 : 0 ≤ (x10_2 : Int) := zo (by first | (with_reducible assumption) | assumption);have q300 : x10_2 < (t282.length : Int) := zo (by first | (with_reducible assumption) | assumption);obtain ⟨ad300, e300, hx300_0, hx300_1⟩ := at_T84 (Kd.R_reads' HO_3.out).2.2 x10_2 p300 q300;obtain rfl : ad291 = ad300 := (by injection e300);replace p300 := eq_true p300;replace q300 := eq_true q300;obtain ⟨Ao46, co46, eo46⟩ := Kd.R_slice HO_5.out;(first | subst eo46 | (injection eo46 with f1_ f2_ f3_; have f4_ := f1_.symm; have f5_ := f3_.symm; clear f1_ f2_ f3_; subst f4_; subst f5_));have p301 : 0 ≤ (((rd_T84 t282 x10_2).f0) : Int) := zo (by first | (with_reducible assumption) | assumption);have q301 : ((rd_T84 t282 x10_2).f0) < (t288.length : Int) := zo (by first | (with_reducible assumption) | assumption);obtain ⟨ad301, e301, hx301_0⟩ := Kd.at_bool (Kd.R_reads' HO_5.out).2.2 ((rd_T84 t282 x10_2).f0) p301 q301;(try rw [← Nbq23.out] at hx301_0)
                cases e301
                replace p301 := eq_true p301;replace q301 := eq_true q301;refine start_ (n := 29) (S := fun w' => w'.cell? (ad291.add ((x10_2).toNat * 2)) = some (.int .i64 ((rd_T84 t282 x10_2).f0)) ∧ w'.cell? ⟨(ad291.add ((x10_2).toNat * 2)).block, (ad291.add ((x10_2).toNat * 2)).off + 1, none⟩ = some (.int .i64 ((rd_T84 t282 x10_2).f1)) ∧ w'.cell? (ad291.add ((x10_2).toNat * 2)) = some (.int .i64 ((rd_T84 t282 x10_2).f0)) ∧ w'.cell? ⟨(ad291.add ((x10_2).toNat * 2)).block, (ad291.add ((x10_2).toNat * 2)).off + 1, none⟩ = some (.int .i64 ((rd_T84 t282 x10_2).f1)) ∧ w'.cell? (ad295.add (((rd_T84 t282 x10_2).f0)).toNat) = some (.bool false) ∧ w'.cell? (ad291.add ((x10_2).toNat * 2)) = some (.int .i64 ((rd_T84 t282 x10_2).f0)) ∧ w'.cell? ⟨(ad291.add ((x10_2).toNat * 2)).block, (ad291.add ((x10_2).toNat * 2)).off + 1, none⟩ = some (.int .i64 ((rd_T84 t282 x10_2).f1)) ∧ w'.cell? (ad301.add (((rd_T84 t282 x10_2).f0)).toNat) = some (.bool (rdOf false t288 ((rd_T84 t282 x10_2).f0)))) (ds := []) #[false, false, false, false, false, false, false, false, false, false, false, false, false, false, false, false, false, false, false, false, false, false, false, false, false, false, false, false, false] (by kernel_rfl) rfl rfl ⟨hx293_0, hx293_1, hx294_0, hx294_1, hx295_0, hx300_0, hx300_1, hx301_0⟩ (fun hHeld => ?_); refine with_tabW pleatref12_Edges.tab13 pleatref12_Edges.bits13 (fun HT_ HW_ => ?_);generalize wr.drew = w44 at HO_3 HO_4 HO_5 HO_6 HO_8 BK281 HB hx293_0 hx293_1 hx294_0 hx294_1 hx295_0 hx300_0 hx300_1 hx301_0 hHeld ⊢;refine pure_ (i := 0) (N := some 39) (v := ?_) (a' := ?_) #[true, false, false, false, false, false, false, false, false, false, false, false, false, false, false, false, false, false, false, false, false, false, false, false, false, false, false, false, false] rfl rfl (any_of HT_.out (by kernel_rfl)) (fun _ _ _ h => h) (Or.inl ⟨by rfl, ?_⟩) ?_ ?_;rotate_left
                ·intro w'
                 go_simp
                 with_reducible rfl
                rotate_left
                ·simp only [Act.put, List.setIfInBounds_toArray, List.set_cons_zero, List.set_cons_succ, i64_w, i32_w];rfl
                refine pure_ (i := 1) (N := some 40) (v := ?_) (a' := ?_) #[true, true, false, false, false, false, false, false, false, false, false, false, false, false, false, false, false, false, false, false, false, false, false, false, false, false, false, false, false] rfl rfl (any_of HT_.out (by kernel_rfl)) (fun _ _ _ h => h) (Or.inl ⟨by rfl, ?_⟩) ?_ ?_;rotate_left
                ·intro w'
                 go_simp
                 with_reducible rfl
                rotate_left
                ·simp only [Act.put, List.setIfInBounds_toArray, List.set_cons_zero, List.set_cons_succ, i64_w, i32_w];rfl
                refine pure_ (i := 2) (N := some 41) (v := ?_) (a' := ?_) #[true, true, true, false, false, false, false, false, false, false, false, false, false, false, false, false, false, false, false, false, false, false, false, false, false, false, false, false, false] rfl rfl (any_of HT_.out (by kernel_rfl)) (fun _ _ _ h => h) (Or.inl ⟨by rfl, ?_⟩) ?_ ?_;rotate_left
                ·intro w'
                 go_simp
                 with_reducible rfl
                rotate_left
                ·simp only [Act.put, List.setIfInBounds_toArray, List.set_cons_zero, List.set_cons_succ, i64_w, i32_w];rfl
                refine pure_ (i := 3) (N := some 42) (v := ?_) (a' := ?_) #[true, true, true, true, false, false, false, false, false, false, false, false, false, false, false, false, false, false, false, false, false, false, false, false, false, false, false, false, false] rfl rfl (any_of HT_.out (by kernel_rfl)) (fun _ _ _ h => h) (Or.inl ⟨by rfl, ?_⟩) ?_ ?_;rotate_left
                ·intro w'
                 go_simp
                 with_reducible rfl
                rotate_left
                ·simp only [Act.put, List.setIfInBounds_toArray, List.set_cons_zero, List.set_cons_succ, i64_w, i32_w];rfl
                refine pure_ (i := 4) (N := some 43) (v := ?_) (a' := ?_) #[true, true, true, true, true, false, false, false, false, false, false, false, false, false, false, false, false, false, false, false, false, false, false, false, false, false, false, false, false] rfl rfl (any_of HT_.out (by kernel_rfl)) (fun _ _ _ h => h) (Or.inl ⟨by rfl, ?_⟩) ?_ ?_;rotate_left
                ·intro w'
                 go_simp
                 with_reducible rfl
                rotate_left
                ·simp only [Act.put, List.setIfInBounds_toArray, List.set_cons_zero, List.set_cons_succ, i64_w, i32_w];rfl
                refine pure_ (i := 5) (N := some 44) (v := ?_) (a' := ?_) #[true, true, true, true, true, true, false, false, false, false, false, false, false, false, false, false, false, false, false, false, false, false, false, false, false, false, false, false, false] rfl rfl (any_of HT_.out (by kernel_rfl)) (fun _ _ _ h => h) (Or.inl ⟨by rfl, ?_⟩) ?_ ?_;rotate_left
                ·intro w'
                 go_simp
                 with_reducible rfl
                rotate_left
                ·simp only [Act.put, List.setIfInBounds_toArray, List.set_cons_zero, List.set_cons_succ, i64_w, i32_w];rfl
                refine pure_ (i := 6) (N := some 45) (v := ?_) (a' := ?_) #[true, true, true, true, true, true, true, false, false, false, false, false, false, false, false, false, false, false, false, false, false, false, false, false, false, false, false, false, false] rfl rfl (any_of HT_.out (by kernel_rfl)) (fun _ _ _ h => h) (Or.inl ⟨by rfl, ?_⟩) ?_ ?_;rotate_left
                ·intro w'
                 go_simp
                 with_reducible rfl
                rotate_left
                ·simp only [Act.put, List.setIfInBounds_toArray, List.set_cons_zero, List.set_cons_succ, i64_w, i32_w];rfl
                refine pure_ (i := 7) (N := some 46) (v := ?_) (a' := ?_) #[true, true, true, true, true, true, true, true, false, false, false, false, false, false, false, false, false, false, false, false, false, false, false, false, false, false, false, false, false] rfl rfl (any_of HT_.out (by kernel_rfl)) (fun _ _ _ h => h) (Or.inl ⟨by rfl, ?_⟩) ?_ ?_;rotate_left
                ·intro w'
                 go_simp
                 with_reducible rfl
                rotate_left
                ·simp only [Act.put, List.setIfInBounds_toArray, List.set_cons_zero, List.set_cons_succ, i64_w, i32_w];rfl
                refine pure_ (i := 8) (N := some 47) (v := ?_) (a' := ?_) #[true, true, true, true, true, true, true, true, true, false, false, false, false, false, false, false, false, false, false, false, false, false, false, false, false, false, false, false, false] rfl rfl (any_of HT_.out (by kernel_rfl)) (fun _ _ _ h => h) (Or.inl ⟨by rfl, ?_⟩) ?_ ?_;rotate_left
                ·intro w'
                 go_simp
                 with_reducible rfl
                rotate_left
                ·simp only [Act.put, List.setIfInBounds_toArray, List.set_cons_zero, List.set_cons_succ, i64_w, i32_w];rfl
                refine pure_ (i := 10) (N := some 49) (v := ?_) (a' := ?_) #[true, true, true, true, true, true, true, true, true, false, true, false, false, false, false, false, false, false, false, false, false, false, false, false, false, false, false, false, false] rfl rfl (any_of HT_.out (by kernel_rfl)) (fun _ _ _ h => h) (Or.inl ⟨by rfl, ?_⟩) ?_ ?_;rotate_left
                ·intro w'
                 go_simp
                 with_reducible rfl
                rotate_left
                ·simp only [Act.put, List.setIfInBounds_toArray, List.set_cons_zero, List.set_cons_succ, i64_w, i32_w];rfl
                refine pure_ (i := 11) (N := some 50) (v := ?_) (a' := ?_) #[true, true, true, true, true, true, true, true, true, false, true, true, false, false, false, false, false, false, false, false, false, false, false, false, false, false, false, false, false] rfl rfl (any_of HT_.out (by kernel_rfl)) (fun _ _ _ h => h) (Or.inl ⟨by rfl, ?_⟩) ?_ ?_;rotate_left
                ·intro w'
                 go_simp
                 with_reducible rfl
                rotate_left
                ·simp only [Act.put, List.setIfInBounds_toArray, List.set_cons_zero, List.set_cons_succ, i64_w, i32_w];rfl
                refine pure_ (i := 12) (N := some 51) (v := ?_) (a' := ?_) #[true, true, true, true, true, true, true, true, true, false, true, true, true, false, false, false, false, false, false, false, false, false, false, false, false, false, false, false, false] rfl rfl (any_of HT_.out (by kernel_rfl)) (fun _ _ _ h => h) (Or.inl ⟨by rfl, ?_⟩) ?_ ?_;rotate_left
                ·intro w'
                 go_simp
                 with_reducible rfl
                rotate_left
                ·simp only [Act.put, List.setIfInBounds_toArray, List.set_cons_zero, List.set_cons_succ, i64_w, i32_w];rfl
                refine pure_ (i := 13) (N := some 52) (v := ?_) (a' := ?_) #[true, true, true, true, true, true, true, true, true, false, true, true, true, true, false, false, false, false, false, false, false, false, false, false, false, false, false, false, false] rfl rfl (any_of HT_.out (by kernel_rfl)) (fun _ _ _ h => h) (Or.inl ⟨by rfl, ?_⟩) ?_ ?_;rotate_left
                ·intro w'
                 go_simp
                 with_reducible rfl
                rotate_left
                ·simp only [Act.put, List.setIfInBounds_toArray, List.set_cons_zero, List.set_cons_succ, i64_w, i32_w];rfl
                refine pure_ (i := 14) (N := some 53) (v := ?_) (a' := ?_) #[true, true, true, true, true, true, true, true, true, false, true, true, true, true, true, false, false, false, false, false, false, false, false, false, false, false, false, false, false] rfl rfl (any_of HT_.out (by kernel_rfl)) (fun _ _ _ h => h) (Or.inl ⟨by rfl, ?_⟩) ?_ ?_;rotate_left
                ·intro w'
                 go_simp
                 with_reducible rfl
                rotate_left
                ·simp only [Act.put, List.setIfInBounds_toArray, List.set_cons_zero, List.set_cons_succ, i64_w, i32_w];rfl
                refine take_ (i := 9) (N := some 48) (v := ?_) (a' := ?_) #[true, true, true, true, true, true, true, true, true, true, true, true, true, true, true, false, false, false, false, false, false, false, false, false, false, false, false, false, false] rfl rfl (take_ofW HT_.out HW_.out (by kernel_rfl)) (fun _ _ _ h => h) (Or.inl ⟨by rfl, ?_⟩) hHeld ?_ ?_;rotate_left
                ·rintro w' ⟨s0, s1, s2, s3, s4, s5, s6, s7⟩
                 go_simp
                 with_reducible rfl
                rotate_left
                ·simp only [Act.put, List.setIfInBounds_toArray, List.set_cons_zero, List.set_cons_succ, i64_w, i32_w];rfl
                refine take_ (i := 15) (N := some 54) (v := ?_) (a' := ?_) #[true, true, true, true, true, true, true, true, true, true, true, true, true, true, true, true, false, false, false, false, false, false, false, false, false, false, false, false, false] rfl rfl (take_ofW HT_.out HW_.out (by kernel_rfl)) (fun _ _ _ h => h) (Or.inl ⟨by rfl, ?_⟩) hHeld ?_ ?_;rotate_left
                ·rintro w' ⟨s0, s1, s2, s3, s4, s5, s6, s7⟩
                 go_simp
                 with_reducible rfl
                rotate_left
                ·simp only [Act.put, List.setIfInBounds_toArray, List.set_cons_zero, List.set_cons_succ, i64_w, i32_w];rfl
                refine pure_ (i := 16) (N := some 55) (v := ?_) (a' := ?_) #[true, true, true, true, true, true, true, true, true, true, true, true, true, true, true, true, true, false, false, false, false, false, false, false, false, false, false, false, false] rfl rfl (any_of HT_.out (by kernel_rfl)) (fun _ _ _ h => h) (Or.inl ⟨by rfl, ?_⟩) ?_ ?_;rotate_left
                ·intro w'
                 go_simp
                 with_reducible rfl
                rotate_left
                ·simp only [Act.put, List.setIfInBounds_toArray, List.set_cons_zero, List.set_cons_succ, i64_w, i32_w];rfl
                refine take_ (i := 17) (N := some 56) (v := ?_) (a' := ?_) #[true, true, true, true, true, true, true, true, true, true, true, true, true, true, true, true, true, true, false, false, false, false, false, false, false, false, false, false, false] rfl rfl (take_ofW HT_.out HW_.out (by kernel_rfl)) (fun _ _ _ h => h) (Or.inl ⟨by rfl, ?_⟩) hHeld ?_ ?_;rotate_left
                ·rintro w' ⟨s0, s1, s2, s3, s4, s5, s6, s7⟩
                 go_simp
                 with_reducible rfl
                rotate_left
                ·simp only [Act.put, List.setIfInBounds_toArray, List.set_cons_zero, List.set_cons_succ, i64_w, i32_w];rfl
                refine pure_ (i := 18) (N := some 57) (v := ?_) (a' := ?_) #[true, true, true, true, true, true, true, true, true, true, true, true, true, true, true, true, true, true, true, false, false, false, false, false, false, false, false, false, false] rfl rfl (any_of HT_.out (by kernel_rfl)) (fun _ _ _ h => h) (Or.inl ⟨by rfl, ?_⟩) ?_ ?_;rotate_left
                ·intro w'
                 go_simp
                 with_reducible rfl
                rotate_left
                ·simp only [Act.put, List.setIfInBounds_toArray, List.set_cons_zero, List.set_cons_succ, i64_w, i32_w];rfl
                refine pure_ (i := 19) (N := some 58) (v := ?_) (a' := ?_) #[true, true, true, true, true, true, true, true, true, true, true, true, true, true, true, true, true, true, true, true, false, false, false, false, false, false, false, false, false] rfl rfl (any_of HT_.out (by kernel_rfl)) (fun _ _ _ h => h) (Or.inl ⟨by rfl, ?_⟩) ?_ ?_;rotate_left
                ·intro w'
                 go_simp
                 with_reducible rfl
                rotate_left
                ·simp only [Act.put, List.setIfInBounds_toArray, List.set_cons_zero, List.set_cons_succ, i64_w, i32_w];rfl
                refine pure_ (i := 20) (N := some 59) (v := ?_) (a' := ?_) #[true, true, true, true, true, true, true, true, true, true, true, true, true, true, true, true, true, true, true, true, true, false, false, false, false, false, false, false, false] rfl rfl (any_of HT_.out (by kernel_rfl)) (fun _ _ _ h => h) (Or.inl ⟨by rfl, ?_⟩) ?_ ?_;rotate_left
                ·intro w'
                 go_simp
                 with_reducible rfl
                rotate_left
                ·simp only [Act.put, List.setIfInBounds_toArray, List.set_cons_zero, List.set_cons_succ, i64_w, i32_w];rfl
                refine pure_ (i := 21) (N := some 60) (v := ?_) (a' := ?_) #[true, true, true, true, true, true, true, true, true, true, true, true, true, true, true, true, true, true, true, true, true, true, false, false, false, false, false, false, false] rfl rfl (any_of HT_.out (by kernel_rfl)) (fun _ _ _ h => h) (Or.inl ⟨by rfl, ?_⟩) ?_ ?_;rotate_left
                ·intro w'
                 go_simp
                 with_reducible rfl
                rotate_left
                ·simp only [Act.put, List.setIfInBounds_toArray, List.set_cons_zero, List.set_cons_succ, i64_w, i32_w];rfl
                refine pure_ (i := 22) (N := some 61) (v := ?_) (a' := ?_) #[true, true, true, true, true, true, true, true, true, true, true, true, true, true, true, true, true, true, true, true, true, true, true, false, false, false, false, false, false] rfl rfl (any_of HT_.out (by kernel_rfl)) (fun _ _ _ h => h) (Or.inl ⟨by rfl, ?_⟩) ?_ ?_;rotate_left
                ·intro w'
                 go_simp
                 with_reducible rfl
                rotate_left
                ·simp only [Act.put, List.setIfInBounds_toArray, List.set_cons_zero, List.set_cons_succ, i64_w, i32_w];rfl
                refine pure_ (i := 23) (N := some 62) (v := ?_) (a' := ?_) #[true, true, true, true, true, true, true, true, true, true, true, true, true, true, true, true, true, true, true, true, true, true, true, true, false, false, false, false, false] rfl rfl (any_of HT_.out (by kernel_rfl)) (fun _ _ _ h => h) (Or.inl ⟨by rfl, ?_⟩) ?_ ?_;rotate_left
                ·intro w'
                 go_simp
                 with_reducible rfl
                rotate_left
                ·simp only [Act.put, List.setIfInBounds_toArray, List.set_cons_zero, List.set_cons_succ, i64_w, i32_w];rfl
                refine take_ (i := 24) (N := some 63) (v := ?_) (a' := ?_) #[true, true, true, true, true, true, true, true, true, true, true, true, true, true, true, true, true, true, true, true, true, true, true, true, true, false, false, false, false] rfl rfl (take_ofW HT_.out HW_.out (by kernel_rfl)) (fun _ _ _ h => h) (Or.inl ⟨by rfl, ?_⟩) hHeld ?_ ?_;rotate_left
                ·rintro w' ⟨s0, s1, s2, s3, s4, s5, s6, s7⟩
                 go_simp
                 with_reducible rfl
                rotate_left
                ·simp only [Act.put, List.setIfInBounds_toArray, List.set_cons_zero, List.set_cons_succ, i64_w, i32_w];rfl
                refine pure_ (i := 25) (N := some 64) (v := ?_) (a' := ?_) #[true, true, true, true, true, true, true, true, true, true, true, true, true, true, true, true, true, true, true, true, true, true, true, true, true, true, false, false, false] rfl rfl (any_of HT_.out (by kernel_rfl)) (fun _ _ _ h => h) (Or.inl ⟨by rfl, ?_⟩) ?_ ?_;rotate_left
                ·intro w'
                 go_simp
                 with_reducible rfl
                rotate_left
                ·simp only [Act.put, List.setIfInBounds_toArray, List.set_cons_zero, List.set_cons_succ, i64_w, i32_w];rfl
                refine take_ (i := 26) (N := some 65) (v := ?_) (a' := ?_) #[true, true, true, true, true, true, true, true, true, true, true, true, true, true, true, true, true, true, true, true, true, true, true, true, true, true, true, false, false] rfl rfl (take_ofW HT_.out HW_.out (by kernel_rfl)) (fun _ _ _ h => h) (Or.inl ⟨by rfl, ?_⟩) hHeld ?_ ?_;rotate_left
                ·rintro w' ⟨s0, s1, s2, s3, s4, s5, s6, s7⟩
                 go_simp
                 with_reducible rfl
                rotate_left
                ·simp only [Act.put, List.setIfInBounds_toArray, List.set_cons_zero, List.set_cons_succ, i64_w, i32_w];rfl
                refine pure_ (i := 27) (N := some 66) (v := ?_) (a' := ?_) #[true, true, true, true, true, true, true, true, true, true, true, true, true, true, true, true, true, true, true, true, true, true, true, true, true, true, true, true, false] rfl rfl (any_of HT_.out (by kernel_rfl)) (fun _ _ _ h => h) (Or.inl ⟨by rfl, ?_⟩) ?_ ?_;rotate_left
                ·intro w'
                 go_simp
                 with_reducible rfl
                rotate_left
                ·simp only [Act.put, List.setIfInBounds_toArray, List.set_cons_zero, List.set_cons_succ, i64_w, i32_w];rfl
                refine one_ (i := 28) (N := some 67) #[true, true, true, true, true, true, true, true, true, true, true, true, true, true, true, true, true, true, true, true, true, true, true, true, true, true, true, true, true] rfl rfl (one_of HT_.out (by kernel_rfl)) (by decide) (fun K hK => ?_);refine goes_ Try.func90 (by kernel_rfl) rfl #[.int .u32 (rd l0_0 (ji14)), .bool (x10_2 == (wrap64 (x7_1 + 1))), .int .i64 ((rd_T84 t282 x10_2).f0), .bool (rdOf false t288 ((rd_T84 t282 x10_2).f0))] (by rfl) rfl rfl (by (try simp only [List.map_toArray, List.map_cons, List.map_nil]); first | done | (simp only [hji14]; rfl) | rfl | (simp only [List.length_drop, List.length_take]; rfl)) ?_
                with_reducible refine (pleatref12_goes.calls k2 (rd l0_0 (ji14)) (x10_2 == (wrap64 (x7_1 + 1))) ((rd_T84 t282 x10_2).f0) (rdOf false t288 ((rd_T84 t282 x10_2).f0)) false _ A36.out).mono ?_
                rintro e w47 ⟨rfl, hb⟩;have HS0_ := (hb.cell (zw _ _ (hHeld.1))).trans (hHeld.1);have HS1_ := (hb.cell (zw _ _ (hHeld.2.1))).trans (hHeld.2.1);have HS2_ := (hb.cell (zw _ _ (hHeld.2.2.1))).trans (hHeld.2.2.1);have HS3_ := (hb.cell (zw _ _ (hHeld.2.2.2.1))).trans (hHeld.2.2.2.1);have HS4_ := (hb.cell (zw _ _ (hHeld.2.2.2.2.1))).trans (hHeld.2.2.2.2.1);have HS5_ := (hb.cell (zw _ _ (hHeld.2.2.2.2.2.1))).trans (hHeld.2.2.2.2.2.1);have HS6_ := (hb.cell (zw _ _ (hHeld.2.2.2.2.2.2.1))).trans (hHeld.2.2.2.2.2.2.1);have HS7_ := (hb.cell (zw _ _ (hHeld.2.2.2.2.2.2.2))).trans (hHeld.2.2.2.2.2.2.2);refine ⟨_, rfl, ?_⟩;have n0_ := zA (Kd.R_below (by (with_reducible repeat (first | apply zRa | apply zRn | apply zRd)); exact HO_3.out) hb);have n1_ := zA (Kd.R_below (by (with_reducible repeat (first | apply zRa | apply zRn | apply zRd)); exact HO_4.out) hb);have n2_ := zA (Kd.R_below (by (with_reducible repeat (first | apply zRa | apply zRn | apply zRd)); exact HO_5.out) hb);have n3_ := zA (Kd.S_below (by (with_reducible repeat (first | apply Kd.S_alloc | apply Kd.S_drewN | apply Kd.S_drew)); exact HO_6.out) hb);have n4_ := zA (Kd.R_below (by (with_reducible repeat (first | apply zRa | apply zRn | apply zRd)); exact HO_8.out) hb);have n5_ := zA (blk_below (g := gb281) (o := .cells #[.slice (some ad292) l0_0.length c0_0, .int .i64 a0_1, .slice A0_2 l0_2.length c0_2] 25 (0, 0)) (by (with_reducible repeat (first |refine zn ?_ _|refine zd ?_|refine za ?_ _)); exact BK281.out) hb);have n6_ := zA (zt (by repeat (first | (with_reducible first | exact HB.out | apply zB | apply zN | apply zD | refine zS ?_ GE281.out) | exact HB.out)) hb);clear HO_3;clear HO_4;clear HO_5;clear HO_6;clear HO_8;clear BK281;clear HB;have HO_3 := n0_;have HO_4 := n1_;have HO_5 := n2_;have HO_6 := n3_;have HO_8 := n4_;have BK281 := n5_;have HB := n6_;clear n0_ n1_ n2_ n3_ n4_ n5_ n6_;(try clear hb);(try clear hb2);(try clear hk);(try clear hi);refine hK.out _ _ ⟨HS0_, HS1_, HS2_, HS3_, HS4_, HS5_, HS6_, HS7_⟩ (fun hHeld => ?_);clear hK K;refine norm_ (a' := ?_) ?_ ?_;rotate_left
                ·show Act.put _ (some 67) _ = _;simp only [Act.put, List.setIfInBounds_toArray, List.set_cons_zero, List.set_cons_succ, i64_w, i32_w];rfl
                refine done_ (done_of HT_.out (by kernel_rfl)) ?_
                try go_wp2
                go_roundg k2
                case measure => have := HK1.out; have := HK2.out; omega
                case rel => exact ⟨(x8_2), (wrap64 (x10_2 + 1)), (by first | rfl | (simp; done) | (simp [*]; done)), H', ⟨by have := HK1.out; have := HK2.out; omega⟩, ⟨by (with_reducible repeat (first | apply zRa | apply zRn | apply zRd)); exact HO_3.out⟩, ⟨by (with_reducible repeat (first | apply zRa | apply zRn | apply zRd)); exact HO_4.out⟩, ⟨by (with_reducible repeat (first | apply zRa | apply zRn | apply zRd)); exact HO_5.out⟩, ⟨by (with_reducible repeat (first | apply Kd.S_alloc | apply Kd.S_drewN | apply Kd.S_drew)); exact HO_6.out⟩, ⟨by (with_reducible repeat (first | apply zRa | apply zRn | apply zRd)); exact HO_8.out⟩, ⟨by (with_reducible repeat (first |refine zn ?_ _|refine zd ?_|refine za ?_ _)); exact BK281.out⟩, ⟨by repeat (first | (with_reducible first | exact HB.out | apply zB | apply zN | apply zD | refine zS ?_ GE281.out) | exact HB.out)⟩⟩
              ·rw [if_neg c35] at H;exact absurd H (by simp)
            ·rw [if_neg c22] at H;exact absurd H (by simp)
           ·rw [if_neg c21] at H;exact absurd H (by simp)
          ·rw [if_neg c20] at H;exact absurd H (by simp)
         ·rw [if_neg c19] at H;have c19b0 : decide (x10_2 < (t282.length : Int)) = false := decide_eq_false c19;clear c19
          by_cases c48 : x6_1.length < 5864062014805
          ·rw [if_pos c48] at H;have LMc48 := zA c48;clear c48;obtain ⟨y306, hy306⟩ : ∃ y_ : List (List Int), y_ = (x6_1 ++ [x8_2]) := ⟨_, rfl⟩
           replace H : (pleatref12_Edges.l0 k2 t282 t285 t288 y306 (wrap64 (x7_1 + 1)) l0_0 a0_1 l0_2) = some r := by first | (rw [hy306]; with_reducible exact H) | (have H2_ := (Option.bind_some _ _).symm.trans H; rw [hy306]; with_reducible exact H2_) | (have H2_ := (Option.bind_some _ _).symm.trans H; with_reducible exact H2_) | with_reducible exact H | (rw [hy306]; exact H) | exact H
           have Ny306 := zA hy306;clear hy306;have H' := zA H;clear H;obtain ⟨Ao50, co50, eo50⟩ := Kd.R_slice HO_8.out;subst eo50
           go_wp2_with (first | ((with_reducible refine gate_builtin (b := .append) (xs := #[.tmp 72, .tmp 74]) rfl ?_); at_builtin; refine Kd.S_append (Kd.slice 3 (Kd.int .i64)) (w0 := w) w.heap.size rfl (.tmp 72) (.tmp 74) 53 30 (.slice none 0 0) 24 rfl Try.underlying53 info30 rfl (by decide) (by omega) u6 x6_1 x8_2 [.slice Ao50 x8_2.length co50] (fun _ => True) (fun k_ => some k_ = (.slice Ao50 x8_2.length co50 : Value).ownBlock) rfl rfl ?aP (fun k_ hk_ => ((Kd.R_mono (ok' := fun k_ => ((fun _ => True)) k_ ∧ some k_ ≠ (u6 : Value).ownBlock) (Kd.R_apart' (HO_8.out) (Kd.S_typed HO_6.out) (by decide)) (fun k_ hk => ⟨trivial, hk.2⟩))).1 k_ hk_.symm) ?aF ?aO ?aB ?aS ?aL ?_; (case aP => exact Kd.M_row (Kd.R_mono (Kd.R_tight rfl (Kd.R_mono (ok' := fun k_ => ((fun _ => True)) k_ ∧ some k_ ≠ (u6 : Value).ownBlock) (Kd.R_apart' (HO_8.out) (Kd.S_typed HO_6.out) (by decide)) (fun k_ hk => ⟨trivial, hk.2⟩))) (fun _ h_ => h_))); (case aB => exact (by repeat (first | (with_reducible first | exact HB.out | apply zB | apply zN | apply zD | refine zS ?_ GE281.out) | exact HB.out))); (case aF => exact (fun _ _ => trivial)); (case aO => exact (by (with_reducible repeat (first | apply Kd.S_alloc | apply Kd.S_drewN | apply Kd.S_drew)); exact Kd.S_mono HO_6.out (fun k_ hk => ⟨trivial, fun e_ => hk e_⟩))); (case aS => exact (below_size (by repeat (first | (with_reducible first | exact HB.out | apply zB | apply zN | apply zD | refine zS ?_ GE281.out) | exact HB.out)))); (case aL => have := LMc48.out; omega); intro v307 w49 ho hb hg hat; rw [← Ny306.out] at ho; have n0_ := zA (Kd.R_over' (by (with_reducible repeat (first | apply zRa | apply zRn | apply zRd)); exact HO_3.out) (Kd.S_typed (by (with_reducible repeat (first | apply Kd.S_alloc | apply Kd.S_drewN | apply Kd.S_drew)); exact HO_6.out)) (by decide) hg); have n1_ := zA (Kd.R_over' (by (with_reducible repeat (first | apply zRa | apply zRn | apply zRd)); exact HO_4.out) (Kd.S_typed (by (with_reducible repeat (first | apply Kd.S_alloc | apply Kd.S_drewN | apply Kd.S_drew)); exact HO_6.out)) (by decide) hg); have n2_ := zA (Kd.R_over' (by (with_reducible repeat (first | apply zRa | apply zRn | apply zRd)); exact HO_5.out) (Kd.S_typed (by (with_reducible repeat (first | apply Kd.S_alloc | apply Kd.S_drewN | apply Kd.S_drew)); exact HO_6.out)) (by decide) hg); have n3_ := zA (blk_grown (g := gb281) (o := .cells #[.slice (some ad292) l0_0.length c0_0, .int .i64 a0_1, .slice A0_2 l0_2.length c0_2] 25 (0, 0)) (by (with_reducible repeat (first |refine zn ?_ _|refine zd ?_|refine za ?_ _)); exact BK281.out) hg (Kd.S_ne HO_6.out BK281.out (by decide))); have n4_ := zA (hb); have n5_ := zA (ho); clear HO_3; clear HO_4; clear HO_5; clear BK281; clear HB; clear HO_6; clear HO_8; have HO_3 := n0_; have HO_4 := n1_; have HO_5 := n2_; have BK281 := n3_; have HB := n4_; have HO308 := n5_; clear n0_ n1_ n2_ n3_ n4_ n5_; clear ho hb hg hat))
           go_roundg k2
           case measure => have := HK1.out; have := HK2.out; omega
           case rel => exact ⟨(y306), (wrap64 (x7_1 + 1)), (by first | rfl | (simp; done) | (simp [*]; done)), H', ⟨by have := HK1.out; have := HK2.out; omega⟩, ⟨by (with_reducible repeat (first | apply zRa | apply zRn | apply zRd)); exact HO_3.out⟩, ⟨by (with_reducible repeat (first | apply zRa | apply zRn | apply zRd)); exact HO_4.out⟩, ⟨by (with_reducible repeat (first | apply zRa | apply zRn | apply zRd)); exact HO_5.out⟩, ⟨by (with_reducible repeat (first | apply Kd.S_alloc | apply Kd.S_drewN | apply Kd.S_drew)); exact HO308.out⟩, ⟨by (with_reducible repeat (first |refine zn ?_ _|refine zd ?_|refine za ?_ _)); exact BK281.out⟩, ⟨by repeat (first | (with_reducible first | exact HB.out | apply zB | apply zN | apply zD | refine zS ?_ GE281.out) | exact HB.out)⟩⟩
          ·rw [if_neg c48] at H;exact absurd H (by simp)
      ·rw [if_neg c16] at H;exact absurd H (by simp)
     ·rw [if_neg c15] at H;exact absurd H (by simp)
    ·rw [if_neg c13] at H;exact absurd H (by simp)
   ·rw [if_neg c12] at H;have c12b0 : decide (x7_1 < (t282.length : Int)) = false := decide_eq_false c12;clear c12;obtain rfl := zj H;obtain ⟨Ao51, co51, eo51⟩ := Kd.R_slice HO_3.out;subst eo51
    go_wp2
    go_ret
    exact ⟨_, by first | rfl | (simp <;> rfl) | (simp [*] <;> rfl), by (with_reducible repeat (first | apply Kd.S_alloc | apply Kd.S_drewN | apply Kd.S_drew)); exact HO_6.out, by repeat (first | (with_reducible first | exact HB.out | apply zB | apply zN | apply zD | refine zS ?_ GE281.out) | exact HB.out)⟩
end Go.Proofs.Ytfgdjpgdabjpmaa.PEdgeLists
