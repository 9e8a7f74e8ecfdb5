-- SLIM: printed, then laid small (wip/tools/slimclaim.py).
import Derived.Test.YtfgdjpgdabjpmaaPEdgeListsx0
import Derived.Test.YtfgdjpgdabjpmaaPEdgeListsx16
import Derived.Test.YtfgdjpgdabjpmaaPEdgeListsx18
import Derived.Test.YtfgdjpgdabjpmaaPEdgeListsx19
namespace Go.Proofs.Ytfgdjpgdabjpmaa.PEdgeLists
open Go.RowKit Go.Proofs.YtfgdjpgdabjpmaaW.PrintWords Go.Proofs.YtfgdjpgdabjpmaaW.PrintLast Go.Proofs.YtfgdjpgdabjpmaaW.PrintMore
attribute [local go_sem] max2_int min2_int max_two min_two max_three min_three max_four min_four   -- for this text's walks alone
set_option linter.unusedVariables false
set_option linter.unusedSimpArgs false
mutual
def pleatref12_Reached.l0 : Nat → List (S84) → List (List Int) → List Bool → Bool → Option (List Bool)
 | 0, _, _, _, _ => none
 | k + 1, x3, x4, x5, x6 => if x6 = true then (pleatref12_Reached.l1 k x3 x4 x5 false 0) else (some x5)
def pleatref12_Reached.l1 : Nat → List (S84) → List (List Int) → List Bool → Bool → Int → Option (List Bool)
 | 0, _, _, _, _, _ => none
 | k + 1, x3, x4, x5, x6, x7 => if x7 < (x3.length : Int) then (pleatref12_Reached.l2 k x3 x4 x5 x6 x7 0) else (pleatref12_Reached.l0 k x3 x4 x5 x6)
def pleatref12_Reached.l2 : Nat → List (S84) → List (List Int) → List Bool → Bool → Int → Int → Option (List Bool)
 | 0, _, _, _, _, _, _ => none
 | k + 1, x3, x4, x5, x6, x7, x8 => if 0 ≤ x7 then (if x7 < (x4.length : Int) then (if x8 < ((rd_L9 x4 x7).length : Int) then (if x7 < (x5.length : Int) then (pleatref12_Reached.j3 k x3 x4 x5 x6 x7 x8 (rdOf false x5 x7)) else (none)) else (pleatref12_Reached.j3 k x3 x4 x5 x6 x7 x8 false)) else (none)) else (none)
def pleatref12_Reached.j3 : Nat → List (S84) → List (List Int) → List Bool → Bool → Int → Int → Bool → Option (List Bool)
 | 0, _, _, _, _, _, _, _ => none
 | k + 1, x3, x4, x5, x6, x7, x8, x41 => if x41 = true then (if 0 ≤ x7 then (if x7 < (x4.length : Int) then (if 0 ≤ x8 then (if x8 < ((rd_L9 x4 x7).length : Int) then (if 0 ≤ (rd (rd_L9 x4 x7) x8) then (if (rd (rd_L9 x4 x7) x8) < (x5.length : Int) then (if (rdOf false x5 (rd (rd_L9 x4 x7) x8) = true) then (pleatref12_Reached.l2 k x3 x4 x5 x6 x7 (wrap64 (x8 + 1))) else (pleatref12_Reached.l2 k x3 x4 (x5.set ((rd (rd_L9 x4 x7) x8) : Int).toNat true) true x7 (wrap64 (x8 + 1)))) else (none)) else (none)) else (none)) else (none)) else (none)) else (none)) else (pleatref12_Reached.l1 k x3 x4 x5 x6 (wrap64 (x7 + 1)))
end
def pleatref12_Reached.f (k : Nat) (l0_0 : List Int) (a0_1 : Int) (l0_2 : List Int) : Option (List Bool) := (pleatref11_Blocks.f k l0_0 a0_1 l0_2).bind fun t314 => ((pleatref12_Edges.f k l0_0 a0_1 l0_2).bind fun t317 => (if 0 ≤ (t314.length : Int) then (if ((t314.length : Int) : Int).toNat ≤ 281474976710656 then ((some (List.replicate ((t314.length : Int) : Int).toNat false : List Bool)).bind fun y320 => ((pleatref11_Of.f k t314 a0_1).bind fun t323 => (if 0 ≤ t323 then (if t323 < (y320.length : Int) then (pleatref12_Reached.l0 k t314 t317 (y320.set (t323 : Int).toNat true) true) else (none)) else (none)))) else (none)) else (none)))
theorem pleatref12_Reached.mono_l : ∀ k, (∀ y0 y1 y2 y3, LeO (pleatref12_Reached.l0 k y0 y1 y2 y3) (pleatref12_Reached.l0 (k + 1) y0 y1 y2 y3)) ∧ (∀ y0 y1 y2 y3 y4, LeO (pleatref12_Reached.l1 k y0 y1 y2 y3 y4) (pleatref12_Reached.l1 (k + 1) y0 y1 y2 y3 y4)) ∧ (∀ y0 y1 y2 y3 y4 y5, LeO (pleatref12_Reached.l2 k y0 y1 y2 y3 y4 y5) (pleatref12_Reached.l2 (k + 1) y0 y1 y2 y3 y4 y5)) ∧ (∀ y0 y1 y2 y3 y4 y5 y6, LeO (pleatref12_Reached.j3 k y0 y1 y2 y3 y4 y5 y6) (pleatref12_Reached.j3 (k + 1) y0 y1 y2 y3 y4 y5 y6))
 | 0 => ⟨fun _ _ _ _ r h => by simp [pleatref12_Reached.l0] at h, fun _ _ _ _ _ r h => by simp [pleatref12_Reached.l1] at h, fun _ _ _ _ _ _ r h => by simp [pleatref12_Reached.l2] at h, fun _ _ _ _ _ _ _ r h => by simp [pleatref12_Reached.j3] at h⟩
 | k + 1 => by
  obtain ⟨ih0, ih1, ih2, ih3⟩ := pleatref12_Reached.mono_l k;refine ⟨?_, ?_, ?_, ?_⟩
  ·intro y0 y1 y2 y3
   unfold pleatref12_Reached.l0
   repeat' first
   | (with_reducible exact ih0 _ _ _ _)
   | (with_reducible exact ih1 _ _ _ _ _)
   | (with_reducible exact ih2 _ _ _ _ _ _)
   | (with_reducible exact ih3 _ _ _ _ _ _ _)
   | (with_reducible exact pleatref11_Blocks.mono _ _ _ _)
   | (with_reducible exact pleatref11_Of.mono _ _ _)
   | (with_reducible exact pleatref12_Edges.mono _ _ _ _)
   | (with_reducible exact LeO.refl _)
   | (with_reducible exact LeO.none _)
   | (with_reducible refine LeO.ite ?_ ?_)
   | (with_reducible refine LeO.bind ?_ (fun _ => ?_))
   | exact ih0 _ _ _ _
   | exact ih1 _ _ _ _ _
   | exact ih2 _ _ _ _ _ _
   | exact ih3 _ _ _ _ _ _ _
   | exact pleatref11_Blocks.mono _ _ _ _
   | exact pleatref11_Of.mono _ _ _
   | exact pleatref12_Edges.mono _ _ _ _
   | exact LeO.none _
   | refine LeO.ite ?_ ?_
   | refine LeO.bind ?_ (fun _ => ?_)
  ·intro y0 y1 y2 y3 y4
   unfold pleatref12_Reached.l1
   repeat' first
   | (with_reducible exact ih0 _ _ _ _)
   | (with_reducible exact ih1 _ _ _ _ _)
   | (with_reducible exact ih2 _ _ _ _ _ _)
   | (with_reducible exact ih3 _ _ _ _ _ _ _)
   | (with_reducible exact pleatref11_Blocks.mono _ _ _ _)
   | (with_reducible exact pleatref11_Of.mono _ _ _)
   | (with_reducible exact pleatref12_Edges.mono _ _ _ _)
   | (with_reducible exact LeO.refl _)
   | (with_reducible exact LeO.none _)
   | (with_reducible refine LeO.ite ?_ ?_)
   | (with_reducible refine LeO.bind ?_ (fun _ => ?_))
   | exact ih0 _ _ _ _
   | exact ih1 _ _ _ _ _
   | exact ih2 _ _ _ _ _ _
   | exact ih3 _ _ _ _ _ _ _
   | exact pleatref11_Blocks.mono _ _ _ _
   | exact pleatref11_Of.mono _ _ _
   | exact pleatref12_Edges.mono _ _ _ _
   | exact LeO.none _
   | refine LeO.ite ?_ ?_
   | refine LeO.bind ?_ (fun _ => ?_)
  ·intro y0 y1 y2 y3 y4 y5
   unfold pleatref12_Reached.l2
   repeat' first
   | (with_reducible exact ih0 _ _ _ _)
   | (with_reducible exact ih1 _ _ _ _ _)
   | (with_reducible exact ih2 _ _ _ _ _ _)
   | (with_reducible exact ih3 _ _ _ _ _ _ _)
   | (with_reducible exact pleatref11_Blocks.mono _ _ _ _)
   | (with_reducible exact pleatref11_Of.mono _ _ _)
   | (with_reducible exact pleatref12_Edges.mono _ _ _ _)
   | (with_reducible exact LeO.refl _)
   | (with_reducible exact LeO.none _)
   | (with_reducible refine LeO.ite ?_ ?_)
   | (with_reducible refine LeO.bind ?_ (fun _ => ?_))
   | exact ih0 _ _ _ _
   | exact ih1 _ _ _ _ _
   | exact ih2 _ _ _ _ _ _
   | exact ih3 _ _ _ _ _ _ _
   | exact pleatref11_Blocks.mono _ _ _ _
   | exact pleatref11_Of.mono _ _ _
   | exact pleatref12_Edges.mono _ _ _ _
   | exact LeO.none _
   | refine LeO.ite ?_ ?_
   | refine LeO.bind ?_ (fun _ => ?_)
  ·intro y0 y1 y2 y3 y4 y5 y6
   unfold pleatref12_Reached.j3
   repeat' first
   | (with_reducible exact ih0 _ _ _ _)
   | (with_reducible exact ih1 _ _ _ _ _)
   | (with_reducible exact ih2 _ _ _ _ _ _)
   | (with_reducible exact ih3 _ _ _ _ _ _ _)
   | (with_reducible exact pleatref11_Blocks.mono _ _ _ _)
   | (with_reducible exact pleatref11_Of.mono _ _ _)
   | (with_reducible exact pleatref12_Edges.mono _ _ _ _)
   | (with_reducible exact LeO.refl _)
   | (with_reducible exact LeO.none _)
   | (with_reducible refine LeO.ite ?_ ?_)
   | (with_reducible refine LeO.bind ?_ (fun _ => ?_))
   | exact ih0 _ _ _ _
   | exact ih1 _ _ _ _ _
   | exact ih2 _ _ _ _ _ _
   | exact ih3 _ _ _ _ _ _ _
   | exact pleatref11_Blocks.mono _ _ _ _
   | exact pleatref11_Of.mono _ _ _
   | exact pleatref12_Edges.mono _ _ _ _
   | exact LeO.none _
   | refine LeO.ite ?_ ?_
   | refine LeO.bind ?_ (fun _ => ?_)
theorem pleatref12_Reached.mono : ∀ a0 a1 a2 k, LeO (pleatref12_Reached.f k a0 a1 a2) (pleatref12_Reached.f (k + 1) a0 a1 a2) := by
 intro a0 a1 a2 k;obtain ⟨ih0, ih1, ih2, ih3⟩ := pleatref12_Reached.mono_l k
 unfold pleatref12_Reached.f
 repeat' first
   | (with_reducible exact ih0 _ _ _ _)
   | (with_reducible exact ih1 _ _ _ _ _)
   | (with_reducible exact ih2 _ _ _ _ _ _)
   | (with_reducible exact ih3 _ _ _ _ _ _ _)
   | (with_reducible exact pleatref11_Blocks.mono _ _ _ _)
   | (with_reducible exact pleatref11_Of.mono _ _ _)
   | (with_reducible exact pleatref12_Edges.mono _ _ _ _)
   | (with_reducible exact LeO.refl _)
   | (with_reducible exact LeO.none _)
   | (with_reducible refine LeO.ite ?_ ?_)
   | (with_reducible refine LeO.bind ?_ (fun _ => ?_))
   | exact ih0 _ _ _ _
   | exact ih1 _ _ _ _ _
   | exact ih2 _ _ _ _ _ _
   | exact ih3 _ _ _ _ _ _ _
   | exact pleatref11_Blocks.mono _ _ _ _
   | exact pleatref11_Of.mono _ _ _
   | exact pleatref12_Edges.mono _ _ _ _
   | exact LeO.none _
   | refine LeO.ite ?_ ?_
   | refine LeO.bind ?_ (fun _ => ?_)
set_option maxHeartbeats 8000000 in
set_option maxRecDepth 100000 in
theorem pleatref12_Reached.calls (k : Nat) (A0_0 : Option Addr) (c0_0 : Nat) (l0_0 : List Int) (a0_1 : Int) (A0_2 : Option Addr) (c0_2 : Nat) (l0_2 : List Int) (r : List Bool) (w : World) (hr0_0 : Kd.C (Kd.int .u32) w A0_0 l0_0.length l0_0) (hc0_0 : l0_0.length ≤ c0_0) (hr0_2 : Kd.C (Kd.int .i64) w A0_2 l0_2.length l0_2) (hc0_2 : l0_2.length ≤ c0_2) (h : pleatref12_Reached.f k l0_0 a0_1 l0_2 = some r) :
  Calls Try.prog 37 #[.agg #[.slice A0_0 l0_0.length c0_0, .int .i64 a0_1, .slice A0_2 l0_2.length c0_2]] w fun e w' => ∃ v0_ : Value, e = .returned (v0_) ∧ Kd.R Kd.bool 4 w' w.heap.size (fun _ => True) v0_ r ∧ Below w.heap.size w w' := by
 have hu25 := Try.underlying25;have HR0_0 := zA hr0_0;have HC0_0 := zA hc0_0;clear hr0_0 hc0_0;have HR0_2 := zA hr0_2;have HC0_2 := zA hc0_2;clear hr0_2 hc0_2;have HB := zA (Below.refl w.heap.size w);have H : ((pleatref11_Blocks.f k l0_0 a0_1 l0_2).bind fun t314 => ((pleatref12_Edges.f k l0_0 a0_1 l0_2).bind fun t317 => (if 0 ≤ (t314.length : Int) then (if ((t314.length : Int) : Int).toNat ≤ 281474976710656 then ((some (List.replicate ((t314.length : Int) : Int).toNat false : List Bool)).bind fun y320 => ((pleatref11_Of.f k t314 a0_1).bind fun t323 => (if 0 ≤ t323 then (if t323 < (y320.length : Int) then (pleatref12_Reached.l0 k t314 t317 (y320.set (t323 : Int).toNat true) true) else (none)) else (none)))) else (none)) else (none)))) = some r := h;clear h;replace H := zi H;obtain ⟨t314, A20, H⟩ := H;replace H : ((pleatref12_Edges.f k l0_0 a0_1 l0_2).bind fun t317 => (if 0 ≤ (t314.length : Int) then (if ((t314.length : Int) : Int).toNat ≤ 281474976710656 then ((some (List.replicate ((t314.length : Int) : Int).toNat false : List Bool)).bind fun y320 => ((pleatref11_Of.f k t314 a0_1).bind fun t323 => (if 0 ≤ t323 then (if t323 < (y320.length : Int) then (pleatref12_Reached.l0 k t314 t317 (y320.set (t323 : Int).toNat true) true) else (none)) else (none)))) else (none)) else (none))) = some r := H;have A2 := zA A20;clear A20;replace H := zi H;obtain ⟨t317, A30, H⟩ := H;replace H : (if 0 ≤ (t314.length : Int) then (if ((t314.length : Int) : Int).toNat ≤ 281474976710656 then ((some (List.replicate ((t314.length : Int) : Int).toNat false : List Bool)).bind fun y320 => ((pleatref11_Of.f k t314 a0_1).bind fun t323 => (if 0 ≤ t323 then (if t323 < (y320.length : Int) then (pleatref12_Reached.l0 k t314 t317 (y320.set (t323 : Int).toNat true) true) else (none)) else (none)))) else (none)) else (none)) = some r := H;have A3 := zA A30;clear A30
 by_cases c4 : 0 ≤ (t314.length : Int)
 ·rw [if_pos c4] at H;have c4b0 := eq_true c4;have c4b1 : decide (0 ≤ (t314.length : Int)) = true := decide_eq_true c4;clear c4
  by_cases c5 : ((t314.length : Int) : Int).toNat ≤ 281474976710656
  ·rw [if_pos c5] at H;have c5b0 := eq_true c5;have c5b1 : decide (((t314.length : Int) : Int).toNat ≤ 281474976710656) = true := decide_eq_true c5;clear c5;obtain ⟨y320, hy320⟩ : ∃ y_ : List Bool, y_ = (List.replicate ((t314.length : Int) : Int).toNat false) := ⟨_, rfl⟩
   replace H : ((pleatref11_Of.f k t314 a0_1).bind fun t323 => (if 0 ≤ t323 then (if t323 < (y320.length : Int) then (pleatref12_Reached.l0 k t314 t317 (y320.set (t323 : Int).toNat true) true) else (none)) else (none))) = some r := by first | (rw [hy320]; with_reducible exact H) | (have H2_ := (Option.bind_some _ _).symm.trans H; rw [hy320]; with_reducible exact H2_) | (have H2_ := (Option.bind_some _ _).symm.trans H; with_reducible exact H2_) | with_reducible exact H | (rw [hy320]; exact H) | exact H
   have Ny320 := zA hy320;clear hy320;replace H := zi H;obtain ⟨t323, A60, H⟩ := H;replace H : (if 0 ≤ t323 then (if t323 < (y320.length : Int) then (pleatref12_Reached.l0 k t314 t317 (y320.set (t323 : Int).toNat true) true) else (none)) else (none)) = some r := H;have A6 := zA A60;clear A60
   by_cases c7 : 0 ≤ t323
   ·rw [if_pos c7] at H;have c7b0 : decide (0 ≤ t323) = true := decide_eq_true c7;clear c7
    by_cases c8 : t323 < (y320.length : Int)
    ·rw [if_pos c8] at H;have c8b0 : decide (t323 < (y320.length : Int)) = true := decide_eq_true c8;clear c8;obtain ⟨y324, hy324⟩ : ∃ y_ : List Bool, y_ = (y320.set (t323 : Int).toNat true) := ⟨_, rfl⟩
     replace H : (pleatref12_Reached.l0 k t314 t317 y324 true) = some r := by first | (rw [hy324]; with_reducible exact H) | (have H2_ := (Option.bind_some _ _).symm.trans H; rw [hy324]; with_reducible exact H2_) | (have H2_ := (Option.bind_some _ _).symm.trans H; with_reducible exact H2_) | with_reducible exact H | (rw [hy324]; exact H) | exact H
     have Ny324 := zA hy324;clear hy324;have H' := zA H;clear H
     go_enter Try.func37, Try.ntmps37
     go_wp2_with (first | ((with_reducible refine gate_dst (N := 1) rfl ?_); refine box_event ?hg (N := 1) ?hd (cs := #[.slice A0_0 l0_0.length c0_0, .int .i64 a0_1, .slice A0_2 l0_2.length c0_2]) (t := 25) ?hr ?_; (case hd => rfl); (case hg => rfl); (case hr => first | (go_simp; done) | (go_simp; rfl)); intro gb313 hg w10 hbox hb; have n0_ := zA (zt (by repeat (first | (with_reducible first | exact HB.out | apply zB | apply zN | apply zD) | exact HB.out)) hb); have n1_ := zA (hbox); have n2_ := zA ((by rw [hg]; exact (below_size (by repeat (first | (with_reducible first | exact HB.out | apply zB | apply zN | apply zD) | exact HB.out))) : w.heap.size ≤ gb313)); have n3_ := zA ((by rw [hg]; exact (below_size (by repeat (first | (with_reducible first | exact HB.out | apply zB | apply zN | apply zD) | exact HB.out))) : w.heap.size ≤ gb313)); clear HB; have HB := n0_; have BK313 := n1_; have GW313 := n2_; have GE313 := n3_; clear n0_ n1_ n2_ n3_; clear hb hbox hg; have hcz11_0 : w10.cell? ⟨gb313, 0, none⟩ = some (.slice A0_0 l0_0.length c0_0) := (zc BK313.out 0).trans rfl; have hcz11_1 : w10.cell? ⟨gb313, 1, none⟩ = some (.int .i64 a0_1) := (zc BK313.out 1).trans rfl; have hcz11_2 : w10.cell? ⟨gb313, 2, none⟩ = some (.slice A0_2 l0_2.length c0_2) := (zc BK313.out 2).trans rfl; have hfz11_0 := zF BK313.out 0; have hfz11_1 := zF BK313.out 1; have hfz11_2 := zF BK313.out 2) | ((with_reducible refine gate_callee (f := 88) rfl ?_); refine goesL_ (some 10) rfl rfl Try.func88 (by kernel_rfl) rfl #[.agg #[.slice A0_0 l0_0.length c0_0, .int .i64 a0_1, .slice A0_2 l0_2.length c0_2]] rfl (by (try simp only [List.map_toArray, List.map_cons, List.map_nil]); first | done | rfl | (simp only [List.length_drop, List.length_take]; rfl)) ?_; (with_reducible refine (pleatref11_Blocks.calls k _ _ l0_0 a0_1 _ _ l0_2 t314 _ ?side1 ?side2 ?side3 ?side4 A2.out).mono ?_); (case side1 => repeat (first | exact (Kd.C_below HR0_0.out HB.out) | (with_reducible refine Kd.C_alloc ?_ _) | (with_reducible refine Kd.C_drewN ?_ _) | (with_reducible refine Kd.C_drew ?_))); (case side2 => exact HC0_0.out); (case side3 => repeat (first | exact (Kd.C_below HR0_2.out HB.out) | (with_reducible refine Kd.C_alloc ?_ _) | (with_reducible refine Kd.C_drewN ?_ _) | (with_reducible refine Kd.C_drew ?_))); (case side4 => exact HC0_2.out); rintro e w12 ⟨v315, rfl, ho0, hb⟩; refine ⟨_, rfl, ?_⟩; have n0_ := zA (Kd.R_lower ho0 (below_size (by repeat (first | (with_reducible first | exact HB.out | apply zB | apply zN | apply zD | refine zS ?_ GE313.out) | exact HB.out)))); have n1_ := zA (blk_below (g := gb313) (o := .cells #[.slice A0_0 l0_0.length c0_0, .int .i64 a0_1, .slice A0_2 l0_2.length c0_2] 25 (0, 0)) (by (with_reducible repeat (first |refine zn ?_ _|refine zd ?_|refine za ?_ _)); exact BK313.out) hb); have n2_ := zA (zt (by repeat (first | (with_reducible first | exact HB.out | apply zB | apply zN | apply zD | refine zS ?_ GE313.out) | exact HB.out)) hb); clear BK313; clear HB; have HO316 := n0_; have BK313 := n1_; have HB := n2_; clear n0_ n1_ n2_; (try clear hb); (try clear hb2); (try clear hk); (try clear hi); (try clear ho0); have hcz13_0 : w12.cell? ⟨gb313, 0, none⟩ = some (.slice A0_0 l0_0.length c0_0) := (zc BK313.out 0).trans rfl; have hcz13_1 : w12.cell? ⟨gb313, 1, none⟩ = some (.int .i64 a0_1) := (zc BK313.out 1).trans rfl; have hcz13_2 : w12.cell? ⟨gb313, 2, none⟩ = some (.slice A0_2 l0_2.length c0_2) := (zc BK313.out 2).trans rfl; have hfz13_0 := zF BK313.out 0; have hfz13_1 := zF BK313.out 1; have hfz13_2 := zF BK313.out 2) | ((with_reducible refine gate_callee (f := 35) rfl ?_); refine goesL_ (some 12) rfl rfl Try.func35 (by kernel_rfl) rfl #[.agg #[.slice A0_0 l0_0.length c0_0, .int .i64 a0_1, .slice A0_2 l0_2.length c0_2]] rfl (by (try simp only [List.map_toArray, List.map_cons, List.map_nil]); first | done | rfl | (simp only [List.length_drop, List.length_take]; rfl)) ?_; (with_reducible refine (pleatref12_Edges.calls k _ _ l0_0 a0_1 _ _ l0_2 t317 _ ?side1 ?side2 ?side3 ?side4 A3.out).mono ?_); (case side1 => repeat (first | exact (Kd.C_below HR0_0.out HB.out) | (with_reducible refine Kd.C_alloc ?_ _) | (with_reducible refine Kd.C_drewN ?_ _) | (with_reducible refine Kd.C_drew ?_))); (case side2 => exact HC0_0.out); (case side3 => repeat (first | exact (Kd.C_below HR0_2.out HB.out) | (with_reducible refine Kd.C_alloc ?_ _) | (with_reducible refine Kd.C_drewN ?_ _) | (with_reducible refine Kd.C_drew ?_))); (case side4 => exact HC0_2.out); rintro e w14 ⟨v318, rfl, ho0, hb⟩; refine ⟨_, rfl, ?_⟩; have n0_ := zA (Kd.R_below (by (with_reducible repeat (first | apply zRa | apply zRn | apply zRd)); exact HO316.out) hb); have n1_ := zA (Kd.S_lower ho0 (below_size (by repeat (first | (with_reducible first | exact HB.out | apply zB | apply zN | apply zD | refine zS ?_ GE313.out) | exact HB.out)))); have n2_ := zA (blk_below (g := gb313) (o := .cells #[.slice A0_0 l0_0.length c0_0, .int .i64 a0_1, .slice A0_2 l0_2.length c0_2] 25 (0, 0)) (by (with_reducible repeat (first |refine zn ?_ _|refine zd ?_|refine za ?_ _)); exact BK313.out) hb); have n3_ := zA (zt (by repeat (first | (with_reducible first | exact HB.out | apply zB | apply zN | apply zD | refine zS ?_ GE313.out) | exact HB.out)) hb); clear HO316; clear BK313; clear HB; have HO316 := n0_; have HO319 := n1_; have BK313 := n2_; have HB := n3_; clear n0_ n1_ n2_ n3_; (try clear hb); (try clear hb2); (try clear hk); (try clear hi); (try clear ho0); obtain ⟨Ao15, co15, eo15⟩ := Kd.R_slice HO316.out; subst eo15) | ((with_reducible refine gate_dst (N := 15) rfl ?_); refine Kd.R_make Kd.bool _ 4 rfl (N := 15) rfl 59 _ _ rfl (t314.length : Int) rfl rfl Try.underlying59 (.bool false) 1 info4 rfl (by decide) (by omega) false (ok := fun _ => True) (okp := fun _ => True) rfl (fun _ hk => hk) trivial (zo (by first | (with_reducible assumption) | assumption)) (Nat.le_trans (Nat.mul_le_mul_right _ (zo (by first | (with_reducible assumption) | assumption) : (t314.length : Int).toNat ≤ 281474976710656)) (by omega)) (Below.refl _ _) (Nat.le_refl _) ?_; intro v321 w16 ho17 hb hg_ hnew_; clear hg_ hnew_; (first | rw [← Ny320.out] at ho17 | (simp only [Int.reduceToNat] at ho17; rw [← Ny320.out] at ho17)); have n0_ := zA (Kd.R_below (by (with_reducible repeat (first | apply zRa | apply zRn | apply zRd)); exact HO316.out) hb); have n1_ := zA (Kd.S_below (by (with_reducible repeat (first | apply Kd.S_alloc | apply Kd.S_drewN | apply Kd.S_drew)); exact HO319.out) hb); have n2_ := zA (Kd.R_lower ho17 (below_size (by repeat (first | (with_reducible first | exact HB.out | apply zB | apply zN | apply zD | refine zS ?_ GE313.out) | exact HB.out)))); have n3_ := zA (blk_below (g := gb313) (o := .cells #[.slice A0_0 l0_0.length c0_0, .int .i64 a0_1, .slice A0_2 l0_2.length c0_2] 25 (0, 0)) (by (with_reducible repeat (first |refine zn ?_ _|refine zd ?_|refine za ?_ _)); exact BK313.out) hb); have n4_ := zA (zt (by repeat (first | (with_reducible first | exact HB.out | apply zB | apply zN | apply zD | refine zS ?_ GE313.out) | exact HB.out)) hb); clear HO316; clear HO319; clear BK313; clear HB; have HO316 := n0_; have HO319 := n1_; have HO322 := n2_; have BK313 := n3_; have HB := n4_; clear n0_ n1_ n2_ n3_ n4_; clear hb ho17; have hcz18_0 : w16.cell? ⟨gb313, 0, none⟩ = some (.slice A0_0 l0_0.length c0_0) := (zc BK313.out 0).trans rfl; have hcz18_1 : w16.cell? ⟨gb313, 1, none⟩ = some (.int .i64 a0_1) := (zc BK313.out 1).trans rfl; have hcz18_2 : w16.cell? ⟨gb313, 2, none⟩ = some (.slice A0_2 l0_2.length c0_2) := (zc BK313.out 2).trans rfl; have hfz18_0 := zF BK313.out 0; have hfz18_1 := zF BK313.out 1; have hfz18_2 := zF BK313.out 2) | ((with_reducible refine gate_callee (f := 91) rfl ?_); refine goesL_ (some 20) rfl rfl Try.func91 (by kernel_rfl) rfl #[.slice Ao15 t314.length co15, .int .i64 a0_1] rfl (by (try simp only [List.map_toArray, List.map_cons, List.map_nil]); first | done | rfl | (simp only [List.length_drop, List.length_take]; rfl)) ?_; (with_reducible refine (pleatref11_Of.calls k _ _ t314 a0_1 t323 _ ?side1 ?side2 A6.out).mono ?_); (case side1 => repeat (first | exact (Kd.R_reads' HO316.out).2.2 | (with_reducible refine Kd.C_alloc ?_ _) | (with_reducible refine Kd.C_drewN ?_ _) | (with_reducible refine Kd.C_drew ?_))); (case side2 => exact (Kd.R_reads' HO316.out).2.1); rintro e w' ⟨rfl, ⟨nd, rfl⟩⟩; refine ⟨_, rfl, ?_⟩; (try (rw [drewN_self w16]; generalize hq_ : World.drewN w16 _ = w16; have n0_ : Aside0 (Kd.R k84 84 w16 w.heap.size (fun _ => True) (.slice Ao15 t314.length co15) t314) := ⟨by rw [← hq_]; exact (by (with_reducible repeat (first | apply zRa | apply zRn | apply zRd)); exact HO316.out)⟩; have n1_ : Aside0 (Kd.S (Kd.slice 3 (Kd.int .i64)) 30 w16 w.heap.size (fun _ => True) v318 t317) := ⟨by rw [← hq_]; exact (by (with_reducible repeat (first | apply Kd.S_alloc | apply Kd.S_drewN | apply Kd.S_drew)); exact HO319.out)⟩; have n2_ : Aside0 (Kd.R Kd.bool 4 w16 w.heap.size (fun _ => True) v321 y320) := ⟨by rw [← hq_]; exact (by (with_reducible repeat (first | apply zRa | apply zRn | apply zRd)); exact HO322.out)⟩; have n3_ : Aside0 (w16.heap[gb313]? = some (.cells #[.slice A0_0 l0_0.length c0_0, .int .i64 a0_1, .slice A0_2 l0_2.length c0_2] 25 (0, 0))) := ⟨by rw [← hq_]; exact (by (with_reducible repeat (first |refine zn ?_ _|refine zd ?_|refine za ?_ _)); exact BK313.out)⟩; have n4_ : Aside0 (Below w.heap.size w w16) := ⟨by rw [← hq_]; exact (by repeat (first | (with_reducible first | exact HB.out | apply zB | apply zN | apply zD | refine zS ?_ GE313.out) | exact HB.out))⟩; clear HO316 HO319 HO322 BK313 HB hq_; have HO316 := n0_; have HO319 := n1_; have HO322 := n2_; have BK313 := n3_; have HB := n4_; clear n0_ n1_ n2_ n3_ n4_)); have p9 : 0 ≤ (t323 : Int) := zo (by first | (with_reducible assumption) | assumption); have q9 : (t323 : Int) < ((y320.length : Int) : Int) := zo (by first | (with_reducible assumption) | assumption); obtain ⟨go9, co9, eo9, gb9, gl9, cl9, HG9⟩ := Kd.R_form HO322.out (by omega); (first | cases eo9 | (injection eo9 with ea_ en_ ec_; (first | subst ea_ | (injection ea_ with ea_; subst ea_)); subst ec_; clear en_)); have GB9 := zA gb9; have GG9 := zA HG9; clear gb9 gl9 HG9; obtain ⟨hx9_0, hf9_0⟩ := Kd.R_celln false HO322.out (t323 : Int) p9 q9; replace p9 := eq_true p9; replace q9 := eq_true q9; obtain ⟨hy19_, hz19_⟩ := Kd.R_celln false HO322.out (t323 : Int) (zo (by first | (with_reducible assumption) | assumption)) (zo (by first | (with_reducible assumption) | assumption)); have HP19 := Kd.R_putg HO322.out (t323 : Int) true) | ((with_reducible refine gate_store (t := 4) (p := 21) rfl ?_); refine store_event (t := 4) (p := 21) (v := ?vo_w20) (w1 := (w16.setCell ⟨go9, (t323 : Int).toNat, none⟩ (.bool true))) ?hg ?ho ?hn ?hr ?_; (case ho => rfl); (case hg => rfl); (case hn => rfl); (case hr => first | (go_simp; done) | (go_simp; rfl)); intro w20 hw; have hg : w16.grownBy w20 (some go9) := (by rw [hw]; exact HP19.2); have hp_ : Kd.R Kd.bool 4 w20 w.heap.size (fun _ => True) (.slice (some ⟨go9, 0, none⟩) y320.length co9) y324 := (by rw [hw, Ny324.out]; exact HP19.1); clear HP19; have n0_ := zA (blk_grown (g := gb313) (o := .cells #[.slice A0_0 l0_0.length c0_0, .int .i64 a0_1, .slice A0_2 l0_2.length c0_2] 25 (0, 0)) (by (with_reducible repeat (first |refine zn ?_ _|refine zd ?_|refine za ?_ _)); exact BK313.out) hg (Kd.R_ne HO322.out BK313.out (by decide))); have n1_ := zA (Kd.R_over' (v := (.slice (some ⟨go9, 0, none⟩) y320.length co9)) (by (with_reducible repeat (first | apply zRa | apply zRn | apply zRd)); exact HO316.out) (Kd.R_typed HO322.out) (by decide) hg); have n2_ := zA (Kd.S_over' (v := (.slice (some ⟨go9, 0, none⟩) y320.length co9)) (by (with_reducible repeat (first | apply Kd.S_alloc | apply Kd.S_drewN | apply Kd.S_drew)); exact HO319.out) (Kd.R_typed HO322.out) (by decide) hg); have n3_ := zA (hp_); have n4_ := zA ((by rw [hw]; exact zS (HB.out) GB9.out : Below w.heap.size w w20)); clear BK313; clear HO316; clear HO319; clear HO322; clear HB; have BK313 := n0_; have HO316 := n1_; have HO319 := n2_; have HO322 := n3_; have HB := n4_; clear n0_ n1_ n2_ n3_ n4_; clear hg hw hp_))
     go_loopg [6] k (fun kq v6 w' => ∃ (x5_1 : List Bool) (x6_1 : Bool), v6 = .bool x6_1 ∧ Aside0 (pleatref12_Reached.l0 kq t314 t317 x5_1 x6_1 = some r) ∧ Aside0 (kq ≤ k) ∧ Aside0 (Kd.R k84 84 w' w.heap.size (fun _ => True) (.slice Ao15 t314.length co15) t314) ∧ Aside0 (Kd.S (Kd.slice 3 (Kd.int .i64)) 30 w' w.heap.size (fun _ => True) v318 t317) ∧ Aside0 (Kd.R Kd.bool 4 w' w.heap.size (fun _ => True) (.slice (some ⟨go9, 0, none⟩) y320.length co9) x5_1) ∧ Aside0 (w'.heap[gb313]? = some (.cells #[(.slice A0_0 l0_0.length c0_0), .int .i64 a0_1, (.slice A0_2 l0_2.length c0_2)] 25 (0, 0))) ∧ Aside0 (Below w.heap.size w w'))
     case atStart => exact ⟨(y324), (true), (by first | rfl | (simp; done) | (simp [*]; done)), H', ⟨Nat.le_refl _⟩, ⟨by (with_reducible repeat (first | apply zRa | apply zRn | apply zRd)); exact HO316.out⟩, ⟨by (with_reducible repeat (first | apply Kd.S_alloc | apply Kd.S_drewN | apply Kd.S_drew)); exact HO319.out⟩, ⟨by (with_reducible repeat (first | apply zRa | apply zRn | apply zRd)); exact HO322.out⟩, ⟨by (with_reducible repeat (first |refine zn ?_ _|refine zd ?_|refine za ?_ _)); exact BK313.out⟩, ⟨by repeat (first | (with_reducible first | exact HB.out | apply zB | apply zN | apply zD | refine zS ?_ GE313.out) | exact HB.out)⟩⟩
     case round =>
      clear H';(try clear p2);(try clear c3);(try clear c4);(try clear c4b0);(try clear c4b1);(try clear c5);(try clear c5b0);(try clear c5b1);(try clear c7);(try clear c7b0);(try clear c8);(try clear c8b0);(try clear c9);(try clear p9);(try clear q9);(try clear hx9);(try clear hf9);(try clear hcz11_0);(try clear hcz11_1);(try clear hcz11_2);(try clear hcz13_0);(try clear hcz13_1);(try clear hcz13_2);(try clear hcz18_0);(try clear hcz18_1);(try clear hcz18_2);(try clear hfz11_0);(try clear hfz11_1);(try clear hfz11_2);(try clear hfz13_0);(try clear hfz13_1);(try clear hfz13_2);(try clear hfz18_0);(try clear hfz18_1);(try clear hfz18_2);(try clear hx9_0);(try clear p9);(try clear q9);obtain ⟨x5_1, x6_1, rfl, HA, HK1, HO_3, HO_4, HO_5, BK313, HB⟩ := hrel;have hl5_1 := (Kd.R_reads' HO_5.out).1;rw [hl5_1] at HO_5;(try simp only [hl5_1]);(try simp only [hl5_1] at BK313);(try simp only [hl5_1] at HO_3);(try simp only [hl5_1] at HO_4)
      cases gk with
      | zero => exact absurd HA.out (by simp [pleatref12_Reached.l0])
      | succ k1 =>
       have H := HA.out;clear HA;simp only [pleatref12_Reached.l0] at H
       by_cases c21 : x6_1 = true
       ·subst c21
        have H1 : (pleatref12_Reached.l1 k1 t314 t317 x5_1 false 0) = some r := by rw [if_pos rfl] at H; exact H
        clear H;have H := H1;clear H1;have H' := zA H;clear H
        go_wp2
        go_loopg [6, 7] k1 (fun kq v6 v7 w' => ∃ (x5_2 : List Bool) (x6_2 : Bool) (x7_2 : Int), v6 = .bool x6_2 ∧ v7 = .int .i64 x7_2 ∧ Aside0 (pleatref12_Reached.l1 kq t314 t317 x5_2 x6_2 x7_2 = some r) ∧ Aside0 (kq ≤ k1) ∧ Aside0 (Kd.R k84 84 w' w.heap.size (fun _ => True) (.slice Ao15 t314.length co15) t314) ∧ Aside0 (Kd.S (Kd.slice 3 (Kd.int .i64)) 30 w' w.heap.size (fun _ => True) v318 t317) ∧ Aside0 (Kd.R Kd.bool 4 w' w.heap.size (fun _ => True) (.slice (some ⟨go9, 0, none⟩) x5_1.length co9) x5_2) ∧ Aside0 (w'.heap[gb313]? = some (.cells #[(.slice A0_0 l0_0.length c0_0), .int .i64 a0_1, (.slice A0_2 l0_2.length c0_2)] 25 (0, 0))) ∧ Aside0 (Below w.heap.size w w'))
        case atStart => exact ⟨(x5_1), (false), (0), (by first | rfl | (simp; done) | (simp [*]; done)), (by first | rfl | (simp; done) | (simp [*]; done)), H', ⟨Nat.le_refl _⟩, ⟨by (try simp only [hl5_1]); (with_reducible repeat (first | apply zRa | apply zRn | apply zRd)); exact HO_3.out⟩, ⟨by (try simp only [hl5_1]); (with_reducible repeat (first | apply Kd.S_alloc | apply Kd.S_drewN | apply Kd.S_drew)); exact HO_4.out⟩, ⟨by (try simp only [hl5_1]); (with_reducible repeat (first | apply zRa | apply zRn | apply zRd)); exact HO_5.out⟩, ⟨by (try simp only [hl5_1]); (with_reducible repeat (first |refine zn ?_ _|refine zd ?_|refine za ?_ _)); exact BK313.out⟩, ⟨by repeat (first | (with_reducible first | exact HB.out | apply zB | apply zN | apply zD | refine zS ?_ GE313.out) | exact HB.out)⟩⟩
        case round =>
         clear H';(try clear c2);(try clear p2);(try clear c3);(try clear c4);(try clear c4b0);(try clear c4b1);(try clear c5);(try clear c5b0);(try clear c5b1);(try clear c7);(try clear c7b0);(try clear c8);(try clear c8b0);(try clear c9);(try clear p9);(try clear q9);(try clear hx9);(try clear hf9);(try clear c21);(try clear hcz11_0);(try clear hcz11_1);(try clear hcz11_2);(try clear hcz13_0);(try clear hcz13_1);(try clear hcz13_2);(try clear hcz18_0);(try clear hcz18_1);(try clear hcz18_2);(try clear hfz11_0);(try clear hfz11_1);(try clear hfz11_2);(try clear hfz13_0);(try clear hfz13_1);(try clear hfz13_2);(try clear hfz18_0);(try clear hfz18_1);(try clear hfz18_2);(try clear hx9_0);(try clear p2);(try clear p9);(try clear q9);obtain ⟨x5_2, x6_2, x7_2, rfl, rfl, HA, HK2, HO_3, HO_4, HO_5, BK313, HB⟩ := hrel;have hl5_2 := (Kd.R_reads' HO_5.out).1;rw [hl5_2] at HO_5;(try simp only [hl5_2]);(try simp only [hl5_2] at BK313);(try simp only [hl5_2] at HO_3);(try simp only [hl5_2] at HO_4)
         cases gk with
         | zero => exact absurd HA.out (by simp [pleatref12_Reached.l1])
         | succ k2 =>
          have H := HA.out;clear HA;simp only [pleatref12_Reached.l1] at H
          by_cases c22 : x7_2 < (t314.length : Int)
          ·rw [if_pos c22] at H;have c22b0 : decide (x7_2 < (t314.length : Int)) = true := decide_eq_true c22;clear c22;have H' := zA H;clear H
           go_wp2
           go_loopg [6, 8] k2 (fun kq v6 v8 w' => ∃ (x5_3 : List Bool) (x6_3 : Bool) (x8_3 : Int), v6 = .bool x6_3 ∧ v8 = .int .i64 x8_3 ∧ Aside0 (pleatref12_Reached.l2 kq t314 t317 x5_3 x6_3 x7_2 x8_3 = some r) ∧ Aside0 (kq ≤ k2) ∧ Aside0 (Kd.R k84 84 w' w.heap.size (fun _ => True) (.slice Ao15 t314.length co15) t314) ∧ Aside0 (Kd.S (Kd.slice 3 (Kd.int .i64)) 30 w' w.heap.size (fun _ => True) v318 t317) ∧ Aside0 (Kd.R Kd.bool 4 w' w.heap.size (fun _ => True) (.slice (some ⟨go9, 0, none⟩) x5_2.length co9) x5_3) ∧ Aside0 (w'.heap[gb313]? = some (.cells #[(.slice A0_0 l0_0.length c0_0), .int .i64 a0_1, (.slice A0_2 l0_2.length c0_2)] 25 (0, 0))) ∧ Aside0 (Below w.heap.size w w'))
           case atStart => exact ⟨(x5_2), (x6_2), (0), (by first | rfl | (simp; done) | (simp [*]; done)), (by first | rfl | (simp; done) | (simp [*]; done)), H', ⟨Nat.le_refl _⟩, ⟨by (try simp only [hl5_1]); (try simp only [hl5_2]); (with_reducible repeat (first | apply zRa | apply zRn | apply zRd)); exact HO_3.out⟩, ⟨by (try simp only [hl5_1]); (try simp only [hl5_2]); (with_reducible repeat (first | apply Kd.S_alloc | apply Kd.S_drewN | apply Kd.S_drew)); exact HO_4.out⟩, ⟨by (try simp only [hl5_1]); (try simp only [hl5_2]); (with_reducible repeat (first | apply zRa | apply zRn | apply zRd)); exact HO_5.out⟩, ⟨by (try simp only [hl5_1]); (try simp only [hl5_2]); (with_reducible repeat (first |refine zn ?_ _|refine zd ?_|refine za ?_ _)); exact BK313.out⟩, ⟨by repeat (first | (with_reducible first | exact HB.out | apply zB | apply zN | apply zD | refine zS ?_ GE313.out) | exact HB.out)⟩⟩
           case round =>
            clear H';(try clear c2);(try clear p2);(try clear c3);(try clear c4);(try clear c4b0);(try clear c4b1);(try clear c5);(try clear c5b0);(try clear c5b1);(try clear c7);(try clear c7b0);(try clear c8);(try clear c8b0);(try clear c9);(try clear p9);(try clear q9);(try clear hx9);(try clear hf9);(try clear c21);(try clear c22);(try clear c22b0);(try clear hcz11_0);(try clear hcz11_1);(try clear hcz11_2);(try clear hcz13_0);(try clear hcz13_1);(try clear hcz13_2);(try clear hcz18_0);(try clear hcz18_1);(try clear hcz18_2);(try clear hfz11_0);(try clear hfz11_1);(try clear hfz11_2);(try clear hfz13_0);(try clear hfz13_1);(try clear hfz13_2);(try clear hfz18_0);(try clear hfz18_1);(try clear hfz18_2);(try clear hx9_0);(try clear p2);(try clear p9);(try clear q9);obtain ⟨x5_3, x6_3, x8_3, rfl, rfl, HA, HK3, HO_3, HO_4, HO_5, BK313, HB⟩ := hrel;have hl5_3 := (Kd.R_reads' HO_5.out).1;rw [hl5_3] at HO_5;(try simp only [hl5_3]);(try simp only [hl5_3] at BK313);(try simp only [hl5_3] at HO_3);(try simp only [hl5_3] at HO_4)
            cases gk with
            | zero => exact absurd HA.out (by simp [pleatref12_Reached.l2])
            | succ k3 =>
             have H := HA.out;clear HA;simp only [pleatref12_Reached.l2] at H;have HC23 := zA H;clear H
             go_upto_region 12 with (fail)
             go_cut [41] (fun v41 wc => ∃ (kq : Nat) (x41_22 : Bool), v41 = .bool x41_22 ∧ Aside0 (pleatref12_Reached.j3 kq t314 t317 x5_3 x6_3 x7_2 x8_3 x41_22 = some r) ∧ Aside0 (kq ≤ k3) ∧ Aside0 (Kd.R k84 84 wc w.heap.size (fun _ => True) (.slice Ao15 t314.length co15) t314) ∧ Aside0 (Kd.S (Kd.slice 3 (Kd.int .i64)) 30 wc w.heap.size (fun _ => True) v318 t317) ∧ Aside0 (Kd.R Kd.bool 4 wc w.heap.size (fun _ => True) (.slice (some ⟨go9, 0, none⟩) x5_3.length co9) x5_3) ∧ Aside0 (wc.heap[gb313]? = some (.cells #[(.slice A0_0 l0_0.length c0_0), .int .i64 a0_1, (.slice A0_2 l0_2.length c0_2)] 25 (0, 0))) ∧ Aside0 (Below w.heap.size w wc))
             case first =>
              have H := HC23.out;clear HC23
              by_cases c24 : 0 ≤ x7_2
              ·rw [if_pos c24] at H;have c24b0 : decide (0 ≤ x7_2) = true := decide_eq_true c24;clear c24;(first | rw [c24b0] | (simp only [i64_w, i32_w]; rw [c24b0]) | skip)
               by_cases c25 : x7_2 < (t317.length : Int)
               ·rw [if_pos c25] at H;have c25b0 : decide (x7_2 < (t317.length : Int)) = true := decide_eq_true c25;clear c25
                by_cases c26 : x8_3 < ((rd_L9 t317 x7_2).length : Int)
                ·rw [if_pos c26] at H;have c26b0 : decide (x8_3 < ((rd_L9 t317 x7_2).length : Int)) = true := decide_eq_true c26;clear c26
                 by_cases c27 : x7_2 < (x5_3.length : Int)
                 ·rw [if_pos c27] at H;have c27b0 : decide (x7_2 < (x5_3.length : Int)) = true := decide_eq_true c27;clear c27;have H' := zA H;clear H;obtain ⟨Ao28, co28, eo28⟩ := Kd.S_slice HO_4.out;subst eo28;have p325 : 0 ≤ (x7_2 : Int) := zo (by first | (with_reducible assumption) | assumption);have q325 : x7_2 < (t317.length : Int) := zo (by first | (with_reducible assumption) | assumption);obtain ⟨ad325, A325_0, c325_0, e325, hx325_0, hl325_0, hi325_0⟩ := at_L9 (Kd.S_reads' HO_4.out).2.2 x7_2 p325 q325
                  cases e325
                  obtain ⟨ce325, hce325, hMe325, hcc325⟩ := Kd.S_get HO_4.out [] x7_2 p325 (by first | exact q325 | exact zo (by first | (with_reducible assumption) | assumption) | (have e_ := (Kd.S_reads' HO_4.out).1; omega));obtain ⟨ve325_0, rfl, ge325_0⟩ := hMe325;have hv325_0 := hcc325 0 _ rfl;rw [Nat.add_zero, show ((Kd.slice 3 (Kd.int .i64))).sz = 1 from rfl, Nat.mul_one] at hv325_0;replace hv325_0 := zj (hv325_0.symm.trans hx325_0);rw [hv325_0] at ge325_0;have HL325_0 := zA (show Kd.R (Kd.int .i64) 3 _ _ _ _ (rd_L9 t317 x7_2) from ge325_0);clear hv325_0 ge325_0;clear hcc325 hce325;have HR325_0 := zA hi325_0;have HC325_0 := zA hl325_0;clear hi325_0 hl325_0;replace p325 := eq_true p325;replace q325 := eq_true q325;have p326 : 0 ≤ (x7_2 : Int) := zo (by first | (with_reducible assumption) | assumption);have q326 : x7_2 < (x5_3.length : Int) := zo (by first | (with_reducible assumption) | assumption);obtain ⟨ad326, e326, hx326_0⟩ := Kd.at_bool (Kd.R_reads' HO_5.out).2.2 x7_2 p326 q326;obtain rfl : (⟨go9, 0, none⟩ : Addr) = ad326 := (by injection e326);(first | simp only [add_plain] at hx326_0 | simp only [add_at] at hx326_0 | simp only [Addr.add, Nat.zero_add] at hx326_0 | skip);replace p326 := eq_true p326;replace q326 := eq_true q326
                  go_wp2
                  go_meet
                  case rel => exact ⟨_, (rdOf false x5_3 x7_2), (by first | rfl | (simp; done) | (simp [*]; done)), H', ⟨by have := HK1.out; have := HK2.out; have := HK3.out; first | omega | exact Nat.le_refl _⟩, ⟨by (try simp only [hl5_1]); (try simp only [hl5_2]); (try simp only [hl5_3]); (with_reducible repeat (first | apply zRa | apply zRn | apply zRd)); exact HO_3.out⟩, ⟨by (try simp only [hl5_1]); (try simp only [hl5_2]); (try simp only [hl5_3]); (with_reducible repeat (first | apply Kd.S_alloc | apply Kd.S_drewN | apply Kd.S_drew)); exact HO_4.out⟩, ⟨by (try simp only [hl5_1]); (try simp only [hl5_2]); (try simp only [hl5_3]); (with_reducible repeat (first | apply zRa | apply zRn | apply zRd)); exact HO_5.out⟩, ⟨by (try simp only [hl5_1]); (try simp only [hl5_2]); (try simp only [hl5_3]); (with_reducible repeat (first |refine zn ?_ _|refine zd ?_|refine za ?_ _)); exact BK313.out⟩, ⟨by repeat (first | (with_reducible first | exact HB.out | apply zB | apply zN | apply zD | refine zS ?_ GE313.out) | exact HB.out)⟩⟩
                 ·rw [if_neg c27] at H;exact absurd H (by simp)
                ·rw [if_neg c26] at H;have c26b0 : decide (x8_3 < ((rd_L9 t317 x7_2).length : Int)) = false := decide_eq_false c26;clear c26;have H' := zA H;clear H;obtain ⟨Ao29, co29, eo29⟩ := Kd.S_slice HO_4.out;subst eo29;have p325 : 0 ≤ (x7_2 : Int) := zo (by first | (with_reducible assumption) | assumption);have q325 : x7_2 < (t317.length : Int) := zo (by first | (with_reducible assumption) | assumption);obtain ⟨ad325, A325_0, c325_0, e325, hx325_0, hl325_0, hi325_0⟩ := at_L9 (Kd.S_reads' HO_4.out).2.2 x7_2 p325 q325
                 cases e325
                 obtain ⟨ce325, hce325, hMe325, hcc325⟩ := Kd.S_get HO_4.out [] x7_2 p325 (by first | exact q325 | exact zo (by first | (with_reducible assumption) | assumption) | (have e_ := (Kd.S_reads' HO_4.out).1; omega));obtain ⟨ve325_0, rfl, ge325_0⟩ := hMe325;have hv325_0 := hcc325 0 _ rfl;rw [Nat.add_zero, show ((Kd.slice 3 (Kd.int .i64))).sz = 1 from rfl, Nat.mul_one] at hv325_0;replace hv325_0 := zj (hv325_0.symm.trans hx325_0);rw [hv325_0] at ge325_0;have HL325_0 := zA (show Kd.R (Kd.int .i64) 3 _ _ _ _ (rd_L9 t317 x7_2) from ge325_0);clear hv325_0 ge325_0;clear hcc325 hce325;have HR325_0 := zA hi325_0;have HC325_0 := zA hl325_0;clear hi325_0 hl325_0;replace p325 := eq_true p325;replace q325 := eq_true q325
                 go_wp2
                 go_meet
                 case rel => exact ⟨_, (false), (by first | rfl | (simp; done) | (simp [*]; done)), H', ⟨by have := HK1.out; have := HK2.out; have := HK3.out; first | omega | exact Nat.le_refl _⟩, ⟨by (try simp only [hl5_1]); (try simp only [hl5_2]); (try simp only [hl5_3]); (with_reducible repeat (first | apply zRa | apply zRn | apply zRd)); exact HO_3.out⟩, ⟨by (try simp only [hl5_1]); (try simp only [hl5_2]); (try simp only [hl5_3]); (with_reducible repeat (first | apply Kd.S_alloc | apply Kd.S_drewN | apply Kd.S_drew)); exact HO_4.out⟩, ⟨by (try simp only [hl5_1]); (try simp only [hl5_2]); (try simp only [hl5_3]); (with_reducible repeat (first | apply zRa | apply zRn | apply zRd)); exact HO_5.out⟩, ⟨by (try simp only [hl5_1]); (try simp only [hl5_2]); (try simp only [hl5_3]); (with_reducible repeat (first |refine zn ?_ _|refine zd ?_|refine za ?_ _)); exact BK313.out⟩, ⟨by repeat (first | (with_reducible first | exact HB.out | apply zB | apply zN | apply zD | refine zS ?_ GE313.out) | exact HB.out)⟩⟩
               ·rw [if_neg c25] at H;exact absurd H (by simp)
              ·rw [if_neg c24] at H;exact absurd H (by simp)
             case rest =>
              clear HC23;(try clear c2);(try clear p2);(try clear c3);(try clear p3);(try clear q3);(try clear hx3);(try clear c4);(try clear c4b0);(try clear c4b1);(try clear c5);(try clear c5b0);(try clear c5b1);(try clear c7);(try clear c7b0);(try clear c8);(try clear c8b0);(try clear c9);(try clear p9);(try clear q9);(try clear hx9);(try clear hf9);(try clear c21);(try clear c22);(try clear c22b0);(try clear c24);(try clear c24b0);(try clear c25);(try clear c25b0);(try clear c26);(try clear c26b0);(try clear c27);(try clear c27b0);(try clear hcz11_0);(try clear hcz11_1);(try clear hcz11_2);(try clear hcz13_0);(try clear hcz13_1);(try clear hcz13_2);(try clear hcz18_0);(try clear hcz18_1);(try clear hcz18_2);(try clear hfz11_0);(try clear hfz11_1);(try clear hfz11_2);(try clear hfz13_0);(try clear hfz13_1);(try clear hfz13_2);(try clear hfz18_0);(try clear hfz18_1);(try clear hfz18_2);(try clear hx325_0);(try clear hx326_0);(try clear hx9_0);(try clear p2);(try clear p325);(try clear p326);(try clear p9);(try clear q325);(try clear q326);(try clear q9);obtain ⟨kq, x41_22, rfl, HA, HJ22, HO_3, HO_4, HO_5, BK313, HB⟩ := hcut
              cases kq with
              | zero => exact absurd HA.out (by simp [pleatref12_Reached.j3])
              | succ kj22 =>
               have H := HA.out;clear HA;simp only [pleatref12_Reached.j3] at H
               by_cases c30 : x41_22 = true
               ·subst c30
                have H1 : (if 0 ≤ x7_2 then (if x7_2 < (t317.length : Int) then (if 0 ≤ x8_3 then (if x8_3 < ((rd_L9 t317 x7_2).length : Int) then (if 0 ≤ (rd (rd_L9 t317 x7_2) x8_3) then (if (rd (rd_L9 t317 x7_2) x8_3) < (x5_3.length : Int) then (if (rdOf false x5_3 (rd (rd_L9 t317 x7_2) x8_3) = true) then (pleatref12_Reached.l2 kj22 t314 t317 x5_3 x6_3 x7_2 (wrap64 (x8_3 + 1))) else (pleatref12_Reached.l2 kj22 t314 t317 (x5_3.set ((rd (rd_L9 t317 x7_2) x8_3) : Int).toNat true) true x7_2 (wrap64 (x8_3 + 1)))) else (none)) else (none)) else (none)) else (none)) else (none)) else (none)) = some r := by rw [if_pos rfl] at H; exact H
                clear H;have H := H1;clear H1
                by_cases c31 : 0 ≤ x7_2
                ·rw [if_pos c31] at H;have c31b0 : decide (0 ≤ x7_2) = true := decide_eq_true c31;clear c31
                 by_cases c32 : x7_2 < (t317.length : Int)
                 ·rw [if_pos c32] at H;have c32b0 : decide (x7_2 < (t317.length : Int)) = true := decide_eq_true c32;clear c32
                  by_cases c33 : 0 ≤ x8_3
                  ·rw [if_pos c33] at H;have c33b0 : decide (0 ≤ x8_3) = true := decide_eq_true c33;clear c33
                   by_cases c34 : x8_3 < ((rd_L9 t317 x7_2).length : Int)
                   ·rw [if_pos c34] at H;have c34b0 : decide (x8_3 < ((rd_L9 t317 x7_2).length : Int)) = true := decide_eq_true c34;clear c34
                    by_cases c35 : 0 ≤ (rd (rd_L9 t317 x7_2) x8_3)
                    ·rw [if_pos c35] at H;have c35b0 : decide (0 ≤ (rd (rd_L9 t317 x7_2) x8_3)) = true := decide_eq_true c35;clear c35
                     by_cases c36 : (rd (rd_L9 t317 x7_2) x8_3) < (x5_3.length : Int)
                     ·rw [if_pos c36] at H;have c36b0 : decide ((rd (rd_L9 t317 x7_2) x8_3) < (x5_3.length : Int)) = true := decide_eq_true c36;clear c36;obtain ⟨bq37, hbq37⟩ : ∃ b_ : Bool, b_ = (rdOf false x5_3 (rd (rd_L9 t317 x7_2) x8_3)) := ⟨_, rfl⟩
                      replace H : (if (bq37 = true) then (pleatref12_Reached.l2 kj22 t314 t317 x5_3 x6_3 x7_2 (wrap64 (x8_3 + 1))) else (pleatref12_Reached.l2 kj22 t314 t317 (x5_3.set ((rd (rd_L9 t317 x7_2) x8_3) : Int).toNat true) true x7_2 (wrap64 (x8_3 + 1)))) = some r := by rw [← hbq37] at H; exact H
                      have Nbq37 := zA hbq37;clear hbq37
                      by_cases c38 : (bq37 = true)
                      ·subst c38
                       have H1 : (pleatref12_Reached.l2 kj22 t314 t317 x5_3 x6_3 x7_2 (wrap64 (x8_3 + 1))) = some r := by rw [if_pos rfl] at H; exact H
                       clear H;have H := H1;clear H1;have H' := zA H;clear H;obtain ⟨Ao39, co39, eo39⟩ := Kd.S_slice HO_4.out;subst eo39;have p327 : 0 ≤ (x7_2 : Int) := zo (by first | (with_reducible assumption) | assumption);have q327 : x7_2 < (t317.length : Int) := zo (by first | (with_reducible assumption) | assumption);obtain ⟨ad327, A327_0, c327_0, e327, hx327_0, hl327_0, hi327_0⟩ := at_L9 (Kd.S_reads' HO_4.out).2.2 x7_2 p327 q327
                       cases e327
                       obtain ⟨ce327, hce327, hMe327, hcc327⟩ := Kd.S_get HO_4.out [] x7_2 p327 (by first | exact q327 | exact zo (by first | (with_reducible assumption) | assumption) | (have e_ := (Kd.S_reads' HO_4.out).1; omega));obtain ⟨ve327_0, rfl, ge327_0⟩ := hMe327;have hv327_0 := hcc327 0 _ rfl;rw [Nat.add_zero, show ((Kd.slice 3 (Kd.int .i64))).sz = 1 from rfl, Nat.mul_one] at hv327_0;replace hv327_0 := zj (hv327_0.symm.trans hx327_0);rw [hv327_0] at ge327_0;have HL327_0 := zA (show Kd.R (Kd.int .i64) 3 _ _ _ _ (rd_L9 t317 x7_2) from ge327_0);clear hv327_0 ge327_0;clear hcc327 hce327;have HR327_0 := zA hi327_0;have HC327_0 := zA hl327_0;clear hi327_0 hl327_0;replace p327 := eq_true p327;replace q327 := eq_true q327;have p328 : 0 ≤ (x8_3 : Int) := zo (by first | (with_reducible assumption) | assumption);have q328 : x8_3 < ((rd_L9 t317 x7_2).length : Int) := zo (by first | (with_reducible assumption) | assumption);obtain ⟨ad328, e328, hx328_0⟩ := Kd.at_int (by repeat (first | (with_reducible exact HR327_0.out) | (with_reducible refine Kd.C_alloc ?_ _) | (with_reducible refine Kd.C_drewN ?_ _) | (with_reducible refine Kd.C_drew ?_) | exact HR327_0.out)) x8_3 p328 q328
                       cases e328
                       replace p328 := eq_true p328;replace q328 := eq_true q328;have p329 : 0 ≤ ((rd (rd_L9 t317 x7_2) x8_3) : Int) := zo (by first | (with_reducible assumption) | assumption);have q329 : (rd (rd_L9 t317 x7_2) x8_3) < (x5_3.length : Int) := zo (by first | (with_reducible assumption) | assumption);obtain ⟨ad329, e329, hx329_0⟩ := Kd.at_bool (Kd.R_reads' HO_5.out).2.2 (rd (rd_L9 t317 x7_2) x8_3) p329 q329;(try rw [← Nbq37.out] at hx329_0);obtain rfl : (⟨go9, 0, none⟩ : Addr) = ad329 := (by injection e329);(first | simp only [add_plain] at hx329_0 | simp only [add_at] at hx329_0 | simp only [Addr.add, Nat.zero_add] at hx329_0 | skip);replace p329 := eq_true p329;replace q329 := eq_true q329
                       go_wp2
                       (try simp only [← hl5_3])
                       go_roundg kj22
                       case measure => have := HK1.out; have := HK2.out; have := HK3.out; have := HJ22.out; omega
                       case rel => exact ⟨(x5_3), (x6_3), (wrap64 (x8_3 + 1)), (by first | rfl | (simp; done) | (simp [*]; done)), (by first | rfl | (simp; done) | (simp [*]; done)), H', ⟨by have := HK1.out; have := HK2.out; have := HK3.out; have := HJ22.out; omega⟩, ⟨by (try simp only [hl5_1]); (try simp only [hl5_2]); (try simp only [hl5_3]); (with_reducible repeat (first | apply zRa | apply zRn | apply zRd)); exact HO_3.out⟩, ⟨by (try simp only [hl5_1]); (try simp only [hl5_2]); (try simp only [hl5_3]); (with_reducible repeat (first | apply Kd.S_alloc | apply Kd.S_drewN | apply Kd.S_drew)); exact HO_4.out⟩, ⟨by (try simp only [hl5_1]); (try simp only [hl5_2]); (try simp only [hl5_3]); (with_reducible repeat (first | apply zRa | apply zRn | apply zRd)); exact HO_5.out⟩, ⟨by (try simp only [hl5_1]); (try simp only [hl5_2]); (try simp only [hl5_3]); (with_reducible repeat (first |refine zn ?_ _|refine zd ?_|refine za ?_ _)); exact BK313.out⟩, ⟨by repeat (first | (with_reducible first | exact HB.out | apply zB | apply zN | apply zD | refine zS ?_ GE313.out) | exact HB.out)⟩⟩
                      ·replace c38 := Bool.eq_false_iff.mpr c38;subst c38
                       have H1 : (pleatref12_Reached.l2 kj22 t314 t317 (x5_3.set ((rd (rd_L9 t317 x7_2) x8_3) : Int).toNat true) true x7_2 (wrap64 (x8_3 + 1))) = some r := by rw [if_neg (show ¬ (false = true) by decide)] at H; exact H
                       clear H;have H := H1;clear H1;obtain ⟨y332, hy332⟩ : ∃ y_ : List Bool, y_ = (x5_3.set ((rd (rd_L9 t317 x7_2) x8_3) : Int).toNat true) := ⟨_, rfl⟩
                       replace H : (pleatref12_Reached.l2 kj22 t314 t317 y332 true x7_2 (wrap64 (x8_3 + 1))) = some r := by first | (rw [hy332]; with_reducible exact H) | (have H2_ := (Option.bind_some _ _).symm.trans H; rw [hy332]; with_reducible exact H2_) | (have H2_ := (Option.bind_some _ _).symm.trans H; with_reducible exact H2_) | with_reducible exact H | (rw [hy332]; exact H) | exact H
                       have Ny332 := zA hy332;clear hy332;have H' := zA H;clear H;obtain ⟨Ao41, co41, eo41⟩ := Kd.S_slice HO_4.out;subst eo41;have p327 : 0 ≤ (x7_2 : Int) := zo (by first | (with_reducible assumption) | assumption);have q327 : x7_2 < (t317.length : Int) := zo (by first | (with_reducible assumption) | assumption);obtain ⟨ad327, A327_0, c327_0, e327, hx327_0, hl327_0, hi327_0⟩ := at_L9 (Kd.S_reads' HO_4.out).2.2 x7_2 p327 q327
                       cases e327
                       obtain ⟨ce327, hce327, hMe327, hcc327⟩ := Kd.S_get HO_4.out [] x7_2 p327 (by first | exact q327 | exact zo (by first | (with_reducible assumption) | assumption) | (have e_ := (Kd.S_reads' HO_4.out).1; omega));obtain ⟨ve327_0, rfl, ge327_0⟩ := hMe327;have hv327_0 := hcc327 0 _ rfl;rw [Nat.add_zero, show ((Kd.slice 3 (Kd.int .i64))).sz = 1 from rfl, Nat.mul_one] at hv327_0;replace hv327_0 := zj (hv327_0.symm.trans hx327_0);rw [hv327_0] at ge327_0;have HL327_0 := zA (show Kd.R (Kd.int .i64) 3 _ _ _ _ (rd_L9 t317 x7_2) from ge327_0);clear hv327_0 ge327_0;clear hcc327 hce327;have HR327_0 := zA hi327_0;have HC327_0 := zA hl327_0;clear hi327_0 hl327_0;replace p327 := eq_true p327;replace q327 := eq_true q327;have p328 : 0 ≤ (x8_3 : Int) := zo (by first | (with_reducible assumption) | assumption);have q328 : x8_3 < ((rd_L9 t317 x7_2).length : Int) := zo (by first | (with_reducible assumption) | assumption);obtain ⟨ad328, e328, hx328_0⟩ := Kd.at_int (by repeat (first | (with_reducible exact HR327_0.out) | (with_reducible refine Kd.C_alloc ?_ _) | (with_reducible refine Kd.C_drewN ?_ _) | (with_reducible refine Kd.C_drew ?_) | exact HR327_0.out)) x8_3 p328 q328
                       cases e328
                       replace p328 := eq_true p328;replace q328 := eq_true q328;have p329 : 0 ≤ ((rd (rd_L9 t317 x7_2) x8_3) : Int) := zo (by first | (with_reducible assumption) | assumption);have q329 : (rd (rd_L9 t317 x7_2) x8_3) < (x5_3.length : Int) := zo (by first | (with_reducible assumption) | assumption);obtain ⟨ad329, e329, hx329_0⟩ := Kd.at_bool (Kd.R_reads' HO_5.out).2.2 (rd (rd_L9 t317 x7_2) x8_3) p329 q329;(try rw [← Nbq37.out] at hx329_0);obtain rfl : (⟨go9, 0, none⟩ : Addr) = ad329 := (by injection e329);(first | simp only [add_plain] at hx329_0 | simp only [add_at] at hx329_0 | simp only [Addr.add, Nat.zero_add] at hx329_0 | skip);replace p329 := eq_true p329;replace q329 := eq_true q329;have p330 : 0 ≤ (x7_2 : Int) := zo (by first | (with_reducible assumption) | assumption);have q330 : x7_2 < (t317.length : Int) := zo (by first | (with_reducible assumption) | assumption);obtain ⟨ad330, A330_0, c330_0, e330, hx330_0, hl330_0, hi330_0⟩ := at_L9 (Kd.S_reads' HO_4.out).2.2 x7_2 p330 q330;obtain rfl : ad327 = ad330 := (by injection e330);obtain ⟨ce330, hce330, hMe330, hcc330⟩ := Kd.S_get HO_4.out [] x7_2 p330 (by first | exact q330 | exact zo (by first | (with_reducible assumption) | assumption) | (have e_ := (Kd.S_reads' HO_4.out).1; omega));obtain ⟨ve330_0, rfl, ge330_0⟩ := hMe330;have hv330_0 := hcc330 0 _ rfl;rw [Nat.add_zero, show ((Kd.slice 3 (Kd.int .i64))).sz = 1 from rfl, Nat.mul_one] at hv330_0;replace hv330_0 := zj (hv330_0.symm.trans hx330_0);rw [hv330_0] at ge330_0;have HL330_0 := zA (show Kd.R (Kd.int .i64) 3 _ _ _ _ (rd_L9 t317 x7_2) from ge330_0);clear hv330_0 ge330_0;clear hcc330 hce330;have HR330_0 := zA hi330_0;have HC330_0 := zA hl330_0;clear hi330_0 hl330_0;replace p330 := eq_true p330;replace q330 := eq_true q330;have ea_ := zj (hx327_0.symm.trans hx330_0)
                       injection ea_ with ea_ en_ ec_
                       subst ea_;subst ec_;clear en_;have p331 : 0 ≤ (x8_3 : Int) := zo (by first | (with_reducible assumption) | assumption);have q331 : x8_3 < ((rd_L9 t317 x7_2).length : Int) := zo (by first | (with_reducible assumption) | assumption);obtain ⟨ad331, e331, hx331_0⟩ := Kd.at_int (by repeat (first | (with_reducible exact HR330_0.out) | (with_reducible refine Kd.C_alloc ?_ _) | (with_reducible refine Kd.C_drewN ?_ _) | (with_reducible refine Kd.C_drew ?_) | exact HR330_0.out)) x8_3 p331 q331
                       cases e331
                       replace p331 := eq_true p331;replace q331 := eq_true q331;have p40 : 0 ≤ ((rd (rd_L9 t317 x7_2) x8_3) : Int) := zo (by first | (with_reducible assumption) | assumption);have q40 : ((rd (rd_L9 t317 x7_2) x8_3) : Int) < ((x5_3.length : Int) : Int) := zo (by first | (with_reducible assumption) | assumption);obtain ⟨hx40_0, hf40_0⟩ := Kd.R_celln false HO_5.out ((rd (rd_L9 t317 x7_2) x8_3) : Int) p40 q40;replace p40 := eq_true p40;replace q40 := eq_true q40;have HP42 := Kd.R_putg HO_5.out ((rd (rd_L9 t317 x7_2) x8_3) : Int) true
                       go_wp2_with (first | ((with_reducible refine gate_store (t := 4) (p := 63) rfl ?_); refine store_event (t := 4) (p := 63) (v := ?vo_w43) (w1 := (wc.setCell ⟨go9, ((rd (rd_L9 t317 x7_2) x8_3) : Int).toNat, none⟩ (.bool true))) ?hg ?ho ?hn ?hr ?_; (case ho => rfl); (case hg => rfl); (case hn => rfl); (case hr => first | (go_simp; done) | (go_simp; rfl)); intro w43 hw; have hg : wc.grownBy w43 (some go9) := (by rw [hw]; exact HP42.2); have hp_ : Kd.R Kd.bool 4 w43 w.heap.size (fun _ => True) (.slice (some ⟨go9, 0, none⟩) x5_3.length co9) y332 := (by rw [hw, Ny332.out]; exact HP42.1); clear HP42; have n0_ := zA (Kd.R_over' (v := (.slice (some ⟨go9, 0, none⟩) x5_3.length co9)) (by (with_reducible repeat (first | apply zRa | apply zRn | apply zRd)); exact HO_3.out) (Kd.R_typed HO_5.out) (by decide) hg); have n1_ := zA (Kd.S_over' (v := (.slice (some ⟨go9, 0, none⟩) x5_3.length co9)) (by (with_reducible repeat (first | apply Kd.S_alloc | apply Kd.S_drewN | apply Kd.S_drew)); exact HO_4.out) (Kd.R_typed HO_5.out) (by decide) hg); have n2_ := zA (hp_); have n3_ := zA (blk_grown (g := gb313) (o := .cells #[.slice A0_0 l0_0.length c0_0, .int .i64 a0_1, .slice A0_2 l0_2.length c0_2] 25 (0, 0)) (by (with_reducible repeat (first |refine zn ?_ _|refine zd ?_|refine za ?_ _)); exact BK313.out) hg (Kd.R_ne HO_5.out BK313.out (by decide))); have n4_ := zA (Kd.R_over' (v := (.slice (some ⟨go9, 0, none⟩) x5_3.length co9)) (by (with_reducible repeat (first | apply zRa | apply zRn | apply zRd)); exact HL327_0.out) (Kd.R_typed HO_5.out) (by decide) hg); have n5_ := zA (Kd.R_over' (v := (.slice (some ⟨go9, 0, none⟩) x5_3.length co9)) (by (with_reducible repeat (first | apply zRa | apply zRn | apply zRd)); exact HL330_0.out) (Kd.R_typed HO_5.out) (by decide) hg); have n6_ := zA ((by rw [hw]; exact zS (HB.out) GB9.out : Below w.heap.size w w43)); clear HO_3; clear HO_4; clear HO_5; clear BK313; clear HL327_0; clear HL330_0; clear HB; have HO_3 := n0_; have HO_4 := n1_; have HO_5 := n2_; have BK313 := n3_; have HL327_0 := n4_; have HL330_0 := n5_; have HB := n6_; clear n0_ n1_ n2_ n3_ n4_ n5_ n6_; clear hg hw hp_))
                       (try simp only [← hl5_3])
                       go_roundg kj22
                       case measure => have := HK1.out; have := HK2.out; have := HK3.out; have := HJ22.out; omega
                       case rel => exact ⟨(y332), (true), (wrap64 (x8_3 + 1)), (by first | rfl | (simp; done) | (simp [*]; done)), (by first | rfl | (simp; done) | (simp [*]; done)), H', ⟨by have := HK1.out; have := HK2.out; have := HK3.out; have := HJ22.out; omega⟩, ⟨by (try simp only [hl5_1]); (try simp only [hl5_2]); (try simp only [hl5_3]); (with_reducible repeat (first | apply zRa | apply zRn | apply zRd)); exact HO_3.out⟩, ⟨by (try simp only [hl5_1]); (try simp only [hl5_2]); (try simp only [hl5_3]); (with_reducible repeat (first | apply Kd.S_alloc | apply Kd.S_drewN | apply Kd.S_drew)); exact HO_4.out⟩, ⟨by (try simp only [hl5_1]); (try simp only [hl5_2]); (try simp only [hl5_3]); (with_reducible repeat (first | apply zRa | apply zRn | apply zRd)); exact HO_5.out⟩, ⟨by (try simp only [hl5_1]); (try simp only [hl5_2]); (try simp only [hl5_3]); (with_reducible repeat (first |refine zn ?_ _|refine zd ?_|refine za ?_ _)); exact BK313.out⟩, ⟨by repeat (first | (with_reducible first | exact HB.out | apply zB | apply zN | apply zD | refine zS ?_ GE313.out) | exact HB.out)⟩⟩
                     ·rw [if_neg c36] at H;exact absurd H (by simp)
                    ·rw [if_neg c35] at H;exact absurd H (by simp)
                   ·rw [if_neg c34] at H;exact absurd H (by simp)
                  ·rw [if_neg c33] at H;exact absurd H (by simp)
                 ·rw [if_neg c32] at H;exact absurd H (by simp)
                ·rw [if_neg c31] at H;exact absurd H (by simp)
               ·replace c30 := Bool.eq_false_iff.mpr c30;subst c30
                have H1 : (pleatref12_Reached.l1 kj22 t314 t317 x5_3 x6_3 (wrap64 (x7_2 + 1))) = some r := by rw [if_neg (show ¬ (false = true) by decide)] at H; exact H
                clear H;have H := H1;clear H1;have H' := zA H;clear H
                go_wp2
                (try simp only [← hl5_2, ← hl5_3])
                go_roundg kj22
                case measure => have := HK1.out; have := HK2.out; have := HK3.out; have := HJ22.out; omega
                case rel => exact ⟨(x5_3), (x6_3), (wrap64 (x7_2 + 1)), (by first | rfl | (simp; done) | (simp [*]; done)), (by first | rfl | (simp; done) | (simp [*]; done)), H', ⟨by have := HK1.out; have := HK2.out; have := HK3.out; have := HJ22.out; omega⟩, ⟨by (try simp only [hl5_1]); (try simp only [hl5_2]); (try simp only [hl5_3]); (with_reducible repeat (first | apply zRa | apply zRn | apply zRd)); exact HO_3.out⟩, ⟨by (try simp only [hl5_1]); (try simp only [hl5_2]); (try simp only [hl5_3]); (with_reducible repeat (first | apply Kd.S_alloc | apply Kd.S_drewN | apply Kd.S_drew)); exact HO_4.out⟩, ⟨by (try simp only [hl5_1]); (try simp only [hl5_2]); (try simp only [hl5_3]); (with_reducible repeat (first | apply zRa | apply zRn | apply zRd)); exact HO_5.out⟩, ⟨by (try simp only [hl5_1]); (try simp only [hl5_2]); (try simp only [hl5_3]); (with_reducible repeat (first |refine zn ?_ _|refine zd ?_|refine za ?_ _)); exact BK313.out⟩, ⟨by repeat (first | (with_reducible first | exact HB.out | apply zB | apply zN | apply zD | refine zS ?_ GE313.out) | exact HB.out)⟩⟩
          ·rw [if_neg c22] at H;have c22b0 : decide (x7_2 < (t314.length : Int)) = false := decide_eq_false c22;clear c22;have H' := zA H;clear H
           go_wp2
           (try simp only [← hl5_1, ← hl5_2])
           go_roundg k2
           case measure => have := HK1.out; have := HK2.out; omega
           case rel => exact ⟨(x5_2), (x6_2), (by first | rfl | (simp; done) | (simp [*]; done)), H', ⟨by have := HK1.out; have := HK2.out; omega⟩, ⟨by (try simp only [hl5_1]); (try simp only [hl5_2]); (with_reducible repeat (first | apply zRa | apply zRn | apply zRd)); exact HO_3.out⟩, ⟨by (try simp only [hl5_1]); (try simp only [hl5_2]); (with_reducible repeat (first | apply Kd.S_alloc | apply Kd.S_drewN | apply Kd.S_drew)); exact HO_4.out⟩, ⟨by (try simp only [hl5_1]); (try simp only [hl5_2]); (with_reducible repeat (first | apply zRa | apply zRn | apply zRd)); exact HO_5.out⟩, ⟨by (try simp only [hl5_1]); (try simp only [hl5_2]); (with_reducible repeat (first |refine zn ?_ _|refine zd ?_|refine za ?_ _)); exact BK313.out⟩, ⟨by repeat (first | (with_reducible first | exact HB.out | apply zB | apply zN | apply zD | refine zS ?_ GE313.out) | exact HB.out)⟩⟩
       ·replace c21 := Bool.eq_false_iff.mpr c21;subst c21
        have H1 : (some x5_1) = some r := by rw [if_neg (show ¬ (false = true) by decide)] at H; exact H
        clear H;have H := H1;clear H1;obtain rfl := zj H
        go_wp2
        go_ret
        exact ⟨_, by first | rfl | (simp <;> rfl) | (simp [*] <;> rfl), by (with_reducible repeat (first | apply zRa | apply zRn | apply zRd)); exact HO_5.out, by repeat (first | (with_reducible first | exact HB.out | apply zB | apply zN | apply zD | refine zS ?_ GE313.out) | exact HB.out)⟩
    ·rw [if_neg c8] at H;exact absurd H (by simp)
   ·rw [if_neg c7] at H;exact absurd H (by simp)
  ·rw [if_neg c5] at H;exact absurd H (by simp)
 ·rw [if_neg c4] at H;exact absurd H (by simp)
end Go.Proofs.Ytfgdjpgdabjpmaa.PEdgeLists
