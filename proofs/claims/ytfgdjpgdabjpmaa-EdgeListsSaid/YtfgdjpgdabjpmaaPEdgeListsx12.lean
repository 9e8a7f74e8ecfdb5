-- SLIM: printed, then laid small (wip/tools/slimclaim.py).
import Derived.Test.YtfgdjpgdabjpmaaPEdgeListsx0
import Derived.Test.YtfgdjpgdabjpmaaPEdgeListsx10
namespace Go.Proofs.Ytfgdjpgdabjpmaa.PEdgeLists
open Go.RowKit Go.Proofs.YtfgdjpgdabjpmaaW.PrintWords Go.Proofs.YtfgdjpgdabjpmaaW.PrintLast Go.Proofs.YtfgdjpgdabjpmaaW.PrintMore
attribute [local go_sem] max2_int min2_int max_two min_two max_three min_three max_four min_four   -- for this text's walks alone
set_option linter.unusedVariables false
set_option linter.unusedSimpArgs false
mutual
def edge_Back.l0 : Nat → List (List Int) → List (List Int) → List (List Int) → Int → Int → Option ((List (List Int)))
 | 0, _, _, _, _, _ => none
 | k + 1, x0, x3, x11, x12, x13 => if x13 < x12 then (if 0 ≤ x13 then (if x13 < (x11.length : Int) then ((edge_rising.f k (rd_L9 x11 x13) (x0.length : Int)).bind fun t218 => (edge_Back.l1 k x0 x3 x13 x11 x12 x13 t218 (t218.length : Int) 0)) else (none)) else (none)) else (some x3)
def edge_Back.l1 : Nat → List (List Int) → List (List Int) → Int → List (List Int) → Int → Int → List Int → Int → Int → Option ((List (List Int)))
 | 0, _, _, _, _, _, _, _, _, _ => none
 | k + 1, x0, x3, x4, x11, x12, x13, x21, x22, x23 => if x23 < x22 then (if 0 ≤ x23 then (if x23 < (x21.length : Int) then (if 0 ≤ (rd x21 x23) then (if (rd x21 x23) < (x3.length : Int) then (if (rd_L9 x3 (rd x21 x23)).length < 17592186044416 then (edge_Back.l1 k x0 (x3.set ((rd x21 x23) : Int).toNat ((rd_L9 x3 (rd x21 x23)) ++ [x4])) x4 x11 x12 x13 x21 x22 (wrap64 (x23 + 1))) else (none)) else (none)) else (none)) else (none)) else (none)) else (edge_Back.l0 k x0 x3 x11 x12 (wrap64 (x13 + 1)))
end
def edge_Back.f (k : Nat) (l0 : List (List Int)) : Option ((List (List Int))) := if 0 ≤ (l0.length : Int) then (if ((l0.length : Int) : Int).toNat ≤ 11728124029610 then (edge_Back.l0 k l0 (List.replicate ((l0.length : Int) : Int).toNat []) l0 (l0.length : Int) 0) else (none)) else (none)
theorem edge_Back.mono_l : ∀ k, (∀ y0 y1 y2 y3 y4, LeO (edge_Back.l0 k y0 y1 y2 y3 y4) (edge_Back.l0 (k + 1) y0 y1 y2 y3 y4)) ∧ (∀ y0 y1 y2 y3 y4 y5 y6 y7 y8, LeO (edge_Back.l1 k y0 y1 y2 y3 y4 y5 y6 y7 y8) (edge_Back.l1 (k + 1) y0 y1 y2 y3 y4 y5 y6 y7 y8))
 | 0 => ⟨fun _ _ _ _ _ r h => by simp [edge_Back.l0] at h, fun _ _ _ _ _ _ _ _ _ r h => by simp [edge_Back.l1] at h⟩
 | k + 1 => by
  obtain ⟨ih0, ih1⟩ := edge_Back.mono_l k;refine ⟨?_, ?_⟩
  ·intro y0 y1 y2 y3 y4
   unfold edge_Back.l0
   repeat' first
   | (with_reducible exact ih0 _ _ _ _ _)
   | (with_reducible exact ih1 _ _ _ _ _ _ _ _ _)
   | (with_reducible exact edge_rising.mono _ _ _)
   | (with_reducible exact LeO.refl _)
   | (with_reducible exact LeO.none _)
   | (with_reducible refine LeO.ite ?_ ?_)
   | (with_reducible refine LeO.bind ?_ (fun _ => ?_))
   | exact ih0 _ _ _ _ _
   | exact ih1 _ _ _ _ _ _ _ _ _
   | exact edge_rising.mono _ _ _
   | exact LeO.none _
   | refine LeO.ite ?_ ?_
   | refine LeO.bind ?_ (fun _ => ?_)
  ·intro y0 y1 y2 y3 y4 y5 y6 y7 y8
   unfold edge_Back.l1
   repeat' first
   | (with_reducible exact ih0 _ _ _ _ _)
   | (with_reducible exact ih1 _ _ _ _ _ _ _ _ _)
   | (with_reducible exact edge_rising.mono _ _ _)
   | (with_reducible exact LeO.refl _)
   | (with_reducible exact LeO.none _)
   | (with_reducible refine LeO.ite ?_ ?_)
   | (with_reducible refine LeO.bind ?_ (fun _ => ?_))
   | exact ih0 _ _ _ _ _
   | exact ih1 _ _ _ _ _ _ _ _ _
   | exact edge_rising.mono _ _ _
   | exact LeO.none _
   | refine LeO.ite ?_ ?_
   | refine LeO.bind ?_ (fun _ => ?_)
theorem edge_Back.mono : ∀ a0 k, LeO (edge_Back.f k a0) (edge_Back.f (k + 1) a0) := by
 intro a0 k;obtain ⟨ih0, ih1⟩ := edge_Back.mono_l k
 unfold edge_Back.f
 repeat' first
   | (with_reducible exact ih0 _ _ _ _ _)
   | (with_reducible exact ih1 _ _ _ _ _ _ _ _ _)
   | (with_reducible exact edge_rising.mono _ _ _)
   | (with_reducible exact LeO.refl _)
   | (with_reducible exact LeO.none _)
   | (with_reducible refine LeO.ite ?_ ?_)
   | (with_reducible refine LeO.bind ?_ (fun _ => ?_))
   | exact ih0 _ _ _ _ _
   | exact ih1 _ _ _ _ _ _ _ _ _
   | exact edge_rising.mono _ _ _
   | exact LeO.none _
   | refine LeO.ite ?_ ?_
   | refine LeO.bind ?_ (fun _ => ?_)
set_option maxHeartbeats 8000000 in
set_option maxRecDepth 100000 in
theorem edge_Back.calls (k : Nat) (A0 : Option Addr) (c0 : Nat) (l0 : List (List Int)) (r : List (List Int)) (w : World) (hr0 : Kd.C (Kd.slice 3 (Kd.int .i64)) w A0 l0.length l0) (hc0 : l0.length ≤ c0) (h : edge_Back.f k l0 = some r) :
  Calls Try.prog 29 #[.slice A0 l0.length c0] w fun e w' => ∃ v0_ : Value, e = .returned (v0_) ∧ Kd.S (Kd.slice 3 (Kd.int .i64)) 30 w' w.heap.size (fun _ => True) v0_ r ∧ Below w.heap.size w w' := by
 have HR0 := zA hr0;have HC0 := zA hc0;clear hr0 hc0;have HB := zA (Below.refl w.heap.size w);have H : (if 0 ≤ (l0.length : Int) then (if ((l0.length : Int) : Int).toNat ≤ 11728124029610 then (edge_Back.l0 k l0 (List.replicate ((l0.length : Int) : Int).toNat []) l0 (l0.length : Int) 0) else (none)) else (none)) = some r := h;clear h
 by_cases c2 : 0 ≤ (l0.length : Int)
 ·rw [if_pos c2] at H;have c2b0 := eq_true c2;have c2b1 : decide (0 ≤ (l0.length : Int)) = true := decide_eq_true c2;clear c2
  by_cases c3 : ((l0.length : Int) : Int).toNat ≤ 11728124029610
  ·rw [if_pos c3] at H;have c3b0 := eq_true c3;have c3b1 : decide (((l0.length : Int) : Int).toNat ≤ 11728124029610) = true := decide_eq_true c3;clear c3;obtain ⟨y214, hy214⟩ : ∃ y_ : List (List Int), y_ = (List.replicate ((l0.length : Int) : Int).toNat []) := ⟨_, rfl⟩
   replace H : (edge_Back.l0 k l0 y214 l0 (l0.length : Int) 0) = some r := by first | (rw [hy214]; with_reducible exact H) | (have H2_ := (Option.bind_some _ _).symm.trans H; rw [hy214]; with_reducible exact H2_) | (have H2_ := (Option.bind_some _ _).symm.trans H; with_reducible exact H2_) | with_reducible exact H | (rw [hy214]; exact H) | exact H
   have Ny214 := zA hy214;clear hy214;have H' := zA H;clear H
   go_enter Try.func29, Try.ntmps29
   go_wp2_with (first | ((with_reducible refine gate_dst (N := 10) rfl ?_); refine Kd.S_make (Kd.slice 3 (Kd.int .i64)) _ 30 rfl (N := 10) rfl 53 _ _ rfl (l0.length : Int) rfl rfl Try.underlying53 (.slice none 0 0) 24 info30 rfl (by decide) (by omega) [] (ok := fun _ => True) (okp := fun _ => True) ⟨_, rfl, Kd.R_nil _ _ _ _ _⟩ (fun _ hk => hk) trivial (zo (by first | (with_reducible assumption) | assumption)) (Nat.le_trans (Nat.mul_le_mul_right _ (zo (by first | (with_reducible assumption) | assumption) : (l0.length : Int).toNat ≤ 11728124029610)) (by omega)) (Below.refl _ _) (Nat.le_refl _) ?_; intro v215 w4 ho5 hb hg_ hnew_; clear hg_ hnew_; (first | rw [← Ny214.out] at ho5 | (simp only [Int.reduceToNat] at ho5; rw [← Ny214.out] at ho5)); have n0_ := zA (Kd.S_lower ho5 (below_size (by repeat (first | (with_reducible first | exact HB.out | apply zB | apply zN | apply zD) | exact HB.out)))); have n1_ := zA (zt (by repeat (first | (with_reducible first | exact HB.out | apply zB | apply zN | apply zD) | exact HB.out)) hb); clear HB; have HO216 := n0_; have HB := n1_; clear n0_ n1_; clear hb ho5))
   go_loopg [13] k (fun kq v13 w' => ∃ (x3_1 : List (List Int)) (x13_1 : Int), v13 = .int .i64 x13_1 ∧ Aside0 (edge_Back.l0 kq l0 x3_1 l0 (l0.length : Int) x13_1 = some r) ∧ Aside0 (kq ≤ k) ∧ Aside0 (Kd.S (Kd.slice 3 (Kd.int .i64)) 30 w' w.heap.size (fun _ => True) v215 x3_1) ∧ Aside0 (Below w.heap.size w w'))
   case atStart => exact ⟨(y214), (0), (by first | rfl | (simp; done) | (simp [*]; done)), H', ⟨Nat.le_refl _⟩, ⟨by (with_reducible repeat (first | apply Kd.S_alloc | apply Kd.S_drewN | apply Kd.S_drew)); exact HO216.out⟩, ⟨by repeat (first | (with_reducible first | exact HB.out | apply zB | apply zN | apply zD) | exact HB.out)⟩⟩
   case round =>
    clear H';(try clear c2);(try clear c2b0);(try clear c2b1);(try clear p2);(try clear c3);(try clear c3b0);(try clear c3b1);obtain ⟨x3_1, x13_1, rfl, HA, HK1, HO_3, HB⟩ := hrel
    cases gk with
    | zero => exact absurd HA.out (by simp [edge_Back.l0])
    | succ k1 =>
     have H := HA.out;clear HA;simp only [edge_Back.l0] at H
     by_cases c6 : x13_1 < (l0.length : Int)
     ·rw [if_pos c6] at H;have c6b0 : decide (x13_1 < (l0.length : Int)) = true := decide_eq_true c6;clear c6
      by_cases c7 : 0 ≤ x13_1
      ·rw [if_pos c7] at H;have c7b0 : decide (0 ≤ x13_1) = true := decide_eq_true c7;clear c7
       by_cases c8 : x13_1 < (l0.length : Int)
       ·rw [if_pos c8] at H;have c8b0 : decide (x13_1 < (l0.length : Int)) = true := decide_eq_true c8;clear c8;replace H := zi H;obtain ⟨t218, A90, H⟩ := H;replace H : (edge_Back.l1 k1 l0 x3_1 x13_1 l0 (l0.length : Int) x13_1 t218 (t218.length : Int) 0) = some r := H;have A9 := zA A90;clear A90;have H' := zA H;clear H;have p217 : 0 ≤ (x13_1 : Int) := zo (by first | (with_reducible assumption) | assumption);have q217 : x13_1 < (l0.length : Int) := zo (by first | (with_reducible assumption) | assumption);obtain ⟨ad217, A217_0, c217_0, e217, hx217_0, hl217_0, hi217_0⟩ := at_L9 HR0.out x13_1 p217 q217
        cases e217
        replace hx217_0 := (HB.out.cell (zw w _ hx217_0)).trans hx217_0;have HR217_0 := zA hi217_0;have HC217_0 := zA hl217_0;clear hi217_0 hl217_0;replace p217 := eq_true p217;replace q217 := eq_true q217
        go_wp2_with (first | ((with_reducible refine gate_callee (f := 83) rfl ?_); refine goesL_ (some 21) rfl rfl Try.func83 (by kernel_rfl) rfl #[.slice A217_0 (rd_L9 l0 x13_1).length c217_0, .int .i64 (l0.length : Int)] rfl (by (try simp only [List.map_toArray, List.map_cons, List.map_nil]); first | done | rfl | (simp only [List.length_drop, List.length_take]; rfl)) ?_; (with_reducible refine (edge_rising.calls k1 _ _ (rd_L9 l0 x13_1) (l0.length : Int) t218 _ ?side1 ?side2 A9.out).mono ?_); (case side1 => repeat (first | exact (Kd.C_below HR217_0.out HB.out) | (with_reducible refine Kd.C_alloc ?_ _) | (with_reducible refine Kd.C_drewN ?_ _) | (with_reducible refine Kd.C_drew ?_))); (case side2 => exact HC217_0.out); rintro e w10 ⟨v219, rfl, ho0, hb⟩; refine ⟨_, rfl, ?_⟩; have n0_ := zA (Kd.S_elder' (by (with_reducible repeat (first | apply Kd.S_alloc | apply Kd.S_drewN | apply Kd.S_drew)); exact HO_3.out) (Kd.R_base ho0) hb); have n1_ := zA (Kd.R_lower ho0 (below_size (by repeat (first | (with_reducible first | exact HB.out | apply zB | apply zN | apply zD) | exact HB.out)))); have n2_ := zA (zt (by repeat (first | (with_reducible first | exact HB.out | apply zB | apply zN | apply zD) | exact HB.out)) hb); clear HO_3; clear HB; have HO_3 := n0_; have HO220 := n1_; have HB := n2_; clear n0_ n1_ n2_; (try clear hb); (try clear hb2); (try clear hk); (try clear hi); (try clear ho0); obtain ⟨Ao11, co11, eo11⟩ := Kd.R_slice HO220.out; subst eo11))
        go_loopg [23] k1 (fun kq v23 w' => ∃ (x3_2 : List (List Int)) (x23_2 : Int), v23 = .int .i64 x23_2 ∧ Aside0 (edge_Back.l1 kq l0 x3_2 x13_1 l0 (l0.length : Int) x13_1 t218 (t218.length : Int) x23_2 = some r) ∧ Aside0 (kq ≤ k1) ∧ Aside0 (Kd.S (Kd.slice 3 (Kd.int .i64)) 30 w' w.heap.size (fun k_ => some k_ ≠ ((.slice Ao11 t218.length co11) : Value).ownBlock) v215 x3_2) ∧ Aside0 (Kd.R (Kd.int .i64) 3 w' w.heap.size (fun _ => True) (.slice Ao11 t218.length co11) t218) ∧ Aside0 (Below w.heap.size w w'))
        case atStart => exact ⟨(x3_1), (0), (by first | rfl | (simp; done) | (simp [*]; done)), H', ⟨Nat.le_refl _⟩, ⟨by (with_reducible repeat (first | apply Kd.S_alloc | apply Kd.S_drewN | apply Kd.S_drew)); exact Kd.S_mono HO_3.out (fun _ hk => hk.2)⟩, ⟨by (with_reducible repeat (first | apply zRa | apply zRn | apply zRd)); exact HO220.out⟩, ⟨by repeat (first | (with_reducible first | exact HB.out | apply zB | apply zN | apply zD) | exact HB.out)⟩⟩
        case round =>
         clear H';(try clear c2);(try clear c2b0);(try clear c2b1);(try clear p2);(try clear q2);(try clear hx2);(try clear c3);(try clear c3b0);(try clear c3b1);(try clear c6);(try clear c6b0);(try clear c7);(try clear c7b0);(try clear c8);(try clear c8b0);(try clear hx217_0);(try clear p2);(try clear p217);(try clear q217);obtain ⟨x3_2, x23_2, rfl, HA, HK2, HO_3, HO_21, HB⟩ := hrel
         cases gk with
         | zero => exact absurd HA.out (by simp [edge_Back.l1])
         | succ k2 =>
          have H := HA.out;clear HA;simp only [edge_Back.l1] at H
          by_cases c12 : x23_2 < (t218.length : Int)
          ·rw [if_pos c12] at H;have c12b0 : decide (x23_2 < (t218.length : Int)) = true := decide_eq_true c12;clear c12
           by_cases c13 : 0 ≤ x23_2
           ·rw [if_pos c13] at H;have c13b0 : decide (0 ≤ x23_2) = true := decide_eq_true c13;clear c13
            by_cases c14 : x23_2 < (t218.length : Int)
            ·rw [if_pos c14] at H;have c14b0 : decide (x23_2 < (t218.length : Int)) = true := decide_eq_true c14;clear c14
             by_cases c15 : 0 ≤ (rd t218 x23_2)
             ·rw [if_pos c15] at H;have c15b0 : decide (0 ≤ (rd t218 x23_2)) = true := decide_eq_true c15;clear c15
              by_cases c16 : (rd t218 x23_2) < (x3_2.length : Int)
              ·rw [if_pos c16] at H;have c16b0 : decide ((rd t218 x23_2) < (x3_2.length : Int)) = true := decide_eq_true c16;clear c16
               by_cases c17 : (rd_L9 x3_2 (rd t218 x23_2)).length < 17592186044416
               ·rw [if_pos c17] at H;have LMc17 := zA c17;clear c17;obtain ⟨y223, hy223⟩ : ∃ y_ : List Int, y_ = ((rd_L9 x3_2 (rd t218 x23_2)) ++ [x13_1]) := ⟨_, rfl⟩
                replace H : (edge_Back.l1 k2 l0 (x3_2.set ((rd t218 x23_2) : Int).toNat y223) x13_1 l0 (l0.length : Int) x13_1 t218 (t218.length : Int) (wrap64 (x23_2 + 1))) = some r := by first | (rw [hy223]; with_reducible exact H) | (have H2_ := (Option.bind_some _ _).symm.trans H; rw [hy223]; with_reducible exact H2_) | (have H2_ := (Option.bind_some _ _).symm.trans H; with_reducible exact H2_) | with_reducible exact H | (rw [hy223]; exact H) | exact H
                have Ny223 := zA hy223;clear hy223;obtain ⟨y226, hy226⟩ : ∃ y_ : List (List Int), y_ = (x3_2.set ((rd t218 x23_2) : Int).toNat y223) := ⟨_, rfl⟩
                replace H : (edge_Back.l1 k2 l0 y226 x13_1 l0 (l0.length : Int) x13_1 t218 (t218.length : Int) (wrap64 (x23_2 + 1))) = some r := by first | (rw [hy226]; with_reducible exact H) | (have H2_ := (Option.bind_some _ _).symm.trans H; rw [hy226]; with_reducible exact H2_) | (have H2_ := (Option.bind_some _ _).symm.trans H; with_reducible exact H2_) | with_reducible exact H | (rw [hy226]; exact H) | exact H
                have Ny226 := zA hy226;clear hy226;have H' := zA H;clear H;have p221 : 0 ≤ (x23_2 : Int) := zo (by first | (with_reducible assumption) | assumption);have q221 : x23_2 < (t218.length : Int) := zo (by first | (with_reducible assumption) | assumption);obtain ⟨ad221, e221, hx221_0⟩ := Kd.at_int (Kd.R_reads' HO_21.out).2.2 x23_2 p221 q221
                cases e221
                replace p221 := eq_true p221;replace q221 := eq_true q221;obtain ⟨Ao19, co19, eo19⟩ := Kd.S_slice HO_3.out;subst eo19;have p222 : 0 ≤ ((rd t218 x23_2) : Int) := zo (by first | (with_reducible assumption) | assumption);have q222 : (rd t218 x23_2) < (x3_2.length : Int) := zo (by first | (with_reducible assumption) | assumption);obtain ⟨ad222, A222_0, c222_0, e222, hx222_0, hl222_0, hi222_0⟩ := at_L9 (Kd.S_reads' HO_3.out).2.2 (rd t218 x23_2) p222 q222
                cases e222
                obtain ⟨ce222, hce222, hMe222, hcc222⟩ := Kd.S_get HO_3.out [] (rd t218 x23_2) p222 (by first | exact q222 | exact zo (by first | (with_reducible assumption) | assumption) | (have e_ := (Kd.S_reads' HO_3.out).1; omega));obtain ⟨ve222_0, rfl, ge222_0⟩ := hMe222;have hv222_0 := hcc222 0 _ rfl;rw [Nat.add_zero, show ((Kd.slice 3 (Kd.int .i64))).sz = 1 from rfl, Nat.mul_one] at hv222_0;replace hv222_0 := zj (hv222_0.symm.trans hx222_0);rw [hv222_0] at ge222_0;have HL222_0 := zA (show Kd.R (Kd.int .i64) 3 _ _ _ _ (rd_L9 x3_2 (rd t218 x23_2)) from ge222_0);clear hv222_0 ge222_0;have HX222_0 := zA hx222_0;clear hcc222 hce222;have HR222_0 := zA hi222_0;have HC222_0 := zA hl222_0;clear hi222_0 hl222_0;replace p222 := eq_true p222;replace q222 := eq_true q222;obtain ⟨go20, co20, eo20, gb20, gl20, cl20, HG20⟩ := Kd.S_form HO_3.out (by have h_ : ((rd t218 x23_2) : Int) < ((x3_2.length : Int) : Int) := zo (by first | (with_reducible assumption) | assumption); have h2_ : 0 ≤ ((rd t218 x23_2) : Int) := (zo (by first | (with_reducible assumption) | assumption)); omega);(first | cases eo20 | (injection eo20 with ea_ en_ ec_; (first | subst ea_ | (injection ea_ with ea_; subst ea_)); subst ec_; clear en_));have GB20 := zA gb20;have GG20 := zA HG20;clear gb20 gl20 HG20;(first | simp only [add_plain] at hx222_0 | skip);obtain ⟨oki20, ce20, hcl20, hM20, hcc20, _, _, hH20⟩ := Kd.S_elem HO_3.out [] ((rd t218 x23_2) : Int) (zo (by first | (with_reducible assumption) | assumption)) (by have h_ : ((rd t218 x23_2) : Int) < ((x3_2.length : Int) : Int) := zo (by first | (with_reducible assumption) | assumption); first | exact h_ | (have e_ := (Kd.S_reads' HO_3.out).1; omega) | simpa using h_);obtain ⟨ve20_0, rfl, ge20_0⟩ := hM20;have hv20 := hcc20 0 _ rfl;have hX20 := HX222_0.out;(try simp only [add_plain] at hX20);(try simp only [Nat.add_zero] at hv20);(try rw [show ((Kd.slice 3 (Kd.int .i64))).sz = 1 from rfl, Nat.mul_one] at hv20);replace hv20 := zj (hv20.symm.trans hX20);subst hv20;clear hX20 hcc20 hcl20;have UU20 := zA (show Kd.R (Kd.int .i64) 3 _ w.heap.size oki20 (.slice A222_0 (rd_L9 x3_2 (rd t218 x23_2)).length c222_0) (rd_L9 x3_2 (rd t218 x23_2)) from ge20_0);have HH20 := zA hH20;have HN20 := zA (Kd.S_reads' HO_3.out).1;clear hH20 ge20_0
                go_wp2_with (first | ((with_reducible refine gate_builtin (b := .append) (xs := #[.tmp 32, .tmp 34]) rfl ?_); at_builtin; refine Kd.R_append (Kd.int .i64) (w0 := w) w.heap.size rfl (.tmp 32) (.tmp 34) 30 3 (.int .i64 0) 8 rfl Try.underlying30 info3 rfl (by decide) (by omega) (.slice A222_0 (rd_L9 x3_2 (rd t218 x23_2)).length c222_0) (rd_L9 x3_2 (rd t218 x23_2)) x13_1 [.int .i64 x13_1] (fun k_ => oki20 k_ ∨ ((fun k_ => some k_ ≠ (.slice (some ad221) t218.length co11 : Value).ownBlock)) k_ ∧ wr.heap.size ≤ k_) (fun _ => False) rfl rfl ?aP (fun _ hk => hk.elim) ?aF ?aO ?aB ?aS ?aL ?_; (case aP => exact rfl); (case aB => exact (by repeat (first | (with_reducible first | exact HB.out | apply zB | apply zN | apply zD) | exact HB.out))); (case aF => exact (fun k_ hk => .inr ⟨Kd.fresh' (Kd.R_lt (by (with_reducible repeat (first | apply zRa | apply zRn | apply zRd)); exact HO_21.out)) k_ hk, hk⟩)); (case aO => exact (by (with_reducible repeat (first | apply zRa | apply zRn | apply zRd)); exact Kd.R_mono UU20.out (fun _ hk => .inl hk))); (case aS => exact (below_size (by repeat (first | (with_reducible first | exact HB.out | apply zB | apply zN | apply zD) | exact HB.out)))); (case aL => have := LMc17.out; omega); intro v224 w21 ho hb hg hat; rw [← Ny223.out] at ho; have n0_ := zA (Kd.R_grown2 (by (with_reducible repeat (first | apply zRa | apply zRn | apply zRd)); exact HO_21.out) rfl hg (fun k_ e_ => (HL222_0.out.1 k_ e_).1)); have n1_ := zA (hb); have n2_ := zA (Kd.H_grown (Kd.H_widen (by repeat (first | exact HH20.out | refine Kd.H_alloc ?_ _ | refine Kd.H_drewN ?_ _ | refine Kd.H_drew ?_))) hg (fun k_ e_ => .inl (UU20.out.1 k_ e_))); have n3_ := zA (ho); clear HO_21; clear HB; clear HH20; clear HO_3; clear UU20; clear HL222_0; have HO_21 := n0_; have HB := n1_; have HH20 := n2_; have HO225 := n3_; clear n0_ n1_ n2_ n3_; clear ho hb hg hat; have p18 : 0 ≤ ((rd t218 x23_2) : Int) := zo (by first | (with_reducible assumption) | assumption); have q18 : ((rd t218 x23_2) : Int) < ((x3_2.length : Int) : Int) := zo (by first | (with_reducible assumption) | assumption); replace p18 := eq_true p18; replace q18 := eq_true q18; obtain ⟨Ao24, co24, eo24⟩ := Kd.R_slice HO225.out; subst eo24; obtain ⟨_, _, hraw22, _, _, hcc22, _⟩ := Kd.H_raw HH20.out (zo (by first | (with_reducible assumption) | assumption)) (by have h_ : ((rd t218 x23_2) : Int) < ((x3_2.length : Int) : Int) := zo (by first | (with_reducible assumption) | assumption); first | exact h_ | (have e_ := (HN20.out); omega) | simpa using h_); obtain ⟨_, hfr22⟩ := Kd.H_at HH20.out (zo (by first | (with_reducible assumption) | assumption)) (by have h_ : ((rd t218 x23_2) : Int) < ((x3_2.length : Int) : Int) := zo (by first | (with_reducible assumption) | assumption); first | exact h_ | (have e_ := (HN20.out); omega) | simpa using h_); have hx22_0 := hcc22 0 _ rfl; have hf22_0 := hfr22 0; (try simp only [Nat.add_zero] at hx22_0 hf22_0); (try rw [show ((Kd.slice 3 (Kd.int .i64))).sz = 1 from rfl, Nat.mul_one] at hx22_0); (try rw [show ((Kd.slice 3 (Kd.int .i64))).sz = 1 from rfl, Nat.mul_one] at hf22_0); have HP22 := Kd.S_seg0 HH20.out (zo (by first | (with_reducible assumption) | assumption)) (by have h_ : ((rd t218 x23_2) : Int) < ((x3_2.length : Int) : Int) := zo (by first | (with_reducible assumption) | assumption); first | exact h_ | (have e_ := (HN20.out); omega) | simpa using h_) (seg := [.slice Ao24 y223.length co24]) (j := 0) (show 1 ≤ 1 from by decide) (x' := y223) (Kd.M_row HO225.out) (fun _ hk => hk); (try simp only [show ((Kd.slice 3 (Kd.int .i64))).sz = 1 from rfl, Nat.mul_one, Nat.add_zero] at HP22); clear hcc22 hfr22) | ((with_reducible refine gate_store (t := 30) (p := 36) rfl ?_); refine store_event (t := 30) (p := 36) (v := ?vo_w23) (w1 := (w21.setCell ⟨go20, ((rd t218 x23_2) : Int).toNat, none⟩ (.slice Ao24 y223.length co24))) ?hg ?ho ?hn ?hr ?_; (case ho => rfl); (case hg => rfl); (case hn => rfl); (case hr => first | (go_simp; done) | (go_simp; rfl)); intro w23 hw; have hg : w21.grownBy w23 (some go20) := (by rw [hw]; exact HP22.2); have hp_ : Kd.S (Kd.slice 3 (Kd.int .i64)) 30 w23 w.heap.size (fun k_ => some k_ ≠ (.slice (some ad221) t218.length co11 : Value).ownBlock) (.slice (some ⟨go20, 0, none⟩) x3_2.length co19) y226 := (by rw [hw, Ny226.out]; exact HP22.1); clear HP22; have n0_ := zA (Kd.R_over' (v := (.slice (some ⟨go20, 0, none⟩) x3_2.length co19)) (by (with_reducible repeat (first | apply zRa | apply zRn | apply zRd)); exact HO_21.out) (Kd.R_typed hraw22) (by decide) hg); have n1_ := zA ((by rw [hw]; exact zS HB.out GB20.out : Below w.heap.size w w23)); have n2_ := zA (hp_); clear HO_21; clear HB; clear HO225; clear HH20; have HO_21 := n0_; have HB := n1_; have HO_3 := n2_; clear n0_ n1_ n2_; clear hg hw hp_ hraw22))
                go_roundg k2
                case measure => have := HK1.out; have := HK2.out; omega
                case rel => exact ⟨(y226), (wrap64 (x23_2 + 1)), (by first | rfl | (simp; done) | (simp [*]; done)), H', ⟨by have := HK1.out; have := HK2.out; omega⟩, ⟨by (with_reducible repeat (first | apply Kd.S_alloc | apply Kd.S_drewN | apply Kd.S_drew)); exact HO_3.out⟩, ⟨by (with_reducible repeat (first | apply zRa | apply zRn | apply zRd)); exact HO_21.out⟩, ⟨by repeat (first | (with_reducible first | exact HB.out | apply zB | apply zN | apply zD) | exact HB.out)⟩⟩
               ·rw [if_neg c17] at H;exact absurd H (by simp)
              ·rw [if_neg c16] at H;exact absurd H (by simp)
             ·rw [if_neg c15] at H;exact absurd H (by simp)
            ·rw [if_neg c14] at H;exact absurd H (by simp)
           ·rw [if_neg c13] at H;exact absurd H (by simp)
          ·rw [if_neg c12] at H;have c12b0 : decide (x23_2 < (t218.length : Int)) = false := decide_eq_false c12;clear c12;have H' := zA H;clear H
           go_wp2
           go_roundg k2
           case measure => have := HK1.out; have := HK2.out; omega
           case rel => exact ⟨(x3_2), (wrap64 (x13_1 + 1)), (by first | rfl | (simp; done) | (simp [*]; done)), H', ⟨by have := HK1.out; have := HK2.out; omega⟩, ⟨by (with_reducible repeat (first | apply Kd.S_alloc | apply Kd.S_drewN | apply Kd.S_drew)); exact Kd.S_mono HO_3.out (fun _ hk => trivial)⟩, ⟨by repeat (first | (with_reducible first | exact HB.out | apply zB | apply zN | apply zD) | exact HB.out)⟩⟩
       ·rw [if_neg c8] at H;exact absurd H (by simp)
      ·rw [if_neg c7] at H;exact absurd H (by simp)
     ·rw [if_neg c6] at H;have c6b0 : decide (x13_1 < (l0.length : Int)) = false := decide_eq_false c6;clear c6;obtain rfl := zj H
      go_wp2
      go_ret
      exact ⟨_, by first | rfl | (simp <;> rfl) | (simp [*] <;> rfl), by (with_reducible repeat (first | apply Kd.S_alloc | apply Kd.S_drewN | apply Kd.S_drew)); exact HO_3.out, by repeat (first | (with_reducible first | exact HB.out | apply zB | apply zN | apply zD) | exact HB.out)⟩
  ·rw [if_neg c3] at H;exact absurd H (by simp)
 ·rw [if_neg c2] at H;exact absurd H (by simp)
def pleatref00_EqInts.l0 : Nat → List Int → List Int → Int → Option (Bool)
 | 0, _, _, _ => none
 | k + 1, x0, x1, x5 => if x5 < (x0.length : Int) then (if 0 ≤ x5 then (if x5 < (x1.length : Int) then (if (rd x0 x5) = (rd x1 x5) then (pleatref00_EqInts.l0 k x0 x1 (wrap64 (x5 + 1))) else (some false)) else (none)) else (none)) else (some true)
def pleatref00_EqInts.f (k : Nat) (l0 : List Int) (l1 : List Int) : Option (Bool) := if (l0.length : Int) = (l1.length : Int) then (pleatref00_EqInts.l0 k l0 l1 0) else (some false)
theorem pleatref00_EqInts.mono_l : ∀ k, (∀ y0 y1 y2, LeO (pleatref00_EqInts.l0 k y0 y1 y2) (pleatref00_EqInts.l0 (k + 1) y0 y1 y2))
 | 0 => fun _ _ _ r h => by simp [pleatref00_EqInts.l0] at h
 | k + 1 => by
  have ih0 := pleatref00_EqInts.mono_l k
  ·intro y0 y1 y2
   unfold pleatref00_EqInts.l0
   repeat' first
   | (with_reducible exact ih0 _ _ _)
   | (with_reducible exact LeO.refl _)
   | (with_reducible exact LeO.none _)
   | (with_reducible refine LeO.ite ?_ ?_)
   | (with_reducible refine LeO.bind ?_ (fun _ => ?_))
   | exact ih0 _ _ _
   | exact LeO.none _
   | refine LeO.ite ?_ ?_
   | refine LeO.bind ?_ (fun _ => ?_)
theorem pleatref00_EqInts.mono : ∀ a0 a1 k, LeO (pleatref00_EqInts.f k a0 a1) (pleatref00_EqInts.f (k + 1) a0 a1) := by
 intro a0 a1 k;have ih0 := pleatref00_EqInts.mono_l k
 unfold pleatref00_EqInts.f
 repeat' first
   | (with_reducible exact ih0 _ _ _)
   | (with_reducible exact LeO.refl _)
   | (with_reducible exact LeO.none _)
   | (with_reducible refine LeO.ite ?_ ?_)
   | (with_reducible refine LeO.bind ?_ (fun _ => ?_))
   | exact ih0 _ _ _
   | exact LeO.none _
   | refine LeO.ite ?_ ?_
   | refine LeO.bind ?_ (fun _ => ?_)
set_option maxHeartbeats 8000000 in
set_option maxRecDepth 100000 in
theorem pleatref00_EqInts.calls (k : Nat) (A0 : Option Addr) (c0 : Nat) (l0 : List Int) (A1 : Option Addr) (c1 : Nat) (l1 : List Int) (r : Bool) (w : World) (hr0 : Kd.C (Kd.int .i64) w A0 l0.length l0) (hc0 : l0.length ≤ c0) (hr1 : Kd.C (Kd.int .i64) w A1 l1.length l1) (hc1 : l1.length ≤ c1) (h : pleatref00_EqInts.f k l0 l1 = some r) :
  Calls Try.prog 67 #[.slice A0 l0.length c0, .slice A1 l1.length c1] w fun e w' => e = .returned (.bool r) ∧ Drawn0 w w' := by
 have HR0 := zA hr0;have HC0 := zA hc0;clear hr0 hc0;have HR1 := zA hr1;have HC1 := zA hc1;clear hr1 hc1;have H : (if (l0.length : Int) = (l1.length : Int) then (pleatref00_EqInts.l0 k l0 l1 0) else (some false)) = some r := h;clear h
 by_cases c3 : (l0.length : Int) = (l1.length : Int)
 ·rw [if_pos c3] at H;have c3b0 : ((l0.length : Int) == (l1.length : Int)) = true := beq_iff_eq.mpr c3;have c3b1 : ((l0.length : Int) != (l1.length : Int)) = false := zne c3
  have c3b2 : (l0.length == l1.length) = true := by first | simpa using c3 | (simp at c3 ⊢; omega)
  clear c3;have H' := zA H;clear H
  go_enter Try.func67, Try.ntmps67
  go_wp2
  repeat (go_quiet (fail); try go_wp2)
  go_loopg [5] k (fun kq v5 w' => ∃ (x5_1 : Int), v5 = .int .i64 x5_1 ∧ Aside0 (pleatref00_EqInts.l0 kq l0 l1 x5_1 = some r) ∧ Aside0 (kq ≤ k) ∧ Drawn0 w w')
  case atStart => exact ⟨(0), (by first | rfl | (simp; done) | (simp [*]; done)), H', ⟨Nat.le_refl _⟩, by repeat (first | exact Drawn0.refl _ | apply Drawn0.step)⟩
  case round =>
   clear H';(try clear c1);(try clear p2);(try clear c3);(try clear c3b0);(try clear c3b1);(try clear c3b2);obtain ⟨x5_1, rfl, HA, HK1, ⟨m1, rfl⟩⟩ := hrel
   cases gk with
   | zero => exact absurd HA.out (by simp [pleatref00_EqInts.l0])
   | succ k1 =>
    have H := HA.out;clear HA;simp only [pleatref00_EqInts.l0] at H
    by_cases c4 : x5_1 < (l0.length : Int)
    ·rw [if_pos c4] at H;have c4b0 : decide (x5_1 < (l0.length : Int)) = true := decide_eq_true c4;clear c4
     by_cases c5 : 0 ≤ x5_1
     ·rw [if_pos c5] at H;have c5b0 : decide (0 ≤ x5_1) = true := decide_eq_true c5;clear c5
      by_cases c6 : x5_1 < (l1.length : Int)
      ·rw [if_pos c6] at H;have c6b0 : decide (x5_1 < (l1.length : Int)) = true := decide_eq_true c6;clear c6
       by_cases c7 : (rd l0 x5_1) = (rd l1 x5_1)
       ·rw [if_pos c7] at H;have c7b0 : ((rd l0 x5_1) == (rd l1 x5_1)) = true := beq_iff_eq.mpr c7;have c7b1 : ((rd l0 x5_1) != (rd l1 x5_1)) = false := zne c7;clear c7;have H' := zA H;clear H;have p227 : 0 ≤ (x5_1 : Int) := zo (by first | (with_reducible assumption) | assumption);have q227 : x5_1 < (l0.length : Int) := zo (by first | (with_reducible assumption) | assumption);obtain ⟨ad227, e227, hx227_0⟩ := Kd.at_int HR0.out x5_1 p227 q227
        cases e227
        replace p227 := eq_true p227;replace q227 := eq_true q227;have p228 : 0 ≤ (x5_1 : Int) := zo (by first | (with_reducible assumption) | assumption);have q228 : x5_1 < (l1.length : Int) := zo (by first | (with_reducible assumption) | assumption);obtain ⟨ad228, e228, hx228_0⟩ := Kd.at_int HR1.out x5_1 p228 q228
        cases e228
        replace p228 := eq_true p228;replace q228 := eq_true q228
        go_wp2
        repeat (go_quiet (fail); try go_wp2)
        go_roundg k1
        case measure => have := HK1.out; omega
        case rel => exact ⟨(wrap64 (x5_1 + 1)), (by first | rfl | (simp; done) | (simp [*]; done)), H', ⟨by have := HK1.out; omega⟩, by repeat (first | exact Drawn0.refl _ | apply Drawn0.step)⟩
       ·rw [if_neg c7] at H;have c7b0 : ((rd l0 x5_1) == (rd l1 x5_1)) = false := zbe c7;have c7b1 : ((rd l0 x5_1) != (rd l1 x5_1)) = true := bne_iff_ne.mpr c7;obtain rfl := zj H;have p227 : 0 ≤ (x5_1 : Int) := zo (by first | (with_reducible assumption) | assumption);have q227 : x5_1 < (l0.length : Int) := zo (by first | (with_reducible assumption) | assumption);obtain ⟨ad227, e227, hx227_0⟩ := Kd.at_int HR0.out x5_1 p227 q227
        cases e227
        replace p227 := eq_true p227;replace q227 := eq_true q227;have p228 : 0 ≤ (x5_1 : Int) := zo (by first | (with_reducible assumption) | assumption);have q228 : x5_1 < (l1.length : Int) := zo (by first | (with_reducible assumption) | assumption);obtain ⟨ad228, e228, hx228_0⟩ := Kd.at_int HR1.out x5_1 p228 q228
        cases e228
        replace p228 := eq_true p228;replace q228 := eq_true q228
        go_wp2
        repeat (go_quiet (fail); try go_wp2)
        go_ret
        exact ⟨by first | rfl | (simp; done) | (simp [*]; done), by repeat (first | exact Drawn0.refl _ | apply Drawn0.step)⟩
      ·rw [if_neg c6] at H;exact absurd H (by simp)
     ·rw [if_neg c5] at H;exact absurd H (by simp)
    ·rw [if_neg c4] at H;have c4b0 : decide (x5_1 < (l0.length : Int)) = false := decide_eq_false c4;clear c4;obtain rfl := zj H
     go_wp2
     repeat (go_quiet (fail); try go_wp2)
     go_ret
     exact ⟨by first | rfl | (simp; done) | (simp [*]; done), by repeat (first | exact Drawn0.refl _ | apply Drawn0.step)⟩
 ·rw [if_neg c3] at H;have c3b0 : ((l0.length : Int) == (l1.length : Int)) = false := zbe c3;have c3b1 : ((l0.length : Int) != (l1.length : Int)) = true := bne_iff_ne.mpr c3
  have c3b2 : (l0.length == l1.length) = false := by first | simpa using c3 | (simp at c3 ⊢; omega)
  obtain rfl := zj H
  go_enter Try.func67, Try.ntmps67
  go_wp2
  repeat (go_quiet (fail); try go_wp2)
  go_ret
  exact ⟨by first | rfl | (simp; done) | (simp [*]; done), by repeat (first | exact Drawn0.refl _ | apply Drawn0.step)⟩
end Go.Proofs.Ytfgdjpgdabjpmaa.PEdgeLists
