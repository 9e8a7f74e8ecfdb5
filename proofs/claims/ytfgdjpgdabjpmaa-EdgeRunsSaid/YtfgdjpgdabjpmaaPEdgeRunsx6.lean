-- Written for this claim by a program of this session (wip/tools/pp.py, over the kit's print).
import Derived.Test.YtfgdjpgdabjpmaaPEdgeRunsx0
import Derived.Test.YtfgdjpgdabjpmaaPEdgeRunsx5
namespace Go.Proofs.Ytfgdjpgdabjpmaa.PEdgeRuns
open Go.RowKit Go.Proofs.YtfgdjpgdabjpmaaW.PrintWords Go.Proofs.YtfgdjpgdabjpmaaW.PrintLast Go.Proofs.YtfgdjpgdabjpmaaW.PrintMore
attribute [local go_sem] max2_int min2_int max_two min_two max_three min_three max_four min_four   -- for this text's walks alone
set_option linter.unusedVariables false
set_option linter.unusedSimpArgs false

/-! ### edge_rising: function 83 -/
mutual
def edge_rising.l0 : Nat → Int → List Bool → List Int → Int → Int → Option (List Int)
  | 0, _, _, _, _, _ => none
  | k + 1, x1, x5, x13, x14, x15 => if x15 < x14 then (if 0 ≤ x15 then (if x15 < (x13.length : Int) then (if (rd x13 x15) ≥ 0 then (if (rd x13 x15) < x1 then (if 0 ≤ (rd x13 x15) then (if (rd x13 x15) < (x5.length : Int) then (edge_rising.l0 k x1 (x5.set ((rd x13 x15) : Int).toNat true) x13 x14 (wrap64 (x15 + 1))) else (none)) else (none)) else (edge_rising.l0 k x1 x5 x13 x14 (wrap64 (x15 + 1)))) else (edge_rising.l0 k x1 x5 x13 x14 (wrap64 (x15 + 1)))) else (none)) else (none)) else (edge_rising.l1 k ([] : List Int) x5 (x5.length : Int) 0)
def edge_rising.l1 : Nat → List Int → List Bool → Int → Int → Option (List Int)
  | 0, _, _, _, _ => none
  | k + 1, x8, x30, x31, x32 => if x32 < x31 then (if 0 ≤ x32 then (if x32 < (x30.length : Int) then (if rdOf false x30 x32 = true then (if x8.length < 17592186044416 then (edge_rising.l1 k (x8 ++ [x32]) x30 x31 (wrap64 (x32 + 1))) else (none)) else (edge_rising.l1 k x8 x30 x31 (wrap64 (x32 + 1)))) else (none)) else (none)) else (some x8)
end
def edge_rising.f (k : Nat) (l0 : List Int) (a1 : Int) : Option (List Int) := if 0 ≤ a1 then (if (a1 : Int).toNat ≤ 281474976710656 then (edge_rising.l0 k a1 (List.replicate (a1 : Int).toNat false) l0 (l0.length : Int) 0) else (none)) else (none)
theorem edge_rising.mono_l : ∀ k, (∀ y0 y1 y2 y3 y4, LeO (edge_rising.l0 k y0 y1 y2 y3 y4) (edge_rising.l0 (k + 1) y0 y1 y2 y3 y4)) ∧ (∀ y0 y1 y2 y3, LeO (edge_rising.l1 k y0 y1 y2 y3) (edge_rising.l1 (k + 1) y0 y1 y2 y3))
  | 0 => ⟨fun _ _ _ _ _ r h => by simp [edge_rising.l0] at h, fun _ _ _ _ r h => by simp [edge_rising.l1] at h⟩
  | k + 1 => by
    obtain ⟨ih0, ih1⟩ := edge_rising.mono_l k
    refine ⟨?_, ?_⟩
    · intro y0 y1 y2 y3 y4
      unfold edge_rising.l0
      exact zMo
    · intro y0 y1 y2 y3
      unfold edge_rising.l1
      exact zMo
theorem edge_rising.mono : ∀ a0 a1 k, LeO (edge_rising.f k a0 a1) (edge_rising.f (k + 1) a0 a1) := by
  intro a0 a1 k
  obtain ⟨ih0, ih1⟩ := edge_rising.mono_l k
  unfold edge_rising.f
  exact zMo
set_option maxHeartbeats 8000000 in
set_option maxRecDepth 100000 in
theorem edge_rising.calls (k : Nat) (A0 : Option Addr) (c0 : Nat) (l0 : List Int) (a1 : Int) (r : List Int) (w : World) (hr0 : Kd.C (Kd.int .i64) w A0 l0.length l0) (hc0 : l0.length ≤ c0) (h : edge_rising.f k l0 a1 = some r) :
    Calls Try.prog 83 #[.slice A0 l0.length c0, .int .i64 a1] w fun e w' => ∃ v0_ : Value, e = .returned (v0_) ∧ Kd.R (Kd.int .i64) 3 w' w.heap.size (fun _ => True) v0_ r ∧ Below w.heap.size w w' := by
  have HR0 := Aside0.mk hr0
  have HC0 := Aside0.mk hc0
  clear hr0 hc0
  have HB := Aside0.mk (Below.refl w.heap.size w)
  have H := h
  clear h
  unfold edge_rising.f at H
  obtain ⟨c3, H⟩ := zG H
  have c3b0 := eq_true c3
  have c3b1 : decide (0 ≤ a1) = true := decide_eq_true c3
  clear c3
  obtain ⟨c4, H⟩ := zG H
  have c4b0 := eq_true c4
  have c4b1 : decide ((a1 : Int).toNat ≤ 281474976710656) = true := decide_eq_true c4
  clear c4
  obtain ⟨y130, hy130⟩ : ∃ y_ : List Bool, y_ = (List.replicate (a1 : Int).toNat false) := ⟨_, rfl⟩
  (try rw [← hy130] at H)
  have Ny130 := Aside0.mk hy130
  clear hy130
  have H' := Aside0.mk H
  clear H
  go_enter Try.func83, Try.ntmps83
  go_wp2_with (first | ((with_reducible refine gate_dst (N := 12) rfl ?_); refine Kd.R_make Kd.bool _ 4 rfl (N := 12) rfl 59 _ _ rfl a1 rfl rfl Try.underlying59 (.bool false) 1 info4 rfl (by decide) (by omega) false (ok := fun _ => True) (okp := fun _ => True) rfl (fun _ hk => hk) trivial (zOD) (Nat.le_trans (Nat.mul_le_mul_right _ (zOD : a1.toNat ≤ 281474976710656)) (by omega)) (Below.refl _ _) (Nat.le_refl _) ?_; intro v131 w5 ho6 hb hg_ hnew_; clear hg_ hnew_; (first | rw [← Ny130.out] at ho6 | (simp only [Int.reduceToNat] at ho6; rw [← Ny130.out] at ho6)); refine zs (Kd.R_lower ho6 (below_size (zHB))) (zs (below_step (zHB) hb) ?_); clear HB; intro HB HO132; clear hb ho6))
  go_loopg [15] k (fun kq v15 w' => ∃ (x5_1 : List Bool) (x15_1 : Int), v15 = .int .i64 x15_1 ∧ Aside0 (edge_rising.l0 kq a1 x5_1 l0 (l0.length : Int) x15_1 = some r) ∧ Aside0 (kq ≤ k) ∧ Aside0 (Kd.R Kd.bool 4 w' w.heap.size (fun _ => True) v131 x5_1) ∧ Aside0 (Below w.heap.size w w'))
  case atStart => exact ⟨(y130), (0), zF', H', ⟨Nat.le_refl _⟩, ⟨by (with_reducible repeat (first | apply Kd.R_alloc | apply Kd.R_drewN | apply Kd.R_drew)); exact HO132.out⟩, ⟨zHB⟩⟩
  case round =>
    clear H'
    try clear c3
    try clear c3b0
    try clear c3b1
    try clear c4
    try clear c4b0
    try clear c4b1
    obtain ⟨x5_1, x15_1, rfl, HA, HK1, HO_5, HB⟩ := hrel
    cases gk with
    | zero => exact absurd HA.out (by simp [edge_rising.l0])
    | succ k1 =>
      have H := HA.out
      clear HA
      simp only [edge_rising.l0] at H
      by_cases c7 : x15_1 < (l0.length : Int)
      · rw [if_pos c7] at H
        have c7b0 := decide_eq_true c7
        clear c7
        obtain ⟨c8, H⟩ := zG H
        have c8b0 := decide_eq_true c8
        clear c8
        obtain ⟨c9, H⟩ := zG H
        have c9b0 := decide_eq_true c9
        clear c9
        by_cases c10 : (rd l0 x15_1) ≥ 0
        · rw [if_pos c10] at H
          have c10b0 : decide (0 ≤ (rd l0 x15_1)) = true := decide_eq_true c10
          clear c10
          by_cases c11 : (rd l0 x15_1) < a1
          · rw [if_pos c11] at H
            have c11b0 := decide_eq_true c11
            clear c11
            obtain ⟨c12, H⟩ := zG H
            have c12b0 := decide_eq_true c12
            clear c12
            obtain ⟨c13, H⟩ := zG H
            have c13b0 := decide_eq_true c13
            clear c13
            obtain ⟨y134, hy134⟩ : ∃ y_ : List Bool, y_ = (x5_1.set ((rd l0 x15_1) : Int).toNat true) := ⟨_, rfl⟩
            (try rw [← hy134] at H)
            have Ny134 := Aside0.mk hy134
            clear hy134
            have H' := Aside0.mk H
            clear H
            have p133 : 0 ≤ (x15_1 : Int) := zOD
            have q133 : x15_1 < (l0.length : Int) := zOD
            obtain ⟨ad133, e133, hx133_0⟩ := Kd.at_int HR0.out x15_1 p133 q133
            cases e133
            replace hx133_0 := (HB.out.cell (World.block_lt_of_cell? w _ hx133_0)).trans hx133_0
            replace p133 := eq_true p133
            replace q133 := eq_true q133
            have p14 : 0 ≤ ((rd l0 x15_1) : Int) := zOD
            have q14 : ((rd l0 x15_1) : Int) < ((x5_1.length : Int) : Int) := zOD
            obtain ⟨go14, co14, eo14, gb14, gl14, cl14, HG14⟩ := Kd.R_form HO_5.out (by omega)
            (first | cases eo14 | (injection eo14 with ea_ en_ ec_; (first | subst ea_ | (injection ea_ with ea_; subst ea_)); subst ec_; clear en_))
            have GB14 := Aside0.mk gb14
            have GG14 := Aside0.mk HG14
            clear gb14 gl14 HG14
            obtain ⟨hx14_0, hf14_0⟩ := Kd.R_celln false HO_5.out ((rd l0 x15_1) : Int) p14 q14
            replace p14 := eq_true p14
            replace q14 := eq_true q14
            have HP15 := Kd.R_putg HO_5.out ((rd l0 x15_1) : Int) true
            go_wp2_with (first | ((with_reducible refine gate_store (t := 4) (p := 28) rfl ?_); refine store_event (t := 4) (p := 28) (v := ?vo_w16) (w1 := (wr.setCell ⟨go14, ((rd l0 x15_1) : Int).toNat, none⟩ (.bool true))) ?hg ?ho ?hn ?hr ?_; (case ho => rfl); (case hg => rfl); (case hn => rfl); (case hr => first | (go_simp; done) | (go_simp; rfl)); intro w16 hw; have hg : wr.grownBy w16 (some go14) := (by rw [hw]; exact HP15.2); have hp_ : Kd.R Kd.bool 4 w16 w.heap.size (fun _ => True) (.slice (some ⟨go14, 0, none⟩) x5_1.length co14) y134 := (by rw [hw, Ny134.out]; exact HP15.1); clear HP15; refine zs hp_ (zs ((by rw [hw]; exact below_set (HB.out) GB14.out : Below w.heap.size w w16)) ?_); clear HO_5 HB; intro HB HO_5; clear hg hw hp_))
            go_roundg k1
            case measure => have := HK1.out; omega
            case rel => exact ⟨(y134), (wrap64 (x15_1 + 1)), zF', H', ⟨by have := HK1.out; omega⟩, ⟨by (with_reducible repeat (first | apply Kd.R_alloc | apply Kd.R_drewN | apply Kd.R_drew)); exact HO_5.out⟩, ⟨zHB⟩⟩
          · rw [if_neg c11] at H
            have c11b0 := decide_eq_false c11
            clear c11
            have H' := Aside0.mk H
            clear H
            have p133 : 0 ≤ (x15_1 : Int) := zOD
            have q133 : x15_1 < (l0.length : Int) := zOD
            obtain ⟨ad133, e133, hx133_0⟩ := Kd.at_int HR0.out x15_1 p133 q133
            cases e133
            replace hx133_0 := (HB.out.cell (World.block_lt_of_cell? w _ hx133_0)).trans hx133_0
            replace p133 := eq_true p133
            replace q133 := eq_true q133
            go_wp2
            go_roundg k1
            case measure => have := HK1.out; omega
            case rel => exact ⟨(x5_1), (wrap64 (x15_1 + 1)), zF', H', ⟨by have := HK1.out; omega⟩, ⟨by (with_reducible repeat (first | apply Kd.R_alloc | apply Kd.R_drewN | apply Kd.R_drew)); exact HO_5.out⟩, ⟨zHB⟩⟩
        · rw [if_neg c10] at H
          have c10b0 : decide (0 ≤ (rd l0 x15_1)) = false := decide_eq_false c10
          clear c10
          have H' := Aside0.mk H
          clear H
          have p133 : 0 ≤ (x15_1 : Int) := zOD
          have q133 : x15_1 < (l0.length : Int) := zOD
          obtain ⟨ad133, e133, hx133_0⟩ := Kd.at_int HR0.out x15_1 p133 q133
          cases e133
          replace hx133_0 := (HB.out.cell (World.block_lt_of_cell? w _ hx133_0)).trans hx133_0
          replace p133 := eq_true p133
          replace q133 := eq_true q133
          go_wp2
          go_roundg k1
          case measure => have := HK1.out; omega
          case rel => exact ⟨(x5_1), (wrap64 (x15_1 + 1)), zF', H', ⟨by have := HK1.out; omega⟩, ⟨by (with_reducible repeat (first | apply Kd.R_alloc | apply Kd.R_drewN | apply Kd.R_drew)); exact HO_5.out⟩, ⟨zHB⟩⟩
      · rw [if_neg c7] at H
        have c7b0 := decide_eq_false c7
        clear c7
        have H' := Aside0.mk H
        clear H
        obtain ⟨Ao17, co17, eo17⟩ := Kd.R_slice HO_5.out
        subst eo17
        go_wp2
        go_loopg [8, 32] k1 (fun kq v8 v32 w' => ∃ (x8_2 : List Int) (x32_2 : Int), v32 = .int .i64 x32_2 ∧ Aside0 (edge_rising.l1 kq x8_2 x5_1 (x5_1.length : Int) x32_2 = some r) ∧ Aside0 (kq ≤ k1) ∧ Aside0 (Kd.R (Kd.int .i64) 3 w' w.heap.size (fun _ => True) v8 x8_2) ∧ Aside0 (Kd.R Kd.bool 4 w' w.heap.size (fun _ => True) (.slice Ao17 x5_1.length co17) x5_1) ∧ Aside0 (Below w.heap.size w w'))
        case atStart => exact ⟨(([] : List Int)), (0), zF', H', ⟨Nat.le_refl _⟩, ⟨by first | exact Kd.R_nil _ _ _ _ _ | exact Kd.N_nil _ _ _ _ _ | exact Kd.V_nil _ _ _ _ _ | exact Kd.Q_nil _ _ _ _ _ | exact Kd.S_nil _ _ _ _ _⟩, ⟨by (with_reducible repeat (first | apply Kd.R_alloc | apply Kd.R_drewN | apply Kd.R_drew)); exact HO_5.out⟩, ⟨zHB⟩⟩
        case round =>
          clear H'
          try clear c3
          try clear c3b0
          try clear c3b1
          try clear c4
          try clear c4b0
          try clear c4b1
          try clear c7b0
          obtain ⟨x8_2, x32_2, rfl, HA, HK2, HO_8, HO_30, HB⟩ := hrel
          cases gk with
          | zero => exact absurd HA.out (by simp [edge_rising.l1])
          | succ k2 =>
            have H := HA.out
            clear HA
            simp only [edge_rising.l1] at H
            by_cases c18 : x32_2 < (x5_1.length : Int)
            · rw [if_pos c18] at H
              have c18b0 := decide_eq_true c18
              clear c18
              obtain ⟨c19, H⟩ := zG H
              have c19b0 := decide_eq_true c19
              clear c19
              obtain ⟨c20, H⟩ := zG H
              have c20b0 := decide_eq_true c20
              clear c20
              obtain ⟨bq21, hbq21⟩ : ∃ b_ : Bool, b_ = (rdOf false x5_1 x32_2) := ⟨_, rfl⟩
              rw [← hbq21] at H
              have Nbq21 := Aside0.mk hbq21
              clear hbq21
              by_cases c22 : bq21 = true
              · subst c22
                rw [if_pos rfl] at H
                obtain ⟨c23, H⟩ := zG H
                have LMc23 := Aside0.mk c23
                clear c23
                obtain ⟨y136, hy136⟩ : ∃ y_ : List Int, y_ = (x8_2 ++ [x32_2]) := ⟨_, rfl⟩
                (try rw [← hy136] at H)
                have Ny136 := Aside0.mk hy136
                clear hy136
                have H' := Aside0.mk H
                clear H
                have p135 : 0 ≤ (x32_2 : Int) := zOD
                have q135 : x32_2 < (x5_1.length : Int) := zOD
                obtain ⟨ad135, e135, hx135_0⟩ := Kd.at_bool (Kd.R_reads' HO_30.out).2.2 x32_2 p135 q135
                (try rw [← Nbq21.out] at hx135_0)
                cases e135
                replace p135 := eq_true p135
                replace q135 := eq_true q135
                go_wp2_with (first | ((with_reducible refine gate_builtin (b := .append) (xs := #[.tmp 38, .tmp 40]) rfl ?_); at_builtin; refine Kd.R_append (Kd.int .i64) (w0 := w) w.heap.size rfl (.tmp 38) (.tmp 40) 30 3 (.int .i64 0) 8 rfl Try.underlying30 info3 rfl (by decide) (by omega) u8 x8_2 x32_2 [.int .i64 x32_2] (fun _ => True) (fun _ => False) rfl rfl ?aP (fun _ hk => hk.elim) ?aF ?aO ?aB ?aS ?aL ?_; (case aP => exact rfl); (case aB => exact (zHB)); (case aF => exact (fun _ _ => trivial)); (case aO => exact (by (with_reducible repeat (first | apply Kd.R_alloc | apply Kd.R_drewN | apply Kd.R_drew)); exact HO_8.out)); (case aS => exact (below_size (zHB))); (case aL => have := LMc23.out; omega); intro v137 w24 ho hb hg hat; rw [← Ny136.out] at ho; refine zs (Kd.R_over' (by (with_reducible repeat (first | apply Kd.R_alloc | apply Kd.R_drewN | apply Kd.R_drew)); exact HO_30.out) (Kd.R_typed (by (with_reducible repeat (first | apply Kd.R_alloc | apply Kd.R_drewN | apply Kd.R_drew)); exact HO_8.out)) (by decide) hg) (zs hb (zs (ho) ?_)); clear HO_30 HB HO_8; intro HO138 HB HO_30; clear ho hb hg hat))
                go_roundg k2
                case measure => have := HK1.out; have := HK2.out; omega
                case rel => exact ⟨(y136), (wrap64 (x32_2 + 1)), zF', H', ⟨by have := HK1.out; have := HK2.out; omega⟩, ⟨by (with_reducible repeat (first | apply Kd.R_alloc | apply Kd.R_drewN | apply Kd.R_drew)); exact HO138.out⟩, ⟨by (with_reducible repeat (first | apply Kd.R_alloc | apply Kd.R_drewN | apply Kd.R_drew)); exact HO_30.out⟩, ⟨zHB⟩⟩
              · replace c22 := Bool.eq_false_iff.mpr c22
                subst c22
                rw [if_neg (show ¬ (false = true) by decide)] at H
                have H' := Aside0.mk H
                clear H
                have p135 : 0 ≤ (x32_2 : Int) := zOD
                have q135 : x32_2 < (x5_1.length : Int) := zOD
                obtain ⟨ad135, e135, hx135_0⟩ := Kd.at_bool (Kd.R_reads' HO_30.out).2.2 x32_2 p135 q135
                (try rw [← Nbq21.out] at hx135_0)
                cases e135
                replace p135 := eq_true p135
                replace q135 := eq_true q135
                go_wp2
                go_roundg k2
                case measure => have := HK1.out; have := HK2.out; omega
                case rel => exact ⟨(x8_2), (wrap64 (x32_2 + 1)), zF', H', ⟨by have := HK1.out; have := HK2.out; omega⟩, ⟨by (with_reducible repeat (first | apply Kd.R_alloc | apply Kd.R_drewN | apply Kd.R_drew)); exact HO_8.out⟩, ⟨by (with_reducible repeat (first | apply Kd.R_alloc | apply Kd.R_drewN | apply Kd.R_drew)); exact HO_30.out⟩, ⟨zHB⟩⟩
            · rw [if_neg c18] at H
              have c18b0 := decide_eq_false c18
              clear c18
              obtain rfl := Option.some.inj H
              go_wp2
              go_ret
              exact ⟨_, zE, by (with_reducible repeat (first | apply Kd.R_alloc | apply Kd.R_drewN | apply Kd.R_drew)); exact HO_8.out, zHB⟩

/-! ### block_Taken: function 85, by hand -/
def takenAt (ts : List (Int × Int × Int × Int × Int)) (j : Nat) : List Int := if (ts.getD j (0, 0, 0, 0, 0)).1 = 20 then [(ts.getD j (0, 0, 0, 0, 0)).2.2.2.2] else []
def block_Taken.f (k : Nat) (a0_0 : List Int) (a0_1 : Int) (a0_2 : List Int) : Option (List Int × Int) := gathered k takenAt a0_0 a0_1 a0_2
theorem block_Taken.mono : ∀ a0 a1 a2 k, LeO (block_Taken.f k a0 a1 a2) (block_Taken.f (k + 1) a0 a1 a2) := fun a0 a1 a2 k => gathered_mono k takenAt a0 a1 a2
set_option maxRecDepth 100000 in
set_option maxHeartbeats 4000000 in
theorem taken_marks (k : Nat) (l : List Int) (ts : List (Int × Int × Int × Int × Int)) (hts : decs k l = some ts) (w : World) : Marks k 110 #[] w l (takenAt ts) := by
  intro W S b c at_ L t0 t1 t2 t3 t4 hat hbel hb hS hc hdec hn0 hn1
  have hg := (decs_get hts).2 at_ hat
  have ht : ts.getD at_ (0, 0, 0, 0, 0) = (t0, t1, t2, t3, t4) := Option.some.inj (hg.1.symm.trans hdec)
  have HS := Aside0.mk hS
  clear hS hg hdec hts
  by_cases h20 : t0 = 20
  · have e : takenAt ts at_ = [t4] := by unfold takenAt; rw [ht, if_pos h20]
    rw [e]
    have h1 : (t0 == 20) = true := by simpa using h20
    clear e ht h20
    go_enter Try.func110, Try.ntmps110
    go_wp2_with (go_at_call 116; refine (gather_see S b c L t4 _ (HS.out.below ((Below.refl _ _).alloc (Nat.le_refl _) _)) (by omega) (by omega) (by have : maxLen = 9223372036854775807 := rfl; omega)).mono ?_; rintro e w1 ⟨rfl, hs1, hk1⟩)
    go_end0
    exact ⟨rfl, hs1, (KeptB.of_below ((Below.refl _ _).alloc (Nat.le_refl _) _)).trans hk1⟩
  · have e : takenAt ts at_ = [] := by unfold takenAt; rw [ht, if_neg h20]
    rw [e]
    have h1 : (t0 == 20) = false := by simpa using h20
    clear e ht h20
    go_enter Try.func110, Try.ntmps110
    go_wp2
    go_end0
    exact ⟨rfl, HS.out.below ((Below.refl _ _).alloc (Nat.le_refl _) _), KeptB.of_below ((Below.refl _ _).alloc (Nat.le_refl _) _)⟩
set_option maxRecDepth 100000 in
set_option maxHeartbeats 4000000 in
theorem block_Taken.calls (k : Nat) (A0_0 : Option Addr) (c0_0 : Nat) (l0_0 : List Int) (a0_1 : Int) (A0_2 : Option Addr) (c0_2 : Nat) (l0_2 : List Int) (r1 : List Int) (r2 : Int) (w : World) (hr0_0 : Kd.C (Kd.int .u32) w A0_0 l0_0.length l0_0) (hc0_0 : l0_0.length ≤ c0_0) (hr0_2 : Kd.C (Kd.int .i64) w A0_2 l0_2.length l0_2) (hc0_2 : l0_2.length ≤ c0_2) (h : block_Taken.f k l0_0 a0_1 l0_2 = some (r1, r2)) :
    Calls Try.prog 85 #[.agg #[.slice A0_0 l0_0.length c0_0, .int .i64 a0_1, .slice A0_2 l0_2.length c0_2]] w fun e w' => ∃ v0_ : Value, e = .returned (.tuple #[v0_, .int .i64 r2]) ∧ Kd.R (Kd.int .i64) 3 w' w.heap.size (fun _ => True) v0_ r1 ∧ Below w.heap.size w w' := by
  unfold block_Taken.f gathered at h
  obtain ⟨⟨e1, e2⟩, h0, h⟩ := Option.bind_eq_some_iff.1 h
  have A0 := Aside0.mk h0
  have HR0 := Aside0.mk (Kd.C_alloc hr0_0 (.cells #[.slice A0_0 l0_0.length c0_0, .int .i64 a0_1, .slice A0_2 l0_2.length c0_2] 25))
  have HR2 := Aside0.mk (Kd.C_alloc hr0_2 (.cells #[.slice A0_0 l0_0.length c0_0, .int .i64 a0_1, .slice A0_2 l0_2.length c0_2] 25))
  clear h0 hr0_0 hr0_2
  by_cases he : e1 = 0
  · subst he
    rw [if_pos rfl] at h
    by_cases hl : l0_0.length ≤ 16384
    · rw [if_pos hl] at h
      obtain ⟨ts, h1, h2⟩ := Option.bind_eq_some_iff.1 h
      obtain ⟨rfl, rfl⟩ := Prod.mk.inj (Option.some.inj h2)
      have H1 := Aside0.mk h1
      clear h h1 h2
      go_enter Try.func85, Try.ntmps85
      go_wp2_with (go_at_call 98; refine (gather_calls k A0_0 c0_0 l0_0 a0_1 A0_2 c0_2 l0_2 e2 _ _ (takenAt ts) _ HR0.out hc0_0 HR2.out hc0_2 A0.out (fun j hj => ⟨_, (decs_get H1.out).2 j hj⟩) hl (fun j => by unfold takenAt; split <;> simp) (taken_marks k l0_0 ts H1.out _) (fun _ _ => rfl)).mono ?_; rintro e w1 ⟨v, rfl, hv, hb1⟩)
      go_ret2
      exact ⟨v, rfl, Kd.R_lower hv (by simp), ((Below.refl w.heap.size w).alloc (Nat.le_refl _) _).trans (hb1.mono (by simp))⟩
    · rw [if_neg hl] at h
      cases h
  · rw [if_neg he] at h
    obtain ⟨rfl, rfl⟩ := Prod.mk.inj (Option.some.inj h)
    have HE := Aside0.mk he
    clear h he
    go_enter Try.func85, Try.ntmps85
    go_wp2_with (go_at_call 98; refine (gather_err k A0_0 c0_0 l0_0 a0_1 A0_2 c0_2 l0_2 e1 e2 _ _ _ HR0.out hc0_0 HR2.out hc0_2 A0.out HE.out).mono ?_; rintro e w1 ⟨rfl, hb1⟩)
    go_ret2
    exact ⟨_, rfl, Kd.R_nil _ _ _ _ _, ((Below.refl w.heap.size w).alloc (Nat.le_refl _) _).trans (hb1.mono (by simp))⟩

/-! ### block_Sites: function 86, by hand -/
def siteAt (ts : List (Int × Int × Int × Int × Int)) (j : Nat) : List Int := if (ts.getD j (0, 0, 0, 0, 0)).1 = 17 ∨ (ts.getD j (0, 0, 0, 0, 0)).1 = 18 then [(j : Int) + 1] else []
def block_Sites.f (k : Nat) (a0_0 : List Int) (a0_1 : Int) (a0_2 : List Int) : Option (List Int × Int) := gathered k siteAt a0_0 a0_1 a0_2
theorem block_Sites.mono : ∀ a0 a1 a2 k, LeO (block_Sites.f k a0 a1 a2) (block_Sites.f (k + 1) a0 a1 a2) := fun a0 a1 a2 k => gathered_mono k siteAt a0 a1 a2
set_option maxRecDepth 100000 in
set_option maxHeartbeats 4000000 in
theorem sites_marks (k : Nat) (l : List Int) (ts : List (Int × Int × Int × Int × Int)) (hts : decs k l = some ts) (hln : l.length ≤ 16384) (w : World) : Marks k 111 #[] w l (siteAt ts) := by
  intro W S b c at_ L t0 t1 t2 t3 t4 hat hbel hb hS hc hdec hn0 hn1
  have hg := (decs_get hts).2 at_ hat
  have ht : ts.getD at_ (0, 0, 0, 0, 0) = (t0, t1, t2, t3, t4) := Option.some.inj (hg.1.symm.trans hdec)
  have HS := Aside0.mk hS
  clear hS hg hdec hts
  by_cases h17 : t0 = 17
  · have e : siteAt ts at_ = [(at_ : Int) + 1] := by unfold siteAt; rw [ht, if_pos (.inl h17)]
    rw [e]
    have h1 : (t0 == 17) = true := by simpa using h17
    have ha : (at_ : Int) + 1 ≤ 16384 := by omega
    clear e ht h17
    go_enter Try.func111, Try.ntmps111
    go_wp2_with (go_at_call 116; refine (gather_see S b c L ((at_ : Int) + 1) _ (HS.out.below ((Below.refl _ _).alloc (Nat.le_refl _) _)) (by omega) (by omega) (by have : maxLen = 9223372036854775807 := rfl; omega)).mono ?_; rintro e w1 ⟨rfl, hs1, hk1⟩)
    go_end0
    exact ⟨rfl, hs1, (KeptB.of_below ((Below.refl _ _).alloc (Nat.le_refl _) _)).trans hk1⟩
  · have h1 : (t0 == 17) = false := by simpa using h17
    by_cases h18 : t0 = 18
    · have e : siteAt ts at_ = [(at_ : Int) + 1] := by unfold siteAt; rw [ht, if_pos (.inr h18)]
      rw [e]
      have h2 : (t0 == 18) = true := by simpa using h18
      have ha : (at_ : Int) + 1 ≤ 16384 := by omega
      clear e ht h17 h18
      go_enter Try.func111, Try.ntmps111
      go_wp2_with (go_at_call 116; refine (gather_see S b c L ((at_ : Int) + 1) _ (HS.out.below ((Below.refl _ _).alloc (Nat.le_refl _) _)) (by omega) (by omega) (by have : maxLen = 9223372036854775807 := rfl; omega)).mono ?_; rintro e w1 ⟨rfl, hs1, hk1⟩)
      go_end0
      exact ⟨rfl, hs1, (KeptB.of_below ((Below.refl _ _).alloc (Nat.le_refl _) _)).trans hk1⟩
    · have e : siteAt ts at_ = [] := by unfold siteAt; rw [ht, if_neg (by omega)]
      rw [e]
      have h2 : (t0 == 18) = false := by simpa using h18
      clear e ht h17 h18
      go_enter Try.func111, Try.ntmps111
      go_wp2
      go_end0
      exact ⟨rfl, HS.out.below ((Below.refl _ _).alloc (Nat.le_refl _) _), KeptB.of_below ((Below.refl _ _).alloc (Nat.le_refl _) _)⟩
set_option maxRecDepth 100000 in
set_option maxHeartbeats 4000000 in
theorem block_Sites.calls (k : Nat) (A0_0 : Option Addr) (c0_0 : Nat) (l0_0 : List Int) (a0_1 : Int) (A0_2 : Option Addr) (c0_2 : Nat) (l0_2 : List Int) (r1 : List Int) (r2 : Int) (w : World) (hr0_0 : Kd.C (Kd.int .u32) w A0_0 l0_0.length l0_0) (hc0_0 : l0_0.length ≤ c0_0) (hr0_2 : Kd.C (Kd.int .i64) w A0_2 l0_2.length l0_2) (hc0_2 : l0_2.length ≤ c0_2) (h : block_Sites.f k l0_0 a0_1 l0_2 = some (r1, r2)) :
    Calls Try.prog 86 #[.agg #[.slice A0_0 l0_0.length c0_0, .int .i64 a0_1, .slice A0_2 l0_2.length c0_2]] w fun e w' => ∃ v0_ : Value, e = .returned (.tuple #[v0_, .int .i64 r2]) ∧ Kd.R (Kd.int .i64) 3 w' w.heap.size (fun _ => True) v0_ r1 ∧ Below w.heap.size w w' := by
  unfold block_Sites.f gathered at h
  obtain ⟨⟨e1, e2⟩, h0, h⟩ := Option.bind_eq_some_iff.1 h
  have A0 := Aside0.mk h0
  have HR0 := Aside0.mk (Kd.C_alloc hr0_0 (.cells #[.slice A0_0 l0_0.length c0_0, .int .i64 a0_1, .slice A0_2 l0_2.length c0_2] 25))
  have HR2 := Aside0.mk (Kd.C_alloc hr0_2 (.cells #[.slice A0_0 l0_0.length c0_0, .int .i64 a0_1, .slice A0_2 l0_2.length c0_2] 25))
  clear h0 hr0_0 hr0_2
  by_cases he : e1 = 0
  · subst he
    rw [if_pos rfl] at h
    by_cases hl : l0_0.length ≤ 16384
    · rw [if_pos hl] at h
      obtain ⟨ts, h1, h2⟩ := Option.bind_eq_some_iff.1 h
      obtain ⟨rfl, rfl⟩ := Prod.mk.inj (Option.some.inj h2)
      have H1 := Aside0.mk h1
      clear h h1 h2
      go_enter Try.func86, Try.ntmps86
      go_wp2_with (go_at_call 98; refine (gather_calls k A0_0 c0_0 l0_0 a0_1 A0_2 c0_2 l0_2 e2 _ _ (siteAt ts) _ HR0.out hc0_0 HR2.out hc0_2 A0.out (fun j hj => ⟨_, (decs_get H1.out).2 j hj⟩) hl (fun j => by unfold siteAt; split <;> simp) (sites_marks k l0_0 ts H1.out hl _) (fun _ _ => rfl)).mono ?_; rintro e w1 ⟨v, rfl, hv, hb1⟩)
      go_ret2
      exact ⟨v, rfl, Kd.R_lower hv (by simp), ((Below.refl w.heap.size w).alloc (Nat.le_refl _) _).trans (hb1.mono (by simp))⟩
    · rw [if_neg hl] at h
      cases h
  · rw [if_neg he] at h
    obtain ⟨rfl, rfl⟩ := Prod.mk.inj (Option.some.inj h)
    have HE := Aside0.mk he
    clear h he
    go_enter Try.func86, Try.ntmps86
    go_wp2_with (go_at_call 98; refine (gather_err k A0_0 c0_0 l0_0 a0_1 A0_2 c0_2 l0_2 e1 e2 _ _ _ HR0.out hc0_0 HR2.out hc0_2 A0.out HE.out).mono ?_; rintro e w1 ⟨rfl, hb1⟩)
    go_ret2
    exact ⟨_, rfl, Kd.R_nil _ _ _ _ _, ((Below.refl w.heap.size w).alloc (Nat.le_refl _) _).trans (hb1.mono (by simp))⟩

end Go.Proofs.Ytfgdjpgdabjpmaa.PEdgeRuns
