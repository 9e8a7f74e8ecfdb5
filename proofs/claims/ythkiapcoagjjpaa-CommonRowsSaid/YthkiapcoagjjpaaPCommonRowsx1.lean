-- Written for this claim by a program of this session (wip/tools/pp.py, over the kit's print).
import Derived.Test.YthkiapcoagjjpaaPCommonRowsx0
namespace Go.Proofs.Ythkiapcoagjjpaa.PCommonRows
open Go.RowKit Go.Proofs.YthkiapcoagjjpaaW.PrintWords Go.Proofs.YthkiapcoagjjpaaW.PrintLast Go.Proofs.YthkiapcoagjjpaaW.PrintMore
attribute [local go_sem] max2_int min2_int max_two min_two max_three min_three max_four min_four   -- for this text's walks alone
set_option linter.unusedVariables false
set_option linter.unusedSimpArgs false

/-! ### slices_Min_int_int: function 32, by hand -/
/-- The least of the first so many. -/
def minF (l : List Int) : Nat → Int
  | 0 => 0
  | 1 => rd l ((0 : Nat) : Int)
  | k + 2 => if rd l ((k + 1 : Nat) : Int) < minF l (k + 1) then rd l ((k + 1 : Nat) : Int) else minF l (k + 1)
theorem minF_succ (l : List Int) {i : Nat} (h : 1 ≤ i) : minF l (i + 1) = if rd l (i : Int) < minF l i then rd l (i : Int) else minF l i := by
  obtain ⟨j, rfl⟩ : ∃ j, i = j + 1 := ⟨i - 1, by omega⟩
  rfl
set_option maxRecDepth 100000 in
set_option maxHeartbeats 4000000 in
theorem min_calls (A : Option Addr) (c : Nat) (l : List Int) (W : World) (hr : Kd.C (Kd.int .i64) W A l.length l) (hc : l.length ≤ c) (hl : 0 < l.length) (hn : l.length ≤ 1000000000) :
    Calls Try.prog 32 #[.slice A l.length c] W fun e W' => e = .returned (.int .i64 (minF l l.length)) ∧ Drawn0 W W' := by
  obtain ⟨ad, e, c3⟩ := Kd.at_int hr 0 (by omega) (by omega)
  subst e
  have c3' : W.cell? ad = some (.int .i64 (rd l 0)) := by have h := c3; rwa [show ad.add (Int.toNat 0) = ad from by unfold Addr.add; split <;> simp_all] at h
  have HR := Aside0.mk hr
  clear c3
  obtain ⟨n, hnn⟩ : ∃ n, n = l.length := ⟨_, rfl⟩
  rw [← hnn] at hc hl hn ⊢
  have HNN := Aside0.mk hnn
  have d1 : decide ((n : Int) < 1) = false := decide_eq_false (by omega)
  have hl2 : (0 : Int) < (n : Int) := by omega
  clear hr hnn
  go_enter Try.func32, Try.ntmps32
  go_wp2
  go_loopg [3, 4] n (fun g v3 v4 wr => ∃ i : Nat, v4 = .int .i64 i ∧ v3 = .int .i64 (minF l i) ∧ 1 ≤ i ∧ i ≤ n ∧ i + g = n + 1 ∧ wr = W) 
  case atStart => exact ⟨1, rfl, rfl, by omega, by omega, by omega, rfl⟩
  case round =>
    obtain ⟨i, rfl, rfl, hi, hi2, hg, rfl⟩ := hrel
    by_cases hin : i < n
    · obtain ⟨g, rfl⟩ : ∃ g, gk = g + 1 := ⟨gk - 1, by omega⟩
      obtain ⟨ad2, e2, c4⟩ := Kd.at_int HR.out i (by omega) (by have := HNN.out; omega)
      cases e2
      rw [Int.toNat_natCast] at c4
      have hin2 : (i : Int) < (n : Int) := by omega
      have d2 : decide ((i : Int) < (n : Int)) = true := decide_eq_true hin2
      have hm := minF_succ l hi
      have HM := Aside0.mk hm
      clear hm
      go_wp2
      all_goals
        go_roundg g
        case measure => omega
        case rel => exact ⟨i + 1, (by first | rfl | (congr 1; omega)), by rw [HM.out]; first | rw [if_pos (by assumption)] | rw [if_neg (by omega)], by omega, by omega, by omega, rfl⟩
    · have d2 : decide ((i : Int) < (n : Int)) = false := decide_eq_false (by omega)
      obtain rfl : i = n := by omega
      go_wp2
      go_ret
      exact ⟨rfl, 0, rfl⟩
def slices_Min_int_int.f (l0 : List Int) : Option Int := if 0 < l0.length ∧ l0.length ≤ 1000000000 then some (minF l0 l0.length) else none
theorem slices_Min_int_int.calls (A0 : Option Addr) (c0 : Nat) (l0 : List Int) (r : Int) (w : World) (hr0 : Kd.C (Kd.int .i64) w A0 l0.length l0) (hc0 : l0.length ≤ c0) (h : slices_Min_int_int.f l0 = some r) :
    Calls Try.prog 32 #[.slice A0 l0.length c0] w fun e w' => e = .returned (.int .i64 r) ∧ Drawn0 w w' := by
  unfold slices_Min_int_int.f at h
  by_cases hb : 0 < l0.length ∧ l0.length ≤ 1000000000
  · rw [if_pos hb] at h
    cases h
    exact min_calls A0 c0 l0 w hr0 hc0 hb.1 hb.2
  · rw [if_neg hb] at h; cases h

/-! ### common_Least: function 13 -/
def common_Least.j0 : Nat → List Int → Int → Int → Bool → Option (Int × Int)
  | 0, _, _, _, _ => none
  | k + 1, x0, x1, x2, x8 => if x8 = true then (some (0, 1)) else (if x1 = x2 then (some ((-1), 0)) else (if 0 ≤ (wrap64 ((mn x1 x2) + 1)) then (if (wrap64 ((mn x1 x2) + 1)) ≤ (wrap64 ((mx x1 x2) + 1)) then (if (wrap64 ((mx x1 x2) + 1)) ≤ (x0.length : Int) then ((slices_Min_int_int.f ((x0.take ((wrap64 ((mx x1 x2) + 1)) : Int).toNat).drop ((wrap64 ((mn x1 x2) + 1)) : Int).toNat)).bind fun t102 => (some (t102, 0))) else (none)) else (none)) else (none)))
def common_Least.f (k : Nat) (l0 : List Int) (a1 : Int) (a2 : Int) : Option (Int × Int) := if a1 < 0 then (common_Least.j0 k l0 a1 a2 true) else (if a2 < 0 then (common_Least.j0 k l0 a1 a2 true) else (if a1 ≥ (l0.length : Int) then (common_Least.j0 k l0 a1 a2 true) else (common_Least.j0 k l0 a1 a2 (decide (a2 ≥ (l0.length : Int))))))
theorem common_Least.mono_l : ∀ k, (∀ y0 y1 y2 y3, LeO (common_Least.j0 k y0 y1 y2 y3) (common_Least.j0 (k + 1) y0 y1 y2 y3))
  | 0 => fun _ _ _ _ r h => by simp [common_Least.j0] at h
  | k + 1 => by
    have ih0 := common_Least.mono_l k
    · intro y0 y1 y2 y3
      unfold common_Least.j0
      exact zMo
theorem common_Least.mono : ∀ a0 a1 a2 k, LeO (common_Least.f k a0 a1 a2) (common_Least.f (k + 1) a0 a1 a2) := by
  intro a0 a1 a2 k
  have ih0 := common_Least.mono_l k
  unfold common_Least.f
  exact zMo
set_option maxHeartbeats 8000000 in
set_option maxRecDepth 100000 in
theorem common_Least.calls (k : Nat) (A0 : Option Addr) (c0 : Nat) (l0 : List Int) (a1 : Int) (a2 : Int) (r1 : Int) (r2 : Int) (w : World) (hr0 : Kd.C (Kd.int .i64) w A0 l0.length l0) (hc0 : l0.length ≤ c0) (h : common_Least.f k l0 a1 a2 = some (r1, r2)) :
    Calls Try.prog 13 #[.slice A0 l0.length c0, .int .i64 a1, .int .i64 a2] w fun e w' => e = .returned (.tuple #[.int .i64 r1, .int .i64 r2]) ∧ Below w.heap.size w w' := by
  have HR0 := Aside0.mk hr0
  have HC0 := Aside0.mk hc0
  clear hr0 hc0
  have HB := Aside0.mk (Below.refl w.heap.size w)
  have H := h
  clear h
  unfold common_Least.f at H
  have HC4 := Aside0.mk H
  clear H
  go_enter Try.func13, Try.ntmps13
  go_upto_region 1 with (fail)
  go_cut [8] (fun v8 wc => ∃ (kq : Nat) (x8_3 : Bool), v8 = .bool x8_3 ∧ Aside0 (common_Least.j0 kq l0 a1 a2 x8_3 = some (r1, r2)) ∧ Aside0 (kq ≤ k) ∧ Aside0 (Below w.heap.size w wc))
  case first =>
    have H := HC4.out
    clear HC4
    by_cases c5 : a1 < 0
    · rw [if_pos c5] at H
      have c5b0 := decide_eq_true c5
      clear c5
      (first | rw [c5b0] | (simp only [i64_w, i32_w]; rw [c5b0]) | skip)
      have H' := Aside0.mk H
      clear H
      go_wp2
      go_meet
      case rel => exact ⟨_, (true), zF', H', ⟨zL⟩, ⟨zHB⟩⟩
    · rw [if_neg c5] at H
      have c5b0 := decide_eq_false c5
      clear c5
      (first | rw [c5b0] | (simp only [i64_w, i32_w]; rw [c5b0]) | skip)
      by_cases c6 : a2 < 0
      · rw [if_pos c6] at H
        have c6b0 := decide_eq_true c6
        clear c6
        have H' := Aside0.mk H
        clear H
        go_wp2
        go_meet
        case rel => exact ⟨_, (true), zF', H', ⟨zL⟩, ⟨zHB⟩⟩
      · rw [if_neg c6] at H
        have c6b0 := decide_eq_false c6
        clear c6
        by_cases c7 : a1 ≥ (l0.length : Int)
        · rw [if_pos c7] at H
          have c7b0 : decide ((l0.length : Int) ≤ a1) = true := decide_eq_true c7
          clear c7
          have H' := Aside0.mk H
          clear H
          go_wp2
          go_meet
          case rel => exact ⟨_, (true), zF', H', ⟨zL⟩, ⟨zHB⟩⟩
        · rw [if_neg c7] at H
          have c7b0 : decide ((l0.length : Int) ≤ a1) = false := decide_eq_false c7
          clear c7
          have H' := Aside0.mk H
          clear H
          go_wp2
          go_meet
          case rel => exact ⟨_, (decide (a2 ≥ (l0.length : Int))), zF', H', ⟨zL⟩, ⟨zHB⟩⟩
  case rest =>
    clear HC4
    obtain ⟨kq, x8_3, rfl, HA, HJ3, HB⟩ := hcut
    cases kq with
    | zero => exact absurd HA.out (by simp [common_Least.j0])
    | succ kj3 =>
      have H := HA.out
      clear HA
      simp only [common_Least.j0] at H
      by_cases c8 : x8_3 = true
      · subst c8
        rw [if_pos rfl] at H
        simp only [Option.some.injEq, Prod.mk.injEq] at H
        obtain ⟨rfl, rfl⟩ := H
        go_wp2
        go_ret2
        exact ⟨zE, zHB⟩
      · replace c8 := Bool.eq_false_iff.mpr c8
        subst c8
        rw [if_neg (show ¬ (false = true) by decide)] at H
        by_cases c9 : a1 = a2
        · rw [if_pos c9] at H
          have c9b0 := beq_iff_eq.mpr c9
          have c9b1 := bne_eq_false_iff_eq.mpr c9
          clear c9
          simp only [Option.some.injEq, Prod.mk.injEq] at H
          obtain ⟨rfl, rfl⟩ := H
          go_wp2
          go_ret2
          exact ⟨zE, zHB⟩
        · rw [if_neg c9] at H
          have c9b0 := beq_eq_false_iff_ne.mpr c9
          have c9b1 := bne_iff_ne.mpr c9
          obtain ⟨ji10, hji10⟩ : ∃ j_ : Int, (mn a1 a2) = j_ := ⟨_, rfl⟩
          (first | rw [hji10] at H | simp only [hji10] at H)
          have hji10_ : (if a2 < a1 then a2 else a1) = ji10 := hji10
          obtain ⟨ji11, hji11⟩ : ∃ j_ : Int, (mx a1 a2) = j_ := ⟨_, rfl⟩
          (first | rw [hji11] at H | simp only [hji11] at H)
          have hji11_ : (if a1 < a2 then a2 else a1) = ji11 := hji11
          obtain ⟨ji12, hji12⟩ : ∃ j_ : Int, (wrap64 ((ji10) + 1)) = j_ := ⟨_, rfl⟩
          (first | rw [hji12] at H | simp only [hji12] at H)
          have hji12w : (IntKind.i64.wrap ((ji10) + 1)) = ji12 := (i64_w _).trans hji12
          obtain ⟨c13, H⟩ := zG H
          have c13b0 := eq_true c13
          have c13b1 : decide (0 ≤ (ji12)) = true := decide_eq_true c13
          clear c13
          obtain ⟨c14, H⟩ := zG H
          have c14b0 := eq_true c14
          have c14b1 : decide ((ji12) ≤ (wrap64 ((ji11) + 1))) = true := decide_eq_true c14
          obtain ⟨c15, H⟩ := zG H
          have c15b0 := eq_true c15
          have c15b1 : decide ((wrap64 ((ji11) + 1)) ≤ (l0.length : Int)) = true := decide_eq_true c15
          replace H := Option.bind_eq_some_iff.mp H
          obtain ⟨t102, A160, H⟩ := H
          (try dsimp only at H)
          have A16 := Aside0.mk A160
          clear A160
          simp only [Option.some.injEq, Prod.mk.injEq] at H
          obtain ⟨rfl, rfl⟩ := H
          obtain ⟨i017, hi017, _, hsz17, _⟩ := info_parts info3
          obtain ⟨A17, hcut17, hA17, hC17⟩ := print_mid_of (P := Try.prog) (Value.int .i64) 0 31 3 .i64 .i64 Try.underlying31 hi017 hsz17 A0 c0 l0 (ji12) (wrap64 ((ji11) + 1)) (zOD) (by first | omega | exact zOD) (zOD) HC0.out
          have HR101 := Aside0.mk (show Kd.C (Kd.int .i64) _ _ _ _ from Kd.C_of_reads (h1 := fun _ => rfl) (hA17 _ (Kd.reads_of_C HR0.out)))
          have HC101 := Aside0.mk hC17
          clear hA17 hC17 hi017 hsz17
          go_wp2_with (first | ((with_reducible refine gate_callee (f := 32) rfl ?_); refine goesL_ (some 41) rfl rfl Try.func32 (by kernel_rfl) rfl #[.slice A17 ((l0.take ((wrap64 ((ji11) + 1)) : Int).toNat).drop ((ji12) : Int).toNat).length (c0 - (ji12).toNat)] rfl (by (try simp only [List.map_toArray, List.map_cons, List.map_nil]); first | done | (rw [show ((l0.take ((wrap64 ((ji11) + 1)) : Int).toNat).drop ((ji12) : Int).toNat).length = ((wrap64 ((ji11) + 1)).toNat - (ji12).toNat) from (by rw [List.length_drop, List.length_take]; have h_ : ((wrap64 ((ji11) + 1)) : Int) ≤ (l0.length : Int) := zOD; omega)] <;> rfl) | (simp only [hji11, hji12]; rfl) | rfl | (simp only [List.length_drop, List.length_take]; rfl)) ?_; (with_reducible refine (slices_Min_int_int.calls _ _ ((l0.take ((wrap64 ((ji11) + 1)) : Int).toNat).drop ((ji12) : Int).toNat) t102 _ ?side1 ?side2 A16.out).mono ?_); (case side1 => exact zS); (case side2 => exact zS); rintro e w' ⟨rfl, ⟨nd, rfl⟩⟩; refine ⟨_, rfl, ?_⟩))
          go_ret2
          exact ⟨by first | rfl | (simp [errW_none, errW_some] <;> rfl) | (simp only [← hji10, ← hji11, ← hji12]; first | rfl | (simp [errW_none, errW_some] <;> rfl)) | (simp [*, errW_none, errW_some] <;> rfl), zHB⟩

/-! ### common_Group: function 15, by hand -/
/-! ### common.Group -/
theorem blk_one' {W : World} {g : Nat} {a : Value} {t : TypeId} (h : W.heap[g]? = some (.cells #[a] t (0, 0))) : W.cell? ⟨g, 0, none⟩ = some a := (blk_cell h 0).trans rfl
def GRow (W : World) (g : Nat) (l : List Int) : Prop := ∃ (A : Option Addr) (c : Nat), W.heap[g]? = some (.cells #[.slice A l.length c] 31 (0, 0)) ∧ l.length ≤ c ∧ Kd.C (Kd.int .i64) W A l.length l
def GNum (W : World) (g : Nat) (v : Int) : Prop := W.heap[g]? = some (.cells #[.int .i64 v] 3 (0, 0))
def gHolds (l : List Int) (len i : Int) : Bool := decide (0 < i ∧ i < (l.length : Int) ∧ len ≤ rd l i)
set_option maxRecDepth 100000 in
set_option maxHeartbeats 4000000 in
theorem holds_calls (gp gl : Nat) (l : List Int) (len i : Int) (W : World) (h1 : GRow W gp l) (h2 : GNum W gl len) :
    Calls Try.prog 33 #[.int .i64 i, .pointer (some ⟨gp, 0, none⟩), .pointer (some ⟨gl, 0, none⟩)] W fun e W' => e = .returned (.bool (gHolds l len i)) ∧ Drawn0 W W' := by
  obtain ⟨A, c, k1, k2, k3⟩ := h1
  have c1 := blk_one' k1
  have c2 := blk_one' h2
  have K3 := Aside0.mk k3
  have HV : Aside0 (gHolds l len i = decide (0 < i ∧ i < (l.length : Int) ∧ len ≤ rd l i)) := ⟨rfl⟩
  clear k1 h2 k3
  by_cases a : 0 < i
  · have d1 : decide (i > 0) = true := decide_eq_true a
    by_cases b : i < (l.length : Int)
    · have d2 : decide (i < (l.length : Int)) = true := decide_eq_true b
      obtain ⟨ad, e, c4⟩ := Kd.at_int K3.out i (by omega) b
      subst e
      have q0 : 0 ≤ i := by omega
      by_cases x : len ≤ rd l i
      · have d3 : decide (rd l i ≥ len) = true := decide_eq_true x
        have HV2 : Aside0 (gHolds l len i = true) := ⟨by rw [HV.out]; exact decide_eq_true ⟨a, b, x⟩⟩
        generalize rd l i = v at *
        clear x
        go_enter Try.func33, Try.ntmps33
        go_wp2
        go_region
        go_wp2
        go_ret
        exact ⟨by rw [HV2.out]; rfl, 1, rfl⟩
      · have d3 : decide (rd l i ≥ len) = false := decide_eq_false x
        have HV2 : Aside0 (gHolds l len i = false) := ⟨by rw [HV.out]; exact decide_eq_false (fun hh => x hh.2.2)⟩
        generalize rd l i = v at *
        clear x
        go_enter Try.func33, Try.ntmps33
        go_wp2
        go_region
        go_wp2
        go_ret
        exact ⟨by rw [HV2.out]; rfl, 1, rfl⟩
    · have d2 : decide (i < (l.length : Int)) = false := decide_eq_false b
      have HV2 : Aside0 (gHolds l len i = false) := ⟨by rw [HV.out]; exact decide_eq_false (fun hh => b hh.2.1)⟩
      go_enter Try.func33, Try.ntmps33
      go_wp2
      go_region
      go_wp2
      go_ret
      exact ⟨by rw [HV2.out]; rfl, 1, rfl⟩
  · have d1 : decide (i > 0) = false := decide_eq_false a
    have HV2 : Aside0 (gHolds l len i = false) := ⟨by rw [HV.out]; exact decide_eq_false (fun hh => a hh.1)⟩
    go_enter Try.func33, Try.ntmps33
    go_wp2
    go_region
    go_wp2
    go_ret
    exact ⟨by rw [HV2.out]; rfl, 1, rfl⟩
def gDown (l : List Int) (len : Int) : Nat → Int → Int
  | 0, i => i
  | k + 1, i => if gHolds l len i = true then gDown l len k (i - 1) else i
def gUp (l : List Int) (len : Int) : Nat → Int → Int
  | 0, i => i
  | k + 1, i => if gHolds l len i = true then gUp l len k (i + 1) else i
theorem gHolds_in {l : List Int} {len i : Int} (h : gHolds l len i = true) : 0 < i ∧ i < (l.length : Int) := by
  have := of_decide_eq_true h
  exact ⟨this.1, this.2.1⟩
theorem GRow.drawn {W W' : World} {g : Nat} {l : List Int} (h : GRow W g l) (hd : Drawn0 W W') : GRow W' g l := by
  obtain ⟨A, c, h1, h2, h3⟩ := h
  exact ⟨A, c, blk_below h1 hd.below, h2, Kd.C_below h3 hd.below⟩
def common_Group.f (l0 : List Int) (a1 a2 : Int) : Option (Int × Int × Int) :=
  if a1 < 0 ∨ (l0.length : Int) ≤ a1 ∨ a2 < 0 then some (0, 0, 1) else if 1000000000 < l0.length then none else some (gDown l0 a2 l0.length a1, gUp l0 a2 l0.length (a1 + 1), 0)
set_option maxRecDepth 100000 in
set_option maxHeartbeats 4000000 in
theorem common_Group.calls (A0 : Option Addr) (c0 : Nat) (l0 : List Int) (a1 : Int) (a2 : Int) (r1 : Int) (r2 : Int) (r3 : Int) (w : World) (hr0 : Kd.C (Kd.int .i64) w A0 l0.length l0) (hc0 : l0.length ≤ c0) (h : common_Group.f l0 a1 a2 = some (r1, r2, r3)) :
    Calls Try.prog 15 #[.slice A0 l0.length c0, .int .i64 a1, .int .i64 a2] w fun e w' => e = .returned (.tuple #[.int .i64 r1, .int .i64 r2, .int .i64 r3]) ∧ Below w.heap.size w w' := by
  have hmf : ∀ (fn : Fn) (first cap : Array Value) (w : World), (Instr.makeFunc fn first cap).run Try.prog w = .ok (.func fn first cap) w := fun _ _ _ _ => rfl
  have HR := Aside0.mk hr0; have HC := Aside0.mk hc0
  unfold common_Group.f at h
  clear hr0 hc0
  have hk1 : ((w.alloc (.cells #[.slice A0 l0.length c0] 31)).alloc (.cells #[.int .i64 a2] 3)).heap[w.heap.size]? = some (.cells #[.slice A0 l0.length c0] 31 (0, 0)) := blk_alloc (blk_new w _) _
  have hk2 : ((w.alloc (.cells #[.slice A0 l0.length c0] 31)).alloc (.cells #[.int .i64 a2] 3)).heap[w.heap.size + 1]? = some (.cells #[.int .i64 a2] 3 (0, 0)) := by
    have h9 := blk_new (w.alloc (.cells #[.slice A0 l0.length c0] 31)) (.cells #[.int .i64 a2] 3)
    rwa [show (w.alloc (.cells #[.slice A0 l0.length c0] 31)).heap.size = w.heap.size + 1 by simp] at h9
  have hb : Below w.heap.size w ((w.alloc (.cells #[.slice A0 l0.length c0] 31)).alloc (.cells #[.int .i64 a2] 3)) := ((Below.refl _ w).alloc (Nat.le_refl _) _).alloc (by simp) _
  have hg1 : GRow ((w.alloc (.cells #[.slice A0 l0.length c0] 31)).alloc (.cells #[.int .i64 a2] 3)) w.heap.size l0 := ⟨A0, c0, hk1, HC.out, Kd.C_below HR.out hb⟩
  have G1 := Aside0.mk hg1; have G2 := Aside0.mk hk2; have HB := Aside0.mk hb
  clear hk1 hk2 hb hg1
  by_cases he : a1 < 0 ∨ (l0.length : Int) ≤ a1 ∨ a2 < 0
  · rw [if_pos he] at h
    have h := Option.some.inj h
    have e1 : r1 = 0 ∧ r2 = 0 ∧ r3 = 1 := ⟨(Prod.mk.inj h).1.symm, (Prod.mk.inj (Prod.mk.inj h).2).1.symm, (Prod.mk.inj (Prod.mk.inj h).2).2.symm⟩
    obtain ⟨rfl, rfl, rfl⟩ := e1
    clear h
    by_cases c1 : a1 < 0
    · have d1 : decide (a1 < 0) = true := decide_eq_true c1
      go_enter Try.func15, Try.ntmps15
      go_wp2
      (try rw [Exit.noGoto_ret])
      go_ret3
      exact ⟨rfl, HB.out⟩
    · have d1 : decide (a1 < 0) = false := decide_eq_false c1
      by_cases c2 : (l0.length : Int) ≤ a1
      · have d2 : decide (a1 ≥ (l0.length : Int)) = true := decide_eq_true c2
        go_enter Try.func15, Try.ntmps15
        go_wp2
        (try rw [Exit.noGoto_ret])
        go_ret3
        exact ⟨rfl, HB.out⟩
      · have d2 : decide (a1 ≥ (l0.length : Int)) = false := decide_eq_false c2
        have d3 : decide (a2 < 0) = true := decide_eq_true (by omega)
        go_enter Try.func15, Try.ntmps15
        go_wp2
        (try rw [Exit.noGoto_ret])
        go_ret3
        exact ⟨rfl, HB.out⟩
  · rw [if_neg he] at h
    by_cases hl9 : 1000000000 < l0.length
    · rw [if_pos hl9] at h; cases h
    rw [if_neg hl9] at h
    have h := Option.some.inj h
    have e1 : r1 = gDown l0 a2 l0.length a1 ∧ r2 = gUp l0 a2 l0.length (a1 + 1) ∧ r3 = 0 := ⟨(Prod.mk.inj h).1.symm, (Prod.mk.inj (Prod.mk.inj h).2).1.symm, (Prod.mk.inj (Prod.mk.inj h).2).2.symm⟩
    obtain ⟨e1, e2, rfl⟩ := e1
    have E1 := Aside0.mk e1; have E2 := Aside0.mk e2
    obtain ⟨n, hnn⟩ : ∃ n, n = l0.length := ⟨_, rfl⟩
    have HNN := Aside0.mk hnn
    rw [← hnn] at he hl9
    have d1 : decide (a1 < 0) = false := decide_eq_false (by omega)
    have d2 : decide (a1 ≥ (l0.length : Int)) = false := decide_eq_false (by omega)
    have d3 : decide (a2 < 0) = false := decide_eq_false (by omega)
    clear h e1 e2 hnn
    go_enter Try.func15, Try.ntmps15
    go_wp2
    clear d1 d2 d3
    revert G1 G2 HB
    generalize ((w.alloc (.cells #[.slice A0 l0.length c0] 31)).alloc (.cells #[.int .i64 a2] 3)) = W2
    generalize hgl : w.heap.size + 1 = gl
    intro G1 G2 HB
    clear hgl
    go_loopg [6] n (fun g v6 wr => ∃ i : Int, v6 = .int .i64 i ∧ 0 ≤ i ∧ i < n ∧ i ≤ g ∧ Aside0 (gDown l0 a2 g i = r1) ∧ Aside0 (GRow wr w.heap.size l0) ∧ Aside0 (GNum wr gl a2) ∧ Aside0 (Below w.heap.size w wr))
    case atStart => exact ⟨a1, rfl, by omega, by omega, by omega, ⟨by rw [E1.out, HNN.out]⟩, G1, ⟨G2.out⟩, HB⟩
    case round =>
      clear G1 G2 HB
      obtain ⟨i, rfl, hi0, hi1, hig, HD, G1, G2, HB⟩ := hrel
      obtain ⟨q, hq⟩ : ∃ q, q = gHolds l0 a2 i := ⟨_, rfl⟩
      have HQ := Aside0.mk hq
      clear hq
      cases q with
      | true =>
        have hin := gHolds_in HQ.out.symm
        have hpos := hin.1
        obtain ⟨g, rfl⟩ : ∃ g, gk = g + 1 := ⟨gk - 1, by omega⟩
        have HD2 : Aside0 (gDown l0 a2 g (i - 1) = r1) := ⟨by have h9 := HD.out; rwa [gDown, if_pos HQ.out.symm] at h9⟩
        clear HD hin
        go_wp2_with (go_at_call 33; refine (holds_calls w.heap.size gl l0 a2 i _ G1.out G2.out).mono ?_; rw [← HQ.out]; rintro e w1 ⟨rfl, hd⟩; replace G1 := Aside0.mk (G1.out.drawn hd); replace G2 := Aside0.mk (blk_below G2.out hd.below); replace HB := Aside0.mk (below_then HB.out HB.out.size hd.below); clear hd)
        go_roundg g
        case measure => omega
        case rel => exact ⟨i - 1, (by first | rfl | (congr 1; omega)), by omega, by omega, by omega, HD2, G1, ⟨G2.out⟩, HB⟩
      | false =>
        have HD2 : Aside0 (r1 = i) := ⟨by have h9 := HD.out; cases gk with
                                       | zero => exact h9.symm
                                       | succ g => rw [gDown, if_neg (by rw [← HQ.out]; decide)] at h9; exact h9.symm⟩
        clear HD
        go_wp2_with (go_at_call 33; refine (holds_calls w.heap.size gl l0 a2 i _ G1.out G2.out).mono ?_; rw [← HQ.out]; rintro e w1 ⟨rfl, hd⟩; replace G1 := Aside0.mk (G1.out.drawn hd); replace G2 := Aside0.mk (blk_below G2.out hd.below); replace HB := Aside0.mk (below_then HB.out HB.out.size hd.below); clear hd)
        have hat : 0 ≤ a1 ∧ a1 < (n : Int) := by omega
        clear hi0 hi1 hig
        go_loopg [7] n (fun g v7 wr => ∃ i2 : Int, v7 = .int .i64 i2 ∧ 0 < i2 ∧ i2 ≤ n ∧ (n : Int) ≤ i2 + g ∧ Aside0 (gUp l0 a2 g i2 = r2) ∧ Aside0 (GRow wr w.heap.size l0) ∧ Aside0 (GNum wr gl a2) ∧ Aside0 (Below w.heap.size w wr))
        case atStart => exact ⟨a1 + 1, (by first | rfl | (congr 1; omega)), by omega, by omega, by omega, ⟨by rw [E2.out, HNN.out]⟩, G1, ⟨G2.out⟩, HB⟩
        case round =>
          clear G1 G2 HB HQ
          obtain ⟨i2, rfl, hi0, hi1, hig, HD, G1, G2, HB⟩ := hrel
          obtain ⟨q, hq⟩ : ∃ q, q = gHolds l0 a2 i2 := ⟨_, rfl⟩
          have HQ := Aside0.mk hq
          clear hq
          cases q with
          | true =>
            have hin := gHolds_in HQ.out.symm
            rw [← HNN.out] at hin
            have hpos := hin.2
            obtain ⟨g, rfl⟩ : ∃ g, gk = g + 1 := ⟨gk - 1, by omega⟩
            have HD3 : Aside0 (gUp l0 a2 g (i2 + 1) = r2) := ⟨by have h9 := HD.out; rwa [gUp, if_pos HQ.out.symm] at h9⟩
            clear HD hin
            go_wp2_with (go_at_call 33; refine (holds_calls w.heap.size gl l0 a2 i2 _ G1.out G2.out).mono ?_; rw [← HQ.out]; rintro e w1 ⟨rfl, hd⟩; replace G1 := Aside0.mk (G1.out.drawn hd); replace G2 := Aside0.mk (blk_below G2.out hd.below); replace HB := Aside0.mk (below_then HB.out HB.out.size hd.below); clear hd)
            go_roundg g
            case measure => omega
            case rel => exact ⟨i2 + 1, (by first | rfl | (congr 1; omega)), by omega, by omega, by omega, HD3, G1, ⟨G2.out⟩, HB⟩
          | false =>
            have HD3 : Aside0 (r2 = i2) := ⟨by have h9 := HD.out; cases gk with
                                           | zero => exact h9.symm
                                           | succ g => rw [gUp, if_neg (by rw [← HQ.out]; decide)] at h9; exact h9.symm⟩
            clear HD
            go_wp2_with (go_at_call 33; refine (holds_calls w.heap.size gl l0 a2 i2 _ G1.out G2.out).mono ?_; rw [← HQ.out]; rintro e w1 ⟨rfl, hd⟩; replace G1 := Aside0.mk (G1.out.drawn hd); replace G2 := Aside0.mk (blk_below G2.out hd.below); replace HB := Aside0.mk (below_then HB.out HB.out.size hd.below); clear hd)
            rw [← HD2.out, ← HD3.out]
            (try rw [Exit.noGoto_ret])
            go_ret3
            exact ⟨rfl, HB.out⟩

end Go.Proofs.Ythkiapcoagjjpaa.PCommonRows
