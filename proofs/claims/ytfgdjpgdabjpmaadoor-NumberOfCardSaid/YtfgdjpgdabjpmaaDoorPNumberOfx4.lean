-- Written for this claim by a program of this session (wip/tools/pp.py, over the kit's print).
import Derived.Test.YtfgdjpgdabjpmaaDoorPNumberOfx0
import Derived.Test.YtfgdjpgdabjpmaaDoorPNumberOfx3
namespace Go.Proofs.YtfgdjpgdabjpmaaDoor.PNumberOf
open Go.RowKit Go.Proofs.YtfgdjpgdabjpmaaDoorW.PrintWords Go.Proofs.YtfgdjpgdabjpmaaDoorW.PrintLast Go.Proofs.YtfgdjpgdabjpmaaDoorW.PrintMore
attribute [local go_sem] max2_int min2_int max_two min_two max_three min_three max_four min_four   -- for this text's walks alone
set_option linter.unusedVariables false
set_option linter.unusedSimpArgs false

/-! ### pleatref00_EqInts: function 11 -/
def pleatref00_EqInts.l0 : Nat → List Int → List Int → Int → Option (Bool)
  | 0, _, _, _ => none
  | k + 1, x0, x1, x5 => if x5 < (x0.length : Int) then (if 0 ≤ x5 then (if x5 < (x1.length : Int) then (if (rd x0 x5) = (rd x1 x5) then (pleatref00_EqInts.l0 k x0 x1 (wrap64 (x5 + 1))) else (some false)) else (none)) else (none)) else (some true)
def pleatref00_EqInts.f (k : Nat) (l0 : List Int) (l1 : List Int) : Option (Bool) := if (l0.length : Int) = (l1.length : Int) then (pleatref00_EqInts.l0 k l0 l1 0) else (some false)
theorem pleatref00_EqInts.mono_l : ∀ k, (∀ y0 y1 y2, LeO (pleatref00_EqInts.l0 k y0 y1 y2) (pleatref00_EqInts.l0 (k + 1) y0 y1 y2))
  | 0 => fun _ _ _ r h => by simp [pleatref00_EqInts.l0] at h
  | k + 1 => by
    have ih0 := pleatref00_EqInts.mono_l k
    · intro y0 y1 y2
      unfold pleatref00_EqInts.l0
      exact zMo
theorem pleatref00_EqInts.mono : ∀ a0 a1 k, LeO (pleatref00_EqInts.f k a0 a1) (pleatref00_EqInts.f (k + 1) a0 a1) := by
  intro a0 a1 k
  have ih0 := pleatref00_EqInts.mono_l k
  unfold pleatref00_EqInts.f
  exact zMo
set_option maxHeartbeats 8000000 in
set_option maxRecDepth 100000 in
theorem pleatref00_EqInts.calls (k : Nat) (A0 : Option Addr) (c0 : Nat) (l0 : List Int) (A1 : Option Addr) (c1 : Nat) (l1 : List Int) (r : Bool) (w : World) (hr0 : Kd.C (Kd.int .i64) w A0 l0.length l0) (hc0 : l0.length ≤ c0) (hr1 : Kd.C (Kd.int .i64) w A1 l1.length l1) (hc1 : l1.length ≤ c1) (h : pleatref00_EqInts.f k l0 l1 = some r) :
    Calls Tryd.prog 11 #[.slice A0 l0.length c0, .slice A1 l1.length c1] w fun e w' => e = .returned (.bool r) ∧ Drawn0 w w' := by
  have HR0 := Aside0.mk hr0
  have HC0 := Aside0.mk hc0
  clear hr0 hc0
  have HR1 := Aside0.mk hr1
  have HC1 := Aside0.mk hc1
  clear hr1 hc1
  have H := h
  clear h
  unfold pleatref00_EqInts.f at H
  by_cases c3 : (l0.length : Int) = (l1.length : Int)
  · rw [if_pos c3] at H
    have c3b0 := beq_iff_eq.mpr c3
    have c3b1 := bne_eq_false_iff_eq.mpr c3
    have c3b2 : (l0.length == l1.length) = true := by first | simpa using c3 | (simp at c3 ⊢; omega)
    clear c3
    have H' := Aside0.mk H
    clear H
    go_enter Tryd.func11, Tryd.ntmps11
    go_wp2
    repeat (go_quiet (fail); try go_wp2)
    go_loopg [5] k (fun kq v5 w' => ∃ (x5_1 : Int), v5 = .int .i64 x5_1 ∧ Aside0 (pleatref00_EqInts.l0 kq l0 l1 x5_1 = some r) ∧ Aside0 (kq ≤ k) ∧ Drawn0 w w')
    case atStart => exact ⟨(0), zF', H', ⟨Nat.le_refl _⟩, zDr⟩
    case round =>
      clear H'
      try clear c3b0
      try clear c3b1
      try clear c3b2
      obtain ⟨x5_1, rfl, HA, HK1, ⟨m1, rfl⟩⟩ := hrel
      cases gk with
      | zero => exact absurd HA.out (by simp [pleatref00_EqInts.l0])
      | succ k1 =>
        have H := HA.out
        clear HA
        simp only [pleatref00_EqInts.l0] at H
        by_cases c4 : x5_1 < (l0.length : Int)
        · rw [if_pos c4] at H
          have c4b0 := decide_eq_true c4
          clear c4
          obtain ⟨c5, H⟩ := zG H
          have c5b0 := decide_eq_true c5
          clear c5
          obtain ⟨c6, H⟩ := zG H
          have c6b0 := decide_eq_true c6
          clear c6
          by_cases c7 : (rd l0 x5_1) = (rd l1 x5_1)
          · rw [if_pos c7] at H
            have c7b0 := beq_iff_eq.mpr c7
            have c7b1 := bne_eq_false_iff_eq.mpr c7
            clear c7
            have H' := Aside0.mk H
            clear H
            have p145 : 0 ≤ (x5_1 : Int) := zOD
            have q145 : x5_1 < (l0.length : Int) := zOD
            obtain ⟨ad145, e145, hx145_0⟩ := Kd.at_int HR0.out x5_1 p145 q145
            cases e145
            replace p145 := eq_true p145
            replace q145 := eq_true q145
            have p146 : 0 ≤ (x5_1 : Int) := zOD
            have q146 : x5_1 < (l1.length : Int) := zOD
            obtain ⟨ad146, e146, hx146_0⟩ := Kd.at_int HR1.out x5_1 p146 q146
            cases e146
            replace p146 := eq_true p146
            replace q146 := eq_true q146
            go_wp2
            repeat (go_quiet (fail); try go_wp2)
            go_roundg k1
            case measure => have := HK1.out; omega
            case rel => exact ⟨(wrap64 (x5_1 + 1)), zF', H', ⟨by have := HK1.out; omega⟩, zDr⟩
          · rw [if_neg c7] at H
            have c7b0 := beq_eq_false_iff_ne.mpr c7
            have c7b1 := bne_iff_ne.mpr c7
            obtain rfl := Option.some.inj H
            have p145 : 0 ≤ (x5_1 : Int) := zOD
            have q145 : x5_1 < (l0.length : Int) := zOD
            obtain ⟨ad145, e145, hx145_0⟩ := Kd.at_int HR0.out x5_1 p145 q145
            cases e145
            replace p145 := eq_true p145
            replace q145 := eq_true q145
            have p146 : 0 ≤ (x5_1 : Int) := zOD
            have q146 : x5_1 < (l1.length : Int) := zOD
            obtain ⟨ad146, e146, hx146_0⟩ := Kd.at_int HR1.out x5_1 p146 q146
            cases e146
            replace p146 := eq_true p146
            replace q146 := eq_true q146
            go_wp2
            repeat (go_quiet (fail); try go_wp2)
            go_ret
            exact ⟨zF', zDr⟩
        · rw [if_neg c4] at H
          have c4b0 := decide_eq_false c4
          clear c4
          obtain rfl := Option.some.inj H
          go_wp2
          repeat (go_quiet (fail); try go_wp2)
          go_ret
          exact ⟨zF', zDr⟩
  · rw [if_neg c3] at H
    have c3b0 := beq_eq_false_iff_ne.mpr c3
    have c3b1 := bne_iff_ne.mpr c3
    have c3b2 : (l0.length == l1.length) = false := by first | simpa using c3 | (simp at c3 ⊢; omega)
    obtain rfl := Option.some.inj H
    go_enter Tryd.func11, Tryd.ntmps11
    go_wp2
    repeat (go_quiet (fail); try go_wp2)
    go_ret
    exact ⟨zF', zDr⟩

/-! ### number_Same: function 12 -/
def number_Same.f (k : Nat) (a0 : Int) (a1 : Int) : Option (Bool) := if a0 = a1 then ((touch_Alone.f k a0).bind fun t147 => (some (!t147))) else (some false)
theorem number_Same.mono : ∀ a0 a1 k, LeO (number_Same.f k a0 a1) (number_Same.f (k + 1) a0 a1) := by
  intro a0 a1 k
  unfold number_Same.f
  have m0 := @touch_Alone.mono
  exact zMo
set_option maxHeartbeats 8000000 in
set_option maxRecDepth 100000 in
theorem number_Same.calls (k : Nat) (a0 : Int) (a1 : Int) (r : Bool) (w : World) (h : number_Same.f k a0 a1 = some r) :
    Calls Tryd.prog 12 #[.int .u32 a0, .int .u32 a1] w fun e w' => e = .returned (.bool r) ∧ Below w.heap.size w w' := by
  have HB := Aside0.mk (Below.refl w.heap.size w)
  have H := h
  clear h
  unfold number_Same.f at H
  by_cases c3 : a0 = a1
  · rw [if_pos c3] at H
    have c3b0 := beq_iff_eq.mpr c3
    have c3b1 := bne_eq_false_iff_eq.mpr c3
    clear c3
    replace H := Option.bind_eq_some_iff.mp H
    obtain ⟨t147, A40, H⟩ := H
    (try dsimp only at H)
    have A4 := Aside0.mk A40
    clear A40
    obtain rfl := Option.some.inj H
    go_enter Tryd.func12, Tryd.ntmps12
    go_wp2_with (first | (go_at_call 41; (with_reducible refine (touch_Alone.calls k a0 t147 _ A4.out).mono ?_); rintro e w5 ⟨rfl, hb⟩; refine zs (below_step (zHB) hb) ?_; clear HB; intro HB; clear hb))
    go_ret
    exact ⟨zE, zHB⟩
  · rw [if_neg c3] at H
    have c3b0 := beq_eq_false_iff_ne.mpr c3
    have c3b1 := bne_iff_ne.mpr c3
    obtain rfl := Option.some.inj H
    go_enter Tryd.func12, Tryd.ntmps12
    go_wp2
    go_ret
    exact ⟨zE, zHB⟩

/-! ### number_Count: function 14, by hand -/
def number_Count.f (l0 : List Int) : Option Int := if l0.all (fun v => decide (-9223372036854775808 ≤ v ∧ v ≤ 9223372036854775807)) = true then some (Mapv.distinct l0.reverse : Nat) else none
theorem count_wf {x : Int} (h : -9223372036854775808 ≤ x ∧ x ≤ 9223372036854775807) : (Lit.int .i64 x).wf = true := by
  have hmin : IntKind.i64.min = -9223372036854775808 := rfl
  have hmax : IntKind.i64.max = 9223372036854775807 := rfl
  simp only [Lit.wf, Bool.and_eq_true, decide_eq_true_eq]
  omega
theorem count_at (l : List Int) (j : Nat) (h : j < l.length) : l.take (j + 1) = l.take j ++ [rd l (j : Int)] := by
  rw [List.take_succ_eq_append_getElem h]
  simp [rd, List.getD_eq_getElem?_getD, List.getElem?_eq_getElem h]
theorem count_all {l : List Int} {p : Int → Prop} [DecidablePred p] (ha : l.all (fun v => decide (p v)) = true) (j : Nat) (h : j < l.length) : p (rd l (j : Int)) := by
  have h1 : rd l (j : Int) = l[j] := by simp [rd, List.getD_eq_getElem?_getD, List.getElem?_eq_getElem h]
  rw [h1]
  exact of_decide_eq_true (List.all_eq_true.1 ha _ (List.getElem_mem h))
def CountRel (w : World) (xs : List Int) (i : Value) (wr : World) : Prop :=
  ∃ j : Nat, i = .int .i64 j ∧ j ≤ xs.length ∧ wr.ownsMap Tryd.prog 3 (plainElem Tryd.prog 4) w.heap.size j (Mapv.sview .i64 (xs.take j).reverse) ∧ Below w.heap.size w wr
set_option maxRecDepth 100000 in
set_option maxHeartbeats 4000000 in
theorem number_Count.calls (A0 : Option Addr) (c0 : Nat) (l0 : List Int) (r : Int) (w : World) (hr0 : Kd.C (Kd.int .i64) w A0 l0.length l0) (hc0 : l0.length ≤ c0) (h : number_Count.f l0 = some r) :
    Calls Tryd.prog 14 #[.slice A0 l0.length c0] w fun e w' => e = .returned (.int .i64 r) ∧ Below w.heap.size w w' := by
  have hmm := @run_makeMap Tryd.prog
  unfold number_Count.f at h
  by_cases hg : l0.all (fun v => decide (-9223372036854775808 ≤ v ∧ v ≤ 9223372036854775807)) = true
  · rw [if_pos hg] at h
    obtain rfl := Option.some.inj h
    have HG := Aside0.mk hg
    have HR0 := Aside0.mk hr0
    have HM := Aside0.mk hr0.2.1
    clear h hg hr0
    go_enter Tryd.func14, Tryd.ntmps14
    go_wp2
    go_loopw [9] (fun i wr => CountRel w l0 i wr) (fun i _ => l0.length - (intOf i).toNat)
    case atStart => exact ⟨0, rfl, Nat.zero_le _, World.ownsMap_made _ _ _ _, (Below.refl w.heap.size w).alloc (Nat.le_refl _) _⟩
    case round =>
      obtain ⟨j, rfl, hj, how, hbel⟩ := hrel
      have HO := Aside0.mk how
      have HB := Aside0.mk hbel
      clear how hbel
      by_cases hlt : j < l0.length
      · obtain ⟨ad, e, hx⟩ := Kd.at_int (Kd.C_below HR0.out HB.out) (j : Int) (by omega) (by omega)
        cases e
        rw [Int.toNat_natCast] at hx
        have hd := Aside0.mk (count_at l0 j hlt)
        have HX := Aside0.mk (count_wf (count_all HG.out j hlt))
        generalize rd l0 (j : Int) = x at hx hd HX
        have hkey : keyOf Tryd.prog 3 (.int .i64 x) = some (.int .i64 x) := Maps.keyOf_int_mk Tryd.underlying3 HX.out
        have hjm : j < maxLen := by have := HM.out; have : maxLen = 9223372036854775807 := rfl; omega
        have HJ := Aside0.mk hjm
        clear hjm
        have hj9 : (j : Int) < 9223372036854775807 := by have := HM.out; omega
        go_wp2_with (at_mapUpdate; refine wpList_mapUpdate_own _ rfl _ _ _ 85 rfl 3 4 (Maps.int_keyed Tryd.underlying3) Tryd.underlying85 _ w.heap.size j _ rfl HO.out HJ.out _ _ _ rfl rfl hkey _ [] (plainElem_bool Tryd.underlying4 true) ?_; intro w2 hown2 hg2)
        refine ⟨⟨j + 1, by simp, by omega, ?_, HB.out.grown hg2 HB.out.size (fun k e => by cases e; exact Nat.le_refl _)⟩, by simp [intOf]; omega⟩
        rw [hd.out, List.reverse_append]
        exact hown2
      · obtain rfl : j = l0.length := by omega
        have ht := Mapv.sview_size .i64 l0.reverse
        have HO2 := HO.out
        rw [List.take_length] at HO2
        have HO3 := Aside0.mk HO2
        have HT := Aside0.mk ht
        clear HO2 ht
        go_wp2_with (at_len; refine wpList_len_own _ rfl _ 85 rfl 3 4 Tryd.underlying85 _ w.heap.size _ _ rfl HO3.out ?_)
        go_ret
        exact ⟨by rw [← HT.out]; rfl, HB.out⟩
  · rw [if_neg hg] at h
    cases h

/-! ### pleatlaw15_lives: function 6 -/
def pleatlaw15_lives.f (k : Nat)  : Option (Bool) := (number_Of.f k (([142606341, 2147483648, 142606341, 2147483648, 2818572288] : List Int)) 0 ([] : List Int)).bind fun bt151 => ((number_Of.f k ([] : List Int) 0 ([] : List Int)).bind fun bt155 => (if bt151.2 = 0 then (if bt155.2 = 50 then ((pleatref00_EqInts.f k bt151.1 (([0, 1, 0, 2, 3] : List Int))).bind fun t162 => (if t162 = true then ((number_Count.f (([0, 1, 0, 7] : List Int))).bind fun t166 => (if t166 = 3 then ((number_Same.f k 0 0).bind fun t167 => (if t167 = true then ((number_Same.f k 1 1).bind fun t168 => (some (!t168))) else (some false))) else (some false))) else (some false))) else (some false)) else (some false)))
theorem pleatlaw15_lives.mono : ∀ k, LeO (pleatlaw15_lives.f k ) (pleatlaw15_lives.f (k + 1) ) := by
  intro  k
  unfold pleatlaw15_lives.f
  have m0 := @number_Of.mono
  have m1 := @number_Same.mono
  have m2 := @pleatref00_EqInts.mono
  exact zMo
set_option maxHeartbeats 8000000 in
set_option maxRecDepth 100000 in
theorem pleatlaw15_lives.calls (k : Nat)  (r : Bool) (w : World) (h : pleatlaw15_lives.f k  = some r) :
    Calls Tryd.prog 6 #[] w fun e w' => e = .returned (.bool r) ∧ Below w.heap.size w w' := by
  have hu25 := Tryd.underlying25
  have HB := Aside0.mk (Below.refl w.heap.size w)
  have H := h
  clear h
  unfold pleatlaw15_lives.f at H
  obtain ⟨y148, hy148⟩ : ∃ y_ : List Int, y_ = (([142606341, 2147483648, 142606341, 2147483648, 2818572288] : List Int)) := ⟨_, rfl⟩
  (try rw [← hy148] at H)
  have Ny148 := Aside0.mk hy148
  clear hy148
  replace H := Option.bind_eq_some_iff.mp H
  obtain ⟨⟨t151, t154⟩, A10, H⟩ := H
  (try dsimp only at H)
  have A1 := Aside0.mk A10
  clear A10
  replace H := Option.bind_eq_some_iff.mp H
  obtain ⟨⟨t155, t158⟩, A20, H⟩ := H
  (try dsimp only at H)
  have A2 := Aside0.mk A20
  clear A20
  by_cases c3 : t154 = 0
  · rw [if_pos c3] at H
    have c3b0 := beq_iff_eq.mpr c3
    have c3b1 := bne_eq_false_iff_eq.mpr c3
    clear c3
    by_cases c4 : t158 = 50
    · rw [if_pos c4] at H
      have c4b0 := beq_iff_eq.mpr c4
      have c4b1 := bne_eq_false_iff_eq.mpr c4
      clear c4
      obtain ⟨y159, hy159⟩ : ∃ y_ : List Int, y_ = (([0, 1, 0, 2, 3] : List Int)) := ⟨_, rfl⟩
      (try rw [← hy159] at H)
      have Ny159 := Aside0.mk hy159
      clear hy159
      replace H := Option.bind_eq_some_iff.mp H
      obtain ⟨t162, A50, H⟩ := H
      (try dsimp only at H)
      have A5 := Aside0.mk A50
      clear A50
      by_cases c6 : t162 = true
      · subst c6
        rw [if_pos rfl] at H
        obtain ⟨y163, hy163⟩ : ∃ y_ : List Int, y_ = (([0, 1, 0, 7] : List Int)) := ⟨_, rfl⟩
        (try rw [← hy163] at H)
        have Ny163 := Aside0.mk hy163
        clear hy163
        replace H := Option.bind_eq_some_iff.mp H
        obtain ⟨t166, A70, H⟩ := H
        (try dsimp only at H)
        have A7 := Aside0.mk A70
        clear A70
        by_cases c8 : t166 = 3
        · rw [if_pos c8] at H
          have c8b0 := beq_iff_eq.mpr c8
          have c8b1 := bne_eq_false_iff_eq.mpr c8
          clear c8
          replace H := Option.bind_eq_some_iff.mp H
          obtain ⟨t167, A90, H⟩ := H
          (try dsimp only at H)
          have A9 := Aside0.mk A90
          clear A90
          by_cases c10 : t167 = true
          · subst c10
            rw [if_pos rfl] at H
            replace H := Option.bind_eq_some_iff.mp H
            obtain ⟨t168, A110, H⟩ := H
            (try dsimp only at H)
            have A11 := Aside0.mk A110
            clear A110
            obtain rfl := Option.some.inj H
            go_enter Tryd.func6, Tryd.ntmps6
            go_wp2_with (first | ((with_reducible refine gate_dst (N := 6) rfl ?_); (try (refine gate_guard (by rfl) ?_; dsimp only)); refine Kd.R_lit (Kd.int .u32) _ 26 ?hg (N := 6) ?hd (xs := ([142606341, 2147483648, 142606341, 2147483648, 2818572288] : List Int)) (inner := [.int .u32 142606341, .int .u32 2147483648, .int .u32 142606341, .int .u32 2147483648, .int .u32 2818572288]) (ok := fun _ => True) (okp := fun _ => True) ?hr ?hp (fun _ hk => hk) trivial (Below.refl _ _) (Nat.le_refl _) (by simp) ?_; (case hd => rfl); (case hg => rfl); (case hr => first | (go_simp; done) | (go_simp; rfl)); (case hp => exact (Reps.one (show Kd.M (Kd.int .u32) _ _ _ 142606341 [.int .u32 142606341] from rfl) (Reps.one (show Kd.M (Kd.int .u32) _ _ _ 2147483648 [.int .u32 2147483648] from rfl) (Reps.one (show Kd.M (Kd.int .u32) _ _ _ 142606341 [.int .u32 142606341] from rfl) (Reps.one (show Kd.M (Kd.int .u32) _ _ _ 2147483648 [.int .u32 2147483648] from rfl) (Reps.one (show Kd.M (Kd.int .u32) _ _ _ 2818572288 [.int .u32 2818572288] from rfl) (Reps.none _ _))))))); intro v149 w12 ho13 hb hg_ hnew_; clear hg_ hnew_; (first | rw [← Ny148.out] at ho13 | (simp only [Int.reduceToNat] at ho13; rw [← Ny148.out] at ho13)); refine zs (Kd.R_lower ho13 (below_size (zHB))) (zs (below_step (zHB) hb) ?_); clear HB; intro HB HO150; clear hb ho13; obtain ⟨Ao14, co14, eo14⟩ := Kd.R_slice HO150.out; subst eo14) | ((with_reducible refine gate_callee (f := 9) rfl ?_); refine zGo (N := (some 8)) Tryd.func9 #[.agg #[.slice Ao14 y148.length co14, .int .i64 0, .slice none 0 0]] ?_; (refine (number_Of.calls k _ _ y148 0 _ _ ([] : List Int) t151 t154 _ ?side1 ?side2 ?side3 ?side4 A1.out).mono ?_); (case side1 => exact zS); (case side2 => exact zS); (case side3 => exact zS); (case side4 => exact zS); rintro e w15 ⟨v152, rfl, ho0, hb⟩; refine ⟨_, rfl, ?_⟩; refine zs (Kd.R_below (by (with_reducible repeat (first | apply Kd.R_alloc | apply Kd.R_drewN | apply Kd.R_drew)); exact HO150.out) hb) (zs (Kd.R_lower ho0 (below_size (zHB))) (zs (below_step (zHB) hb) ?_)); clear HO150 HB; intro HB HO153 HO150; clear hb ho0) | ((with_reducible refine gate_callee (f := 9) rfl ?_); refine zGo (N := (some 13)) Tryd.func9 #[.agg #[.slice none 0 0, .int .i64 0, .slice none 0 0]] ?_; (refine (number_Of.calls k _ _ ([] : List Int) 0 _ _ ([] : List Int) t155 t158 _ ?side1 ?side2 ?side3 ?side4 A2.out).mono ?_); (case side1 => exact zS); (case side2 => exact zS); (case side3 => exact zS); (case side4 => exact zS); rintro e w16 ⟨v156, rfl, ho0, hb⟩; refine ⟨_, rfl, ?_⟩; refine zs (Kd.R_below (by (with_reducible repeat (first | apply Kd.R_alloc | apply Kd.R_drewN | apply Kd.R_drew)); exact HO150.out) hb) (zs (Kd.R_elder' (by (with_reducible repeat (first | apply Kd.R_alloc | apply Kd.R_drewN | apply Kd.R_drew)); exact HO153.out) (Kd.R_base ho0) hb) (zs (Kd.R_lower (Kd.R_new' ho0 (Kd.R_lt (by (with_reducible repeat (first | apply Kd.R_alloc | apply Kd.R_drewN | apply Kd.R_drew)); exact HO153.out))) (below_size (zHB))) (zs (below_step (zHB) hb) ?_))); clear HO150 HO153 HB; intro HB HO157 HO153 HO150; clear hb ho0) | ((with_reducible refine gate_dst (N := 24) rfl ?_); (try (refine gate_guard (by rfl) ?_; dsimp only)); refine Kd.R_lit (Kd.int .i64) _ 3 ?hg (N := 24) ?hd (xs := ([0, 1, 0, 2, 3] : List Int)) (inner := [.int .i64 0, .int .i64 1, .int .i64 0, .int .i64 2, .int .i64 3]) (ok := fun _ => True) (okp := fun _ => True) ?hr ?hp (fun _ hk => hk) trivial (Below.refl _ _) (Nat.le_refl _) (by simp) ?_; (case hd => rfl); (case hg => rfl); (case hr => first | (go_simp; done) | (go_simp; rfl)); (case hp => exact (Reps.one (show Kd.M (Kd.int .i64) _ _ _ 0 [.int .i64 0] from rfl) (Reps.one (show Kd.M (Kd.int .i64) _ _ _ 1 [.int .i64 1] from rfl) (Reps.one (show Kd.M (Kd.int .i64) _ _ _ 0 [.int .i64 0] from rfl) (Reps.one (show Kd.M (Kd.int .i64) _ _ _ 2 [.int .i64 2] from rfl) (Reps.one (show Kd.M (Kd.int .i64) _ _ _ 3 [.int .i64 3] from rfl) (Reps.none _ _))))))); intro v160 w17 ho18 hb hg_ hnew_; clear hg_ hnew_; (first | rw [← Ny159.out] at ho18 | (simp only [Int.reduceToNat] at ho18; rw [← Ny159.out] at ho18)); refine zs (Kd.R_below (by (with_reducible repeat (first | apply Kd.R_alloc | apply Kd.R_drewN | apply Kd.R_drew)); exact HO150.out) hb) (zs (Kd.R_elder' (by (with_reducible repeat (first | apply Kd.R_alloc | apply Kd.R_drewN | apply Kd.R_drew)); exact HO153.out) (Kd.R_base ho18) hb) (zs (Kd.R_elder' (by (with_reducible repeat (first | apply Kd.R_alloc | apply Kd.R_drewN | apply Kd.R_drew)); exact HO157.out) (Kd.R_base ho18) hb) (zs (Kd.R_lower (Kd.R_new' (Kd.R_new' ho18 (Kd.R_lt (by (with_reducible repeat (first | apply Kd.R_alloc | apply Kd.R_drewN | apply Kd.R_drew)); exact HO153.out))) (Kd.R_lt (by (with_reducible repeat (first | apply Kd.R_alloc | apply Kd.R_drewN | apply Kd.R_drew)); exact HO157.out))) (below_size (zHB))) (zs (below_step (zHB) hb) ?_)))); clear HO150 HO153 HO157 HB; intro HB HO161 HO157 HO153 HO150; clear hb ho18; obtain ⟨Ao19, co19, eo19⟩ := Kd.R_slice HO153.out; subst eo19; obtain ⟨Ao20, co20, eo20⟩ := Kd.R_slice HO161.out; subst eo20) | (go_at_call 11; (with_reducible refine (pleatref00_EqInts.calls k _ _ t151 _ _ y159 true _ ?side1 ?side2 ?side3 ?side4 A5.out).mono ?_); (case side1 => exact zS); (case side2 => exact zS); (case side3 => exact zS); (case side4 => exact zS); rintro e w' ⟨rfl, ⟨nd, rfl⟩⟩) | ((with_reducible refine gate_dst (N := 28) rfl ?_); (try (refine gate_guard (by rfl) ?_; dsimp only)); refine Kd.R_lit (Kd.int .i64) _ 3 ?hg (N := 28) ?hd (xs := ([0, 1, 0, 7] : List Int)) (inner := [.int .i64 0, .int .i64 1, .int .i64 0, .int .i64 7]) (ok := fun _ => True) (okp := fun _ => True) ?hr ?hp (fun _ hk => hk) trivial (Below.refl _ _) (Nat.le_refl _) (by simp) ?_; (case hd => rfl); (case hg => rfl); (case hr => first | (go_simp; done) | (go_simp; rfl)); (case hp => exact (Reps.one (show Kd.M (Kd.int .i64) _ _ _ 0 [.int .i64 0] from rfl) (Reps.one (show Kd.M (Kd.int .i64) _ _ _ 1 [.int .i64 1] from rfl) (Reps.one (show Kd.M (Kd.int .i64) _ _ _ 0 [.int .i64 0] from rfl) (Reps.one (show Kd.M (Kd.int .i64) _ _ _ 7 [.int .i64 7] from rfl) (Reps.none _ _)))))); intro v164 w21 ho22 hb hg_ hnew_; clear hg_ hnew_; (first | rw [← Ny163.out] at ho22 | (simp only [Int.reduceToNat] at ho22; rw [← Ny163.out] at ho22)); refine zs (Kd.R_below (by (with_reducible repeat (first | apply Kd.R_alloc | apply Kd.R_drewN | apply Kd.R_drew)); exact HO150.out) hb) (zs (Kd.R_elder' (by (with_reducible repeat (first | apply Kd.R_alloc | apply Kd.R_drewN | apply Kd.R_drew)); exact HO153.out) (Kd.R_base ho22) hb) (zs (Kd.R_elder' (by (with_reducible repeat (first | apply Kd.R_alloc | apply Kd.R_drewN | apply Kd.R_drew)); exact HO157.out) (Kd.R_base ho22) hb) (zs (Kd.R_elder' (by (with_reducible repeat (first | apply Kd.R_alloc | apply Kd.R_drewN | apply Kd.R_drew)); exact HO161.out) (Kd.R_base ho22) hb) (zs (Kd.R_lower (Kd.R_new' (Kd.R_new' (Kd.R_new' ho22 (Kd.R_lt (by (with_reducible repeat (first | apply Kd.R_alloc | apply Kd.R_drewN | apply Kd.R_drew)); exact HO153.out))) (Kd.R_lt (by (with_reducible repeat (first | apply Kd.R_alloc | apply Kd.R_drewN | apply Kd.R_drew)); exact HO157.out))) (Kd.R_lt (by (with_reducible repeat (first | apply Kd.R_alloc | apply Kd.R_drewN | apply Kd.R_drew)); exact HO161.out))) (below_size (zHB))) (zs (below_step (zHB) hb) ?_))))); clear HO150 HO153 HO157 HO161 HB; intro HB HO165 HO161 HO157 HO153 HO150; clear hb ho22; obtain ⟨Ao23, co23, eo23⟩ := Kd.R_slice HO165.out; subst eo23) | (go_at_call 14; (with_reducible refine (number_Count.calls _ _ y163 t166 _ ?side1 ?side2 A7.out).mono ?_); (case side1 => exact zS); (case side2 => exact zS); rintro e w24 ⟨rfl, hb⟩; refine zs (Kd.R_below (by (with_reducible repeat (first | apply Kd.R_alloc | apply Kd.R_drewN | apply Kd.R_drew)); exact HO150.out) hb) (zs (Kd.R_below (by (with_reducible repeat (first | apply Kd.R_alloc | apply Kd.R_drewN | apply Kd.R_drew)); exact HO153.out) hb) (zs (Kd.R_below (by (with_reducible repeat (first | apply Kd.R_alloc | apply Kd.R_drewN | apply Kd.R_drew)); exact HO157.out) hb) (zs (Kd.R_below (by (with_reducible repeat (first | apply Kd.R_alloc | apply Kd.R_drewN | apply Kd.R_drew)); exact HO161.out) hb) (zs (Kd.R_below (by (with_reducible repeat (first | apply Kd.R_alloc | apply Kd.R_drewN | apply Kd.R_drew)); exact HO165.out) hb) (zs (below_step (zHB) hb) ?_))))); clear HO150 HO153 HO157 HO161 HO165 HB; intro HB HO165 HO161 HO157 HO153 HO150; clear hb) | (go_at_call 12; (with_reducible refine (number_Same.calls k 0 0 true _ A9.out).mono ?_); rintro e w25 ⟨rfl, hb⟩; refine zs (Kd.R_below (by (with_reducible repeat (first | apply Kd.R_alloc | apply Kd.R_drewN | apply Kd.R_drew)); exact HO150.out) hb) (zs (Kd.R_below (by (with_reducible repeat (first | apply Kd.R_alloc | apply Kd.R_drewN | apply Kd.R_drew)); exact HO153.out) hb) (zs (Kd.R_below (by (with_reducible repeat (first | apply Kd.R_alloc | apply Kd.R_drewN | apply Kd.R_drew)); exact HO157.out) hb) (zs (Kd.R_below (by (with_reducible repeat (first | apply Kd.R_alloc | apply Kd.R_drewN | apply Kd.R_drew)); exact HO161.out) hb) (zs (Kd.R_below (by (with_reducible repeat (first | apply Kd.R_alloc | apply Kd.R_drewN | apply Kd.R_drew)); exact HO165.out) hb) (zs (below_step (zHB) hb) ?_))))); clear HO150 HO153 HO157 HO161 HO165 HB; intro HB HO165 HO161 HO157 HO153 HO150; clear hb) | (go_at_call 12; (with_reducible refine (number_Same.calls k 1 1 t168 _ A11.out).mono ?_); rintro e w26 ⟨rfl, hb⟩; refine zs (Kd.R_below (by (with_reducible repeat (first | apply Kd.R_alloc | apply Kd.R_drewN | apply Kd.R_drew)); exact HO150.out) hb) (zs (Kd.R_below (by (with_reducible repeat (first | apply Kd.R_alloc | apply Kd.R_drewN | apply Kd.R_drew)); exact HO153.out) hb) (zs (Kd.R_below (by (with_reducible repeat (first | apply Kd.R_alloc | apply Kd.R_drewN | apply Kd.R_drew)); exact HO157.out) hb) (zs (Kd.R_below (by (with_reducible repeat (first | apply Kd.R_alloc | apply Kd.R_drewN | apply Kd.R_drew)); exact HO161.out) hb) (zs (Kd.R_below (by (with_reducible repeat (first | apply Kd.R_alloc | apply Kd.R_drewN | apply Kd.R_drew)); exact HO165.out) hb) (zs (below_step (zHB) hb) ?_))))); clear HO150 HO153 HO157 HO161 HO165 HB; intro HB HO165 HO161 HO157 HO153 HO150; clear hb))
            go_ret
            exact ⟨zE, zHB⟩
          · replace c10 := Bool.eq_false_iff.mpr c10
            subst c10
            rw [if_neg (show ¬ (false = true) by decide)] at H
            obtain rfl := Option.some.inj H
            go_enter Tryd.func6, Tryd.ntmps6
            go_wp2_with (first | ((with_reducible refine gate_dst (N := 6) rfl ?_); (try (refine gate_guard (by rfl) ?_; dsimp only)); refine Kd.R_lit (Kd.int .u32) _ 26 ?hg (N := 6) ?hd (xs := ([142606341, 2147483648, 142606341, 2147483648, 2818572288] : List Int)) (inner := [.int .u32 142606341, .int .u32 2147483648, .int .u32 142606341, .int .u32 2147483648, .int .u32 2818572288]) (ok := fun _ => True) (okp := fun _ => True) ?hr ?hp (fun _ hk => hk) trivial (Below.refl _ _) (Nat.le_refl _) (by simp) ?_; (case hd => rfl); (case hg => rfl); (case hr => first | (go_simp; done) | (go_simp; rfl)); (case hp => exact (Reps.one (show Kd.M (Kd.int .u32) _ _ _ 142606341 [.int .u32 142606341] from rfl) (Reps.one (show Kd.M (Kd.int .u32) _ _ _ 2147483648 [.int .u32 2147483648] from rfl) (Reps.one (show Kd.M (Kd.int .u32) _ _ _ 142606341 [.int .u32 142606341] from rfl) (Reps.one (show Kd.M (Kd.int .u32) _ _ _ 2147483648 [.int .u32 2147483648] from rfl) (Reps.one (show Kd.M (Kd.int .u32) _ _ _ 2818572288 [.int .u32 2818572288] from rfl) (Reps.none _ _))))))); intro v149 w27 ho28 hb hg_ hnew_; clear hg_ hnew_; (first | rw [← Ny148.out] at ho28 | (simp only [Int.reduceToNat] at ho28; rw [← Ny148.out] at ho28)); refine zs (Kd.R_lower ho28 (below_size (zHB))) (zs (below_step (zHB) hb) ?_); clear HB; intro HB HO150; clear hb ho28; obtain ⟨Ao29, co29, eo29⟩ := Kd.R_slice HO150.out; subst eo29) | ((with_reducible refine gate_callee (f := 9) rfl ?_); refine zGo (N := (some 8)) Tryd.func9 #[.agg #[.slice Ao29 y148.length co29, .int .i64 0, .slice none 0 0]] ?_; (refine (number_Of.calls k _ _ y148 0 _ _ ([] : List Int) t151 t154 _ ?side1 ?side2 ?side3 ?side4 A1.out).mono ?_); (case side1 => exact zS); (case side2 => exact zS); (case side3 => exact zS); (case side4 => exact zS); rintro e w30 ⟨v152, rfl, ho0, hb⟩; refine ⟨_, rfl, ?_⟩; refine zs (Kd.R_below (by (with_reducible repeat (first | apply Kd.R_alloc | apply Kd.R_drewN | apply Kd.R_drew)); exact HO150.out) hb) (zs (Kd.R_lower ho0 (below_size (zHB))) (zs (below_step (zHB) hb) ?_)); clear HO150 HB; intro HB HO153 HO150; clear hb ho0) | ((with_reducible refine gate_callee (f := 9) rfl ?_); refine zGo (N := (some 13)) Tryd.func9 #[.agg #[.slice none 0 0, .int .i64 0, .slice none 0 0]] ?_; (refine (number_Of.calls k _ _ ([] : List Int) 0 _ _ ([] : List Int) t155 t158 _ ?side1 ?side2 ?side3 ?side4 A2.out).mono ?_); (case side1 => exact zS); (case side2 => exact zS); (case side3 => exact zS); (case side4 => exact zS); rintro e w31 ⟨v156, rfl, ho0, hb⟩; refine ⟨_, rfl, ?_⟩; refine zs (Kd.R_below (by (with_reducible repeat (first | apply Kd.R_alloc | apply Kd.R_drewN | apply Kd.R_drew)); exact HO150.out) hb) (zs (Kd.R_elder' (by (with_reducible repeat (first | apply Kd.R_alloc | apply Kd.R_drewN | apply Kd.R_drew)); exact HO153.out) (Kd.R_base ho0) hb) (zs (Kd.R_lower (Kd.R_new' ho0 (Kd.R_lt (by (with_reducible repeat (first | apply Kd.R_alloc | apply Kd.R_drewN | apply Kd.R_drew)); exact HO153.out))) (below_size (zHB))) (zs (below_step (zHB) hb) ?_))); clear HO150 HO153 HB; intro HB HO157 HO153 HO150; clear hb ho0) | ((with_reducible refine gate_dst (N := 24) rfl ?_); (try (refine gate_guard (by rfl) ?_; dsimp only)); refine Kd.R_lit (Kd.int .i64) _ 3 ?hg (N := 24) ?hd (xs := ([0, 1, 0, 2, 3] : List Int)) (inner := [.int .i64 0, .int .i64 1, .int .i64 0, .int .i64 2, .int .i64 3]) (ok := fun _ => True) (okp := fun _ => True) ?hr ?hp (fun _ hk => hk) trivial (Below.refl _ _) (Nat.le_refl _) (by simp) ?_; (case hd => rfl); (case hg => rfl); (case hr => first | (go_simp; done) | (go_simp; rfl)); (case hp => exact (Reps.one (show Kd.M (Kd.int .i64) _ _ _ 0 [.int .i64 0] from rfl) (Reps.one (show Kd.M (Kd.int .i64) _ _ _ 1 [.int .i64 1] from rfl) (Reps.one (show Kd.M (Kd.int .i64) _ _ _ 0 [.int .i64 0] from rfl) (Reps.one (show Kd.M (Kd.int .i64) _ _ _ 2 [.int .i64 2] from rfl) (Reps.one (show Kd.M (Kd.int .i64) _ _ _ 3 [.int .i64 3] from rfl) (Reps.none _ _))))))); intro v160 w32 ho33 hb hg_ hnew_; clear hg_ hnew_; (first | rw [← Ny159.out] at ho33 | (simp only [Int.reduceToNat] at ho33; rw [← Ny159.out] at ho33)); refine zs (Kd.R_below (by (with_reducible repeat (first | apply Kd.R_alloc | apply Kd.R_drewN | apply Kd.R_drew)); exact HO150.out) hb) (zs (Kd.R_elder' (by (with_reducible repeat (first | apply Kd.R_alloc | apply Kd.R_drewN | apply Kd.R_drew)); exact HO153.out) (Kd.R_base ho33) hb) (zs (Kd.R_elder' (by (with_reducible repeat (first | apply Kd.R_alloc | apply Kd.R_drewN | apply Kd.R_drew)); exact HO157.out) (Kd.R_base ho33) hb) (zs (Kd.R_lower (Kd.R_new' (Kd.R_new' ho33 (Kd.R_lt (by (with_reducible repeat (first | apply Kd.R_alloc | apply Kd.R_drewN | apply Kd.R_drew)); exact HO153.out))) (Kd.R_lt (by (with_reducible repeat (first | apply Kd.R_alloc | apply Kd.R_drewN | apply Kd.R_drew)); exact HO157.out))) (below_size (zHB))) (zs (below_step (zHB) hb) ?_)))); clear HO150 HO153 HO157 HB; intro HB HO161 HO157 HO153 HO150; clear hb ho33; obtain ⟨Ao34, co34, eo34⟩ := Kd.R_slice HO153.out; subst eo34; obtain ⟨Ao35, co35, eo35⟩ := Kd.R_slice HO161.out; subst eo35) | (go_at_call 11; (with_reducible refine (pleatref00_EqInts.calls k _ _ t151 _ _ y159 true _ ?side1 ?side2 ?side3 ?side4 A5.out).mono ?_); (case side1 => exact zS); (case side2 => exact zS); (case side3 => exact zS); (case side4 => exact zS); rintro e w' ⟨rfl, ⟨nd, rfl⟩⟩) | ((with_reducible refine gate_dst (N := 28) rfl ?_); (try (refine gate_guard (by rfl) ?_; dsimp only)); refine Kd.R_lit (Kd.int .i64) _ 3 ?hg (N := 28) ?hd (xs := ([0, 1, 0, 7] : List Int)) (inner := [.int .i64 0, .int .i64 1, .int .i64 0, .int .i64 7]) (ok := fun _ => True) (okp := fun _ => True) ?hr ?hp (fun _ hk => hk) trivial (Below.refl _ _) (Nat.le_refl _) (by simp) ?_; (case hd => rfl); (case hg => rfl); (case hr => first | (go_simp; done) | (go_simp; rfl)); (case hp => exact (Reps.one (show Kd.M (Kd.int .i64) _ _ _ 0 [.int .i64 0] from rfl) (Reps.one (show Kd.M (Kd.int .i64) _ _ _ 1 [.int .i64 1] from rfl) (Reps.one (show Kd.M (Kd.int .i64) _ _ _ 0 [.int .i64 0] from rfl) (Reps.one (show Kd.M (Kd.int .i64) _ _ _ 7 [.int .i64 7] from rfl) (Reps.none _ _)))))); intro v164 w36 ho37 hb hg_ hnew_; clear hg_ hnew_; (first | rw [← Ny163.out] at ho37 | (simp only [Int.reduceToNat] at ho37; rw [← Ny163.out] at ho37)); refine zs (Kd.R_below (by (with_reducible repeat (first | apply Kd.R_alloc | apply Kd.R_drewN | apply Kd.R_drew)); exact HO150.out) hb) (zs (Kd.R_elder' (by (with_reducible repeat (first | apply Kd.R_alloc | apply Kd.R_drewN | apply Kd.R_drew)); exact HO153.out) (Kd.R_base ho37) hb) (zs (Kd.R_elder' (by (with_reducible repeat (first | apply Kd.R_alloc | apply Kd.R_drewN | apply Kd.R_drew)); exact HO157.out) (Kd.R_base ho37) hb) (zs (Kd.R_elder' (by (with_reducible repeat (first | apply Kd.R_alloc | apply Kd.R_drewN | apply Kd.R_drew)); exact HO161.out) (Kd.R_base ho37) hb) (zs (Kd.R_lower (Kd.R_new' (Kd.R_new' (Kd.R_new' ho37 (Kd.R_lt (by (with_reducible repeat (first | apply Kd.R_alloc | apply Kd.R_drewN | apply Kd.R_drew)); exact HO153.out))) (Kd.R_lt (by (with_reducible repeat (first | apply Kd.R_alloc | apply Kd.R_drewN | apply Kd.R_drew)); exact HO157.out))) (Kd.R_lt (by (with_reducible repeat (first | apply Kd.R_alloc | apply Kd.R_drewN | apply Kd.R_drew)); exact HO161.out))) (below_size (zHB))) (zs (below_step (zHB) hb) ?_))))); clear HO150 HO153 HO157 HO161 HB; intro HB HO165 HO161 HO157 HO153 HO150; clear hb ho37; obtain ⟨Ao38, co38, eo38⟩ := Kd.R_slice HO165.out; subst eo38) | (go_at_call 14; (with_reducible refine (number_Count.calls _ _ y163 t166 _ ?side1 ?side2 A7.out).mono ?_); (case side1 => exact zS); (case side2 => exact zS); rintro e w39 ⟨rfl, hb⟩; refine zs (Kd.R_below (by (with_reducible repeat (first | apply Kd.R_alloc | apply Kd.R_drewN | apply Kd.R_drew)); exact HO150.out) hb) (zs (Kd.R_below (by (with_reducible repeat (first | apply Kd.R_alloc | apply Kd.R_drewN | apply Kd.R_drew)); exact HO153.out) hb) (zs (Kd.R_below (by (with_reducible repeat (first | apply Kd.R_alloc | apply Kd.R_drewN | apply Kd.R_drew)); exact HO157.out) hb) (zs (Kd.R_below (by (with_reducible repeat (first | apply Kd.R_alloc | apply Kd.R_drewN | apply Kd.R_drew)); exact HO161.out) hb) (zs (Kd.R_below (by (with_reducible repeat (first | apply Kd.R_alloc | apply Kd.R_drewN | apply Kd.R_drew)); exact HO165.out) hb) (zs (below_step (zHB) hb) ?_))))); clear HO150 HO153 HO157 HO161 HO165 HB; intro HB HO165 HO161 HO157 HO153 HO150; clear hb) | (go_at_call 12; (with_reducible refine (number_Same.calls k 0 0 false _ A9.out).mono ?_); rintro e w40 ⟨rfl, hb⟩; refine zs (Kd.R_below (by (with_reducible repeat (first | apply Kd.R_alloc | apply Kd.R_drewN | apply Kd.R_drew)); exact HO150.out) hb) (zs (Kd.R_below (by (with_reducible repeat (first | apply Kd.R_alloc | apply Kd.R_drewN | apply Kd.R_drew)); exact HO153.out) hb) (zs (Kd.R_below (by (with_reducible repeat (first | apply Kd.R_alloc | apply Kd.R_drewN | apply Kd.R_drew)); exact HO157.out) hb) (zs (Kd.R_below (by (with_reducible repeat (first | apply Kd.R_alloc | apply Kd.R_drewN | apply Kd.R_drew)); exact HO161.out) hb) (zs (Kd.R_below (by (with_reducible repeat (first | apply Kd.R_alloc | apply Kd.R_drewN | apply Kd.R_drew)); exact HO165.out) hb) (zs (below_step (zHB) hb) ?_))))); clear HO150 HO153 HO157 HO161 HO165 HB; intro HB HO165 HO161 HO157 HO153 HO150; clear hb))
            go_ret
            exact ⟨zE, zHB⟩
        · rw [if_neg c8] at H
          have c8b0 := beq_eq_false_iff_ne.mpr c8
          have c8b1 := bne_iff_ne.mpr c8
          obtain rfl := Option.some.inj H
          go_enter Tryd.func6, Tryd.ntmps6
          go_wp2_with (first | ((with_reducible refine gate_dst (N := 6) rfl ?_); (try (refine gate_guard (by rfl) ?_; dsimp only)); refine Kd.R_lit (Kd.int .u32) _ 26 ?hg (N := 6) ?hd (xs := ([142606341, 2147483648, 142606341, 2147483648, 2818572288] : List Int)) (inner := [.int .u32 142606341, .int .u32 2147483648, .int .u32 142606341, .int .u32 2147483648, .int .u32 2818572288]) (ok := fun _ => True) (okp := fun _ => True) ?hr ?hp (fun _ hk => hk) trivial (Below.refl _ _) (Nat.le_refl _) (by simp) ?_; (case hd => rfl); (case hg => rfl); (case hr => first | (go_simp; done) | (go_simp; rfl)); (case hp => exact (Reps.one (show Kd.M (Kd.int .u32) _ _ _ 142606341 [.int .u32 142606341] from rfl) (Reps.one (show Kd.M (Kd.int .u32) _ _ _ 2147483648 [.int .u32 2147483648] from rfl) (Reps.one (show Kd.M (Kd.int .u32) _ _ _ 142606341 [.int .u32 142606341] from rfl) (Reps.one (show Kd.M (Kd.int .u32) _ _ _ 2147483648 [.int .u32 2147483648] from rfl) (Reps.one (show Kd.M (Kd.int .u32) _ _ _ 2818572288 [.int .u32 2818572288] from rfl) (Reps.none _ _))))))); intro v149 w41 ho42 hb hg_ hnew_; clear hg_ hnew_; (first | rw [← Ny148.out] at ho42 | (simp only [Int.reduceToNat] at ho42; rw [← Ny148.out] at ho42)); refine zs (Kd.R_lower ho42 (below_size (zHB))) (zs (below_step (zHB) hb) ?_); clear HB; intro HB HO150; clear hb ho42; obtain ⟨Ao43, co43, eo43⟩ := Kd.R_slice HO150.out; subst eo43) | ((with_reducible refine gate_callee (f := 9) rfl ?_); refine zGo (N := (some 8)) Tryd.func9 #[.agg #[.slice Ao43 y148.length co43, .int .i64 0, .slice none 0 0]] ?_; (refine (number_Of.calls k _ _ y148 0 _ _ ([] : List Int) t151 t154 _ ?side1 ?side2 ?side3 ?side4 A1.out).mono ?_); (case side1 => exact zS); (case side2 => exact zS); (case side3 => exact zS); (case side4 => exact zS); rintro e w44 ⟨v152, rfl, ho0, hb⟩; refine ⟨_, rfl, ?_⟩; refine zs (Kd.R_below (by (with_reducible repeat (first | apply Kd.R_alloc | apply Kd.R_drewN | apply Kd.R_drew)); exact HO150.out) hb) (zs (Kd.R_lower ho0 (below_size (zHB))) (zs (below_step (zHB) hb) ?_)); clear HO150 HB; intro HB HO153 HO150; clear hb ho0) | ((with_reducible refine gate_callee (f := 9) rfl ?_); refine zGo (N := (some 13)) Tryd.func9 #[.agg #[.slice none 0 0, .int .i64 0, .slice none 0 0]] ?_; (refine (number_Of.calls k _ _ ([] : List Int) 0 _ _ ([] : List Int) t155 t158 _ ?side1 ?side2 ?side3 ?side4 A2.out).mono ?_); (case side1 => exact zS); (case side2 => exact zS); (case side3 => exact zS); (case side4 => exact zS); rintro e w45 ⟨v156, rfl, ho0, hb⟩; refine ⟨_, rfl, ?_⟩; refine zs (Kd.R_below (by (with_reducible repeat (first | apply Kd.R_alloc | apply Kd.R_drewN | apply Kd.R_drew)); exact HO150.out) hb) (zs (Kd.R_elder' (by (with_reducible repeat (first | apply Kd.R_alloc | apply Kd.R_drewN | apply Kd.R_drew)); exact HO153.out) (Kd.R_base ho0) hb) (zs (Kd.R_lower (Kd.R_new' ho0 (Kd.R_lt (by (with_reducible repeat (first | apply Kd.R_alloc | apply Kd.R_drewN | apply Kd.R_drew)); exact HO153.out))) (below_size (zHB))) (zs (below_step (zHB) hb) ?_))); clear HO150 HO153 HB; intro HB HO157 HO153 HO150; clear hb ho0) | ((with_reducible refine gate_dst (N := 24) rfl ?_); (try (refine gate_guard (by rfl) ?_; dsimp only)); refine Kd.R_lit (Kd.int .i64) _ 3 ?hg (N := 24) ?hd (xs := ([0, 1, 0, 2, 3] : List Int)) (inner := [.int .i64 0, .int .i64 1, .int .i64 0, .int .i64 2, .int .i64 3]) (ok := fun _ => True) (okp := fun _ => True) ?hr ?hp (fun _ hk => hk) trivial (Below.refl _ _) (Nat.le_refl _) (by simp) ?_; (case hd => rfl); (case hg => rfl); (case hr => first | (go_simp; done) | (go_simp; rfl)); (case hp => exact (Reps.one (show Kd.M (Kd.int .i64) _ _ _ 0 [.int .i64 0] from rfl) (Reps.one (show Kd.M (Kd.int .i64) _ _ _ 1 [.int .i64 1] from rfl) (Reps.one (show Kd.M (Kd.int .i64) _ _ _ 0 [.int .i64 0] from rfl) (Reps.one (show Kd.M (Kd.int .i64) _ _ _ 2 [.int .i64 2] from rfl) (Reps.one (show Kd.M (Kd.int .i64) _ _ _ 3 [.int .i64 3] from rfl) (Reps.none _ _))))))); intro v160 w46 ho47 hb hg_ hnew_; clear hg_ hnew_; (first | rw [← Ny159.out] at ho47 | (simp only [Int.reduceToNat] at ho47; rw [← Ny159.out] at ho47)); refine zs (Kd.R_below (by (with_reducible repeat (first | apply Kd.R_alloc | apply Kd.R_drewN | apply Kd.R_drew)); exact HO150.out) hb) (zs (Kd.R_elder' (by (with_reducible repeat (first | apply Kd.R_alloc | apply Kd.R_drewN | apply Kd.R_drew)); exact HO153.out) (Kd.R_base ho47) hb) (zs (Kd.R_elder' (by (with_reducible repeat (first | apply Kd.R_alloc | apply Kd.R_drewN | apply Kd.R_drew)); exact HO157.out) (Kd.R_base ho47) hb) (zs (Kd.R_lower (Kd.R_new' (Kd.R_new' ho47 (Kd.R_lt (by (with_reducible repeat (first | apply Kd.R_alloc | apply Kd.R_drewN | apply Kd.R_drew)); exact HO153.out))) (Kd.R_lt (by (with_reducible repeat (first | apply Kd.R_alloc | apply Kd.R_drewN | apply Kd.R_drew)); exact HO157.out))) (below_size (zHB))) (zs (below_step (zHB) hb) ?_)))); clear HO150 HO153 HO157 HB; intro HB HO161 HO157 HO153 HO150; clear hb ho47; obtain ⟨Ao48, co48, eo48⟩ := Kd.R_slice HO153.out; subst eo48; obtain ⟨Ao49, co49, eo49⟩ := Kd.R_slice HO161.out; subst eo49) | (go_at_call 11; (with_reducible refine (pleatref00_EqInts.calls k _ _ t151 _ _ y159 true _ ?side1 ?side2 ?side3 ?side4 A5.out).mono ?_); (case side1 => exact zS); (case side2 => exact zS); (case side3 => exact zS); (case side4 => exact zS); rintro e w' ⟨rfl, ⟨nd, rfl⟩⟩) | ((with_reducible refine gate_dst (N := 28) rfl ?_); (try (refine gate_guard (by rfl) ?_; dsimp only)); refine Kd.R_lit (Kd.int .i64) _ 3 ?hg (N := 28) ?hd (xs := ([0, 1, 0, 7] : List Int)) (inner := [.int .i64 0, .int .i64 1, .int .i64 0, .int .i64 7]) (ok := fun _ => True) (okp := fun _ => True) ?hr ?hp (fun _ hk => hk) trivial (Below.refl _ _) (Nat.le_refl _) (by simp) ?_; (case hd => rfl); (case hg => rfl); (case hr => first | (go_simp; done) | (go_simp; rfl)); (case hp => exact (Reps.one (show Kd.M (Kd.int .i64) _ _ _ 0 [.int .i64 0] from rfl) (Reps.one (show Kd.M (Kd.int .i64) _ _ _ 1 [.int .i64 1] from rfl) (Reps.one (show Kd.M (Kd.int .i64) _ _ _ 0 [.int .i64 0] from rfl) (Reps.one (show Kd.M (Kd.int .i64) _ _ _ 7 [.int .i64 7] from rfl) (Reps.none _ _)))))); intro v164 w50 ho51 hb hg_ hnew_; clear hg_ hnew_; (first | rw [← Ny163.out] at ho51 | (simp only [Int.reduceToNat] at ho51; rw [← Ny163.out] at ho51)); refine zs (Kd.R_below (by (with_reducible repeat (first | apply Kd.R_alloc | apply Kd.R_drewN | apply Kd.R_drew)); exact HO150.out) hb) (zs (Kd.R_elder' (by (with_reducible repeat (first | apply Kd.R_alloc | apply Kd.R_drewN | apply Kd.R_drew)); exact HO153.out) (Kd.R_base ho51) hb) (zs (Kd.R_elder' (by (with_reducible repeat (first | apply Kd.R_alloc | apply Kd.R_drewN | apply Kd.R_drew)); exact HO157.out) (Kd.R_base ho51) hb) (zs (Kd.R_elder' (by (with_reducible repeat (first | apply Kd.R_alloc | apply Kd.R_drewN | apply Kd.R_drew)); exact HO161.out) (Kd.R_base ho51) hb) (zs (Kd.R_lower (Kd.R_new' (Kd.R_new' (Kd.R_new' ho51 (Kd.R_lt (by (with_reducible repeat (first | apply Kd.R_alloc | apply Kd.R_drewN | apply Kd.R_drew)); exact HO153.out))) (Kd.R_lt (by (with_reducible repeat (first | apply Kd.R_alloc | apply Kd.R_drewN | apply Kd.R_drew)); exact HO157.out))) (Kd.R_lt (by (with_reducible repeat (first | apply Kd.R_alloc | apply Kd.R_drewN | apply Kd.R_drew)); exact HO161.out))) (below_size (zHB))) (zs (below_step (zHB) hb) ?_))))); clear HO150 HO153 HO157 HO161 HB; intro HB HO165 HO161 HO157 HO153 HO150; clear hb ho51; obtain ⟨Ao52, co52, eo52⟩ := Kd.R_slice HO165.out; subst eo52) | (go_at_call 14; (with_reducible refine (number_Count.calls _ _ y163 t166 _ ?side1 ?side2 A7.out).mono ?_); (case side1 => exact zS); (case side2 => exact zS); rintro e w53 ⟨rfl, hb⟩; refine zs (Kd.R_below (by (with_reducible repeat (first | apply Kd.R_alloc | apply Kd.R_drewN | apply Kd.R_drew)); exact HO150.out) hb) (zs (Kd.R_below (by (with_reducible repeat (first | apply Kd.R_alloc | apply Kd.R_drewN | apply Kd.R_drew)); exact HO153.out) hb) (zs (Kd.R_below (by (with_reducible repeat (first | apply Kd.R_alloc | apply Kd.R_drewN | apply Kd.R_drew)); exact HO157.out) hb) (zs (Kd.R_below (by (with_reducible repeat (first | apply Kd.R_alloc | apply Kd.R_drewN | apply Kd.R_drew)); exact HO161.out) hb) (zs (Kd.R_below (by (with_reducible repeat (first | apply Kd.R_alloc | apply Kd.R_drewN | apply Kd.R_drew)); exact HO165.out) hb) (zs (below_step (zHB) hb) ?_))))); clear HO150 HO153 HO157 HO161 HO165 HB; intro HB HO165 HO161 HO157 HO153 HO150; clear hb))
          go_ret
          exact ⟨zE, zHB⟩
      · replace c6 := Bool.eq_false_iff.mpr c6
        subst c6
        rw [if_neg (show ¬ (false = true) by decide)] at H
        obtain rfl := Option.some.inj H
        go_enter Tryd.func6, Tryd.ntmps6
        go_wp2_with (first | ((with_reducible refine gate_dst (N := 6) rfl ?_); (try (refine gate_guard (by rfl) ?_; dsimp only)); refine Kd.R_lit (Kd.int .u32) _ 26 ?hg (N := 6) ?hd (xs := ([142606341, 2147483648, 142606341, 2147483648, 2818572288] : List Int)) (inner := [.int .u32 142606341, .int .u32 2147483648, .int .u32 142606341, .int .u32 2147483648, .int .u32 2818572288]) (ok := fun _ => True) (okp := fun _ => True) ?hr ?hp (fun _ hk => hk) trivial (Below.refl _ _) (Nat.le_refl _) (by simp) ?_; (case hd => rfl); (case hg => rfl); (case hr => first | (go_simp; done) | (go_simp; rfl)); (case hp => exact (Reps.one (show Kd.M (Kd.int .u32) _ _ _ 142606341 [.int .u32 142606341] from rfl) (Reps.one (show Kd.M (Kd.int .u32) _ _ _ 2147483648 [.int .u32 2147483648] from rfl) (Reps.one (show Kd.M (Kd.int .u32) _ _ _ 142606341 [.int .u32 142606341] from rfl) (Reps.one (show Kd.M (Kd.int .u32) _ _ _ 2147483648 [.int .u32 2147483648] from rfl) (Reps.one (show Kd.M (Kd.int .u32) _ _ _ 2818572288 [.int .u32 2818572288] from rfl) (Reps.none _ _))))))); intro v149 w54 ho55 hb hg_ hnew_; clear hg_ hnew_; (first | rw [← Ny148.out] at ho55 | (simp only [Int.reduceToNat] at ho55; rw [← Ny148.out] at ho55)); refine zs (Kd.R_lower ho55 (below_size (zHB))) (zs (below_step (zHB) hb) ?_); clear HB; intro HB HO150; clear hb ho55; obtain ⟨Ao56, co56, eo56⟩ := Kd.R_slice HO150.out; subst eo56) | ((with_reducible refine gate_callee (f := 9) rfl ?_); refine zGo (N := (some 8)) Tryd.func9 #[.agg #[.slice Ao56 y148.length co56, .int .i64 0, .slice none 0 0]] ?_; (refine (number_Of.calls k _ _ y148 0 _ _ ([] : List Int) t151 t154 _ ?side1 ?side2 ?side3 ?side4 A1.out).mono ?_); (case side1 => exact zS); (case side2 => exact zS); (case side3 => exact zS); (case side4 => exact zS); rintro e w57 ⟨v152, rfl, ho0, hb⟩; refine ⟨_, rfl, ?_⟩; refine zs (Kd.R_below (by (with_reducible repeat (first | apply Kd.R_alloc | apply Kd.R_drewN | apply Kd.R_drew)); exact HO150.out) hb) (zs (Kd.R_lower ho0 (below_size (zHB))) (zs (below_step (zHB) hb) ?_)); clear HO150 HB; intro HB HO153 HO150; clear hb ho0) | ((with_reducible refine gate_callee (f := 9) rfl ?_); refine zGo (N := (some 13)) Tryd.func9 #[.agg #[.slice none 0 0, .int .i64 0, .slice none 0 0]] ?_; (refine (number_Of.calls k _ _ ([] : List Int) 0 _ _ ([] : List Int) t155 t158 _ ?side1 ?side2 ?side3 ?side4 A2.out).mono ?_); (case side1 => exact zS); (case side2 => exact zS); (case side3 => exact zS); (case side4 => exact zS); rintro e w58 ⟨v156, rfl, ho0, hb⟩; refine ⟨_, rfl, ?_⟩; refine zs (Kd.R_below (by (with_reducible repeat (first | apply Kd.R_alloc | apply Kd.R_drewN | apply Kd.R_drew)); exact HO150.out) hb) (zs (Kd.R_elder' (by (with_reducible repeat (first | apply Kd.R_alloc | apply Kd.R_drewN | apply Kd.R_drew)); exact HO153.out) (Kd.R_base ho0) hb) (zs (Kd.R_lower (Kd.R_new' ho0 (Kd.R_lt (by (with_reducible repeat (first | apply Kd.R_alloc | apply Kd.R_drewN | apply Kd.R_drew)); exact HO153.out))) (below_size (zHB))) (zs (below_step (zHB) hb) ?_))); clear HO150 HO153 HB; intro HB HO157 HO153 HO150; clear hb ho0) | ((with_reducible refine gate_dst (N := 24) rfl ?_); (try (refine gate_guard (by rfl) ?_; dsimp only)); refine Kd.R_lit (Kd.int .i64) _ 3 ?hg (N := 24) ?hd (xs := ([0, 1, 0, 2, 3] : List Int)) (inner := [.int .i64 0, .int .i64 1, .int .i64 0, .int .i64 2, .int .i64 3]) (ok := fun _ => True) (okp := fun _ => True) ?hr ?hp (fun _ hk => hk) trivial (Below.refl _ _) (Nat.le_refl _) (by simp) ?_; (case hd => rfl); (case hg => rfl); (case hr => first | (go_simp; done) | (go_simp; rfl)); (case hp => exact (Reps.one (show Kd.M (Kd.int .i64) _ _ _ 0 [.int .i64 0] from rfl) (Reps.one (show Kd.M (Kd.int .i64) _ _ _ 1 [.int .i64 1] from rfl) (Reps.one (show Kd.M (Kd.int .i64) _ _ _ 0 [.int .i64 0] from rfl) (Reps.one (show Kd.M (Kd.int .i64) _ _ _ 2 [.int .i64 2] from rfl) (Reps.one (show Kd.M (Kd.int .i64) _ _ _ 3 [.int .i64 3] from rfl) (Reps.none _ _))))))); intro v160 w59 ho60 hb hg_ hnew_; clear hg_ hnew_; (first | rw [← Ny159.out] at ho60 | (simp only [Int.reduceToNat] at ho60; rw [← Ny159.out] at ho60)); refine zs (Kd.R_below (by (with_reducible repeat (first | apply Kd.R_alloc | apply Kd.R_drewN | apply Kd.R_drew)); exact HO150.out) hb) (zs (Kd.R_elder' (by (with_reducible repeat (first | apply Kd.R_alloc | apply Kd.R_drewN | apply Kd.R_drew)); exact HO153.out) (Kd.R_base ho60) hb) (zs (Kd.R_elder' (by (with_reducible repeat (first | apply Kd.R_alloc | apply Kd.R_drewN | apply Kd.R_drew)); exact HO157.out) (Kd.R_base ho60) hb) (zs (Kd.R_lower (Kd.R_new' (Kd.R_new' ho60 (Kd.R_lt (by (with_reducible repeat (first | apply Kd.R_alloc | apply Kd.R_drewN | apply Kd.R_drew)); exact HO153.out))) (Kd.R_lt (by (with_reducible repeat (first | apply Kd.R_alloc | apply Kd.R_drewN | apply Kd.R_drew)); exact HO157.out))) (below_size (zHB))) (zs (below_step (zHB) hb) ?_)))); clear HO150 HO153 HO157 HB; intro HB HO161 HO157 HO153 HO150; clear hb ho60; obtain ⟨Ao61, co61, eo61⟩ := Kd.R_slice HO153.out; subst eo61; obtain ⟨Ao62, co62, eo62⟩ := Kd.R_slice HO161.out; subst eo62) | (go_at_call 11; (with_reducible refine (pleatref00_EqInts.calls k _ _ t151 _ _ y159 false _ ?side1 ?side2 ?side3 ?side4 A5.out).mono ?_); (case side1 => exact zS); (case side2 => exact zS); (case side3 => exact zS); (case side4 => exact zS); rintro e w' ⟨rfl, ⟨nd, rfl⟩⟩))
        go_ret
        exact ⟨zE, zHB⟩
    · rw [if_neg c4] at H
      have c4b0 := beq_eq_false_iff_ne.mpr c4
      have c4b1 := bne_iff_ne.mpr c4
      obtain rfl := Option.some.inj H
      go_enter Tryd.func6, Tryd.ntmps6
      go_wp2_with (first | ((with_reducible refine gate_dst (N := 6) rfl ?_); (try (refine gate_guard (by rfl) ?_; dsimp only)); refine Kd.R_lit (Kd.int .u32) _ 26 ?hg (N := 6) ?hd (xs := ([142606341, 2147483648, 142606341, 2147483648, 2818572288] : List Int)) (inner := [.int .u32 142606341, .int .u32 2147483648, .int .u32 142606341, .int .u32 2147483648, .int .u32 2818572288]) (ok := fun _ => True) (okp := fun _ => True) ?hr ?hp (fun _ hk => hk) trivial (Below.refl _ _) (Nat.le_refl _) (by simp) ?_; (case hd => rfl); (case hg => rfl); (case hr => first | (go_simp; done) | (go_simp; rfl)); (case hp => exact (Reps.one (show Kd.M (Kd.int .u32) _ _ _ 142606341 [.int .u32 142606341] from rfl) (Reps.one (show Kd.M (Kd.int .u32) _ _ _ 2147483648 [.int .u32 2147483648] from rfl) (Reps.one (show Kd.M (Kd.int .u32) _ _ _ 142606341 [.int .u32 142606341] from rfl) (Reps.one (show Kd.M (Kd.int .u32) _ _ _ 2147483648 [.int .u32 2147483648] from rfl) (Reps.one (show Kd.M (Kd.int .u32) _ _ _ 2818572288 [.int .u32 2818572288] from rfl) (Reps.none _ _))))))); intro v149 w63 ho64 hb hg_ hnew_; clear hg_ hnew_; (first | rw [← Ny148.out] at ho64 | (simp only [Int.reduceToNat] at ho64; rw [← Ny148.out] at ho64)); refine zs (Kd.R_lower ho64 (below_size (zHB))) (zs (below_step (zHB) hb) ?_); clear HB; intro HB HO150; clear hb ho64; obtain ⟨Ao65, co65, eo65⟩ := Kd.R_slice HO150.out; subst eo65) | ((with_reducible refine gate_callee (f := 9) rfl ?_); refine zGo (N := (some 8)) Tryd.func9 #[.agg #[.slice Ao65 y148.length co65, .int .i64 0, .slice none 0 0]] ?_; (refine (number_Of.calls k _ _ y148 0 _ _ ([] : List Int) t151 t154 _ ?side1 ?side2 ?side3 ?side4 A1.out).mono ?_); (case side1 => exact zS); (case side2 => exact zS); (case side3 => exact zS); (case side4 => exact zS); rintro e w66 ⟨v152, rfl, ho0, hb⟩; refine ⟨_, rfl, ?_⟩; refine zs (Kd.R_below (by (with_reducible repeat (first | apply Kd.R_alloc | apply Kd.R_drewN | apply Kd.R_drew)); exact HO150.out) hb) (zs (Kd.R_lower ho0 (below_size (zHB))) (zs (below_step (zHB) hb) ?_)); clear HO150 HB; intro HB HO153 HO150; clear hb ho0) | ((with_reducible refine gate_callee (f := 9) rfl ?_); refine zGo (N := (some 13)) Tryd.func9 #[.agg #[.slice none 0 0, .int .i64 0, .slice none 0 0]] ?_; (refine (number_Of.calls k _ _ ([] : List Int) 0 _ _ ([] : List Int) t155 t158 _ ?side1 ?side2 ?side3 ?side4 A2.out).mono ?_); (case side1 => exact zS); (case side2 => exact zS); (case side3 => exact zS); (case side4 => exact zS); rintro e w67 ⟨v156, rfl, ho0, hb⟩; refine ⟨_, rfl, ?_⟩; refine zs (Kd.R_below (by (with_reducible repeat (first | apply Kd.R_alloc | apply Kd.R_drewN | apply Kd.R_drew)); exact HO150.out) hb) (zs (Kd.R_elder' (by (with_reducible repeat (first | apply Kd.R_alloc | apply Kd.R_drewN | apply Kd.R_drew)); exact HO153.out) (Kd.R_base ho0) hb) (zs (Kd.R_lower (Kd.R_new' ho0 (Kd.R_lt (by (with_reducible repeat (first | apply Kd.R_alloc | apply Kd.R_drewN | apply Kd.R_drew)); exact HO153.out))) (below_size (zHB))) (zs (below_step (zHB) hb) ?_))); clear HO150 HO153 HB; intro HB HO157 HO153 HO150; clear hb ho0))
      go_ret
      exact ⟨zE, zHB⟩
  · rw [if_neg c3] at H
    have c3b0 := beq_eq_false_iff_ne.mpr c3
    have c3b1 := bne_iff_ne.mpr c3
    obtain rfl := Option.some.inj H
    go_enter Tryd.func6, Tryd.ntmps6
    go_wp2_with (first | ((with_reducible refine gate_dst (N := 6) rfl ?_); (try (refine gate_guard (by rfl) ?_; dsimp only)); refine Kd.R_lit (Kd.int .u32) _ 26 ?hg (N := 6) ?hd (xs := ([142606341, 2147483648, 142606341, 2147483648, 2818572288] : List Int)) (inner := [.int .u32 142606341, .int .u32 2147483648, .int .u32 142606341, .int .u32 2147483648, .int .u32 2818572288]) (ok := fun _ => True) (okp := fun _ => True) ?hr ?hp (fun _ hk => hk) trivial (Below.refl _ _) (Nat.le_refl _) (by simp) ?_; (case hd => rfl); (case hg => rfl); (case hr => first | (go_simp; done) | (go_simp; rfl)); (case hp => exact (Reps.one (show Kd.M (Kd.int .u32) _ _ _ 142606341 [.int .u32 142606341] from rfl) (Reps.one (show Kd.M (Kd.int .u32) _ _ _ 2147483648 [.int .u32 2147483648] from rfl) (Reps.one (show Kd.M (Kd.int .u32) _ _ _ 142606341 [.int .u32 142606341] from rfl) (Reps.one (show Kd.M (Kd.int .u32) _ _ _ 2147483648 [.int .u32 2147483648] from rfl) (Reps.one (show Kd.M (Kd.int .u32) _ _ _ 2818572288 [.int .u32 2818572288] from rfl) (Reps.none _ _))))))); intro v149 w68 ho69 hb hg_ hnew_; clear hg_ hnew_; (first | rw [← Ny148.out] at ho69 | (simp only [Int.reduceToNat] at ho69; rw [← Ny148.out] at ho69)); refine zs (Kd.R_lower ho69 (below_size (zHB))) (zs (below_step (zHB) hb) ?_); clear HB; intro HB HO150; clear hb ho69; obtain ⟨Ao70, co70, eo70⟩ := Kd.R_slice HO150.out; subst eo70) | ((with_reducible refine gate_callee (f := 9) rfl ?_); refine zGo (N := (some 8)) Tryd.func9 #[.agg #[.slice Ao70 y148.length co70, .int .i64 0, .slice none 0 0]] ?_; (refine (number_Of.calls k _ _ y148 0 _ _ ([] : List Int) t151 t154 _ ?side1 ?side2 ?side3 ?side4 A1.out).mono ?_); (case side1 => exact zS); (case side2 => exact zS); (case side3 => exact zS); (case side4 => exact zS); rintro e w71 ⟨v152, rfl, ho0, hb⟩; refine ⟨_, rfl, ?_⟩; refine zs (Kd.R_below (by (with_reducible repeat (first | apply Kd.R_alloc | apply Kd.R_drewN | apply Kd.R_drew)); exact HO150.out) hb) (zs (Kd.R_lower ho0 (below_size (zHB))) (zs (below_step (zHB) hb) ?_)); clear HO150 HB; intro HB HO153 HO150; clear hb ho0) | ((with_reducible refine gate_callee (f := 9) rfl ?_); refine zGo (N := (some 13)) Tryd.func9 #[.agg #[.slice none 0 0, .int .i64 0, .slice none 0 0]] ?_; (refine (number_Of.calls k _ _ ([] : List Int) 0 _ _ ([] : List Int) t155 t158 _ ?side1 ?side2 ?side3 ?side4 A2.out).mono ?_); (case side1 => exact zS); (case side2 => exact zS); (case side3 => exact zS); (case side4 => exact zS); rintro e w72 ⟨v156, rfl, ho0, hb⟩; refine ⟨_, rfl, ?_⟩; refine zs (Kd.R_below (by (with_reducible repeat (first | apply Kd.R_alloc | apply Kd.R_drewN | apply Kd.R_drew)); exact HO150.out) hb) (zs (Kd.R_elder' (by (with_reducible repeat (first | apply Kd.R_alloc | apply Kd.R_drewN | apply Kd.R_drew)); exact HO153.out) (Kd.R_base ho0) hb) (zs (Kd.R_lower (Kd.R_new' ho0 (Kd.R_lt (by (with_reducible repeat (first | apply Kd.R_alloc | apply Kd.R_drewN | apply Kd.R_drew)); exact HO153.out))) (below_size (zHB))) (zs (below_step (zHB) hb) ?_))); clear HO150 HO153 HB; intro HB HO157 HO153 HO150; clear hb ho0))
    go_ret
    exact ⟨zE, zHB⟩

end Go.Proofs.YtfgdjpgdabjpmaaDoor.PNumberOf
