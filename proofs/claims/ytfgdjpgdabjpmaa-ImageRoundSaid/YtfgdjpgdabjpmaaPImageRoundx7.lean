-- Written for this claim by a program of this session (wip/tools/pp.py, over the kit's print).
import Derived.Test.YtfgdjpgdabjpmaaPImageRoundx0
import Derived.Test.YtfgdjpgdabjpmaaPImageRoundx2
namespace Go.Proofs.Ytfgdjpgdabjpmaa.PImageRound
open Go.RowKit Go.Proofs.YtfgdjpgdabjpmaaW.PrintWords Go.Proofs.YtfgdjpgdabjpmaaW.PrintLast Go.Proofs.YtfgdjpgdabjpmaaW.PrintMore
attribute [local go_sem] max2_int min2_int max_two min_two max_three min_three max_four min_four   -- for this text's walks alone
set_option linter.unusedVariables false
set_option linter.unusedSimpArgs false

/-! ### isa_Ends: function 82 -/
def isa_Ends.f (k : Nat) (a0 : Int) : Option (Bool) := (isa_Decode.f k a0).bind fun bt205 => (if bt205.1 = (-1) then (some true) else (if bt205.1 = 0 then (some true) else (if bt205.1 = 15 then (some true) else (if bt205.1 = 16 then (some true) else (if bt205.1 = 17 then (some true) else (if bt205.1 = 18 then (some true) else (if bt205.1 = 19 then (some true) else (if bt205.1 = 21 then (some true) else (some false)))))))))
theorem isa_Ends.mono : ∀ a0 k, LeO (isa_Ends.f k a0) (isa_Ends.f (k + 1) a0) := by
  intro a0 k
  unfold isa_Ends.f
  have m0 := @isa_Decode.mono
  exact zMo
set_option maxHeartbeats 8000000 in
set_option maxRecDepth 100000 in
theorem isa_Ends.calls (k : Nat) (a0 : Int) (r : Bool) (w : World) (h : isa_Ends.f k a0 = some r) :
    Calls Try.prog 82 #[.int .u32 a0] w fun e w' => e = .returned (.bool r) ∧ Below w.heap.size w w' := by
  have hfd36_0 : ∀ (x0_ x1_ x2_ x3_ x4_ : Value) (W : World), (Instr.field 36 (.agg #[x0_, x1_, x2_, x3_, x4_]) 0).run Try.prog W = .ok (x0_) W := fun _ _ _ _ _ _ => by kernel_rfl
  have HB := Aside0.mk (Below.refl w.heap.size w)
  have H := h
  clear h
  unfold isa_Ends.f at H
  replace H := Option.bind_eq_some_iff.mp H
  obtain ⟨⟨t205, t206, t207, t208, t209⟩, A20, H⟩ := H
  (try dsimp only at H)
  have A2 := Aside0.mk A20
  clear A20
  by_cases c3 : t205 = (-1)
  · rw [if_pos c3] at H
    have c3b0 := beq_iff_eq.mpr c3
    have c3b1 := bne_eq_false_iff_eq.mpr c3
    clear c3
    obtain rfl := Option.some.inj H
    go_enter Try.func82, Try.ntmps82
    go_wp2_with (first | ((with_reducible refine gate_callee (f := 16) rfl ?_); refine zGo (N := (some 4)) Try.func16 #[.int .u32 a0] ?_; (with_reducible refine (isa_Decode.calls k a0 t205 t206 t207 t208 t209 _ A2.out).mono ?_); rintro e w4 ⟨rfl, hb⟩; refine ⟨_, rfl, ?_⟩; refine zs (below_step (zHB) hb) ?_; clear HB; intro HB; clear hb))
    go_ret
    exact ⟨zE, zHB⟩
  · rw [if_neg c3] at H
    have c3b0 := beq_eq_false_iff_ne.mpr c3
    have c3b1 := bne_iff_ne.mpr c3
    by_cases c5 : t205 = 0
    · rw [if_pos c5] at H
      have c5b0 := beq_iff_eq.mpr c5
      have c5b1 := bne_eq_false_iff_eq.mpr c5
      clear c5
      obtain rfl := Option.some.inj H
      go_enter Try.func82, Try.ntmps82
      go_wp2_with (first | ((with_reducible refine gate_callee (f := 16) rfl ?_); refine zGo (N := (some 4)) Try.func16 #[.int .u32 a0] ?_; (with_reducible refine (isa_Decode.calls k a0 t205 t206 t207 t208 t209 _ A2.out).mono ?_); rintro e w6 ⟨rfl, hb⟩; refine ⟨_, rfl, ?_⟩; refine zs (below_step (zHB) hb) ?_; clear HB; intro HB; clear hb))
      go_ret
      exact ⟨zE, zHB⟩
    · rw [if_neg c5] at H
      have c5b0 := beq_eq_false_iff_ne.mpr c5
      have c5b1 := bne_iff_ne.mpr c5
      by_cases c7 : t205 = 15
      · rw [if_pos c7] at H
        have c7b0 := beq_iff_eq.mpr c7
        have c7b1 := bne_eq_false_iff_eq.mpr c7
        clear c7
        obtain rfl := Option.some.inj H
        go_enter Try.func82, Try.ntmps82
        go_wp2_with (first | ((with_reducible refine gate_callee (f := 16) rfl ?_); refine zGo (N := (some 4)) Try.func16 #[.int .u32 a0] ?_; (with_reducible refine (isa_Decode.calls k a0 t205 t206 t207 t208 t209 _ A2.out).mono ?_); rintro e w8 ⟨rfl, hb⟩; refine ⟨_, rfl, ?_⟩; refine zs (below_step (zHB) hb) ?_; clear HB; intro HB; clear hb))
        go_ret
        exact ⟨zE, zHB⟩
      · rw [if_neg c7] at H
        have c7b0 := beq_eq_false_iff_ne.mpr c7
        have c7b1 := bne_iff_ne.mpr c7
        by_cases c9 : t205 = 16
        · rw [if_pos c9] at H
          have c9b0 := beq_iff_eq.mpr c9
          have c9b1 := bne_eq_false_iff_eq.mpr c9
          clear c9
          obtain rfl := Option.some.inj H
          go_enter Try.func82, Try.ntmps82
          go_wp2_with (first | ((with_reducible refine gate_callee (f := 16) rfl ?_); refine zGo (N := (some 4)) Try.func16 #[.int .u32 a0] ?_; (with_reducible refine (isa_Decode.calls k a0 t205 t206 t207 t208 t209 _ A2.out).mono ?_); rintro e w10 ⟨rfl, hb⟩; refine ⟨_, rfl, ?_⟩; refine zs (below_step (zHB) hb) ?_; clear HB; intro HB; clear hb))
          go_ret
          exact ⟨zE, zHB⟩
        · rw [if_neg c9] at H
          have c9b0 := beq_eq_false_iff_ne.mpr c9
          have c9b1 := bne_iff_ne.mpr c9
          by_cases c11 : t205 = 17
          · rw [if_pos c11] at H
            have c11b0 := beq_iff_eq.mpr c11
            have c11b1 := bne_eq_false_iff_eq.mpr c11
            clear c11
            obtain rfl := Option.some.inj H
            go_enter Try.func82, Try.ntmps82
            go_wp2_with (first | ((with_reducible refine gate_callee (f := 16) rfl ?_); refine zGo (N := (some 4)) Try.func16 #[.int .u32 a0] ?_; (with_reducible refine (isa_Decode.calls k a0 t205 t206 t207 t208 t209 _ A2.out).mono ?_); rintro e w12 ⟨rfl, hb⟩; refine ⟨_, rfl, ?_⟩; refine zs (below_step (zHB) hb) ?_; clear HB; intro HB; clear hb))
            go_ret
            exact ⟨zE, zHB⟩
          · rw [if_neg c11] at H
            have c11b0 := beq_eq_false_iff_ne.mpr c11
            have c11b1 := bne_iff_ne.mpr c11
            by_cases c13 : t205 = 18
            · rw [if_pos c13] at H
              have c13b0 := beq_iff_eq.mpr c13
              have c13b1 := bne_eq_false_iff_eq.mpr c13
              clear c13
              obtain rfl := Option.some.inj H
              go_enter Try.func82, Try.ntmps82
              go_wp2_with (first | ((with_reducible refine gate_callee (f := 16) rfl ?_); refine zGo (N := (some 4)) Try.func16 #[.int .u32 a0] ?_; (with_reducible refine (isa_Decode.calls k a0 t205 t206 t207 t208 t209 _ A2.out).mono ?_); rintro e w14 ⟨rfl, hb⟩; refine ⟨_, rfl, ?_⟩; refine zs (below_step (zHB) hb) ?_; clear HB; intro HB; clear hb))
              go_ret
              exact ⟨zE, zHB⟩
            · rw [if_neg c13] at H
              have c13b0 := beq_eq_false_iff_ne.mpr c13
              have c13b1 := bne_iff_ne.mpr c13
              by_cases c15 : t205 = 19
              · rw [if_pos c15] at H
                have c15b0 := beq_iff_eq.mpr c15
                have c15b1 := bne_eq_false_iff_eq.mpr c15
                clear c15
                obtain rfl := Option.some.inj H
                go_enter Try.func82, Try.ntmps82
                go_wp2_with (first | ((with_reducible refine gate_callee (f := 16) rfl ?_); refine zGo (N := (some 4)) Try.func16 #[.int .u32 a0] ?_; (with_reducible refine (isa_Decode.calls k a0 t205 t206 t207 t208 t209 _ A2.out).mono ?_); rintro e w16 ⟨rfl, hb⟩; refine ⟨_, rfl, ?_⟩; refine zs (below_step (zHB) hb) ?_; clear HB; intro HB; clear hb))
                go_ret
                exact ⟨zE, zHB⟩
              · rw [if_neg c15] at H
                have c15b0 := beq_eq_false_iff_ne.mpr c15
                have c15b1 := bne_iff_ne.mpr c15
                by_cases c17 : t205 = 21
                · rw [if_pos c17] at H
                  have c17b0 := beq_iff_eq.mpr c17
                  have c17b1 := bne_eq_false_iff_eq.mpr c17
                  clear c17
                  obtain rfl := Option.some.inj H
                  go_enter Try.func82, Try.ntmps82
                  go_wp2_with (first | ((with_reducible refine gate_callee (f := 16) rfl ?_); refine zGo (N := (some 4)) Try.func16 #[.int .u32 a0] ?_; (with_reducible refine (isa_Decode.calls k a0 t205 t206 t207 t208 t209 _ A2.out).mono ?_); rintro e w18 ⟨rfl, hb⟩; refine ⟨_, rfl, ?_⟩; refine zs (below_step (zHB) hb) ?_; clear HB; intro HB; clear hb))
                  go_ret
                  exact ⟨zE, zHB⟩
                · rw [if_neg c17] at H
                  have c17b0 := beq_eq_false_iff_ne.mpr c17
                  have c17b1 := bne_iff_ne.mpr c17
                  obtain rfl := Option.some.inj H
                  go_enter Try.func82, Try.ntmps82
                  go_wp2_with (first | ((with_reducible refine gate_callee (f := 16) rfl ?_); refine zGo (N := (some 4)) Try.func16 #[.int .u32 a0] ?_; (with_reducible refine (isa_Decode.calls k a0 t205 t206 t207 t208 t209 _ A2.out).mono ?_); rintro e w19 ⟨rfl, hb⟩; refine ⟨_, rfl, ?_⟩; refine zs (below_step (zHB) hb) ?_; clear HB; intro HB; clear hb))
                  go_ret
                  exact ⟨zE, zHB⟩

/-! ### isa_Falls: function 27 -/
def isa_Falls.f (k : Nat) (a0 : Int) : Option (Bool) := (isa_Ends.f k a0).bind fun t210 => (if t210 = true then ((isa_Decode.f k a0).bind fun bt211 => (some (bt211.1 == 16))) else (some true))
theorem isa_Falls.mono : ∀ a0 k, LeO (isa_Falls.f k a0) (isa_Falls.f (k + 1) a0) := by
  intro a0 k
  unfold isa_Falls.f
  have m0 := @isa_Decode.mono
  have m1 := @isa_Ends.mono
  exact zMo
set_option maxHeartbeats 8000000 in
set_option maxRecDepth 100000 in
theorem isa_Falls.calls (k : Nat) (a0 : Int) (r : Bool) (w : World) (h : isa_Falls.f k a0 = some r) :
    Calls Try.prog 27 #[.int .u32 a0] w fun e w' => e = .returned (.bool r) ∧ Below w.heap.size w w' := by
  have hfd36_0 : ∀ (x0_ x1_ x2_ x3_ x4_ : Value) (W : World), (Instr.field 36 (.agg #[x0_, x1_, x2_, x3_, x4_]) 0).run Try.prog W = .ok (x0_) W := fun _ _ _ _ _ _ => by kernel_rfl
  have HB := Aside0.mk (Below.refl w.heap.size w)
  have H := h
  clear h
  unfold isa_Falls.f at H
  replace H := Option.bind_eq_some_iff.mp H
  obtain ⟨t210, A20, H⟩ := H
  (try dsimp only at H)
  have A2 := Aside0.mk A20
  clear A20
  by_cases c3 : t210 = true
  · subst c3
    rw [if_pos rfl] at H
    replace H := Option.bind_eq_some_iff.mp H
    obtain ⟨⟨t211, t212, t213, t214, t215⟩, A40, H⟩ := H
    (try dsimp only at H)
    have A4 := Aside0.mk A40
    clear A40
    obtain rfl := Option.some.inj H
    go_enter Try.func27, Try.ntmps27
    go_wp2_with (first | ((with_reducible refine gate_callee (f := 82) rfl ?_); refine zGo (N := (some 4)) Try.func82 #[.int .u32 a0] ?_; (with_reducible refine (isa_Ends.calls k a0 true _ A2.out).mono ?_); rintro e w5 ⟨rfl, hb⟩; refine ⟨_, rfl, ?_⟩; refine zs (below_step (zHB) hb) ?_; clear HB; intro HB; clear hb) | (go_at_call 16; (with_reducible refine (isa_Decode.calls k a0 t211 t212 t213 t214 t215 _ A4.out).mono ?_); rintro e w6 ⟨rfl, hb⟩; refine zs (below_step (zHB) hb) ?_; clear HB; intro HB; clear hb))
    go_ret
    exact ⟨zE, zHB⟩
  · replace c3 := Bool.eq_false_iff.mpr c3
    subst c3
    rw [if_neg (show ¬ (false = true) by decide)] at H
    obtain rfl := Option.some.inj H
    go_enter Try.func27, Try.ntmps27
    go_wp2_with (first | ((with_reducible refine gate_callee (f := 82) rfl ?_); refine zGo (N := (some 4)) Try.func82 #[.int .u32 a0] ?_; (with_reducible refine (isa_Ends.calls k a0 false _ A2.out).mono ?_); rintro e w7 ⟨rfl, hb⟩; refine ⟨_, rfl, ?_⟩; refine zs (below_step (zHB) hb) ?_; clear HB; intro HB; clear hb))
    go_ret
    exact ⟨zE, zHB⟩

end Go.Proofs.Ytfgdjpgdabjpmaa.PImageRound
