-- Written for this claim by a program of this session (wip/tools/pp.py, over the kit's print).
import Derived.Test.YtfgdjpgdabjpmaaPMachineSplitsx0
import Derived.Test.YtfgdjpgdabjpmaaPMachineSplitsx5
import Derived.Test.YtfgdjpgdabjpmaaPMachineSplitsx7
import Derived.Test.YtfgdjpgdabjpmaaPMachineSplitsx8
namespace Go.Proofs.Ytfgdjpgdabjpmaa.PMachineSplits
open Go.RowKit Go.Proofs.YtfgdjpgdabjpmaaW.PrintWords Go.Proofs.YtfgdjpgdabjpmaaW.PrintLast Go.Proofs.YtfgdjpgdabjpmaaW.PrintMore
attribute [local go_sem] max2_int min2_int max_two min_two max_three min_three max_four min_four   -- for this text's walks alone
set_option linter.unusedVariables false
set_option linter.unusedSimpArgs false

/-! ### pleatlaw10_MachineSplits: function 10, by hand -/
-- LIB
/-- Two machines, neither's blocks the other's; all new since W. -/
def Two (W w : World) (g1 g2 : Nat) (s1 s2 : MS) : Prop :=
  ∃ B1 O1 vt1 va1 vm1 vp1 B2 O2 vt2 va2 vm2 vp2, Mach B1 w g1 O1 vt1 va1 vm1 vp1 s1 ∧ Mach B2 w g2 O2 vt2 va2 vm2 vp2 s2 ∧ (∀ k, O1 k → ¬ O2 k) ∧ W.heap.size ≤ B1 ∧ W.heap.size ≤ B2 ∧ Below W.heap.size W w
theorem Two.swap {W w : World} {g1 g2 : Nat} {s1 s2 : MS} (h : Two W w g1 g2 s1 s2) : Two W w g2 g1 s2 s1 := by
  obtain ⟨B1, O1, vt1, va1, vm1, vp1, B2, O2, vt2, va2, vm2, vp2, h1, h2, hd, hb1, hb2, hL⟩ := h
  exact ⟨B2, O2, vt2, va2, vm2, vp2, B1, O1, vt1, va1, vm1, vp1, h2, h1, fun k a b => hd k b a, hb2, hb1, hL⟩
theorem Two.below {W w w' : World} {g1 g2 : Nat} {s1 s2 : MS} (h : Two W w g1 g2 s1 s2) (hb : Below w.heap.size w w') : Two W w' g1 g2 s1 s2 := by
  obtain ⟨B1, O1, vt1, va1, vm1, vp1, B2, O2, vt2, va2, vm2, vp2, h1, h2, hd, hb1, hb2, hL⟩ := h
  exact ⟨B1, O1, vt1, va1, vm1, vp1, B2, O2, vt2, va2, vm2, vp2, h1.below hb, h2.below hb, hd, hb1, hb2, hL.trans (hb.mono hL.size)⟩
theorem Two.out {W w : World} {g1 g2 : Nat} {s1 s2 : MS} (h : Two W w g1 g2 s1 s2) : Below W.heap.size W w := by
  obtain ⟨_, _, _, _, _, _, _, _, _, _, _, _, _, _, _, _, _, hL⟩ := h
  exact hL
theorem Mach.base {B g : Nat} {w : World} {O : Nat → Prop} {vt va vm vp : Value} {s : MS} (h : Mach B w g O vt va vm vp s) : B ≤ w.heap.size := Nat.le_of_lt (Nat.lt_of_le_of_lt (h.low g h.own) (h.lt g h.own))
theorem Two.of_new {W w w' : World} {g1 g2 : Nat} {s1 s2 : MS} (h1 : MNew W w g1 s1) (h2 : MNew w w' g2 s2) : Two W w' g1 g2 s1 s2 := by
  obtain ⟨vt1, va1, vm1, vp1, hM1, hb1⟩ := h1
  obtain ⟨vt2, va2, vm2, vp2, hM2, hb2⟩ := h2
  exact ⟨_, _, vt1, va1, vm1, vp1, _, _, vt2, va2, vm2, vp2, hM1.below hb2, hM2, fun k hk hk2 => by have := hk.2; have := hk2.1; omega, Nat.le_refl _, hb1.size, hb1.trans (hb2.mono hb1.size)⟩
theorem Two.after {W w w' : World} {g1 g2 : Nat} {s1 s2 s3 : MS} {B1 : Nat} {O1 : Nat → Prop} {vt1 va1 vm1 vp1 : Value} {B2 : Nat} {O2 : Nat → Prop} {vt2 va2 vm2 vp2 : Value} (h1 : Mach B1 w g1 O1 vt1 va1 vm1 vp1 s1) (h2 : Mach B2 w g2 O2 vt2 va2 vm2 vp2 s2) (hd : ∀ k, O1 k → ¬ O2 k) (hb1 : W.heap.size ≤ B1) (hb2 : W.heap.size ≤ B2) (hL : Below W.heap.size W w)
    (ha : MAfter B1 g1 w O1 vt1 va1 s3 w') : Two W w' g1 g2 s3 s2 := by
  obtain ⟨vm3, vp3, hM, hk, hb⟩ := ha
  exact ⟨B1, _, vt1, va1, vm3, vp3, B2, O2, vt2, va2, vm2, vp2, hM, h2.kept hk (fun k h2k h1k => hd k h1k h2k), fun k hk1 hk2 => hk1.1.elim (fun h => hd k h hk2) (fun h => by have := h2.lt k hk2; omega), hb1, hb2, hL.trans (hb.mono hb1)⟩
theorem two_Run {W w : World} {g1 g2 : Nat} {s1 s2 : MS} (h : Two W w g1 g2 s1 s2) (k : Nat) (most : Int) (s' : MS) (hr : mrun k k s1.steps most s1 = some s') :
    Calls Try.prog 57 #[.pointer (some ⟨g1, 0, none⟩), .int .i64 most] w fun e w' => e = .returned (.tuple #[.int .i64 (wrap64 (s'.steps - s1.steps)), .int .i8 s'.status]) ∧ Two W w' g1 g2 s' s2 := by
  obtain ⟨B1, O1, vt1, va1, vm1, vp1, B2, O2, vt2, va2, vm2, vp2, h1, h2, hd, hb1, hb2, hL⟩ := h
  refine (mach_Run h1 h1.base k k most s' hr).mono ?_
  rintro e w' ⟨rfl, ha⟩
  exact ⟨rfl, Two.after h1 h2 hd hb1 hb2 hL ha⟩
theorem two_Step {W w : World} {g1 g2 : Nat} {s1 s2 : MS} (h : Two W w g1 g2 s1 s2) (k : Nat) (s' : MS) (hs : (if s1.status = 0 then mstep k s1 else some s1) = some s') :
    Calls Try.prog 49 #[.pointer (some ⟨g1, 0, none⟩)] w fun e w' => e = .returned (.int .i8 s'.status) ∧ Two W w' g1 g2 s' s2 := by
  obtain ⟨B1, O1, vt1, va1, vm1, vp1, B2, O2, vt2, va2, vm2, vp2, h1, h2, hd, hb1, hb2, hL⟩ := h
  refine (mach_Step h1 h1.base k s' hs).mono ?_
  rintro e w' ⟨rfl, ha⟩
  exact ⟨rfl, Two.after h1 h2 hd hb1 hb2 hL ha⟩
theorem two_Status {W w : World} {g1 g2 : Nat} {s1 s2 : MS} (h : Two W w g1 g2 s1 s2) : Calls Try.prog 65 #[.pointer (some ⟨g1, 0, none⟩)] w fun e w' => e = .returned (.int .i8 s1.status) ∧ w' = w := by
  obtain ⟨B1, O1, vt1, va1, vm1, vp1, B2, O2, vt2, va2, vm2, vp2, h1, h2, hd, hb1, hb2, hL⟩ := h
  exact mach_Status h1
theorem two_At {W w : World} {g1 g2 : Nat} {s1 s2 : MS} (h : Two W w g1 g2 s1 s2) : Calls Try.prog 47 #[.pointer (some ⟨g1, 0, none⟩)] w fun e w' => e = .returned (.int .i64 s1.place) ∧ w' = w := by
  obtain ⟨B1, O1, vt1, va1, vm1, vp1, B2, O2, vt2, va2, vm2, vp2, h1, h2, hd, hb1, hb2, hL⟩ := h
  exact mach_At h1
theorem two_Steps {W w : World} {g1 g2 : Nat} {s1 s2 : MS} (h : Two W w g1 g2 s1 s2) : Calls Try.prog 58 #[.pointer (some ⟨g1, 0, none⟩)] w fun e w' => e = .returned (.int .i64 s1.steps) ∧ w' = w := by
  obtain ⟨B1, O1, vt1, va1, vm1, vp1, B2, O2, vt2, va2, vm2, vp2, h1, h2, hd, hb1, hb2, hL⟩ := h
  exact mach_Steps h1
theorem two_Taken {W w : World} {g1 g2 : Nat} {s1 s2 : MS} (h : Two W w g1 g2 s1 s2) : Calls Try.prog 59 #[.pointer (some ⟨g1, 0, none⟩)] w fun e w' => e = .returned (.int .i64 s1.taken) ∧ w' = w := by
  obtain ⟨B1, O1, vt1, va1, vm1, vp1, B2, O2, vt2, va2, vm2, vp2, h1, h2, hd, hb1, hb2, hL⟩ := h
  exact mach_Taken h1
theorem two_Memory {W w : World} {g1 g2 : Nat} {s1 s2 : MS} (h : Two W w g1 g2 s1 s2) (hl : s1.mem.length * 16 ≤ 140737488355328) : Calls Try.prog 61 #[.pointer (some ⟨g1, 0, none⟩)] w fun e w' => ∃ (A : Option Addr) (c : Nat), e = .returned (.slice A s1.mem.length c) ∧ s1.mem.length ≤ c ∧ Kd.C k106 w' A s1.mem.length s1.mem ∧ Two W w' g1 g2 s1 s2 ∧ Below w.heap.size w w' := by
  have h0 := h
  obtain ⟨B1, O1, vt1, va1, vm1, vp1, B2, O2, vt2, va2, vm2, vp2, h1, h2, hd, hb1, hb2, hL⟩ := h
  refine (mach_Memory h1 hl).mono ?_
  rintro e w' ⟨v, rfl, hR, hb⟩
  obtain ⟨A, c, rfl, hc, hC⟩ := Kd.R_reads hR
  exact ⟨A, c, rfl, hc, hC, h0.below hb, hb⟩
theorem two_Ports {W w : World} {g1 g2 : Nat} {s1 s2 : MS} (h : Two W w g1 g2 s1 s2) (hl : s1.ports.length * 16 ≤ 140737488355328) : Calls Try.prog 63 #[.pointer (some ⟨g1, 0, none⟩)] w fun e w' => ∃ (A : Option Addr) (c : Nat), e = .returned (.slice A s1.ports.length c) ∧ s1.ports.length ≤ c ∧ Kd.C k161 w' A s1.ports.length s1.ports ∧ Two W w' g1 g2 s1 s2 ∧ Below w.heap.size w w' := by
  have h0 := h
  obtain ⟨B1, O1, vt1, va1, vm1, vp1, B2, O2, vt2, va2, vm2, vp2, h1, h2, hd, hb1, hb2, hL⟩ := h
  refine (mach_Ports h1 hl).mono ?_
  rintro e w' ⟨v, rfl, hR, hb⟩
  obtain ⟨A, c, rfl, hc, hC⟩ := Kd.R_reads hR
  exact ⟨A, c, rfl, hc, hC, h0.below hb, hb⟩
/-- A run in two parts, and the run. -/
def pleatlaw10_MachineSplits.f (k : Nat) (l0 : List Int) (a1 : Int) (l2 l3 : List Int) (x0 x1 : Int) : Option Bool :=
  (pleatlaw10_much.f l0 a1 l2 l3).bind fun u => if u = true ∨ x0 < 0 ∨ x1 < 0 ∨ 2000 < x0 ∨ 2000 < x1 then pleatlaw10_works.f k else
  (mnew k l0 a1 l2 l3).bind fun r => match r.1 with
  | none => if r.2 ≠ 0 then pleatlaw10_works.f k else none
  | some s => if r.2 = 0 then (mrun k k s.steps x0 s).bind fun a => (mrun k k a.steps x1 a).bind fun b => (mrun k k s.steps (wrap64 (x0 + x1)) s).bind fun c =>
      (pleatref00_EqRow.f k b.mem c.mem).bind fun p => (pleatref00_EqPorts.f k b.ports c.ports).bind fun q =>
      if (wrap64 (wrap64 (a.steps - s.steps) + wrap64 (b.steps - a.steps)) = wrap64 (c.steps - s.steps) ∧ b.status = c.status ∧ b.place = c.place ∧ b.steps = wrap64 (c.steps - s.steps) ∧ b.taken = c.taken ∧ p = true ∧ q = true) ∧ (b.mem.length * 16 ≤ 140737488355328 ∧ c.mem.length * 16 ≤ 140737488355328 ∧ b.ports.length * 16 ≤ 140737488355328 ∧ c.ports.length * 16 ≤ 140737488355328) then
        (if b.status ≠ 0 then (mrun k k b.steps 5 b).bind fun d => (if d.status = 0 then mstep k d else some d).bind fun t => if wrap64 (d.steps - b.steps) = 0 ∧ d.status = b.status ∧ t.status = b.status ∧ t.steps = wrap64 (c.steps - s.steps) then pleatlaw10_works.f k else none
         else if wrap64 (c.steps - s.steps) = wrap64 (x0 + x1) then pleatlaw10_works.f k else none) else none else none
set_option maxRecDepth 100000 in
set_option maxHeartbeats 16000000 in
theorem pleatlaw10_MachineSplits.calls (k : Nat) (A0 : Option Addr) (c0 : Nat) (l0 : List Int) (a1 : Int) (A2 : Option Addr) (c2 : Nat) (l2 : List Int) (A3 : Option Addr) (c3 : Nat) (l3 : List Int) (x0 x1 : Int) (r : Bool) (w : World) (hr0 : Kd.C (Kd.int .u32) w A0 l0.length l0) (hc0 : l0.length ≤ c0) (hr2 : Kd.C (Kd.int .i64) w A2 l2.length l2) (hc2 : l2.length ≤ c2) (hr3 : Kd.C (Kd.int .i64) w A3 l3.length l3) (hc3 : l3.length ≤ c3) (h : pleatlaw10_MachineSplits.f k l0 a1 l2 l3 x0 x1 = some r) :
    Calls Try.prog 10 #[.agg #[.slice A0 l0.length c0, .int .i64 a1, .slice A2 l2.length c2], .slice A3 l3.length c3, .agg #[.int .i64 x0, .int .i64 x1]] w fun e w' => e = .returned (.bool r) ∧ Below w.heap.size w w' := by
  have HR0 := Aside0.mk hr0; have HR2 := Aside0.mk hr2; have HR3 := Aside0.mk hr3
  have hu := Try.underlying25
  have hu2 := Try.underlying94
  have hX := Aside0.mk (blk_alloc (blk_new w (.cells #[.slice A0 l0.length c0, .int .i64 a1, .slice A2 l2.length c2] 25)) (.cells #[.int .i64 x0, .int .i64 x1] 94))
  have hY0 := blk_new (w.alloc (.cells #[.slice A0 l0.length c0, .int .i64 a1, .slice A2 l2.length c2] 25)) (.cells #[.int .i64 x0, .int .i64 x1] 94)
  have hsz : (w.alloc (.cells #[.slice A0 l0.length c0, .int .i64 a1, .slice A2 l2.length c2] 25)).heap.size = w.heap.size + 1 := by simp
  rw [hsz] at hY0
  have hY := Aside0.mk hY0
  have hB := Aside0.mk (((Below.refl w.heap.size w).alloc (Nat.le_refl _) (.cells #[.slice A0 l0.length c0, .int .i64 a1, .slice A2 l2.length c2] 25)).alloc (by simp) (.cells #[.int .i64 x0, .int .i64 x1] 94))
  have hx := blk_cell hX.out; have hy := blk_cell hY.out
  clear hY0 hsz hr0 hr2 hr3
  unfold pleatlaw10_MachineSplits.f at h
  obtain ⟨u, hu0, h0⟩ := Option.bind_eq_some_iff.1 h
  clear h
  have h := h0
  have HU := Aside0.mk hu0
  clear hu0 h0
  by_cases h5 : u = true ∨ x0 < 0 ∨ x1 < 0 ∨ 2000 < x0 ∨ 2000 < x1
  · rw [if_pos h5] at h
    have HW := Aside0.mk h
    clear h
    by_cases q0 : u = true
    · subst q0
      go_enter Try.func10, Try.ntmps10
      go_wp2_with (first | (go_at_call 55; refine (pleatlaw10_much.calls _ _ l0 a1 _ _ l2 _ _ l3 _ _ (Kd.C_below HR0.out hB.out) hc0 (Kd.C_below HR2.out hB.out) hc2 (Kd.C_below HR3.out hB.out) hc3 HU.out).mono ?_; rintro e w1 ⟨rfl, hb⟩; have hB1 := Aside0.mk (hB.out.trans (hb.mono hB.out.size)); have hX1 := Aside0.mk (blk_below hX.out hb); have hY1 := Aside0.mk (blk_below hY.out hb); have hx1 := blk_cell hX1.out; have hy1 := blk_cell hY1.out; clear hb) | (go_at_call 56; refine (pleatlaw10_works.calls k r _ HW.out).mono ?_; rintro e w9 ⟨rfl, hb⟩; have HB9 := Aside0.mk (hB1.out.trans (hb.mono (hB1.out).size)); clear hb))
      go_ret
      exact ⟨rfl, HB9.out⟩
    · obtain rfl : u = false := by simpa using q0
      by_cases q1 : x0 < 0
      · have d1 : decide (x0 < 0) = true := decide_eq_true (by omega)
        go_enter Try.func10, Try.ntmps10
        go_wp2_with (first | (go_at_call 55; refine (pleatlaw10_much.calls _ _ l0 a1 _ _ l2 _ _ l3 _ _ (Kd.C_below HR0.out hB.out) hc0 (Kd.C_below HR2.out hB.out) hc2 (Kd.C_below HR3.out hB.out) hc3 HU.out).mono ?_; rintro e w1 ⟨rfl, hb⟩; have hB1 := Aside0.mk (hB.out.trans (hb.mono hB.out.size)); have hX1 := Aside0.mk (blk_below hX.out hb); have hY1 := Aside0.mk (blk_below hY.out hb); have hx1 := blk_cell hX1.out; have hy1 := blk_cell hY1.out; clear hb) | (go_at_call 56; refine (pleatlaw10_works.calls k r _ HW.out).mono ?_; rintro e w9 ⟨rfl, hb⟩; have HB9 := Aside0.mk (hB1.out.trans (hb.mono (hB1.out).size)); clear hb))
        go_ret
        exact ⟨rfl, HB9.out⟩
      · have d1 : decide (x0 < 0) = false := decide_eq_false (by omega)
        by_cases q2 : x1 < 0
        · have d2 : decide (x1 < 0) = true := decide_eq_true (by omega)
          go_enter Try.func10, Try.ntmps10
          go_wp2_with (first | (go_at_call 55; refine (pleatlaw10_much.calls _ _ l0 a1 _ _ l2 _ _ l3 _ _ (Kd.C_below HR0.out hB.out) hc0 (Kd.C_below HR2.out hB.out) hc2 (Kd.C_below HR3.out hB.out) hc3 HU.out).mono ?_; rintro e w1 ⟨rfl, hb⟩; have hB1 := Aside0.mk (hB.out.trans (hb.mono hB.out.size)); have hX1 := Aside0.mk (blk_below hX.out hb); have hY1 := Aside0.mk (blk_below hY.out hb); have hx1 := blk_cell hX1.out; have hy1 := blk_cell hY1.out; clear hb) | (go_at_call 56; refine (pleatlaw10_works.calls k r _ HW.out).mono ?_; rintro e w9 ⟨rfl, hb⟩; have HB9 := Aside0.mk (hB1.out.trans (hb.mono (hB1.out).size)); clear hb))
          go_ret
          exact ⟨rfl, HB9.out⟩
        · have d2 : decide (x1 < 0) = false := decide_eq_false (by omega)
          by_cases q3 : 2000 < x0
          · have d3 : decide (x0 > 2000) = true := decide_eq_true (by omega)
            go_enter Try.func10, Try.ntmps10
            go_wp2_with (first | (go_at_call 55; refine (pleatlaw10_much.calls _ _ l0 a1 _ _ l2 _ _ l3 _ _ (Kd.C_below HR0.out hB.out) hc0 (Kd.C_below HR2.out hB.out) hc2 (Kd.C_below HR3.out hB.out) hc3 HU.out).mono ?_; rintro e w1 ⟨rfl, hb⟩; have hB1 := Aside0.mk (hB.out.trans (hb.mono hB.out.size)); have hX1 := Aside0.mk (blk_below hX.out hb); have hY1 := Aside0.mk (blk_below hY.out hb); have hx1 := blk_cell hX1.out; have hy1 := blk_cell hY1.out; clear hb) | (go_at_call 56; refine (pleatlaw10_works.calls k r _ HW.out).mono ?_; rintro e w9 ⟨rfl, hb⟩; have HB9 := Aside0.mk (hB1.out.trans (hb.mono (hB1.out).size)); clear hb))
            go_ret
            exact ⟨rfl, HB9.out⟩
          · have d3 : decide (x0 > 2000) = false := decide_eq_false (by omega)
            by_cases q4 : 2000 < x1
            · have d4 : decide (x1 > 2000) = true := decide_eq_true (by omega)
              go_enter Try.func10, Try.ntmps10
              go_wp2_with (first | (go_at_call 55; refine (pleatlaw10_much.calls _ _ l0 a1 _ _ l2 _ _ l3 _ _ (Kd.C_below HR0.out hB.out) hc0 (Kd.C_below HR2.out hB.out) hc2 (Kd.C_below HR3.out hB.out) hc3 HU.out).mono ?_; rintro e w1 ⟨rfl, hb⟩; have hB1 := Aside0.mk (hB.out.trans (hb.mono hB.out.size)); have hX1 := Aside0.mk (blk_below hX.out hb); have hY1 := Aside0.mk (blk_below hY.out hb); have hx1 := blk_cell hX1.out; have hy1 := blk_cell hY1.out; clear hb) | (go_at_call 56; refine (pleatlaw10_works.calls k r _ HW.out).mono ?_; rintro e w9 ⟨rfl, hb⟩; have HB9 := Aside0.mk (hB1.out.trans (hb.mono (hB1.out).size)); clear hb))
              go_ret
              exact ⟨rfl, HB9.out⟩
            · have d4 : decide (x1 > 2000) = false := decide_eq_false (by omega)
              rcases h5 with h | h | h | h | h
              · cases h
              · exact absurd h q1
              · exact absurd h q2
              · exact absurd h q3
              · exact absurd h q4
  · rw [if_neg h5] at h
    obtain rfl : u = false := by cases u with | true => exact absurd (.inl rfl) h5 | false => rfl
    have d1 : decide (x0 < 0) = false := decide_eq_false (fun hh => h5 (.inr (.inl hh)))
    have d2 : decide (x1 < 0) = false := decide_eq_false (fun hh => h5 (.inr (.inr (.inl hh))))
    have d3 : decide (x0 > 2000) = false := decide_eq_false (fun hh => h5 (.inr (.inr (.inr (.inl hh)))))
    have d4 : decide (x1 > 2000) = false := decide_eq_false (fun hh => h5 (.inr (.inr (.inr (.inr hh)))))
    clear h5
    obtain ⟨⟨o, e0⟩, hn, h6⟩ := Option.bind_eq_some_iff.1 h
    clear h
    have h := h6
    have HN := Aside0.mk hn
    clear hn h6
    cases o with
    | none =>
      dsimp only at h
      by_cases he : e0 ≠ 0
      · rw [if_pos he] at h
        have HW := Aside0.mk h
        have d6 : (e0 != 0) = true := by simpa using he
        have d7 : (e0 != e0) = false := by simp
        have tn1 : True := trivial
        have tn2 : True := trivial
        clear h he
        go_enter Try.func10, Try.ntmps10
        go_wp2_with (first | (go_at_call 55; refine (pleatlaw10_much.calls _ _ l0 a1 _ _ l2 _ _ l3 _ _ (Kd.C_below HR0.out hB.out) hc0 (Kd.C_below HR2.out hB.out) hc2 (Kd.C_below HR3.out hB.out) hc3 HU.out).mono ?_; rintro e w1 ⟨rfl, hb⟩; have hB1 := Aside0.mk (hB.out.trans (hb.mono hB.out.size)); have hX1 := Aside0.mk (blk_below hX.out hb); have hY1 := Aside0.mk (blk_below hY.out hb); have hx1 := blk_cell hX1.out; have hy1 := blk_cell hY1.out; clear hb) | (go_at_call 46; have _ := tn1; refine (mach_New_no k _ _ l0 a1 _ _ l2 _ _ l3 _ (Kd.C_below HR0.out hB1.out) hc0 (Kd.C_below HR2.out hB1.out) hc2 (Kd.C_below HR3.out hB1.out) hc3 e0 HN.out).mono ?_; rintro e w2 ⟨rfl, hb⟩; clear tn1; have hB2 := Aside0.mk (hB1.out.trans (hb.mono hB1.out.size)); have hX2 := Aside0.mk (blk_below hX1.out hb); have hx2 := blk_cell hX2.out; clear hb) | (go_at_call 46; have _ := tn2; refine (mach_New_no k _ _ l0 a1 _ _ l2 _ _ l3 _ (Kd.C_below HR0.out hB2.out) hc0 (Kd.C_below HR2.out hB2.out) hc2 (Kd.C_below HR3.out hB2.out) hc3 e0 HN.out).mono ?_; rintro e w3 ⟨rfl, hb⟩; clear tn2; have hB3 := Aside0.mk (hB2.out.trans (hb.mono hB2.out.size)); have hX3 := Aside0.mk (blk_below hX2.out hb); have hx3 := blk_cell hX3.out; clear hb) | (go_at_call 56; refine (pleatlaw10_works.calls k r _ HW.out).mono ?_; rintro e w9 ⟨rfl, hb⟩; have HB9 := Aside0.mk (hB3.out.trans (hb.mono (hB3.out).size)); clear hb))
        go_ret
        exact ⟨rfl, HB9.out⟩
      · rw [if_neg he] at h; cases h
    | some s =>
      dsimp only at h
      by_cases he : e0 = 0
      · subst he
        rw [if_pos rfl] at h
        obtain ⟨a, hha, h6⟩ := Option.bind_eq_some_iff.1 h
        clear h
        obtain ⟨b, hhb, h7⟩ := Option.bind_eq_some_iff.1 h6
        clear h6
        obtain ⟨c, hhc, h8⟩ := Option.bind_eq_some_iff.1 h7
        clear h7
        obtain ⟨p, hp, h9⟩ := Option.bind_eq_some_iff.1 h8
        clear h8
        obtain ⟨q, hq, h⟩ := Option.bind_eq_some_iff.1 h9
        clear h9
        have HA := Aside0.mk hha; have HBb := Aside0.mk hhb; have HC := Aside0.mk hhc
        clear hha hhb hhc
        by_cases hc : (wrap64 (wrap64 (a.steps - s.steps) + wrap64 (b.steps - a.steps)) = wrap64 (c.steps - s.steps) ∧ b.status = c.status ∧ b.place = c.place ∧ b.steps = wrap64 (c.steps - s.steps) ∧ b.taken = c.taken ∧ p = true ∧ q = true) ∧ (b.mem.length * 16 ≤ 140737488355328 ∧ c.mem.length * 16 ≤ 140737488355328 ∧ b.ports.length * 16 ≤ 140737488355328 ∧ c.ports.length * 16 ≤ 140737488355328)
        · rw [if_pos hc] at h
          obtain ⟨⟨z1, z2, z3, z4, z5, rfl, rfl⟩, l1, l2_, l3_, l4⟩ := hc
          have HEQ := Aside0.mk hp; have HEP := Aside0.mk hq; have HL1 := Aside0.mk l1; have HL2 := Aside0.mk l2_; have HL3 := Aside0.mk l3_; have HL4 := Aside0.mk l4
          have d7 : ((0 : Int) != 0) = false := by decide
          have d8 : (wrap64 (wrap64 (a.steps - s.steps) + wrap64 (b.steps - a.steps)) != wrap64 (c.steps - s.steps)) = false := by rw [z1]; simp
          have d9 : (b.status != c.status) = false := by rw [z2]; simp
          have d10 : (b.place != c.place) = false := by rw [z3]; simp
          have d11 : (b.steps != wrap64 (c.steps - s.steps)) = false := by rw [← z4]; simp
          have d12 : (b.taken != c.taken) = false := by rw [z5]; simp
          clear hp hq l1 l2_ l3_ l4 z1 z2 z3 z4 z5
          have tn1 : True := trivial
          have tn2 : True := trivial
          have tr1 : True := trivial
          have tr2 : True := trivial
          have tr3 : True := trivial
          have tr4 : True := trivial
          have ta1 : True := trivial
          have ta2 : True := trivial
          have ts1 : True := trivial
          have ts2 : True := trivial
          have tt1 : True := trivial
          have tt2 : True := trivial
          have tm1 : True := trivial
          have tm2 : True := trivial
          have tp1 : True := trivial
          have tp2 : True := trivial
          by_cases hz : b.status ≠ 0
          · rw [if_pos hz] at h
            obtain ⟨d, hhd, h6⟩ := Option.bind_eq_some_iff.1 h
            clear h
            obtain ⟨t, hht, h⟩ := Option.bind_eq_some_iff.1 h6
            clear h6
            by_cases hv : wrap64 (d.steps - b.steps) = 0 ∧ d.status = b.status ∧ t.status = b.status ∧ t.steps = wrap64 (c.steps - s.steps)
            · rw [if_pos hv] at h
              obtain ⟨y1, y2, y3, y4⟩ := hv
              have HW := Aside0.mk h; have HD := Aside0.mk hhd; have HTT := Aside0.mk hht
              have d13 : (b.status != 0) = true := by simpa using hz
              have d14 : (wrap64 (d.steps - b.steps) == 0) = true := by simpa using y1
              have d15 : (d.status == b.status) = true := by simpa using y2
              have d16 : (t.status == b.status) = true := by simpa using y3
              have d17 : (t.steps == wrap64 (c.steps - s.steps)) = true := by simpa using y4
              clear h hhd hht hz y1 y2 y3 y4
              go_enter Try.func10, Try.ntmps10
              go_wp2_with (first | (go_at_call 55; refine (pleatlaw10_much.calls _ _ l0 a1 _ _ l2 _ _ l3 _ _ (Kd.C_below HR0.out hB.out) hc0 (Kd.C_below HR2.out hB.out) hc2 (Kd.C_below HR3.out hB.out) hc3 HU.out).mono ?_; rintro e w1 ⟨rfl, hb⟩; have hB1 := Aside0.mk (hB.out.trans (hb.mono hB.out.size)); have hX1 := Aside0.mk (blk_below hX.out hb); have hY1 := Aside0.mk (blk_below hY.out hb); have hx1 := blk_cell hX1.out; have hy1 := blk_cell hY1.out; clear hb) | (go_at_call 46; have _ := tn1; refine (mach_New_ok k _ _ l0 a1 _ _ l2 _ _ l3 _ (Kd.C_below HR0.out hB1.out) hc0 (Kd.C_below HR2.out hB1.out) hc2 (Kd.C_below HR3.out hB1.out) hc3 s HN.out).mono ?_; rintro e w2 ⟨g1, rfl, hn⟩; clear tn1; have HG := Aside0.mk hn; obtain ⟨_, _, _, _, _, hb⟩ := hn; have hB2 := Aside0.mk (hB1.out.trans (hb.mono hB1.out.size)); have hX2 := Aside0.mk (blk_below hX1.out hb); have hx2 := blk_cell hX2.out; have hY2 := Aside0.mk (blk_below hY1.out hb); clear hb) | (go_at_call 46; have _ := tn2; refine (mach_New_ok k _ _ l0 a1 _ _ l2 _ _ l3 _ (Kd.C_below HR0.out hB2.out) hc0 (Kd.C_below HR2.out hB2.out) hc2 (Kd.C_below HR3.out hB2.out) hc3 s HN.out).mono ?_; rintro e w3 ⟨g2, rfl, hn⟩; clear tn2; have HT := Aside0.mk (Two.of_new HG.out hn); obtain ⟨_, _, _, _, _, hb⟩ := hn; have hY3 := Aside0.mk (blk_below hY2.out hb); have hy3 := blk_cell hY3.out; clear hb HG) | (go_at_call 57; have _ := tr1; refine (two_Run HT.out k _ a (by first | exact HA.out | (rw [i64_w]; exact HA.out))).mono ?_; rintro e w4 ⟨rfl, ht⟩; clear tr1; have HT2 := Aside0.mk (ht); clear ht HT; have HT := HT2; clear HT2 hy3; have hy4 := blk_cell (blk_below hY1.out HT.out.out)) | (go_at_call 57; have _ := tr2; refine (two_Run HT.out k _ b (by first | exact HBb.out | (rw [i64_w]; exact HBb.out))).mono ?_; rintro e w5 ⟨rfl, ht⟩; clear tr2; have HT2 := Aside0.mk (ht); clear ht HT; have HT := HT2; clear HT2 hy4; have hy5 := blk_cell (blk_below hY1.out HT.out.out)) | (go_at_call 57; have _ := tr3; refine (two_Run HT.out.swap k _ c (by first | exact HC.out | (rw [i64_w]; exact HC.out))).mono ?_; rintro e w6 ⟨rfl, ht⟩; clear tr3; have HT2 := Aside0.mk (ht.swap); clear ht HT; have HT := HT2; clear HT2 hy5; have hy6 := blk_cell (blk_below hY1.out HT.out.out)) | (go_at_call 47; have _ := ta1; refine (two_At HT.out).mono ?_; rintro e w' ⟨rfl, hw'⟩; obtain rfl := hw'.symm; clear ta1) | (go_at_call 47; have _ := ta2; refine (two_At HT.out.swap).mono ?_; rintro e w' ⟨rfl, hw'⟩; obtain rfl := hw'.symm; clear ta2) | (go_at_call 58; have _ := ts1; refine (two_Steps HT.out).mono ?_; rintro e w' ⟨rfl, hw'⟩; obtain rfl := hw'.symm; clear ts1) | (go_at_call 59; have _ := tt1; refine (two_Taken HT.out).mono ?_; rintro e w' ⟨rfl, hw'⟩; obtain rfl := hw'.symm; clear tt1) | (go_at_call 59; have _ := tt2; refine (two_Taken HT.out.swap).mono ?_; rintro e w' ⟨rfl, hw'⟩; obtain rfl := hw'.symm; clear tt2) | (go_at_call 61; have _ := tm1; refine (two_Memory HT.out HL1.out).mono ?_; rintro e w7 ⟨Am1, cm1, rfl, hlm1, hCm1, ht, hb⟩; clear tm1; have HT2 := Aside0.mk (ht); clear ht HT; have HT := HT2; clear HT2; have HCm1 := Aside0.mk hCm1; clear hCm1; clear hb) | (go_at_call 61; have _ := tm2; refine (two_Memory HT.out.swap HL2.out).mono ?_; rintro e w8 ⟨Am2, cm2, rfl, hlm2, hCm2, ht, hb⟩; clear tm2; have HT2 := Aside0.mk (ht.swap); clear ht HT; have HT := HT2; clear HT2; have HCm2 := Aside0.mk hCm2; clear hCm2; have HKm1 := Aside0.mk (Kd.C_below HCm1.out hb); clear hb) | (go_at_call 60; refine (pleatref00_EqRow.calls k _ _ b.mem _ _ c.mem true _ HKm1.out hlm1 HCm2.out hlm2 HEQ.out).mono ?_; rintro e w20 ⟨rfl, hd⟩; have HT2 := Aside0.mk (HT.out.below hd.below); clear hd HT; have HT := HT2; clear HT2) | (go_at_call 63; have _ := tp1; refine (two_Ports HT.out HL3.out).mono ?_; rintro e w9 ⟨Ap1, cp1, rfl, hlp1, hCp1, ht, hb⟩; clear tp1; have HT2 := Aside0.mk (ht); clear ht HT; have HT := HT2; clear HT2; have HCp1 := Aside0.mk hCp1; clear hCp1; clear hb) | (go_at_call 63; have _ := tp2; refine (two_Ports HT.out.swap HL4.out).mono ?_; rintro e w10 ⟨Ap2, cp2, rfl, hlp2, hCp2, ht, hb⟩; clear tp2; have HT2 := Aside0.mk (ht.swap); clear ht HT; have HT := HT2; clear HT2; have HCp2 := Aside0.mk hCp2; clear hCp2; have HKp1 := Aside0.mk (Kd.C_below HCp1.out hb); clear hb) | (go_at_call 62; refine (pleatref00_EqPorts.calls k _ _ b.ports _ _ c.ports true _ HKp1.out hlp1 HCp2.out hlp2 HEP.out).mono ?_; rintro e w21 ⟨rfl, hd⟩; have HT2 := Aside0.mk (HT.out.below hd.below); clear hd HT; have HT := HT2; clear HT2; have hy9 := blk_cell (blk_below hY1.out HT.out.out)) | (go_at_call 57; have _ := tr4; refine (two_Run HT.out k _ d (by first | exact HD.out | (rw [i64_w]; exact HD.out))).mono ?_; rintro e w11 ⟨rfl, ht⟩; clear tr4; have HT2 := Aside0.mk (ht); clear ht HT; have HT := HT2; clear HT2 hy9; have hy12 := blk_cell (blk_below hY1.out HT.out.out)) | (go_at_call 49; refine (two_Step HT.out k t HTT.out).mono ?_; rintro e w13 ⟨rfl, ht⟩; have HT2 := Aside0.mk ht; clear ht HT; have HT := HT2; clear HT2) | (go_at_call 58; have _ := ts2; refine (two_Steps HT.out).mono ?_; rintro e w' ⟨rfl, hw'⟩; obtain rfl := hw'.symm; clear ts2) | (go_at_call 56; refine (pleatlaw10_works.calls k r _ HW.out).mono ?_; rintro e w9 ⟨rfl, hb⟩; have HB9 := Aside0.mk ((hB1.out.trans (HT.out.out.mono hB1.out.size)).trans (hb.mono ((hB1.out.trans (HT.out.out.mono hB1.out.size))).size)); clear hb))
              go_ret
              exact ⟨rfl, HB9.out⟩
            · rw [if_neg hv] at h; cases h
          · rw [if_neg hz] at h
            by_cases hv : wrap64 (c.steps - s.steps) = wrap64 (x0 + x1)
            · rw [if_pos hv] at h
              have HW := Aside0.mk h
              have d13 : (b.status != 0) = false := by simpa using hz
              have d18 : (wrap64 (c.steps - s.steps) == wrap64 (x0 + x1)) = true := by simpa using hv
              clear h hz hv
              go_enter Try.func10, Try.ntmps10
              go_wp2_with (first | (go_at_call 55; refine (pleatlaw10_much.calls _ _ l0 a1 _ _ l2 _ _ l3 _ _ (Kd.C_below HR0.out hB.out) hc0 (Kd.C_below HR2.out hB.out) hc2 (Kd.C_below HR3.out hB.out) hc3 HU.out).mono ?_; rintro e w1 ⟨rfl, hb⟩; have hB1 := Aside0.mk (hB.out.trans (hb.mono hB.out.size)); have hX1 := Aside0.mk (blk_below hX.out hb); have hY1 := Aside0.mk (blk_below hY.out hb); have hx1 := blk_cell hX1.out; have hy1 := blk_cell hY1.out; clear hb) | (go_at_call 46; have _ := tn1; refine (mach_New_ok k _ _ l0 a1 _ _ l2 _ _ l3 _ (Kd.C_below HR0.out hB1.out) hc0 (Kd.C_below HR2.out hB1.out) hc2 (Kd.C_below HR3.out hB1.out) hc3 s HN.out).mono ?_; rintro e w2 ⟨g1, rfl, hn⟩; clear tn1; have HG := Aside0.mk hn; obtain ⟨_, _, _, _, _, hb⟩ := hn; have hB2 := Aside0.mk (hB1.out.trans (hb.mono hB1.out.size)); have hX2 := Aside0.mk (blk_below hX1.out hb); have hx2 := blk_cell hX2.out; have hY2 := Aside0.mk (blk_below hY1.out hb); clear hb) | (go_at_call 46; have _ := tn2; refine (mach_New_ok k _ _ l0 a1 _ _ l2 _ _ l3 _ (Kd.C_below HR0.out hB2.out) hc0 (Kd.C_below HR2.out hB2.out) hc2 (Kd.C_below HR3.out hB2.out) hc3 s HN.out).mono ?_; rintro e w3 ⟨g2, rfl, hn⟩; clear tn2; have HT := Aside0.mk (Two.of_new HG.out hn); obtain ⟨_, _, _, _, _, hb⟩ := hn; have hY3 := Aside0.mk (blk_below hY2.out hb); have hy3 := blk_cell hY3.out; clear hb HG) | (go_at_call 57; have _ := tr1; refine (two_Run HT.out k _ a (by first | exact HA.out | (rw [i64_w]; exact HA.out))).mono ?_; rintro e w4 ⟨rfl, ht⟩; clear tr1; have HT2 := Aside0.mk (ht); clear ht HT; have HT := HT2; clear HT2 hy3; have hy4 := blk_cell (blk_below hY1.out HT.out.out)) | (go_at_call 57; have _ := tr2; refine (two_Run HT.out k _ b (by first | exact HBb.out | (rw [i64_w]; exact HBb.out))).mono ?_; rintro e w5 ⟨rfl, ht⟩; clear tr2; have HT2 := Aside0.mk (ht); clear ht HT; have HT := HT2; clear HT2 hy4; have hy5 := blk_cell (blk_below hY1.out HT.out.out)) | (go_at_call 57; have _ := tr3; refine (two_Run HT.out.swap k _ c (by first | exact HC.out | (rw [i64_w]; exact HC.out))).mono ?_; rintro e w6 ⟨rfl, ht⟩; clear tr3; have HT2 := Aside0.mk (ht.swap); clear ht HT; have HT := HT2; clear HT2 hy5; have hy6 := blk_cell (blk_below hY1.out HT.out.out)) | (go_at_call 47; have _ := ta1; refine (two_At HT.out).mono ?_; rintro e w' ⟨rfl, hw'⟩; obtain rfl := hw'.symm; clear ta1) | (go_at_call 47; have _ := ta2; refine (two_At HT.out.swap).mono ?_; rintro e w' ⟨rfl, hw'⟩; obtain rfl := hw'.symm; clear ta2) | (go_at_call 58; have _ := ts1; refine (two_Steps HT.out).mono ?_; rintro e w' ⟨rfl, hw'⟩; obtain rfl := hw'.symm; clear ts1) | (go_at_call 59; have _ := tt1; refine (two_Taken HT.out).mono ?_; rintro e w' ⟨rfl, hw'⟩; obtain rfl := hw'.symm; clear tt1) | (go_at_call 59; have _ := tt2; refine (two_Taken HT.out.swap).mono ?_; rintro e w' ⟨rfl, hw'⟩; obtain rfl := hw'.symm; clear tt2) | (go_at_call 61; have _ := tm1; refine (two_Memory HT.out HL1.out).mono ?_; rintro e w7 ⟨Am1, cm1, rfl, hlm1, hCm1, ht, hb⟩; clear tm1; have HT2 := Aside0.mk (ht); clear ht HT; have HT := HT2; clear HT2; have HCm1 := Aside0.mk hCm1; clear hCm1; clear hb) | (go_at_call 61; have _ := tm2; refine (two_Memory HT.out.swap HL2.out).mono ?_; rintro e w8 ⟨Am2, cm2, rfl, hlm2, hCm2, ht, hb⟩; clear tm2; have HT2 := Aside0.mk (ht.swap); clear ht HT; have HT := HT2; clear HT2; have HCm2 := Aside0.mk hCm2; clear hCm2; have HKm1 := Aside0.mk (Kd.C_below HCm1.out hb); clear hb) | (go_at_call 60; refine (pleatref00_EqRow.calls k _ _ b.mem _ _ c.mem true _ HKm1.out hlm1 HCm2.out hlm2 HEQ.out).mono ?_; rintro e w20 ⟨rfl, hd⟩; have HT2 := Aside0.mk (HT.out.below hd.below); clear hd HT; have HT := HT2; clear HT2) | (go_at_call 63; have _ := tp1; refine (two_Ports HT.out HL3.out).mono ?_; rintro e w9 ⟨Ap1, cp1, rfl, hlp1, hCp1, ht, hb⟩; clear tp1; have HT2 := Aside0.mk (ht); clear ht HT; have HT := HT2; clear HT2; have HCp1 := Aside0.mk hCp1; clear hCp1; clear hb) | (go_at_call 63; have _ := tp2; refine (two_Ports HT.out.swap HL4.out).mono ?_; rintro e w10 ⟨Ap2, cp2, rfl, hlp2, hCp2, ht, hb⟩; clear tp2; have HT2 := Aside0.mk (ht.swap); clear ht HT; have HT := HT2; clear HT2; have HCp2 := Aside0.mk hCp2; clear hCp2; have HKp1 := Aside0.mk (Kd.C_below HCp1.out hb); clear hb) | (go_at_call 62; refine (pleatref00_EqPorts.calls k _ _ b.ports _ _ c.ports true _ HKp1.out hlp1 HCp2.out hlp2 HEP.out).mono ?_; rintro e w21 ⟨rfl, hd⟩; have HT2 := Aside0.mk (HT.out.below hd.below); clear hd HT; have HT := HT2; clear HT2; have hy9 := blk_cell (blk_below hY1.out HT.out.out)) | (go_at_call 56; refine (pleatlaw10_works.calls k r _ HW.out).mono ?_; rintro e w9 ⟨rfl, hb⟩; have HB9 := Aside0.mk ((hB1.out.trans (HT.out.out.mono hB1.out.size)).trans (hb.mono ((hB1.out.trans (HT.out.out.mono hB1.out.size))).size)); clear hb))
              go_ret
              exact ⟨rfl, HB9.out⟩
            · rw [if_neg hv] at h; cases h
        · rw [if_neg hc] at h; cases h
      · rw [if_neg he] at h; cases h

end Go.Proofs.Ytfgdjpgdabjpmaa.PMachineSplits
