-- Written for this claim by a program of this session (wip/tools/pp.py, over the kit's print).
import Derived.Test.YtfgdjpgdabjpmaaPEdgeRunsx0
import Derived.Test.YtfgdjpgdabjpmaaPEdgeRunsx5
import Derived.Test.YtfgdjpgdabjpmaaPEdgeRunsx7
import Derived.Test.YtfgdjpgdabjpmaaPEdgeRunsx8
import Derived.Test.YtfgdjpgdabjpmaaPEdgeRunsx11
import Derived.Test.YtfgdjpgdabjpmaaPEdgeRunsx12
namespace Go.Proofs.Ytfgdjpgdabjpmaa.PEdgeRuns
open Go.RowKit Go.Proofs.YtfgdjpgdabjpmaaW.PrintWords Go.Proofs.YtfgdjpgdabjpmaaW.PrintLast Go.Proofs.YtfgdjpgdabjpmaaW.PrintMore
attribute [local go_sem] max2_int min2_int max_two min_two max_three min_three max_four min_four   -- for this text's walks alone
set_option linter.unusedVariables false
set_option linter.unusedSimpArgs false

/-! ### pleatlaw12_EdgeRuns: function 8, by hand -/
-- LIB
/-- A machine, all of its blocks new since W. -/
def OneM (W w : World) (g : Nat) (s : MS) : Prop := ∃ B O vt va vm vp, Mach B w g O vt va vm vp s ∧ W.heap.size ≤ B ∧ Below W.heap.size W w
theorem OneM.below {W w w' : World} {g : Nat} {s : MS} (h : OneM W w g s) (hb : Below w.heap.size w w') : OneM W w' g s := by
  obtain ⟨B, O, vt, va, vm, vp, h1, hB, hL⟩ := h
  exact ⟨B, O, vt, va, vm, vp, h1.below hb, hB, hL.trans (hb.mono hL.size)⟩
theorem OneM.out {W w : World} {g : Nat} {s : MS} (h : OneM W w g s) : Below W.heap.size W w := by
  obtain ⟨_, _, _, _, _, _, _, _, hL⟩ := h
  exact hL
theorem OneM.of_new {W w : World} {g : Nat} {s : MS} (h1 : MNew W w g s) : OneM W w g s := by
  obtain ⟨vt1, va1, vm1, vp1, hM1, hb1⟩ := h1
  exact ⟨_, _, vt1, va1, vm1, vp1, hM1, Nat.le_refl _, hb1⟩
theorem one_At {W w : World} {g : Nat} {s : MS} (h : OneM W w g s) : Calls Try.prog 47 #[.pointer (some ⟨g, 0, none⟩)] w fun e w' => e = .returned (.int .i64 s.place) ∧ w' = w := by
  obtain ⟨B, O, vt, va, vm, vp, h1, hB, hL⟩ := h
  exact mach_At h1
theorem one_Step {W w : World} {g : Nat} {s : MS} (h : OneM W w g s) (k : Nat) (s' : MS) (hz : s.status = 0) (hs : mstep k s = some s') :
    Calls Try.prog 49 #[.pointer (some ⟨g, 0, none⟩)] w fun e w' => e = .returned (.int .i8 s'.status) ∧ OneM W w' g s' := by
  obtain ⟨B, O, vt, va, vm, vp, h1, hB, hL⟩ := h
  have h9 : B ≤ w.heap.size := Nat.le_of_lt (Nat.lt_of_le_of_lt (h1.low g h1.own) (h1.lt g h1.own))
  refine (mach_Step h1 h9 k s' (by rw [if_pos hz]; exact hs)).mono ?_
  rintro e w' ⟨rfl, vm3, vp3, hM, hk, hb⟩
  exact ⟨rfl, B, _, vt, va, vm3, vp3, hM, hB, hL.trans (hb.mono hB)⟩
theorem mnew_some {k : Nat} {l0 l2 l3 : List Int} {a1 e : Int} {s : MS} (h : mnew k l0 a1 l2 l3 = some (some s, e)) : e = 0 ∧ s.status = 0 := by
  unfold mnew at h
  obtain ⟨q, _, h⟩ := Option.bind_eq_some_iff.1 h
  by_cases h0 : q.1 = 0
  · rw [if_pos h0] at h
    by_cases h1 : 4096 < l3.length
    · rw [if_pos h1] at h
      cases (Prod.mk.inj (Option.some.inj h)).1
    · rw [if_neg h1] at h
      by_cases h2 : l0.length ≤ 1000000 ∧ l2.length ≤ 1000000
      · rw [if_pos h2] at h
        obtain ⟨h3, h4⟩ := Prod.mk.inj (Option.some.inj h)
        exact ⟨h4.symm, by rw [← Option.some.inj h3]; rfl⟩
      · rw [if_neg h2] at h; cases h
  · rw [if_neg h0] at h
    cases (Prod.mk.inj (Option.some.inj h)).1
theorem mem_take_next (l : List Int) (q : Int) (j : Nat) (h : j < l.length) : decide (q ∈ l.take (j + 1)) = (decide (q ∈ l.take j) || (rd l (j : Int) == q)) := by
  have e : rd l (j : Int) = l[j] := by simp [rd, List.getD_eq_getElem?_getD, h]
  rw [List.take_succ_eq_append_getElem h, e, Bool.eq_iff_iff]
  simp only [decide_eq_true_eq, List.mem_append, List.mem_singleton, Bool.or_eq_true, beq_iff_eq]
  exact ⟨fun h => h.imp id Eq.symm, fun h => h.imp id Eq.symm⟩
/-- The steps of a run, each of which goes on in its block or along an edge. -/
def edgeRuns (k : Nat) (bs : List S84) (E : List (List Int)) (r : List Bool) : Nat → MS → Option Unit
  | 0, _ => some ()
  | d + 1, s => (block_Of.f k bs s.place).bind fun b => if 0 ≤ b ∧ b < (bs.length : Int) ∧ b < (E.length : Int) ∧ b < (r.length : Int) ∧ r.getD b.toNat false = true ∧ (E.getD b.toNat []).length ≤ 16384 then
      (mstep k s).bind fun s' => if s'.status ≠ 0 then some () else
        if s'.place = wrap64 (s.place + 1) ∧ s'.place < (rd_T84 bs b).f1 then edgeRuns k bs E r d s' else
        (block_Of.f k bs s'.place).bind fun q => if 0 ≤ q ∧ q < (bs.length : Int) ∧ (rd_T84 bs q).f0 = s'.place ∧ q ∈ E.getD b.toNat [] then edgeRuns k bs E r d s' else none
      else none
/-- What follows when all has been asked. -/
def edgeTail (k : Nat) (x0 : Int) (bs : List S84) (e1 : Int) (E : List (List Int)) (e2 : Int) (re : List Bool) (e3 : Int) (o : Option MS) (e0 : Int) : Option Bool :=
  if e1 = e2 ∧ e2 = e3 then (if e1 ≠ 0 ∨ e0 ≠ 0 then pleatlaw12_works.f k else match o with
    | none => none
    | some s => if E.length = bs.length ∧ re.length = bs.length ∧ bs.length ≤ 16384 then (edgeRuns k bs E re x0.toNat s).bind fun _ => pleatlaw12_works.f k else none) else none
def pleatlaw12_EdgeRuns.f (k : Nat) (l0 : List Int) (a1 : Int) (l2 l3 : List Int) (x0 : Int) : Option Bool :=
  (pleatlaw12_much.f l0 a1 l2).bind fun u => if u = true ∨ 8192 < l3.length ∨ 300 < x0 then pleatlaw12_works.f k else
  (block_Blocks.f k l0 a1 l2).bind fun bl => (edge_Edges.f k l0 a1 l2).bind fun ed => (edge_Reached.f k l0 a1 l2).bind fun re => (mnew k l0 a1 l2 l3).bind fun nw => edgeTail k x0 bl.1 bl.2 ed.1 ed.2 re.1 re.2 nw.1 nw.2
set_option maxRecDepth 100000 in
set_option maxHeartbeats 16000000 in
theorem pleatlaw12_EdgeRuns.calls (k : Nat) (A0 : Option Addr) (c0 : Nat) (l0 : List Int) (a1 : Int) (A2 : Option Addr) (c2 : Nat) (l2 : List Int) (A3 : Option Addr) (c3 : Nat) (l3 : List Int) (x0 : Int) (r : Bool) (w : World) (hr0 : Kd.C (Kd.int .u32) w A0 l0.length l0) (hc0 : l0.length ≤ c0) (hr2 : Kd.C (Kd.int .i64) w A2 l2.length l2) (hc2 : l2.length ≤ c2) (hr3 : Kd.C (Kd.int .i64) w A3 l3.length l3) (hc3 : l3.length ≤ c3) (h : pleatlaw12_EdgeRuns.f k l0 a1 l2 l3 x0 = some r) :
    Calls Try.prog 8 #[.agg #[.slice A0 l0.length c0, .int .i64 a1, .slice A2 l2.length c2], .slice A3 l3.length c3, .int .i64 x0] w fun e w' => e = .returned (.bool r) ∧ Below w.heap.size w w' := by
  have HR0 := Aside0.mk hr0; have HR2 := Aside0.mk hr2; have HR3 := Aside0.mk hr3
  have hu := Try.underlying25
  have hX := Aside0.mk (blk_new w (.cells #[.slice A0 l0.length c0, .int .i64 a1, .slice A2 l2.length c2] 25))
  have hB := Aside0.mk ((Below.refl w.heap.size w).alloc (Nat.le_refl _) (.cells #[.slice A0 l0.length c0, .int .i64 a1, .slice A2 l2.length c2] 25))
  have hx := blk_cell hX.out
  clear hr0 hr2 hr3
  unfold pleatlaw12_EdgeRuns.f at h
  obtain ⟨u, hu0, h0⟩ := Option.bind_eq_some_iff.1 h
  clear h
  have h := h0
  have HU := Aside0.mk hu0
  clear hu0 h0
  by_cases h5 : u = true ∨ 8192 < l3.length ∨ 300 < x0
  · rw [if_pos h5] at h
    have HW := Aside0.mk h
    clear h
    by_cases q0 : u = true
    · subst q0
      go_enter Try.func8, Try.ntmps8
      go_wp2_with (first | (go_at_call 32; refine (pleatlaw12_much.calls _ _ l0 a1 _ _ l2 _ _ (Kd.C_below HR0.out hB.out) hc0 (Kd.C_below HR2.out hB.out) hc2 HU.out).mono ?_; rintro e w1 ⟨rfl, hb⟩; have hB1 := Aside0.mk (hB.out.trans (hb.mono hB.out.size)); have hX1 := Aside0.mk (blk_below hX.out hb); have hx1 := blk_cell hX1.out; clear hb) | (go_at_call 28; refine (pleatlaw12_works.calls k r _ HW.out).mono ?_; rintro e w9 ⟨rfl, hb⟩; have HB9 := Aside0.mk (hB1.out.trans (hb.mono (hB1.out).size)); clear hb))
      go_ret
      exact ⟨rfl, HB9.out⟩
    · obtain rfl : u = false := by simpa using q0
      by_cases q1 : 8192 < l3.length
      · have d1 : decide ((l3.length : Int) > 8192) = true := decide_eq_true (by omega)
        go_enter Try.func8, Try.ntmps8
        go_wp2_with (first | (go_at_call 32; refine (pleatlaw12_much.calls _ _ l0 a1 _ _ l2 _ _ (Kd.C_below HR0.out hB.out) hc0 (Kd.C_below HR2.out hB.out) hc2 HU.out).mono ?_; rintro e w1 ⟨rfl, hb⟩; have hB1 := Aside0.mk (hB.out.trans (hb.mono hB.out.size)); have hX1 := Aside0.mk (blk_below hX.out hb); have hx1 := blk_cell hX1.out; clear hb) | (go_at_call 28; refine (pleatlaw12_works.calls k r _ HW.out).mono ?_; rintro e w9 ⟨rfl, hb⟩; have HB9 := Aside0.mk (hB1.out.trans (hb.mono (hB1.out).size)); clear hb))
        go_ret
        exact ⟨rfl, HB9.out⟩
      · have d1 : decide ((l3.length : Int) > 8192) = false := decide_eq_false (by omega)
        have d2 : decide (x0 > 300) = true := decide_eq_true (by rcases h5 with h | h | h <;> first | exact h | exact absurd h (by assumption) | cases h)
        go_enter Try.func8, Try.ntmps8
        go_wp2_with (first | (go_at_call 32; refine (pleatlaw12_much.calls _ _ l0 a1 _ _ l2 _ _ (Kd.C_below HR0.out hB.out) hc0 (Kd.C_below HR2.out hB.out) hc2 HU.out).mono ?_; rintro e w1 ⟨rfl, hb⟩; have hB1 := Aside0.mk (hB.out.trans (hb.mono hB.out.size)); have hX1 := Aside0.mk (blk_below hX.out hb); have hx1 := blk_cell hX1.out; clear hb) | (go_at_call 28; refine (pleatlaw12_works.calls k r _ HW.out).mono ?_; rintro e w9 ⟨rfl, hb⟩; have HB9 := Aside0.mk (hB1.out.trans (hb.mono (hB1.out).size)); clear hb))
        go_ret
        exact ⟨rfl, HB9.out⟩
  · rw [if_neg h5] at h
    obtain rfl : u = false := by cases u with | true => exact absurd (.inl rfl) h5 | false => rfl
    have d1 : decide ((l3.length : Int) > 8192) = false := decide_eq_false (fun hh => h5 (.inr (.inl (by omega))))
    have d2 : decide (x0 > 300) = false := decide_eq_false (fun hh => h5 (.inr (.inr hh)))
    have hx300 : x0 ≤ 300 := by have := of_decide_eq_false d2; omega
    clear h5
    obtain ⟨⟨bs, e1⟩, hbl, h6⟩ := Option.bind_eq_some_iff.1 h
    clear h
    obtain ⟨⟨E, e2⟩, hed, h7⟩ := Option.bind_eq_some_iff.1 h6
    clear h6
    obtain ⟨⟨re, e3⟩, hre, h8⟩ := Option.bind_eq_some_iff.1 h7
    clear h7
    obtain ⟨⟨oo, e0⟩, hnw, h⟩ := Option.bind_eq_some_iff.1 h8
    clear h8
    dsimp only at h
    unfold edgeTail at h
    by_cases he : e1 = e2 ∧ e2 = e3
    · rw [if_pos he] at h
      obtain ⟨rfl, rfl⟩ := he
      have HBL := Aside0.mk hbl; have HED := Aside0.mk hed; have HRE := Aside0.mk hre; have HN := Aside0.mk hnw
      clear hbl hed hre hnw
      have d3 : (e1 != e1) = false := by simp
      by_cases hz : e1 ≠ 0 ∨ e0 ≠ 0
      · rw [if_pos hz] at h
        have HW := Aside0.mk h
        clear h
        cases oo with
        | none =>
          by_cases hz1 : e1 = 0
          · have d4 : (e1 != 0) = false := by simpa using hz1
            have d5 : (e0 != 0) = true := by rcases hz with h | h; exact absurd hz1 h; simpa using h
            clear hz hz1
            go_enter Try.func8, Try.ntmps8
            go_wp2_with (first | (go_at_call 32; refine (pleatlaw12_much.calls _ _ l0 a1 _ _ l2 _ _ (Kd.C_below HR0.out hB.out) hc0 (Kd.C_below HR2.out hB.out) hc2 HU.out).mono ?_; rintro e w1 ⟨rfl, hb⟩; have hB1 := Aside0.mk (hB.out.trans (hb.mono hB.out.size)); have hX1 := Aside0.mk (blk_below hX.out hb); have hx1 := blk_cell hX1.out; clear hb) | (go_at_call 45; refine (block_Blocks.calls k _ _ l0 a1 _ _ l2 bs _ _ (Kd.C_below HR0.out hB1.out) hc0 (Kd.C_below HR2.out hB1.out) hc2 HBL.out).mono ?_; rintro e w2 ⟨v2, rfl, hv2, hb⟩; have hB2 := Aside0.mk (hB1.out.trans (hb.mono hB1.out.size)); have hX2 := Aside0.mk (blk_below hX1.out hb); have hx2 := blk_cell hX2.out; obtain ⟨Ab, cb, rfl, hcb, hCb⟩ := Kd.R_reads hv2; have HVB := Aside0.mk hCb; clear hb hv2 hCb) | (go_at_call 33; refine (edge_Edges.calls k _ _ l0 a1 _ _ l2 E _ _ (Kd.C_below HR0.out hB2.out) hc0 (Kd.C_below HR2.out hB2.out) hc2 HED.out).mono ?_; rintro e w3 ⟨v3, rfl, hv3, hb⟩; have hB3 := Aside0.mk (hB2.out.trans (hb.mono hB2.out.size)); have hX3 := Aside0.mk (blk_below hX2.out hb); have hx3 := blk_cell hX3.out; obtain ⟨Ae, ce, rfl, hce, hCe⟩ := Kd.S_reads hv3; have HVE := Aside0.mk hCe; have HVB3 := Aside0.mk (Kd.C_below HVB.out hb); clear hb hv3 hCe) | (go_at_call 34; refine (edge_Reached.calls k _ _ l0 a1 _ _ l2 re _ _ (Kd.C_below HR0.out hB3.out) hc0 (Kd.C_below HR2.out hB3.out) hc2 HRE.out).mono ?_; rintro e w4 ⟨v4, rfl, hv4, hb⟩; have hB4 := Aside0.mk (hB3.out.trans (hb.mono hB3.out.size)); have hX4 := Aside0.mk (blk_below hX3.out hb); have hx4 := blk_cell hX4.out; obtain ⟨Ar, cr, rfl, hcr, hCr⟩ := Kd.R_reads hv4; have HVR4 := Aside0.mk hCr; have HVB4 := Aside0.mk (Kd.C_below HVB3.out hb); have HVE4 := Aside0.mk (Kd.C_below HVE.out hb); clear hb hv4 hCr) | (go_at_call 46; refine (mach_New_no k _ _ l0 a1 _ _ l2 _ _ l3 _ (Kd.C_below HR0.out hB4.out) hc0 (Kd.C_below HR2.out hB4.out) hc2 (Kd.C_below HR3.out hB4.out) hc3 e0 HN.out).mono ?_; rintro e w5 ⟨rfl, hb⟩; have hB5 := Aside0.mk (hB4.out.trans (hb.mono hB4.out.size)); have hX5 := Aside0.mk (blk_below hX4.out hb); have hx5 := blk_cell hX5.out; clear hb) | (go_at_call 28; refine (pleatlaw12_works.calls k r _ HW.out).mono ?_; rintro e w9 ⟨rfl, hb⟩; have HB9 := Aside0.mk (hB5.out.trans (hb.mono (hB5.out).size)); clear hb))
            go_ret
            exact ⟨rfl, HB9.out⟩
          · have d4 : (e1 != 0) = true := by simpa using hz1
            clear hz hz1
            go_enter Try.func8, Try.ntmps8
            go_wp2_with (first | (go_at_call 32; refine (pleatlaw12_much.calls _ _ l0 a1 _ _ l2 _ _ (Kd.C_below HR0.out hB.out) hc0 (Kd.C_below HR2.out hB.out) hc2 HU.out).mono ?_; rintro e w1 ⟨rfl, hb⟩; have hB1 := Aside0.mk (hB.out.trans (hb.mono hB.out.size)); have hX1 := Aside0.mk (blk_below hX.out hb); have hx1 := blk_cell hX1.out; clear hb) | (go_at_call 45; refine (block_Blocks.calls k _ _ l0 a1 _ _ l2 bs _ _ (Kd.C_below HR0.out hB1.out) hc0 (Kd.C_below HR2.out hB1.out) hc2 HBL.out).mono ?_; rintro e w2 ⟨v2, rfl, hv2, hb⟩; have hB2 := Aside0.mk (hB1.out.trans (hb.mono hB1.out.size)); have hX2 := Aside0.mk (blk_below hX1.out hb); have hx2 := blk_cell hX2.out; obtain ⟨Ab, cb, rfl, hcb, hCb⟩ := Kd.R_reads hv2; have HVB := Aside0.mk hCb; clear hb hv2 hCb) | (go_at_call 33; refine (edge_Edges.calls k _ _ l0 a1 _ _ l2 E _ _ (Kd.C_below HR0.out hB2.out) hc0 (Kd.C_below HR2.out hB2.out) hc2 HED.out).mono ?_; rintro e w3 ⟨v3, rfl, hv3, hb⟩; have hB3 := Aside0.mk (hB2.out.trans (hb.mono hB2.out.size)); have hX3 := Aside0.mk (blk_below hX2.out hb); have hx3 := blk_cell hX3.out; obtain ⟨Ae, ce, rfl, hce, hCe⟩ := Kd.S_reads hv3; have HVE := Aside0.mk hCe; have HVB3 := Aside0.mk (Kd.C_below HVB.out hb); clear hb hv3 hCe) | (go_at_call 34; refine (edge_Reached.calls k _ _ l0 a1 _ _ l2 re _ _ (Kd.C_below HR0.out hB3.out) hc0 (Kd.C_below HR2.out hB3.out) hc2 HRE.out).mono ?_; rintro e w4 ⟨v4, rfl, hv4, hb⟩; have hB4 := Aside0.mk (hB3.out.trans (hb.mono hB3.out.size)); have hX4 := Aside0.mk (blk_below hX3.out hb); have hx4 := blk_cell hX4.out; obtain ⟨Ar, cr, rfl, hcr, hCr⟩ := Kd.R_reads hv4; have HVR4 := Aside0.mk hCr; have HVB4 := Aside0.mk (Kd.C_below HVB3.out hb); have HVE4 := Aside0.mk (Kd.C_below HVE.out hb); clear hb hv4 hCr) | (go_at_call 46; refine (mach_New_no k _ _ l0 a1 _ _ l2 _ _ l3 _ (Kd.C_below HR0.out hB4.out) hc0 (Kd.C_below HR2.out hB4.out) hc2 (Kd.C_below HR3.out hB4.out) hc3 e0 HN.out).mono ?_; rintro e w5 ⟨rfl, hb⟩; have hB5 := Aside0.mk (hB4.out.trans (hb.mono hB4.out.size)); have hX5 := Aside0.mk (blk_below hX4.out hb); have hx5 := blk_cell hX5.out; clear hb) | (go_at_call 28; refine (pleatlaw12_works.calls k r _ HW.out).mono ?_; rintro e w9 ⟨rfl, hb⟩; have HB9 := Aside0.mk (hB5.out.trans (hb.mono (hB5.out).size)); clear hb))
            go_ret
            exact ⟨rfl, HB9.out⟩
        | some s =>
          obtain ⟨rfl, hs0⟩ := mnew_some HN.out
          have d4 : (e1 != 0) = true := by rcases hz with h | h; simpa using h; exact absurd rfl h
          clear hz
          go_enter Try.func8, Try.ntmps8
          go_wp2_with (first | (go_at_call 32; refine (pleatlaw12_much.calls _ _ l0 a1 _ _ l2 _ _ (Kd.C_below HR0.out hB.out) hc0 (Kd.C_below HR2.out hB.out) hc2 HU.out).mono ?_; rintro e w1 ⟨rfl, hb⟩; have hB1 := Aside0.mk (hB.out.trans (hb.mono hB.out.size)); have hX1 := Aside0.mk (blk_below hX.out hb); have hx1 := blk_cell hX1.out; clear hb) | (go_at_call 45; refine (block_Blocks.calls k _ _ l0 a1 _ _ l2 bs _ _ (Kd.C_below HR0.out hB1.out) hc0 (Kd.C_below HR2.out hB1.out) hc2 HBL.out).mono ?_; rintro e w2 ⟨v2, rfl, hv2, hb⟩; have hB2 := Aside0.mk (hB1.out.trans (hb.mono hB1.out.size)); have hX2 := Aside0.mk (blk_below hX1.out hb); have hx2 := blk_cell hX2.out; obtain ⟨Ab, cb, rfl, hcb, hCb⟩ := Kd.R_reads hv2; have HVB := Aside0.mk hCb; clear hb hv2 hCb) | (go_at_call 33; refine (edge_Edges.calls k _ _ l0 a1 _ _ l2 E _ _ (Kd.C_below HR0.out hB2.out) hc0 (Kd.C_below HR2.out hB2.out) hc2 HED.out).mono ?_; rintro e w3 ⟨v3, rfl, hv3, hb⟩; have hB3 := Aside0.mk (hB2.out.trans (hb.mono hB2.out.size)); have hX3 := Aside0.mk (blk_below hX2.out hb); have hx3 := blk_cell hX3.out; obtain ⟨Ae, ce, rfl, hce, hCe⟩ := Kd.S_reads hv3; have HVE := Aside0.mk hCe; have HVB3 := Aside0.mk (Kd.C_below HVB.out hb); clear hb hv3 hCe) | (go_at_call 34; refine (edge_Reached.calls k _ _ l0 a1 _ _ l2 re _ _ (Kd.C_below HR0.out hB3.out) hc0 (Kd.C_below HR2.out hB3.out) hc2 HRE.out).mono ?_; rintro e w4 ⟨v4, rfl, hv4, hb⟩; have hB4 := Aside0.mk (hB3.out.trans (hb.mono hB3.out.size)); have hX4 := Aside0.mk (blk_below hX3.out hb); have hx4 := blk_cell hX4.out; obtain ⟨Ar, cr, rfl, hcr, hCr⟩ := Kd.R_reads hv4; have HVR4 := Aside0.mk hCr; have HVB4 := Aside0.mk (Kd.C_below HVB3.out hb); have HVE4 := Aside0.mk (Kd.C_below HVE.out hb); clear hb hv4 hCr) | (go_at_call 46; refine (mach_New_ok k _ _ l0 a1 _ _ l2 _ _ l3 _ (Kd.C_below HR0.out hB4.out) hc0 (Kd.C_below HR2.out hB4.out) hc2 (Kd.C_below HR3.out hB4.out) hc3 s HN.out).mono ?_; rintro e w5 ⟨g1, rfl, hn⟩; have HO := Aside0.mk (OneM.of_new hn); obtain ⟨_, _, _, _, _, hb⟩ := hn; have hB5 := Aside0.mk (hB4.out.trans (hb.mono hB4.out.size)); have hX5 := Aside0.mk (blk_below hX4.out hb); have hx5 := blk_cell hX5.out; clear hb) | (go_at_call 28; refine (pleatlaw12_works.calls k r _ HW.out).mono ?_; rintro e w9 ⟨rfl, hb⟩; have HB9 := Aside0.mk (hB5.out.trans (hb.mono (hB5.out).size)); clear hb))
          go_ret
          exact ⟨rfl, HB9.out⟩
      · rw [if_neg hz] at h
        obtain rfl : e1 = 0 := Classical.not_not.1 (fun hh => hz (.inl hh))
        obtain rfl : e0 = 0 := Classical.not_not.1 (fun hh => hz (.inr hh))
        clear hz
        cases oo with
        | none => cases h
        | some s =>
          dsimp only at h
          obtain ⟨_, hs0⟩ := mnew_some HN.out
          by_cases hl : E.length = bs.length ∧ re.length = bs.length ∧ bs.length ≤ 16384
          · rw [if_pos hl] at h
            obtain ⟨hl1, hl2, hl3⟩ := hl
            obtain ⟨⟨⟩, her, hw⟩ := Option.bind_eq_some_iff.1 h
            clear h
            have HER := Aside0.mk her; have HW := Aside0.mk hw
            clear her hw
            have d4 : ((0 : Int) != 0) = false := by decide
            have d5 : ((E.length : Int) != (bs.length : Int)) = false := by rw [hl1]; simp
            have d6 : ((re.length : Int) != (bs.length : Int)) = false := by rw [hl2]; simp
            have hS0 := Aside0.mk hs0
            clear hs0
            go_enter Try.func8, Try.ntmps8
            go_wp2_with (first | (go_at_call 32; refine (pleatlaw12_much.calls _ _ l0 a1 _ _ l2 _ _ (Kd.C_below HR0.out hB.out) hc0 (Kd.C_below HR2.out hB.out) hc2 HU.out).mono ?_; rintro e w1 ⟨rfl, hb⟩; have hB1 := Aside0.mk (hB.out.trans (hb.mono hB.out.size)); have hX1 := Aside0.mk (blk_below hX.out hb); have hx1 := blk_cell hX1.out; clear hb) | (go_at_call 45; refine (block_Blocks.calls k _ _ l0 a1 _ _ l2 bs _ _ (Kd.C_below HR0.out hB1.out) hc0 (Kd.C_below HR2.out hB1.out) hc2 HBL.out).mono ?_; rintro e w2 ⟨v2, rfl, hv2, hb⟩; have hB2 := Aside0.mk (hB1.out.trans (hb.mono hB1.out.size)); have hX2 := Aside0.mk (blk_below hX1.out hb); have hx2 := blk_cell hX2.out; obtain ⟨Ab, cb, rfl, hcb, hCb⟩ := Kd.R_reads hv2; have HVB := Aside0.mk hCb; clear hb hv2 hCb) | (go_at_call 33; refine (edge_Edges.calls k _ _ l0 a1 _ _ l2 E _ _ (Kd.C_below HR0.out hB2.out) hc0 (Kd.C_below HR2.out hB2.out) hc2 HED.out).mono ?_; rintro e w3 ⟨v3, rfl, hv3, hb⟩; have hB3 := Aside0.mk (hB2.out.trans (hb.mono hB2.out.size)); have hX3 := Aside0.mk (blk_below hX2.out hb); have hx3 := blk_cell hX3.out; obtain ⟨Ae, ce, rfl, hce, hCe⟩ := Kd.S_reads hv3; have HVE := Aside0.mk hCe; have HVB3 := Aside0.mk (Kd.C_below HVB.out hb); clear hb hv3 hCe) | (go_at_call 34; refine (edge_Reached.calls k _ _ l0 a1 _ _ l2 re _ _ (Kd.C_below HR0.out hB3.out) hc0 (Kd.C_below HR2.out hB3.out) hc2 HRE.out).mono ?_; rintro e w4 ⟨v4, rfl, hv4, hb⟩; have hB4 := Aside0.mk (hB3.out.trans (hb.mono hB3.out.size)); have hX4 := Aside0.mk (blk_below hX3.out hb); have hx4 := blk_cell hX4.out; obtain ⟨Ar, cr, rfl, hcr, hCr⟩ := Kd.R_reads hv4; have HVR4 := Aside0.mk hCr; have HVB4 := Aside0.mk (Kd.C_below HVB3.out hb); have HVE4 := Aside0.mk (Kd.C_below HVE.out hb); clear hb hv4 hCr) | (go_at_call 46; refine (mach_New_ok k _ _ l0 a1 _ _ l2 _ _ l3 _ (Kd.C_below HR0.out hB4.out) hc0 (Kd.C_below HR2.out hB4.out) hc2 (Kd.C_below HR3.out hB4.out) hc3 s HN.out).mono ?_; rintro e w5 ⟨g1, rfl, hn⟩; have HO := Aside0.mk (OneM.of_new hn); obtain ⟨_, _, _, _, _, hb⟩ := hn; have hB5 := Aside0.mk (hB4.out.trans (hb.mono hB4.out.size)); have hX5 := Aside0.mk (blk_below hX4.out hb); have hx5 := blk_cell hX5.out; clear hb))
            have HVB := Aside0.mk HVB4.out; have HBW := Aside0.mk hB4.out
            clear hx hx1 hx2 hx3 hx4 hx5
            go_loopg [15] x0.toNat (fun d v15 wr => ∃ (i : Int) (s1 : MS), v15 = .int .i64 i ∧ 0 ≤ i ∧ (i < x0 → i + d = x0) ∧ (x0 ≤ i → d = 0) ∧ s1.status = 0 ∧ Aside0 (edgeRuns k bs E re d s1 = some ()) ∧ Aside0 (OneM w4 wr g1 s1))
            case atStart => exact ⟨0, s, rfl, by omega, by omega, by omega, hS0.out, HER, HO⟩
            case round =>
              clear HO HER hS0
              obtain ⟨i, s1, rfl, hi0, hi1, hi2, hs0, HER, HO⟩ := hrel
              cases gk with
              | zero =>
                have hil : ¬ i < x0 := fun hh => by have := hi1 hh; omega
                have d7 : decide (i < x0) = false := decide_eq_false hil
                go_wp2_with (first | (go_at_call 28; refine (pleatlaw12_works.calls k r _ HW.out).mono ?_; rintro e w9 ⟨rfl, hb⟩; have HB9 := Aside0.mk ((hB4.out.trans (HO.out.out.mono hB4.out.size)).trans (hb.mono ((hB4.out.trans (HO.out.out.mono hB4.out.size))).size)); clear hb))
                go_ret
                exact ⟨rfl, HB9.out⟩
              | succ d =>
                have hil : i < x0 := Classical.not_not.1 (fun hh => by have := hi2 (by omega); omega)
                have hi3 : i + (d : Int) + 1 = x0 := by have := hi1 hil; omega
                clear hi1 hi2
                have d7 : decide (i < x0) = true := decide_eq_true hil
                have he := HER.out
                clear HER
                rw [edgeRuns] at he
                obtain ⟨b, hb0, he1⟩ := Option.bind_eq_some_iff.1 he
                clear he
                by_cases hc : 0 ≤ b ∧ b < (bs.length : Int) ∧ b < (E.length : Int) ∧ b < (re.length : Int) ∧ re.getD b.toNat false = true ∧ (E.getD b.toNat []).length ≤ 16384
                · rw [if_pos hc] at he1
                  obtain ⟨b1, b2, b3, b4, b5, b6⟩ := hc
                  obtain ⟨Eb, hEb⟩ : ∃ Eb, Eb = E.getD b.toNat [] := ⟨_, rfl⟩
                  rw [← hEb] at b6
                  have HEB := Aside0.mk hEb
                  obtain ⟨s2, hs2, he2⟩ := Option.bind_eq_some_iff.1 he1
                  clear he1
                  have HQ1 := Aside0.mk hb0; have HS2 := Aside0.mk hs2; have hS0 := Aside0.mk hs0
                  have d8 : decide (b < 0) = false := decide_eq_false (by omega)
                  have d9 : decide (b ≥ (bs.length : Int)) = false := decide_eq_false (by omega)
                  have hrb : rdOf false re b = true := by simpa [rdOf, List.getD_eq_getElem?_getD] using b5
                  clear hb0 hs2 hs0 b5 hEb
                  have ta1 : True := trivial
                  have ta2 : True := trivial
                  have to1 : True := trivial
                  have to2 : True := trivial
                  by_cases hz : s2.status ≠ 0
                  · have d10 : (s2.status != 0) = true := by simpa using hz
                    clear he2 hz
                    go_wp2_with (first | (go_at_call 47; have _ := ta1; refine (one_At HO.out).mono ?_; rintro e w' ⟨rfl, hw'⟩; obtain rfl := hw'.symm; clear ta1) | (go_at_call 48; have _ := to1; refine (block_Of.calls k Ab cb bs s1.place b _ (Kd.C_below HVB.out HO.out.out) hcb HQ1.out).mono ?_; rintro e w6 ⟨rfl, hb⟩; clear to1; have HO2 := Aside0.mk (HO.out.below hb); clear hb HO; have HO := HO2; clear HO2; obtain ⟨ad1, ea1, cr1⟩ := Kd.at_bool (Kd.C_below HVR4.out HO.out.out) b b1 b4; subst ea1; rw [hrb] at cr1) | (go_at_call 49; refine (one_Step HO.out k s2 hS0.out HS2.out).mono ?_; rintro e w7 ⟨rfl, ht⟩; have HO2 := Aside0.mk ht; clear ht HO; have HO := HO2; clear HO2 cr1; obtain ⟨ad2, ea2, cx0, cx1⟩ := at_T84 (Kd.C_below HVB.out HO.out.out) b b1 b2; subst ea2) | (go_at_call 28; refine (pleatlaw12_works.calls k r _ HW.out).mono ?_; rintro e w9 ⟨rfl, hb⟩; have HB9 := Aside0.mk ((hB4.out.trans (HO.out.out.mono hB4.out.size)).trans (hb.mono ((hB4.out.trans (HO.out.out.mono hB4.out.size))).size)); clear hb))
                    go_ret
                    exact ⟨rfl, HB9.out⟩
                  · rw [if_neg hz] at he2
                    have hz0 : s2.status = 0 := Classical.not_not.1 hz
                    have d10 : (s2.status != 0) = false := by simpa using hz0
                    have hZ0 := Aside0.mk hz0
                    clear hz hz0
                    by_cases hp : s2.place = wrap64 (s1.place + 1) ∧ s2.place < (rd_T84 bs b).f1
                    · rw [if_pos hp] at he2
                      have d11 : (s2.place == wrap64 (s1.place + 1)) = true := by simpa using hp.1
                      have d12 : decide (s2.place < (rd_T84 bs b).f1) = true := decide_eq_true hp.2
                      have HER := Aside0.mk he2
                      clear he2 hp
                      have hw1 : wrap64 (i + 1) = i + 1 := by unfold wrap64; omega
                      go_wp2_with (first | (go_at_call 47; have _ := ta1; refine (one_At HO.out).mono ?_; rintro e w' ⟨rfl, hw'⟩; obtain rfl := hw'.symm; clear ta1) | (go_at_call 48; have _ := to1; refine (block_Of.calls k Ab cb bs s1.place b _ (Kd.C_below HVB.out HO.out.out) hcb HQ1.out).mono ?_; rintro e w6 ⟨rfl, hb⟩; clear to1; have HO2 := Aside0.mk (HO.out.below hb); clear hb HO; have HO := HO2; clear HO2; obtain ⟨ad1, ea1, cr1⟩ := Kd.at_bool (Kd.C_below HVR4.out HO.out.out) b b1 b4; subst ea1; rw [hrb] at cr1) | (go_at_call 49; refine (one_Step HO.out k s2 hS0.out HS2.out).mono ?_; rintro e w7 ⟨rfl, ht⟩; have HO2 := Aside0.mk ht; clear ht HO; have HO := HO2; clear HO2 cr1; obtain ⟨ad2, ea2, cx0, cx1⟩ := at_T84 (Kd.C_below HVB.out HO.out.out) b b1 b2; subst ea2) | (go_at_call 47; have _ := ta2; refine (one_At HO.out).mono ?_; rintro e w' ⟨rfl, hw'⟩; obtain rfl := hw'.symm; clear ta2))
                      go_roundg d
                      case measure => omega
                      case rel => exact ⟨i + 1, s2, (by first | rfl | rw [hw1]), by omega, by omega, by omega, hZ0.out, HER, HO⟩
                    · rw [if_neg hp] at he2
                      obtain ⟨q, hq0, he3⟩ := Option.bind_eq_some_iff.1 he2
                      clear he2
                      by_cases hy : 0 ≤ q ∧ q < (bs.length : Int) ∧ (rd_T84 bs q).f0 = s2.place ∧ q ∈ E.getD b.toNat []
                      · rw [if_pos hy] at he3
                        obtain ⟨y1, y2, y3, y4⟩ := hy
                        have HQ2 := Aside0.mk hq0; have HER := Aside0.mk he3; have HY4 : Aside0 (q ∈ Eb) := ⟨by rw [HEB.out]; exact y4⟩
                        have d13 : decide (q < 0) = false := decide_eq_false (by omega)
                        have d14 : decide (q ≥ (bs.length : Int)) = false := decide_eq_false (by omega)
                        have d15 : ((rd_T84 bs q).f0 != s2.place) = false := by rw [y3]; simp
                        have hw1 : wrap64 (i + 1) = i + 1 := by unfold wrap64; omega
                        clear hq0 he3 y4 y3
                        by_cases hp1 : s2.place = wrap64 (s1.place + 1)
                        · have d11 : (s2.place == wrap64 (s1.place + 1)) = true := by simpa using hp1
                          have d12 : decide (s2.place < (rd_T84 bs b).f1) = false := decide_eq_false (fun hh => hp ⟨hp1, hh⟩)
                          clear hp hp1
                          go_wp2_with (first | (go_at_call 47; have _ := ta1; refine (one_At HO.out).mono ?_; rintro e w' ⟨rfl, hw'⟩; obtain rfl := hw'.symm; clear ta1) | (go_at_call 48; have _ := to1; refine (block_Of.calls k Ab cb bs s1.place b _ (Kd.C_below HVB.out HO.out.out) hcb HQ1.out).mono ?_; rintro e w6 ⟨rfl, hb⟩; clear to1; have HO2 := Aside0.mk (HO.out.below hb); clear hb HO; have HO := HO2; clear HO2; obtain ⟨ad1, ea1, cr1⟩ := Kd.at_bool (Kd.C_below HVR4.out HO.out.out) b b1 b4; subst ea1; rw [hrb] at cr1) | (go_at_call 49; refine (one_Step HO.out k s2 hS0.out HS2.out).mono ?_; rintro e w7 ⟨rfl, ht⟩; have HO2 := Aside0.mk ht; clear ht HO; have HO := HO2; clear HO2 cr1; obtain ⟨ad2, ea2, cx0, cx1⟩ := at_T84 (Kd.C_below HVB.out HO.out.out) b b1 b2; subst ea2) | (go_at_call 47; have _ := ta2; refine (one_At HO.out).mono ?_; rintro e w' ⟨rfl, hw'⟩; obtain rfl := hw'.symm; clear ta2) | (go_at_call 48; have _ := to2; refine (block_Of.calls k _ cb bs s2.place q _ (Kd.C_below HVB.out HO.out.out) hcb HQ2.out).mono ?_; rintro e w8 ⟨rfl, hb⟩; clear to2; have HO2 := Aside0.mk (HO.out.below hb); clear hb HO; have HO := HO2; clear HO2 cx0 cx1; obtain ⟨ad3, Aq, cq, ea3, cE, hcq, hCq⟩ := edge_at_list (Kd.C_below HVE4.out HO.out.out) b b1 b3; subst ea3; rw [← HEB.out] at cE hcq hCq; have HCQ := Aside0.mk hCq; clear hCq; obtain ⟨ad4, ea4, cy0, cy1⟩ := at_T84 (Kd.C_below HVB.out HO.out.out) q y1 y2; cases ea4))
                          go_loopg [20, 21] Eb.length (fun d2 v20 v21 w2 => ∃ (j : Nat), v21 = .int .i64 j ∧ j + d2 = Eb.length ∧ v20 = .bool (decide (q ∈ Eb.take j)) ∧ w2 = w8)
                          case atStart => exact ⟨0, rfl, by omega, by simp, rfl⟩
                          case round =>
                            obtain ⟨j, rfl, hj, rfl, rfl⟩ := hrel
                            by_cases hjl : j < Eb.length
                            · have d16 : decide ((j : Int) < (Eb.length : Int)) = true := decide_eq_true (by omega)
                              obtain ⟨ad5, ea5, cj⟩ := Kd.at_int HCQ.out (j : Int) (by omega) (by omega)
                              subst ea5
                              rw [Int.toNat_natCast] at cj
                              have hnx := mem_take_next Eb q j hjl
                              obtain ⟨d3, rfl⟩ : ∃ d3, gk = d3 + 1 := ⟨gk - 1, by omega⟩
                              have HNX := Aside0.mk hnx
                              clear hnx
                              cases hq1 : decide (q ∈ Eb.take j) with
                              | true =>
                                rw [hq1] at HNX
                                go_wp2
                                go_roundg d3
                                case measure => omega
                                case rel => exact ⟨j + 1, (by first | rfl | (congr 1; omega)), by omega, by rw [HNX.out]; simp, rfl⟩
                              | false =>
                                rw [hq1] at HNX
                                go_wp2
                                go_roundg d3
                                case measure => omega
                                case rel => exact ⟨j + 1, (by first | rfl | (congr 1; omega)), by omega, by rw [HNX.out]; simp, rfl⟩
                            · have d16 : decide ((j : Int) < (Eb.length : Int)) = false := decide_eq_false (by omega)
                              have hjE : Eb.take j = Eb := List.take_of_length_le (by omega)
                              have d17 : decide (q ∈ Eb.take j) = true := by rw [hjE]; exact decide_eq_true HY4.out
                              rw [d17]
                              go_wp2
                              go_roundg d
                              case measure => omega
                              case rel => exact ⟨i + 1, s2, (by first | rfl | rw [hw1]), by omega, by omega, by omega, hZ0.out, HER, HO⟩
                        · have d11 : (s2.place == wrap64 (s1.place + 1)) = false := by simpa using hp1
                          clear hp hp1
                          go_wp2_with (first | (go_at_call 47; have _ := ta1; refine (one_At HO.out).mono ?_; rintro e w' ⟨rfl, hw'⟩; obtain rfl := hw'.symm; clear ta1) | (go_at_call 48; have _ := to1; refine (block_Of.calls k Ab cb bs s1.place b _ (Kd.C_below HVB.out HO.out.out) hcb HQ1.out).mono ?_; rintro e w6 ⟨rfl, hb⟩; clear to1; have HO2 := Aside0.mk (HO.out.below hb); clear hb HO; have HO := HO2; clear HO2; obtain ⟨ad1, ea1, cr1⟩ := Kd.at_bool (Kd.C_below HVR4.out HO.out.out) b b1 b4; subst ea1; rw [hrb] at cr1) | (go_at_call 49; refine (one_Step HO.out k s2 hS0.out HS2.out).mono ?_; rintro e w7 ⟨rfl, ht⟩; have HO2 := Aside0.mk ht; clear ht HO; have HO := HO2; clear HO2 cr1; obtain ⟨ad2, ea2, cx0, cx1⟩ := at_T84 (Kd.C_below HVB.out HO.out.out) b b1 b2; subst ea2) | (go_at_call 47; have _ := ta2; refine (one_At HO.out).mono ?_; rintro e w' ⟨rfl, hw'⟩; obtain rfl := hw'.symm; clear ta2) | (go_at_call 48; have _ := to2; refine (block_Of.calls k _ cb bs s2.place q _ (Kd.C_below HVB.out HO.out.out) hcb HQ2.out).mono ?_; rintro e w8 ⟨rfl, hb⟩; clear to2; have HO2 := Aside0.mk (HO.out.below hb); clear hb HO; have HO := HO2; clear HO2 cx0 cx1; obtain ⟨ad3, Aq, cq, ea3, cE, hcq, hCq⟩ := edge_at_list (Kd.C_below HVE4.out HO.out.out) b b1 b3; subst ea3; rw [← HEB.out] at cE hcq hCq; have HCQ := Aside0.mk hCq; clear hCq; obtain ⟨ad4, ea4, cy0, cy1⟩ := at_T84 (Kd.C_below HVB.out HO.out.out) q y1 y2; cases ea4))
                          go_loopg [20, 21] Eb.length (fun d2 v20 v21 w2 => ∃ (j : Nat), v21 = .int .i64 j ∧ j + d2 = Eb.length ∧ v20 = .bool (decide (q ∈ Eb.take j)) ∧ w2 = w8)
                          case atStart => exact ⟨0, rfl, by omega, by simp, rfl⟩
                          case round =>
                            obtain ⟨j, rfl, hj, rfl, rfl⟩ := hrel
                            by_cases hjl : j < Eb.length
                            · have d16 : decide ((j : Int) < (Eb.length : Int)) = true := decide_eq_true (by omega)
                              obtain ⟨ad5, ea5, cj⟩ := Kd.at_int HCQ.out (j : Int) (by omega) (by omega)
                              subst ea5
                              rw [Int.toNat_natCast] at cj
                              have hnx := mem_take_next Eb q j hjl
                              obtain ⟨d3, rfl⟩ : ∃ d3, gk = d3 + 1 := ⟨gk - 1, by omega⟩
                              have HNX := Aside0.mk hnx
                              clear hnx
                              cases hq1 : decide (q ∈ Eb.take j) with
                              | true =>
                                rw [hq1] at HNX
                                go_wp2
                                go_roundg d3
                                case measure => omega
                                case rel => exact ⟨j + 1, (by first | rfl | (congr 1; omega)), by omega, by rw [HNX.out]; simp, rfl⟩
                              | false =>
                                rw [hq1] at HNX
                                go_wp2
                                go_roundg d3
                                case measure => omega
                                case rel => exact ⟨j + 1, (by first | rfl | (congr 1; omega)), by omega, by rw [HNX.out]; simp, rfl⟩
                            · have d16 : decide ((j : Int) < (Eb.length : Int)) = false := decide_eq_false (by omega)
                              have hjE : Eb.take j = Eb := List.take_of_length_le (by omega)
                              have d17 : decide (q ∈ Eb.take j) = true := by rw [hjE]; exact decide_eq_true HY4.out
                              rw [d17]
                              go_wp2
                              go_roundg d
                              case measure => omega
                              case rel => exact ⟨i + 1, s2, (by first | rfl | rw [hw1]), by omega, by omega, by omega, hZ0.out, HER, HO⟩
                      · rw [if_neg hy] at he3; cases he3
                · rw [if_neg hc] at he1; cases he1
          · rw [if_neg hl] at h; cases h
    · rw [if_neg he] at h; cases h

end Go.Proofs.Ytfgdjpgdabjpmaa.PEdgeRuns
