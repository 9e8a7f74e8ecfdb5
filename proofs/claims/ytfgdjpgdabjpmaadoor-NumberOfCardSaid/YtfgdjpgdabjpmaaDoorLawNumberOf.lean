-- Written for this claim by a program of this session (wip/tools/rowgen.py).
import Derived.Test.YtfgdjpgdabjpmaaDoorRows
import Derived.Test.YtfgdjpgdabjpmaaDoorPNumberOfx13
import Derived.Test.YtfgdjpgdabjpmaaDoorPureNumberOf
import Derived.Test.YtfgdjpgdabjpmaaDoorOpens
import Derived.Test.YtfgdjpgdabjpmaaDoorCards
import Derived.Test.YtfgdjpgdabjpmaaDoorTie
import Derived.SevenTiedAt
import Derived.LaidMore
import Derived.Stop.Joined
import Derived.WalkKit
import Derived.ProofKit
import Derived.OpenShut
import Derived.ShutString
import Derived.ChangeOld
import Derived.Below
import Derived.SizedLaws
namespace Go.Proofs.YtfgdjpgdabjpmaaDoor.numberOf
open Go.ChangeShapes Go.WideShapes Go.ChangeAt Opn
open Go.RowKit Go.Proofs.YtfgdjpgdabjpmaaDoorW.PrintWords Go.Proofs.YtfgdjpgdabjpmaaDoorW.PrintLast Go.Proofs.YtfgdjpgdabjpmaaDoor.PNumberOf
set_option linter.unusedVariables false
theorem own : ownKnob Tryd.prog.godebug = none := by kernel_rfl
theorem laidOut : laidOutB Tryd.prog = true := by kernel_rfl
theorem op26 : Opens Tryd.prog 26 (Kd.int .u32) (fun x => (Lit.int .u32 x).wf = true) := opens_int Tryd.underlying26
theorem op22 : Opens Tryd.prog 22 (Kd.slice 26 (Kd.int .u32)) (fun x => (x.length ≤ maxLen ∧ ∀ yx ∈ x, (Lit.int .u32 yx).wf = true)) := opens_slice Tryd.underlying22 (by kernel_rfl) op26
theorem op3 : Opens Tryd.prog 3 (Kd.int .i64) (fun x => (Lit.int .i64 x).wf = true) := opens_int Tryd.underlying3
theorem op2 : Opens Tryd.prog 2 (Kd.int .i64) (fun x => (Lit.int .i64 x).wf = true) := opens_int Tryd.underlying2
theorem op23 : Opens Tryd.prog 23 (Kd.slice 2 (Kd.int .i64)) (fun x => (x.length ≤ maxLen ∧ ∀ yx ∈ x, (Lit.int .i64 yx).wf = true)) := opens_slice Tryd.underlying23 (by kernel_rfl) op2
theorem op25000 : Opens Tryd.prog 25 (Kd.pair (Kd.slice 26 (Kd.int .u32)) (Kd.pair (Kd.int .i64) (Kd.slice 2 (Kd.int .i64)))) (fun x => (x.1.length ≤ maxLen ∧ ∀ yx_1 ∈ x.1, (Lit.int .u32 yx_1).wf = true) ∧ (Lit.int .i64 x.2.1).wf = true ∧ (x.2.2.length ≤ maxLen ∧ ∀ yx_2_2 ∈ x.2.2, (Lit.int .i64 yx_2_2).wf = true)) := opens_struct Tryd.underlying25 (by kernel_rfl) (fk_cons (P := Tryd.prog) (off := 0) (d := (Kd.slice 26 (Kd.int .u32))) (d' := (Kd.pair (Kd.int .i64) (Kd.slice 2 (Kd.int .i64)))) (wf := fun x => (x.length ≤ maxLen ∧ ∀ yx ∈ x, (Lit.int .u32 yx).wf = true)) (wf' := fun x => (Lit.int .i64 x.1).wf = true ∧ (x.2.length ≤ maxLen ∧ ∀ yx_2 ∈ x.2, (Lit.int .i64 yx_2).wf = true)) rfl (by kernel_rfl) op22 (fk_cons (P := Tryd.prog) (off := 1) (d := (Kd.int .i64)) (d' := (Kd.slice 2 (Kd.int .i64))) (wf := fun x => (Lit.int .i64 x).wf = true) (wf' := fun x => (x.length ≤ maxLen ∧ ∀ yx ∈ x, (Lit.int .i64 yx).wf = true)) rfl (by kernel_rfl) op3 (fk_one (P := Tryd.prog) (off := 2) (d := (Kd.slice 2 (Kd.int .i64))) (wf := fun x => (x.length ≤ maxLen ∧ ∀ yx ∈ x, (Lit.int .i64 yx).wf = true)) rfl (by kernel_rfl) op23)))
theorem op27 : Opens Tryd.prog 27 (Kd.slice 3 (Kd.int .i64)) (fun x => (x.length ≤ maxLen ∧ ∀ yx ∈ x, (Lit.int .i64 yx).wf = true)) := opens_slice Tryd.underlying27 (by kernel_rfl) op3
/-- The door's own heap meets the condition. -/
theorem door_met (os : Os) (args : Array Value) : laidMetH Tryd.prog Rows.numberOfRow.laid ((World.doorLaid Tryd.prog 24 os).forCall (fun _ _ => 0) ⟨#[], args, []⟩).memory :=
  laidMetH_of_parts3 (fuel := 8) (laidMet_of_run' 8 (by kernel_rfl) (by kernel_rfl)) (by kernel_rfl) (by kernel_rfl)
set_option maxRecDepth 100000 in
theorem lifted (os : Os) (started : os.Started) (H : Type) (enc : TypeId × Value → H) :
    ReturnsInHanded {} Tryd.checked os 3 .any (fun w args => (Rows.numberOfSpec.pre enc Tryd.prog Tryd.f3 [] false w args ∧ laidMetH Tryd.prog Rows.numberOfRow.laid w) ∧ sizedMet enc Tryd.prog Tryd.f3 (OpenSpec.ofChange Rows.numberOfSpec) false w args) (Rows.numberOfSpec.post enc Tryd.prog Tryd.f3 false true false false) := by
  refine returnsInHanded_of_change_and (C := Tryd.checked) (X := fun w _ => laidMetH Tryd.prog Rows.numberOfRow.laid w) (fun _ _ _ hh h => h.of_heap hh) own started (by kernel_rfl) Tryd.func3
    (ChangeSpec.witness_shaped (enc := enc) (C := Tryd.checked) (os := os) (X := fun w _ => laidMetH Tryd.prog Rows.numberOfRow.laid w) false (World.doorLaid Tryd.prog 24 os) #[.agg #[.slice none 0 0, .int .i64 0, .slice none 0 0], .int .u32 0, .int .u32 0, .slice none 0 0] 8 rfl (World.shaped_of_RefB (by kernel_rfl) (by kernel_rfl)) (by kernel_rfl) (by kernel_rfl) (by kernel_rfl) (door_met os _)) ?_
  intro W base args ds gs before hval0 hW hcnd hsz0 hL _
  have hval : ∀ (j : Nat) t v, Tryd.f3.params[j]? = some t → args[j]? = some v → Value.okWide Tryd.prog W .any base t v := hval0
  have hW' := hW
  obtain ⟨p, q, hA0, hV, rfl, hfz, hnd⟩ := hW
  have hA : DataW.TrodAll enc Tryd.prog W 0 (fun _ => true) true Tryd.f3.params.toList args.toList ds p := hA0
  rw [Tryd.params3] at hA hval
  obtain ⟨v0, vs0, d0, ds0, p0, q0, hargs, rfl, rfl, h0, r0⟩ := trodAll_cons hA
  obtain ⟨v1, vs1, d1, ds1, p1, q1, rfl, rfl, rfl, h1, r1⟩ := trodAll_cons r0
  obtain ⟨v2, vs2, d2, ds2, p2, q2, rfl, rfl, rfl, h2, r2⟩ := trodAll_cons r1
  obtain ⟨v3, vs3, d3, ds3, p3, q3, rfl, rfl, rfl, h3, r3⟩ := trodAll_cons r2
  obtain ⟨rfl, rfl, rfl⟩ := trodAll_nil r3
  obtain rfl : args = #[v0, v1, v2, v3] := by cases args; simp_all
  obtain ⟨rfl, rfl⟩ := trodVars_none hV
  have k0 := h0
  have lt0 : ∀ x ∈ p0, x.block < W.heap.size := by obtain ⟨m, hm⟩ := k0; exact DataW.trod_lt m _ _ _ hm
  obtain ⟨⟨l0_0, ⟨a0_1, l0_2⟩⟩, cs0, rfl, hk0, hw0⟩ := arg_struct Tryd.underlying25 op25000 (hval 0 25 v0 rfl rfl) h0
  obtain ⟨_, _, rfl, ⟨A0_0, c0_0, rfl, hc0_0, hr0_0⟩, ⟨_, _, rfl, rfl, ⟨A0_2, c0_2, rfl, hc0_2, hr0_2⟩⟩⟩ := hk0
  obtain ⟨w0_0, ⟨w0_1, w0_2⟩⟩ := hw0
  have k1 := h1
  have lt1 : ∀ x ∈ p1, x.block < W.heap.size := by obtain ⟨m, hm⟩ := k1; exact DataW.trod_lt m _ _ _ hm
  obtain ⟨a1, rfl, rfl, rfl, hw1⟩ := open_int Tryd.underlying26 (hval 1 26 v1 rfl rfl) h1
  have k2 := h2
  have lt2 : ∀ x ∈ p2, x.block < W.heap.size := by obtain ⟨m, hm⟩ := k2; exact DataW.trod_lt m _ _ _ hm
  obtain ⟨a2, rfl, rfl, rfl, hw2⟩ := open_int Tryd.underlying26 (hval 2 26 v2 rfl rfl) h2
  have k3 := h3
  have lt3 : ∀ x ∈ p3, x.block < W.heap.size := by obtain ⟨m, hm⟩ := k3; exact DataW.trod_lt m _ _ _ hm
  obtain ⟨A3, l3, c3, rfl, hc3, hr3, hw3⟩ := arg_slice Tryd.underlying27 op27 (hval 3 27 v3 rfl rfl) h3
  clear hA0 hval0 hsz0
  obtain ⟨k, hp⟩ := Pure.NumberOf l0_0 a0_1 l0_2 a1 a2 l3 w0_0 w0_1 w0_2 hw1 hw2 hw3
  refine (PNumberOf.pleatlaw15_NumberOf.calls k A0_0 c0_0 l0_0 a0_1 A0_2 c0_2 l0_2 a1 a2 A3 c3 l3 true W hr0_0 hc0_0 hr0_2 hc0_2 hr3 hc3 hp).mono fun e W' ⟨he, bel0⟩ => ?_
  subst he
  have bel : Below W.heap.size W W' := bel0
  exact ⟨_, rfl, _, _, _, [], _, [], hW', trodAll_mk1 (shut_bool Tryd.underlying4 _), (trodAll_cons_mk (Below.trod laidOut (by kernel_rfl) (of_decide_eq_true (by kernel_rfl)) k0 bel lt0) (trodAll_cons_mk (Below.trod laidOut (by kernel_rfl) (of_decide_eq_true (by kernel_rfl)) k1 bel lt1) (trodAll_cons_mk (Below.trod laidOut (by kernel_rfl) (of_decide_eq_true (by kernel_rfl)) k2 bel lt2) (trodAll_cons_mk (Below.trod laidOut (by kernel_rfl) (of_decide_eq_true (by kernel_rfl)) k3 bel lt3) trodAll_mk0)))), rfl, bel.frame _, fun h => by cases h⟩
theorem over : Rows.numberOfRow.holds Tryd.pinned (OpenSpec.ofChange Rows.numberOfSpec) :=
  OpenClaim.holds_of_wide 3 Tryd.f3 rfl rfl rfl rfl rfl rfl rfl ⟨rfl, rfl, rfl, rfl, rfl⟩ rfl rfl rfl rfl rfl (by kernel_rfl) Tryd.func3 (by kernel_rfl)
    (of_decide_eq_true (by kernel_rfl)) (by unfold Func.isWrapper; first | (rw [if_pos (by decide +kernel)]; kernel_rfl) | (rw [if_neg (by decide +kernel)]; exact ⟨rfl, rfl⟩))
    (fun os started H enc _ => lifted os started H enc)
set_option maxRecDepth 100000 in
theorem proved : Rows.NumberOfCardSaid :=
  Claim7.holds_tied_plain_at .later [] [.data, .data, .data] true (true, "8ad36fb8477fe11254c1d53b15db948dfdb7df65873fa4cd6cd548c12cedd5c8") true over (fun _ h => by cases h) (by kernel_rfl) (fun _ h => by cases h) numberOf_row_tie rfl ⟨rfl, rfl⟩ (by kernel_rfl) rfl
    (fun f fn hf hfn => by
      obtain rfl : f = 3 := Option.some.inj ((show Tryd.prog.funcNamed "pleat/pleatlaw15.NumberOf" = some 3 by kernel_rfl).symm.trans hf) |>.symm
      obtain rfl : fn = Tryd.f3 := (Option.some.inj (Tryd.func3.symm.trans hfn)).symm
      exact ⟨by kernel_rfl, fun j t ht => by
        rw [Tryd.params3] at ht
        have hm : t ∈ [25, 26, 26, 27] := by simpa using Array.mem_of_getElem? ht
        have hall : ([25, 26, 26, 27].all fun u => !Tryd.prog.wantsStandIn u) = true := by kernel_rfl
        exact (show Tryd.prog.wantsStandIn t = false by simpa using List.all_eq_true.1 hall t hm)⟩)
    (by kernel_rfl)
#print axioms proved
end Go.Proofs.YtfgdjpgdabjpmaaDoor.numberOf
namespace Go.Proofs.YtfgdjpgdabjpmaaDoor
/-- The row, under a short name, for the claim. -/
theorem numberOf_holds : Rows.NumberOfCardSaid := numberOf.proved
end Go.Proofs.YtfgdjpgdabjpmaaDoor
