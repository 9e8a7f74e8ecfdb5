-- Written for this claim by a program of this session (wip/tools/rowgen.py).
import Derived.Test.YthkiapcoagjjpaaDoorRows
import Derived.Test.YthkiapcoagjjpaaDoorPWordSealsx5
import Derived.Test.YthkiapcoagjjpaaDoorPureWordSeals
import Derived.Test.YthkiapcoagjjpaaDoorOpens
import Derived.Test.YthkiapcoagjjpaaDoorCards
import Derived.Test.YthkiapcoagjjpaaDoorTie
import Derived.SevenTiedAt
import Derived.LaidMore
import Derived.Stop.Joined
import Derived.WalkKit
import Derived.ProofKit
import Derived.OpenShut
import Derived.ShutString
import Derived.ChangeOld
import Derived.Below
import Derived.SizedLaws
namespace Go.Proofs.YthkiapcoagjjpaaDoor.wordSeals
open Go.ChangeShapes Go.WideShapes Go.ChangeAt Opn
open Go.RowKit Go.Proofs.YthkiapcoagjjpaaDoorW.PrintWords Go.Proofs.YthkiapcoagjjpaaDoorW.PrintLast Go.Proofs.YthkiapcoagjjpaaDoor.PWordSeals
set_option linter.unusedVariables false
theorem own : ownKnob Tryd.prog.godebug = none := by kernel_rfl
theorem laidOut : laidOutB Tryd.prog = true := by kernel_rfl
theorem op22 : Opens Tryd.prog 22 (Kd.int .i8) (fun x => (Lit.int .i8 x).wf = true) := opens_int Tryd.underlying22
theorem op2 : Opens Tryd.prog 2 (Kd.int .i64) (fun x => (Lit.int .i64 x).wf = true) := opens_int Tryd.underlying2
theorem op4 : Opens Tryd.prog 4 Kd.bool (fun x => True) := opens_bool Tryd.underlying4
theorem op24000 : Opens Tryd.prog 24 (Kd.pair (Kd.int .i64) Kd.bool) (fun x => (Lit.int .i64 x.1).wf = true ∧ True) := opens_struct Tryd.underlying24 (by kernel_rfl) (fk_cons (P := Tryd.prog) (off := 0) (d := (Kd.int .i64)) (d' := Kd.bool) (wf := fun x => (Lit.int .i64 x).wf = true) (wf' := fun x => True) rfl (by kernel_rfl) op2 (fk_one (P := Tryd.prog) (off := 1) (d := Kd.bool) (wf := fun x => True) rfl (by kernel_rfl) op4))
theorem op32000 : Opens Tryd.prog 32 (Kd.pair (Kd.pair (Kd.int .i64) Kd.bool) (Kd.pair (Kd.pair (Kd.int .i64) Kd.bool) (Kd.int .i64))) (fun x => ((Lit.int .i64 x.1.1).wf = true ∧ True) ∧ ((Lit.int .i64 x.2.1.1).wf = true ∧ True) ∧ (Lit.int .i64 x.2.2).wf = true) := opens_struct Tryd.underlying32 (by kernel_rfl) (fk_cons (P := Tryd.prog) (off := 0) (d := (Kd.pair (Kd.int .i64) Kd.bool)) (d' := (Kd.pair (Kd.pair (Kd.int .i64) Kd.bool) (Kd.int .i64))) (wf := fun x => (Lit.int .i64 x.1).wf = true ∧ True) (wf' := fun x => ((Lit.int .i64 x.1.1).wf = true ∧ True) ∧ (Lit.int .i64 x.2).wf = true) rfl (by kernel_rfl) op24000 (fk_cons (P := Tryd.prog) (off := 2) (d := (Kd.pair (Kd.int .i64) Kd.bool)) (d' := (Kd.int .i64)) (wf := fun x => (Lit.int .i64 x.1).wf = true ∧ True) (wf' := fun x => (Lit.int .i64 x).wf = true) rfl (by kernel_rfl) op24000 (fk_one (P := Tryd.prog) (off := 4) (d := (Kd.int .i64)) (wf := fun x => (Lit.int .i64 x).wf = true) rfl (by kernel_rfl) op2)))
/-- The door's own heap meets the condition. -/
theorem door_met (os : Os) (args : Array Value) : laidMetH Tryd.prog Rows.wordSealsRow.laid ((World.doorLaid Tryd.prog 62 os).forCall (fun _ _ => 0) ⟨#[], args, []⟩).memory :=
  laidMetH_of_parts3 (fuel := 8) (laidMet_of_run' 8 (by kernel_rfl) (by kernel_rfl)) (by kernel_rfl) (by kernel_rfl)
set_option maxRecDepth 100000 in
theorem lifted (os : Os) (started : os.Started) (H : Type) (enc : TypeId × Value → H) :
    ReturnsInHanded {} Tryd.checked os 4 .any (fun w args => (Rows.wordSealsSpec.pre enc Tryd.prog Tryd.f4 [] false w args ∧ laidMetH Tryd.prog Rows.wordSealsRow.laid w) ∧ sizedMet enc Tryd.prog Tryd.f4 (OpenSpec.ofChange Rows.wordSealsSpec) false w args) (Rows.wordSealsSpec.post enc Tryd.prog Tryd.f4 false true false false) := by
  refine returnsInHanded_of_change_and (C := Tryd.checked) (X := fun w _ => laidMetH Tryd.prog Rows.wordSealsRow.laid w) (fun _ _ _ hh h => h.of_heap hh) own started (by kernel_rfl) Tryd.func4
    (ChangeSpec.witness_shaped (enc := enc) (C := Tryd.checked) (os := os) (X := fun w _ => laidMetH Tryd.prog Rows.wordSealsRow.laid w) false (World.doorLaid Tryd.prog 62 os) #[.int .i8 0, .agg #[.int .i64 0, .bool false, .int .i64 0, .bool false, .int .i64 0]] 8 rfl (World.shaped_of_RefB (by kernel_rfl) (by kernel_rfl)) (by kernel_rfl) (by kernel_rfl) (by kernel_rfl) (door_met os _)) ?_
  intro W base args ds gs before hval0 hW hcnd hsz0 hL _
  have hval : ∀ (j : Nat) t v, Tryd.f4.params[j]? = some t → args[j]? = some v → Value.okWide Tryd.prog W .any base t v := hval0
  have hW' := hW
  obtain ⟨p, q, hA0, hV, rfl, hfz, hnd⟩ := hW
  have hA : DataW.TrodAll enc Tryd.prog W 0 (fun _ => true) true Tryd.f4.params.toList args.toList ds p := hA0
  rw [Tryd.params4] at hA hval
  obtain ⟨v0, vs0, d0, ds0, p0, q0, hargs, rfl, rfl, h0, r0⟩ := trodAll_cons hA
  obtain ⟨v1, vs1, d1, ds1, p1, q1, rfl, rfl, rfl, h1, r1⟩ := trodAll_cons r0
  obtain ⟨rfl, rfl, rfl⟩ := trodAll_nil r1
  obtain rfl : args = #[v0, v1] := by cases args; simp_all
  obtain ⟨rfl, rfl⟩ := trodVars_none hV
  have k0 := h0
  have lt0 : ∀ x ∈ p0, x.block < W.heap.size := by obtain ⟨m, hm⟩ := k0; exact DataW.trod_lt m _ _ _ hm
  obtain ⟨a0, rfl, rfl, rfl, hw0⟩ := open_int Tryd.underlying22 (hval 0 22 v0 rfl rfl) h0
  have k1 := h1
  have lt1 : ∀ x ∈ p1, x.block < W.heap.size := by obtain ⟨m, hm⟩ := k1; exact DataW.trod_lt m _ _ _ hm
  obtain ⟨⟨⟨a1_0, a1_1⟩, ⟨⟨a1_2, a1_3⟩, a1_4⟩⟩, cs1, rfl, hk1, hw1⟩ := arg_struct Tryd.underlying32 op32000 (hval 1 32 v1 rfl rfl) h1
  obtain ⟨_, _, rfl, ⟨_, _, rfl, rfl, rfl⟩, ⟨_, _, rfl, ⟨_, _, rfl, rfl, rfl⟩, rfl⟩⟩ := hk1
  obtain ⟨⟨w1_0, w1_1⟩, ⟨⟨w1_2, w1_3⟩, w1_4⟩⟩ := hw1
  clear hA0 hval0 hsz0
  have hp := Pure.WordSeals a0 a1_0 a1_1 a1_2 a1_3 a1_4 hw0 w1_0 w1_2 w1_4
  refine (PWordSeals.pleatlaw01_WordSeals.calls a0 a1_0 a1_1 a1_2 a1_3 a1_4 true W  hp).mono fun e W' ⟨he, bel0⟩ => ?_
  subst he
  have bel : Below W.heap.size W W' := bel0
  exact ⟨_, rfl, _, _, _, [], _, [], hW', trodAll_mk1 (shut_bool Tryd.underlying4 _), (trodAll_cons_mk (Below.trod laidOut (by kernel_rfl) (of_decide_eq_true (by kernel_rfl)) k0 bel lt0) (trodAll_cons_mk (Below.trod laidOut (by kernel_rfl) (of_decide_eq_true (by kernel_rfl)) k1 bel lt1) trodAll_mk0)), rfl, bel.frame _, fun h => by cases h⟩
theorem over : Rows.wordSealsRow.holds Tryd.pinned (OpenSpec.ofChange Rows.wordSealsSpec) :=
  OpenClaim.holds_of_wide 4 Tryd.f4 rfl rfl rfl rfl rfl rfl rfl ⟨rfl, rfl, rfl, rfl, rfl⟩ rfl rfl rfl rfl rfl (by kernel_rfl) Tryd.func4 (by kernel_rfl)
    (of_decide_eq_true (by kernel_rfl)) (by unfold Func.isWrapper; first | (rw [if_pos (by decide +kernel)]; kernel_rfl) | (rw [if_neg (by decide +kernel)]; exact ⟨rfl, rfl⟩))
    (fun os started H enc _ => lifted os started H enc)
set_option maxRecDepth 100000 in
theorem proved : Rows.WordSealsCardSaid :=
  Claim7.holds_tied_plain_at .later [] [.data, .data, .data] true (true, "994337970e0a5320e3fcfc77d92819ad3a221369f179e4cb526c7ca23cd1ed08") true over (fun _ h => by cases h) (by kernel_rfl) (fun _ h => by cases h) wordSeals_row_tie rfl ⟨rfl, rfl⟩ (by kernel_rfl) rfl
    (fun f fn hf hfn => by
      obtain rfl : f = 4 := Option.some.inj ((show Tryd.prog.funcNamed "pleat/pleatlaw01.WordSeals" = some 4 by kernel_rfl).symm.trans hf) |>.symm
      obtain rfl : fn = Tryd.f4 := (Option.some.inj (Tryd.func4.symm.trans hfn)).symm
      exact ⟨by kernel_rfl, fun j t ht => by
        rw [Tryd.params4] at ht
        have hm : t ∈ [22, 32] := by simpa using Array.mem_of_getElem? ht
        have hall : ([22, 32].all fun u => !Tryd.prog.wantsStandIn u) = true := by kernel_rfl
        exact (show Tryd.prog.wantsStandIn t = false by simpa using List.all_eq_true.1 hall t hm)⟩)
    (by kernel_rfl)
#print axioms proved
end Go.Proofs.YthkiapcoagjjpaaDoor.wordSeals
namespace Go.Proofs.YthkiapcoagjjpaaDoor
/-- The row, under a short name, for the claim. -/
theorem wordSeals_holds : Rows.WordSealsCardSaid := wordSeals.proved
end Go.Proofs.YthkiapcoagjjpaaDoor
