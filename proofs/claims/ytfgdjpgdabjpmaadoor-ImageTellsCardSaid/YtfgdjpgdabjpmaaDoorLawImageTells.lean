-- Written for this claim by a program of this session (wip/tools/rowgen.py).
import Derived.Test.YtfgdjpgdabjpmaaDoorRows
import Derived.Test.YtfgdjpgdabjpmaaDoorPImageTellsx11
import Derived.Test.YtfgdjpgdabjpmaaDoorPureImageTells
import Derived.Test.YtfgdjpgdabjpmaaDoorOpens
import Derived.Test.YtfgdjpgdabjpmaaDoorCards
import Derived.Test.YtfgdjpgdabjpmaaDoorTie
import Derived.SevenTiedAt
import Derived.LaidMore
import Derived.Stop.Joined
import Derived.WalkKit
import Derived.ProofKit
import Derived.OpenShut
import Derived.ShutString
import Derived.ChangeOld
import Derived.Below
import Derived.SizedLaws
namespace Go.Proofs.YtfgdjpgdabjpmaaDoor.imageTells
open Go.ChangeShapes Go.WideShapes Go.ChangeAt Opn
open Go.RowKit Go.Proofs.YtfgdjpgdabjpmaaDoorW.PrintWords Go.Proofs.YtfgdjpgdabjpmaaDoorW.PrintLast Go.Proofs.YtfgdjpgdabjpmaaDoor.PImageTells
set_option linter.unusedVariables false
theorem own : ownKnob Tryd.prog.godebug = none := by kernel_rfl
theorem laidOut : laidOutB Tryd.prog = true := by kernel_rfl
theorem op26 : Opens Tryd.prog 26 (Kd.int .u32) (fun x => (Lit.int .u32 x).wf = true) := opens_int Tryd.underlying26
theorem op22 : Opens Tryd.prog 22 (Kd.slice 26 (Kd.int .u32)) (fun x => (x.length ≤ maxLen ∧ ∀ yx ∈ x, (Lit.int .u32 yx).wf = true)) := opens_slice Tryd.underlying22 (by kernel_rfl) op26
theorem op3 : Opens Tryd.prog 3 (Kd.int .i64) (fun x => (Lit.int .i64 x).wf = true) := opens_int Tryd.underlying3
theorem op2 : Opens Tryd.prog 2 (Kd.int .i64) (fun x => (Lit.int .i64 x).wf = true) := opens_int Tryd.underlying2
theorem op23 : Opens Tryd.prog 23 (Kd.slice 2 (Kd.int .i64)) (fun x => (x.length ≤ maxLen ∧ ∀ yx ∈ x, (Lit.int .i64 yx).wf = true)) := opens_slice Tryd.underlying23 (by kernel_rfl) op2
theorem op25000 : Opens Tryd.prog 25 (Kd.pair (Kd.slice 26 (Kd.int .u32)) (Kd.pair (Kd.int .i64) (Kd.slice 2 (Kd.int .i64)))) (fun x => (x.1.length ≤ maxLen ∧ ∀ yx_1 ∈ x.1, (Lit.int .u32 yx_1).wf = true) ∧ (Lit.int .i64 x.2.1).wf = true ∧ (x.2.2.length ≤ maxLen ∧ ∀ yx_2_2 ∈ x.2.2, (Lit.int .i64 yx_2_2).wf = true)) := opens_struct Tryd.underlying25 (by kernel_rfl) (fk_cons (P := Tryd.prog) (off := 0) (d := (Kd.slice 26 (Kd.int .u32))) (d' := (Kd.pair (Kd.int .i64) (Kd.slice 2 (Kd.int .i64)))) (wf := fun x => (x.length ≤ maxLen ∧ ∀ yx ∈ x, (Lit.int .u32 yx).wf = true)) (wf' := fun x => (Lit.int .i64 x.1).wf = true ∧ (x.2.length ≤ maxLen ∧ ∀ yx_2 ∈ x.2, (Lit.int .i64 yx_2).wf = true)) rfl (by kernel_rfl) op22 (fk_cons (P := Tryd.prog) (off := 1) (d := (Kd.int .i64)) (d' := (Kd.slice 2 (Kd.int .i64))) (wf := fun x => (Lit.int .i64 x).wf = true) (wf' := fun x => (x.length ≤ maxLen ∧ ∀ yx ∈ x, (Lit.int .i64 yx).wf = true)) rfl (by kernel_rfl) op3 (fk_one (P := Tryd.prog) (off := 2) (d := (Kd.slice 2 (Kd.int .i64))) (wf := fun x => (x.length ≤ maxLen ∧ ∀ yx ∈ x, (Lit.int .i64 yx).wf = true)) rfl (by kernel_rfl) op23)))
/-- The door's own heap meets the condition. -/
theorem door_met (os : Os) (args : Array Value) : laidMetH Tryd.prog Rows.imageTellsRow.laid ((World.doorLaid Tryd.prog 24 os).forCall (fun _ _ => 0) ⟨#[], args, []⟩).memory :=
  laidMetH_of_parts3 (fuel := 8) (laidMet_of_run' 8 (by kernel_rfl) (by kernel_rfl)) (by kernel_rfl) (by kernel_rfl)
set_option maxRecDepth 100000 in
theorem lifted (os : Os) (started : os.Started) (H : Type) (enc : TypeId × Value → H) :
    ReturnsInHanded {} Tryd.checked os 4 .any (fun w args => (Rows.imageTellsSpec.pre enc Tryd.prog Tryd.f4 [] false w args ∧ laidMetH Tryd.prog Rows.imageTellsRow.laid w) ∧ sizedMet enc Tryd.prog Tryd.f4 (OpenSpec.ofChange Rows.imageTellsSpec) false w args) (Rows.imageTellsSpec.post enc Tryd.prog Tryd.f4 false true false false) := by
  refine returnsInHanded_of_change_and (C := Tryd.checked) (X := fun w _ => laidMetH Tryd.prog Rows.imageTellsRow.laid w) (fun _ _ _ hh h => h.of_heap hh) own started (by kernel_rfl) Tryd.func4
    (ChangeSpec.witness_shaped (enc := enc) (C := Tryd.checked) (os := os) (X := fun w _ => laidMetH Tryd.prog Rows.imageTellsRow.laid w) false (World.doorLaid Tryd.prog 24 os) #[.agg #[.slice none 0 0, .int .i64 0, .slice none 0 0]] 8 rfl (World.shaped_of_RefB (by kernel_rfl) (by kernel_rfl)) (by kernel_rfl) (by kernel_rfl) (by kernel_rfl) (door_met os _)) ?_
  intro W base args ds gs before hval0 hW hcnd hsz0 hL _
  have hval : ∀ (j : Nat) t v, Tryd.f4.params[j]? = some t → args[j]? = some v → Value.okWide Tryd.prog W .any base t v := hval0
  have hW' := hW
  obtain ⟨p, q, hA0, hV, rfl, hfz, hnd⟩ := hW
  have hA : DataW.TrodAll enc Tryd.prog W 0 (fun _ => true) true Tryd.f4.params.toList args.toList ds p := hA0
  rw [Tryd.params4] at hA hval
  obtain ⟨v0, vs0, d0, ds0, p0, q0, hargs, rfl, rfl, h0, r0⟩ := trodAll_cons hA
  obtain ⟨rfl, rfl, rfl⟩ := trodAll_nil r0
  obtain rfl : args = #[v0] := by cases args; simp_all
  obtain ⟨rfl, rfl⟩ := trodVars_none hV
  have k0 := h0
  have lt0 : ∀ x ∈ p0, x.block < W.heap.size := by obtain ⟨m, hm⟩ := k0; exact DataW.trod_lt m _ _ _ hm
  obtain ⟨⟨l0_0, ⟨a0_1, l0_2⟩⟩, cs0, rfl, hk0, hw0⟩ := arg_struct Tryd.underlying25 op25000 (hval 0 25 v0 rfl rfl) h0
  obtain ⟨_, _, rfl, ⟨A0_0, c0_0, rfl, hc0_0, hr0_0⟩, ⟨_, _, rfl, rfl, ⟨A0_2, c0_2, rfl, hc0_2, hr0_2⟩⟩⟩ := hk0
  obtain ⟨w0_0, ⟨w0_1, w0_2⟩⟩ := hw0
  clear hA0 hval0 hsz0
  obtain ⟨k, hp⟩ := Pure.ImageTells l0_0 a0_1 l0_2 w0_0 w0_1 w0_2
  refine (PImageTells.pleatlaw07_ImageTells.calls k A0_0 c0_0 l0_0 a0_1 A0_2 c0_2 l0_2 true W hr0_0 hc0_0 hr0_2 hc0_2 hp).mono fun e W' ⟨he, bel0⟩ => ?_
  subst he
  have bel : Below W.heap.size W W' := bel0
  exact ⟨_, rfl, _, _, _, [], _, [], hW', trodAll_mk1 (shut_bool Tryd.underlying4 _), (trodAll_cons_mk (Below.trod laidOut (by kernel_rfl) (of_decide_eq_true (by kernel_rfl)) k0 bel lt0) trodAll_mk0), rfl, bel.frame _, fun h => by cases h⟩
theorem over : Rows.imageTellsRow.holds Tryd.pinned (OpenSpec.ofChange Rows.imageTellsSpec) :=
  OpenClaim.holds_of_wide 4 Tryd.f4 rfl rfl rfl rfl rfl rfl rfl ⟨rfl, rfl, rfl, rfl, rfl⟩ rfl rfl rfl rfl rfl (by kernel_rfl) Tryd.func4 (by kernel_rfl)
    (of_decide_eq_true (by kernel_rfl)) (by unfold Func.isWrapper; first | (rw [if_pos (by decide +kernel)]; kernel_rfl) | (rw [if_neg (by decide +kernel)]; exact ⟨rfl, rfl⟩))
    (fun os started H enc _ => lifted os started H enc)
set_option maxRecDepth 100000 in
theorem proved : Rows.ImageTellsCardSaid :=
  Claim7.holds_tied_plain_at .later [] [.data, .data, .data] true (true, "8ad36fb8477fe11254c1d53b15db948dfdb7df65873fa4cd6cd548c12cedd5c8") true over (fun _ h => by cases h) (by kernel_rfl) (fun _ h => by cases h) imageTells_row_tie rfl ⟨rfl, rfl⟩ (by kernel_rfl) rfl
    (fun f fn hf hfn => by
      obtain rfl : f = 4 := Option.some.inj ((show Tryd.prog.funcNamed "pleat/pleatlaw07.ImageTells" = some 4 by kernel_rfl).symm.trans hf) |>.symm
      obtain rfl : fn = Tryd.f4 := (Option.some.inj (Tryd.func4.symm.trans hfn)).symm
      exact ⟨by kernel_rfl, fun j t ht => by
        rw [Tryd.params4] at ht
        have hm : t ∈ [25] := by simpa using Array.mem_of_getElem? ht
        have hall : ([25].all fun u => !Tryd.prog.wantsStandIn u) = true := by kernel_rfl
        exact (show Tryd.prog.wantsStandIn t = false by simpa using List.all_eq_true.1 hall t hm)⟩)
    (by kernel_rfl)
#print axioms proved
end Go.Proofs.YtfgdjpgdabjpmaaDoor.imageTells
namespace Go.Proofs.YtfgdjpgdabjpmaaDoor
/-- The row, under a short name, for the claim. -/
theorem imageTells_holds : Rows.ImageTellsCardSaid := imageTells.proved
end Go.Proofs.YtfgdjpgdabjpmaaDoor
