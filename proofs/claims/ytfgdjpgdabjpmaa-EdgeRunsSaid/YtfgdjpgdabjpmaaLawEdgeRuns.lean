-- Written for this claim by a program of this session (wip/tools/rowgen.py).
import Derived.Test.YtfgdjpgdabjpmaaRows
import Derived.Test.YtfgdjpgdabjpmaaPEdgeRunsx13
import Derived.Test.YtfgdjpgdabjpmaaPureEdgeRuns
import Derived.Test.YtfgdjpgdabjpmaaOpens
import Derived.WalkKit
import Derived.ProofKit
import Derived.OpenShut
import Derived.ShutString
import Derived.ChangeOld
import Derived.Below
import Derived.SizedLaws
namespace Go.Proofs.Ytfgdjpgdabjpmaa.edgeRuns
open Go.ChangeShapes Go.WideShapes Go.ChangeAt Opn
open Go.RowKit Go.Proofs.YtfgdjpgdabjpmaaW.PrintWords Go.Proofs.YtfgdjpgdabjpmaaW.PrintLast Go.Proofs.Ytfgdjpgdabjpmaa.PEdgeRuns
set_option linter.unusedVariables false
theorem own : ownKnob Try.prog.godebug = none := by kernel_rfl
theorem laidOut : laidOutB Try.prog = true := by kernel_rfl
theorem op38 : Opens Try.prog 38 (Kd.int .u32) (fun x => (Lit.int .u32 x).wf = true) := opens_int Try.underlying38
theorem op22 : Opens Try.prog 22 (Kd.slice 38 (Kd.int .u32)) (fun x => (x.length ≤ maxLen ∧ ∀ yx ∈ x, (Lit.int .u32 yx).wf = true)) := opens_slice Try.underlying22 (by kernel_rfl) op38
theorem op3 : Opens Try.prog 3 (Kd.int .i64) (fun x => (Lit.int .i64 x).wf = true) := opens_int Try.underlying3
theorem op2 : Opens Try.prog 2 (Kd.int .i64) (fun x => (Lit.int .i64 x).wf = true) := opens_int Try.underlying2
theorem op23 : Opens Try.prog 23 (Kd.slice 2 (Kd.int .i64)) (fun x => (x.length ≤ maxLen ∧ ∀ yx ∈ x, (Lit.int .i64 yx).wf = true)) := opens_slice Try.underlying23 (by kernel_rfl) op2
theorem op25000 : Opens Try.prog 25 (Kd.pair (Kd.slice 38 (Kd.int .u32)) (Kd.pair (Kd.int .i64) (Kd.slice 2 (Kd.int .i64)))) (fun x => (x.1.length ≤ maxLen ∧ ∀ yx_1 ∈ x.1, (Lit.int .u32 yx_1).wf = true) ∧ (Lit.int .i64 x.2.1).wf = true ∧ (x.2.2.length ≤ maxLen ∧ ∀ yx_2_2 ∈ x.2.2, (Lit.int .i64 yx_2_2).wf = true)) := opens_struct Try.underlying25 (by kernel_rfl) (fk_cons (P := Try.prog) (off := 0) (d := (Kd.slice 38 (Kd.int .u32))) (d' := (Kd.pair (Kd.int .i64) (Kd.slice 2 (Kd.int .i64)))) (wf := fun x => (x.length ≤ maxLen ∧ ∀ yx ∈ x, (Lit.int .u32 yx).wf = true)) (wf' := fun x => (Lit.int .i64 x.1).wf = true ∧ (x.2.length ≤ maxLen ∧ ∀ yx_2 ∈ x.2, (Lit.int .i64 yx_2).wf = true)) rfl (by kernel_rfl) op22 (fk_cons (P := Try.prog) (off := 1) (d := (Kd.int .i64)) (d' := (Kd.slice 2 (Kd.int .i64))) (wf := fun x => (Lit.int .i64 x).wf = true) (wf' := fun x => (x.length ≤ maxLen ∧ ∀ yx ∈ x, (Lit.int .i64 yx).wf = true)) rfl (by kernel_rfl) op3 (fk_one (P := Try.prog) (off := 2) (d := (Kd.slice 2 (Kd.int .i64))) (wf := fun x => (x.length ≤ maxLen ∧ ∀ yx ∈ x, (Lit.int .i64 yx).wf = true)) rfl (by kernel_rfl) op23)))
set_option maxRecDepth 100000 in
theorem lifted (os : Os) (started : os.Started) (H : Type) (enc : TypeId × Value → H) :
    ReturnsInHanded {} Try.checked os 8 .any (Rows.edgeRunsSpec.pre6 enc Try.prog Try.f8 Rows.edgeRunsRow.domain false) (Rows.edgeRunsSpec.post enc Try.prog Try.f8 false true false false) := by
  refine returnsInHanded_of_change_sized (C := Try.checked) own started (by kernel_rfl) Try.func8
    (ChangeSpec.witness6 (enc := enc) (C := Try.checked) false ⟨#[], #[.agg #[.slice none 0 0, .int .i64 0, .slice none 0 0], .slice none 0 0, .int .i64 0], []⟩ 8 (by kernel_rfl) (by kernel_rfl) (by kernel_rfl) (by kernel_rfl)) ?_
  intro W base args ds gs before hval0 hW hcnd hsz0 _
  have hval : ∀ (j : Nat) t v, Try.f8.params[j]? = some t → args[j]? = some v → Value.okWide Try.prog W .any base t v := hval0
  have hW' := hW
  obtain ⟨p, q, hA0, hV, rfl, hfz, hnd⟩ := hW
  have hA : DataW.TrodAll enc Try.prog W 0 (fun _ => true) true Try.f8.params.toList args.toList ds p := hA0
  rw [Try.params8] at hA hval
  obtain ⟨v0, vs0, d0, ds0, p0, q0, hargs, rfl, rfl, h0, r0⟩ := trodAll_cons hA
  obtain ⟨v1, vs1, d1, ds1, p1, q1, rfl, rfl, rfl, h1, r1⟩ := trodAll_cons r0
  obtain ⟨v2, vs2, d2, ds2, p2, q2, rfl, rfl, rfl, h2, r2⟩ := trodAll_cons r1
  obtain ⟨rfl, rfl, rfl⟩ := trodAll_nil r2
  obtain rfl : args = #[v0, v1, v2] := by cases args; simp_all
  obtain ⟨rfl, rfl⟩ := trodVars_none hV
  have k0 := h0
  have lt0 : ∀ x ∈ p0, x.block < W.heap.size := by obtain ⟨m, hm⟩ := k0; exact DataW.trod_lt m _ _ _ hm
  obtain ⟨⟨l0_0, ⟨a0_1, l0_2⟩⟩, cs0, rfl, hk0, hw0⟩ := arg_struct Try.underlying25 op25000 (hval 0 25 v0 rfl rfl) h0
  obtain ⟨_, _, rfl, ⟨A0_0, c0_0, rfl, hc0_0, hr0_0⟩, ⟨_, _, rfl, rfl, ⟨A0_2, c0_2, rfl, hc0_2, hr0_2⟩⟩⟩ := hk0
  obtain ⟨w0_0, ⟨w0_1, w0_2⟩⟩ := hw0
  have k1 := h1
  have lt1 : ∀ x ∈ p1, x.block < W.heap.size := by obtain ⟨m, hm⟩ := k1; exact DataW.trod_lt m _ _ _ hm
  obtain ⟨A1, l1, c1, rfl, hc1, hr1, hw1⟩ := arg_slice Try.underlying23 op23 (hval 1 23 v1 rfl rfl) h1
  have k2 := h2
  have lt2 : ∀ x ∈ p2, x.block < W.heap.size := by obtain ⟨m, hm⟩ := k2; exact DataW.trod_lt m _ _ _ hm
  obtain ⟨a2, rfl, rfl, rfl, hw2⟩ := open_int Try.underlying3 (hval 2 3 v2 rfl rfl) h2
  clear hA0 hval0 hsz0
  obtain ⟨k, hp⟩ := Pure.EdgeRuns l0_0 a0_1 l0_2 l1 a2 w0_0 w0_1 w0_2 hw1 hw2
  refine (PEdgeRuns.pleatlaw12_EdgeRuns.calls k A0_0 c0_0 l0_0 a0_1 A0_2 c0_2 l0_2 A1 c1 l1 a2 true W hr0_0 hc0_0 hr0_2 hc0_2 hr1 hc1 hp).mono fun e W' ⟨he, bel0⟩ => ?_
  subst he
  have bel : Below W.heap.size W W' := bel0
  exact ⟨_, rfl, _, _, _, [], _, [], hW', trodAll_mk1 (shut_bool Try.underlying4 _), (trodAll_cons_mk (Below.trod laidOut (by kernel_rfl) (of_decide_eq_true (by kernel_rfl)) k0 bel lt0) (trodAll_cons_mk (Below.trod laidOut (by kernel_rfl) (of_decide_eq_true (by kernel_rfl)) k1 bel lt1) (trodAll_cons_mk (Below.trod laidOut (by kernel_rfl) (of_decide_eq_true (by kernel_rfl)) k2 bel lt2) trodAll_mk0))), rfl, bel.frame _, fun h => by cases h⟩
theorem over : Rows.edgeRunsRow.holds Try.pinned (OpenSpec.ofChange Rows.edgeRunsSpec) :=
  OpenClaim.holds_of_wide 8 Try.f8 rfl rfl rfl rfl rfl rfl rfl ⟨rfl, rfl, rfl, rfl, rfl⟩ rfl rfl rfl rfl rfl (by kernel_rfl) Try.func8 (by kernel_rfl)
    (of_decide_eq_true (by kernel_rfl)) (by unfold Func.isWrapper; first | (rw [if_pos (by decide +kernel)]; kernel_rfl) | (rw [if_neg (by decide +kernel)]; exact ⟨rfl, rfl⟩))
    (fun os started H enc _ => lifted os started H enc)
theorem proved : Rows.EdgeRunsSaid := over
#print axioms proved
end Go.Proofs.Ytfgdjpgdabjpmaa.edgeRuns
namespace Go.Proofs.Ytfgdjpgdabjpmaa
/-- The row, under a short name, for the claim. -/
theorem edgeRuns_holds : Rows.EdgeRunsSaid := edgeRuns.proved
end Go.Proofs.Ytfgdjpgdabjpmaa
