-- Written for this claim by a program of this session (wip/tools/rowgen.py).
import Derived.Test.YthkiapcoagjjpaaRows
import Derived.Test.YthkiapcoagjjpaaPPruneMostx3
import Derived.Test.YthkiapcoagjjpaaPurePruneMost
import Derived.Test.YthkiapcoagjjpaaOpens
import Derived.WalkKit
import Derived.ProofKit
import Derived.OpenShut
import Derived.ShutString
import Derived.ChangeOld
import Derived.Below
import Derived.SizedLaws
namespace Go.Proofs.Ythkiapcoagjjpaa.pruneMost
open Go.ChangeShapes Go.WideShapes Go.ChangeAt Opn
open Go.RowKit Go.Proofs.YthkiapcoagjjpaaW.PrintWords Go.Proofs.YthkiapcoagjjpaaW.PrintLast Go.Proofs.Ythkiapcoagjjpaa.PPruneMost
set_option linter.unusedVariables false
theorem own : ownKnob Try.prog.godebug = none := by kernel_rfl
theorem laidOut : laidOutB Try.prog = true := by kernel_rfl
theorem op3 : Opens Try.prog 3 (Kd.int .i64) (fun x => (Lit.int .i64 x).wf = true) := opens_int Try.underlying3
theorem op25 : Opens Try.prog 25 (Kd.int .i8) (fun x => (Lit.int .i8 x).wf = true) := opens_int Try.underlying25
theorem op27000 : Opens Try.prog 27 (Kd.pair (Kd.int .i64) (Kd.pair (Kd.int .i8) (Kd.int .i8))) (fun x => (Lit.int .i64 x.1).wf = true ∧ (Lit.int .i8 x.2.1).wf = true ∧ (Lit.int .i8 x.2.2).wf = true) := opens_struct Try.underlying27 (by kernel_rfl) (fk_cons (P := Try.prog) (off := 0) (d := (Kd.int .i64)) (d' := (Kd.pair (Kd.int .i8) (Kd.int .i8))) (wf := fun x => (Lit.int .i64 x).wf = true) (wf' := fun x => (Lit.int .i8 x.1).wf = true ∧ (Lit.int .i8 x.2).wf = true) rfl (by kernel_rfl) op3 (fk_cons (P := Try.prog) (off := 1) (d := (Kd.int .i8)) (d' := (Kd.int .i8)) (wf := fun x => (Lit.int .i8 x).wf = true) (wf' := fun x => (Lit.int .i8 x).wf = true) rfl (by kernel_rfl) op25 (fk_one (P := Try.prog) (off := 2) (d := (Kd.int .i8)) (wf := fun x => (Lit.int .i8 x).wf = true) rfl (by kernel_rfl) op25)))
theorem op27 : Opens Try.prog 27 k27 (fun x => ((Lit.int .i64 x.f0).wf = true ∧ (Lit.int .i8 x.f1).wf = true ∧ (Lit.int .i8 x.f2).wf = true)) := opens_iso op27000 _ (fun x => ⟨x.1, x.2.1, x.2.2⟩) (fun _ => rfl)
theorem op22 : Opens Try.prog 22 (Kd.slice 27 k27) (fun x => (x.length ≤ maxLen ∧ ∀ yx ∈ x, ((Lit.int .i64 yx.f0).wf = true ∧ (Lit.int .i8 yx.f1).wf = true ∧ (Lit.int .i8 yx.f2).wf = true))) := opens_slice Try.underlying22 (by kernel_rfl) op27
theorem op4 : Opens Try.prog 4 Kd.bool (fun x => True) := opens_bool Try.underlying4
theorem op23 : Opens Try.prog 23 (Kd.slice 4 Kd.bool) (fun x => (x.length ≤ maxLen ∧ ∀ yx ∈ x, True)) := opens_slice Try.underlying23 (by kernel_rfl) op4
set_option maxRecDepth 100000 in
theorem lifted (os : Os) (started : os.Started) (H : Type) (enc : TypeId × Value → H) :
    ReturnsInHanded {} Try.checked os 3 .any (Rows.pruneMostSpec.pre6 enc Try.prog Try.f3 Rows.pruneMostRow.domain false) (Rows.pruneMostSpec.post enc Try.prog Try.f3 false true false false) := by
  refine returnsInHanded_of_change_sized (C := Try.checked) own started (by kernel_rfl) Try.func3
    (ChangeSpec.witness6 (enc := enc) (C := Try.checked) false ⟨#[], #[.int .i64 0, .slice none 0 0, .slice none 0 0], []⟩ 8 (by kernel_rfl) (by kernel_rfl) (by kernel_rfl) (by kernel_rfl)) ?_
  intro W base args ds gs before hval0 hW hcnd hsz0 _
  have hval : ∀ (j : Nat) t v, Try.f3.params[j]? = some t → args[j]? = some v → Value.okWide Try.prog W .any base t v := hval0
  have hW' := hW
  obtain ⟨p, q, hA0, hV, rfl, hfz, hnd⟩ := hW
  have hA : DataW.TrodAll enc Try.prog W 0 (fun _ => true) true Try.f3.params.toList args.toList ds p := hA0
  rw [Try.params3] at hA hval
  obtain ⟨v0, vs0, d0, ds0, p0, q0, hargs, rfl, rfl, h0, r0⟩ := trodAll_cons hA
  obtain ⟨v1, vs1, d1, ds1, p1, q1, rfl, rfl, rfl, h1, r1⟩ := trodAll_cons r0
  obtain ⟨v2, vs2, d2, ds2, p2, q2, rfl, rfl, rfl, h2, r2⟩ := trodAll_cons r1
  obtain ⟨rfl, rfl, rfl⟩ := trodAll_nil r2
  obtain rfl : args = #[v0, v1, v2] := by cases args; simp_all
  obtain ⟨rfl, rfl⟩ := trodVars_none hV
  have k0 := h0
  have lt0 : ∀ x ∈ p0, x.block < W.heap.size := by obtain ⟨m, hm⟩ := k0; exact DataW.trod_lt m _ _ _ hm
  obtain ⟨a0, rfl, rfl, rfl, hw0⟩ := open_int Try.underlying3 (hval 0 3 v0 rfl rfl) h0
  have k1 := h1
  have lt1 : ∀ x ∈ p1, x.block < W.heap.size := by obtain ⟨m, hm⟩ := k1; exact DataW.trod_lt m _ _ _ hm
  obtain ⟨A1, l1, c1, rfl, hc1, hr1, hw1⟩ := arg_slice Try.underlying22 op22 (hval 1 22 v1 rfl rfl) h1
  have k2 := h2
  have lt2 : ∀ x ∈ p2, x.block < W.heap.size := by obtain ⟨m, hm⟩ := k2; exact DataW.trod_lt m _ _ _ hm
  obtain ⟨A2, l2, c2, rfl, hc2, hr2, hw2⟩ := arg_slice Try.underlying23 op23 (hval 2 23 v2 rfl rfl) h2
  clear hA0 hval0 hsz0
  obtain ⟨k, hp⟩ := Pure.PruneMost a0 l1 l2 hw0 hw1 hw2
  refine (PPruneMost.pleatlaw20_PruneMost.calls k a0 A1 c1 l1 A2 c2 l2 true W hr1 hc1 hr2 hc2 hp).mono fun e W' ⟨he, bel0⟩ => ?_
  subst he
  have bel : Below W.heap.size W W' := bel0
  exact ⟨_, rfl, _, _, _, [], _, [], hW', trodAll_mk1 (shut_bool Try.underlying4 _), (trodAll_cons_mk (Below.trod laidOut (by kernel_rfl) (of_decide_eq_true (by kernel_rfl)) k0 bel lt0) (trodAll_cons_mk (Below.trod laidOut (by kernel_rfl) (of_decide_eq_true (by kernel_rfl)) k1 bel lt1) (trodAll_cons_mk (Below.trod laidOut (by kernel_rfl) (of_decide_eq_true (by kernel_rfl)) k2 bel lt2) trodAll_mk0))), rfl, bel.frame _, fun h => by cases h⟩
theorem over : Rows.pruneMostRow.holds Try.pinned (OpenSpec.ofChange Rows.pruneMostSpec) :=
  OpenClaim.holds_of_wide 3 Try.f3 rfl rfl rfl rfl rfl rfl rfl ⟨rfl, rfl, rfl, rfl, rfl⟩ rfl rfl rfl rfl rfl (by kernel_rfl) Try.func3 (by kernel_rfl)
    (of_decide_eq_true (by kernel_rfl)) (by unfold Func.isWrapper; first | (rw [if_pos (by decide +kernel)]; kernel_rfl) | (rw [if_neg (by decide +kernel)]; exact ⟨rfl, rfl⟩))
    (fun os started H enc _ => lifted os started H enc)
theorem proved : Rows.PruneMostSaid := over
#print axioms proved
end Go.Proofs.Ythkiapcoagjjpaa.pruneMost
namespace Go.Proofs.Ythkiapcoagjjpaa
/-- The row, under a short name, for the claim. -/
theorem pruneMost_holds : Rows.PruneMostSaid := pruneMost.proved
end Go.Proofs.Ythkiapcoagjjpaa
