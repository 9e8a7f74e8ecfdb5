-- Words with default arguments: what the compact print (wip/tools/mkprint2.py) leaves out. Own text.
import Derived.Test.YthkiapcoagjjpaaWLast
import Derived.Test.YthkiapcoagjjpaaWGuard
import Derived.Test.YthkiapcoagjjpaaWMore
import Derived.Below
import Derived.WalkKit
namespace Go.Proofs.YthkiapcoagjjpaaW.PrintWords
open Go.RowKit Go.Proofs.YthkiapcoagjjpaaW.PrintLast Go.Proofs.YthkiapcoagjjpaaW.PrintMore
set_option linter.unusedVariables false
/-- What is below: all that was there when the call began stands. -/
theorem zHB {p : Prop} (h : p := by repeat (first | (with_reducible first | exact HB.out | apply below_alloc | apply pw_below_drewN | apply below_drew1 | refine below_set ?_ (Aside0.out (by with_reducible assumption))) | exact HB.out)) : p := h
/-- A variable in memory, as it stands. -/
theorem zBK {p : Prop} (h : p := by
  repeat (first
    | (with_reducible first | apply blk_drewN | apply blk_drew | apply blk_alloc)
    | (with_reducible apply blk_far (hp := Aside0.out (by with_reducible assumption)))
    | (with_reducible apply blk_put))
  with_reducible exact Aside0.out (by with_reducible assumption)
  all_goals (show (_ : Array Value) = _; rfl)) : p := h
/-- A test that has been decided. -/
theorem zOD {p : Prop} [Decidable p] (h : decide p = true := by first | (with_reducible assumption) | assumption) : p := of_decide_eq_true h
theorem zS {p : Prop} (h : p := by
  repeat (first
    | (with_reducible exact Aside0.out (by with_reducible assumption))
    | exact Kd.C_below (Aside0.out (by with_reducible assumption)) HB.out
    | exact (Kd.R_reads' (Aside0.out (by with_reducible assumption))).2.2
    | exact (Kd.R_reads' (Aside0.out (by with_reducible assumption))).2.1
    | exact Kd.C_nil _ _ | exact Nat.le_refl _
    | (with_reducible refine Kd.C_alloc ?_ _) | (with_reducible refine Kd.C_drewN ?_ _) | (with_reducible refine Kd.C_drew ?_))) : p := h
theorem zE {p : Prop} (h : p := by first | rfl | (simp [errW_none, errW_some] <;> rfl) | (simp [*, errW_none, errW_some] <;> rfl)) : p := h
theorem zF' {p : Prop} (h : p := by first | rfl | (simp; done) | (simp [*]; done)) : p := h
theorem zL {p : Prop} (h : p := by first | omega | exact Nat.le_refl _) : p := h
theorem zDr {p : Prop} (h : p := by repeat (first | exact Drawn0.refl _ | apply Drawn0.step)) : p := h
theorem zMo {p : Prop} (h : p := by
  repeat' first
    | (with_reducible exact LeO.refl _)
    | (with_reducible exact LeO.none _)
    | (with_reducible apply_assumption)
    | (with_reducible refine LeO.ite ?_ ?_)
    | (with_reducible refine LeO.bind ?_ (fun _ => ?_))
    | apply_assumption
    | exact LeO.none _
    | refine LeO.ite ?_ ?_
    | refine LeO.bind ?_ (fun _ => ?_)) : p := h
theorem zGe {w W : World} {g : Nat} (hg : g = W.heap.size) (h : Below w.heap.size w W) : w.heap.size ≤ g := hg ▸ h.size
theorem zNl {W : World} {g g' : Nat} {o : Obj} (hg : g' = W.heap.size) (h : W.heap[g]? = some o) : g ≠ g' := hg ▸ Nat.ne_of_lt (blk_lt h)
theorem zNg {W : World} {g g' : Nat} {o : Obj} (hg : g' = W.heap.size) (h : W.heap[g]? = some o) : g' ≠ g := hg ▸ Nat.ne_of_gt (blk_lt h)
theorem zs {p G : Prop} (a : p) (k : Aside0 p → G) : G := k ⟨a⟩
theorem zG {c : Prop} [Decidable c] {α : Type} {a : Option α} {r : α} (h : (if c then a else none) = some r) : c ∧ a = some r := by
  split at h
  · exact ⟨‹_›, h⟩
  · cases h
theorem zGn {c : Prop} [Decidable c] {α : Type} {a : Option α} {r : α} (h : (if c then none else a) = some r) : ¬ c ∧ a = some r := by
  split at h
  · cases h
  · exact ⟨‹_›, h⟩
section
variable {P : Program} {ops : Array Oper} {rest : List Oper} {o : Oper} {a : Act} {Q : Exit → Act → World → Prop}
theorem zBox {W : World} {N : Tmp} {cs : Array Value} {t : TypeId}
    (h : ∀ g, g = W.heap.size → ∀ w1, w1.heap[g]? = some (.cells cs t (0, 0)) → Below W.heap.size W w1 → wpList P ops Q rest (a.put o.dst (.pointer (some ⟨g, 0, none⟩))) w1)
    (hd : o.dst = some N := by rfl) (hgd : o.guard = none := by rfl)
    (hrun : (execOp a.eval o).run P W = .ok (.value (.pointer (some ⟨W.heap.size, 0, none⟩))) (W.alloc (.cells cs t (0, 0))) := by first | (go_simp; done) | (go_simp; rfl)) : wpList P ops Q (o :: rest) a W :=
  box_event hgd hd hrun h
theorem zRet {fn : Func} {R : Ending → World → Prop} {w : World} {p : Tmp} {ty : TypeId} {d : TypeDesc} (g : Nat) (t : TypeId) (cs : Array Value) (hu : P.underlying ty = some d)
    (k : R (.returned (.agg cs)) w) (h : fn.results = #[.cell p ty] := by rfl) (hp : a.tmps.getD p undef = .pointer (some ⟨g, 0, none⟩) := by rfl)
    (hg : w.heap[g]? = some (.cells cs t (0, 0)) := by exact zBK) (hd : (match d with | .struct _ | .array _ _ => true | _ => false) = true := by rfl)
    (hi : (P.info? ty).map (·.size) = some cs.size := by kernel_rfl) (hf : a.defers = [] := by rfl) : bodyPost P fn R .ret a w :=
  bodyPost_ret (results_cell_row h _ _ g t cs (0, 0) _ hp hg hu hd hi) hf k
theorem zGo {w : World} {N : Option Tmp} {f : FuncId} {fn : Func} {as : Array Operand} {ts : Array TypeId} (hf : P.funcs[f]? = some fn) (args : Array Value)
    (h : Calls P f args w fun e w' => ∃ v, e = .returned v ∧ wpList P ops Q rest (a.put N v) w')
    (hd : o.dst = N := by rfl) (hg : o.guard = none := by rfl) (hname : (fn.name == "runtime.NumGoroutine") = false := by kernel_rfl) (hb : fn.body.isSome = true := by rfl)
    (hop : o.op = .call { callee := .value (.func f), args := as, argTypes := ts } := by rfl)
    (hargs : as.map a.eval = args := by (try simp only [List.map_toArray, List.map_cons, List.map_nil]); first | done | rfl | (simp only [List.length_drop, List.length_take]; rfl)) : wpList P ops Q (o :: rest) a w :=
  goesL_ N hd hg hf hname hb args hop hargs h
end
end Go.Proofs.YthkiapcoagjjpaaW.PrintWords
