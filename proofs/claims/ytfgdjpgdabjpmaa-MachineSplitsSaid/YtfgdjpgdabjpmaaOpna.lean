/- How arrays among a law's arguments are opened. Over any program. -/
import Derived.Test.YtfgdjpgdabjpmaaOpens
import Derived.OpenShut
namespace Go.Proofs.Ytfgdjpgdabjpmaa.Opn
open Go.Deep Go.Proofs.YtfgdjpgdabjpmaaW.PrintWords
/-- An array of n elements as a row of fields, one behind the other. -/
def arrF (e c : Nat) : Nat → Nat → List Field
  | 0, _ => []
  | n + 1, o => { (default : Field) with type := e, offset := o * c } :: arrF e c n (o + 1)
theorem arrF_mem (e c : Nat) : ∀ n o f, f ∈ arrF e c n o → f.type = e ∧ ∃ i, o ≤ i ∧ i < o + n ∧ f.offset = i * c
  | 0, o, f, h => by cases h
  | n + 1, o, f, h => by
    rcases List.mem_cons.1 h with rfl | h
    · exact ⟨rfl, o, Nat.le_refl _, by omega, rfl⟩
    · obtain ⟨h1, i, h2, h3, h4⟩ := arrF_mem e c n (o + 1) f h
      exact ⟨h1, i, by omega, by omega, h4⟩
theorem opens_array {α : Type} {P : Program} {t e n : Nat} {d : Kd α} {wf : α → Prop} (ht : P.underlying t = some (.array n e)) (hc : P.cellsOf t = d.sz) (h : FK P (arrF e (P.cellsOf e) n 0) 0 d wf) : Opens P t d wf := by
  intro H enc w fuel cs x hx
  obtain ⟨xs, m, _, _, hl, hlen, hf⟩ := DataW.trod_array ht hx
  have := h _ enc w m cs (by rw [hl, hc]; omega) (fun f hf' => by
    obtain ⟨h1, i, _, h3, h4⟩ := arrF_mem _ _ _ _ _ hf'
    have h2 : i < xs.length := by omega
    exact ⟨xs[i], by rw [h1, h4, hf i (by omega), List.getElem?_eq_getElem h2]⟩)
  simpa using this
/-- An argument of an array type: the value, by its cells. -/
theorem arg_array {H : Type} {enc : TypeId × Value → H} {α : Type} {P : Program} {t e n : Nat} {d : Kd α} {wf : α → Prop} {W : World} {r : Reach} {b0 : Nat} {v : Value} {dd : DataW H} {p : List MemPlace}
    (ht : P.underlying t = some (.array n e)) (ho : Opens P t d wf) (hv : Value.okWide P W r b0 t v) (h : DataW.Trod enc P W 0 (fun _ => true) true t v dd p) : ∃ (y : α) (cs : List Value), v = .agg cs.toArray ∧ d.K W y cs ∧ wf y := by
  unfold Value.okWide at hv
  rw [ht] at hv
  obtain ⟨cs, rfl, _, _⟩ := hv
  obtain ⟨fuel, hf⟩ := h
  obtain ⟨y, hy, hw⟩ := ho _ enc W fuel _ _ hf
  exact ⟨y, cs.toList, by simp, by simpa [Value.cells] using hy, hw⟩
end Go.Proofs.Ytfgdjpgdabjpmaa.Opn
