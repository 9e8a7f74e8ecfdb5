/- What can be come to over edges: the program's walk and the document's rounds find the same: just the places that can be come to from the first. -/
import Derived.Test.YtfgdjpgdabjpmaaPEdgeRunsx
import Derived.Test.YtfgdjpgdabjpmaaEv
namespace Go.Proofs.Ytfgdjpgdabjpmaa.Pure
open Go.RowKit Go.Proofs.YtfgdjpgdabjpmaaW.PrintWords Go.Proofs.YtfgdjpgdabjpmaaW.PrintLast Go.Proofs.Ytfgdjpgdabjpmaa.PEdgeRuns Go.Proofs.Ytfgdjpgdabjpmaa.Ev
set_option linter.unusedVariables false
set_option linter.unusedSimpArgs false

theorem rd9 (l : List (List Int)) (i : Nat) : rd_L9 l (i : Int) = l.getD i [] := by simp [rd_L9]
theorem rdbN (l : List Bool) (i : Nat) : rdOf false l (i : Int) = l.getD i false := by simp [rdOf]
theorem nonneg (i : Nat) : (0 : Int) ≤ (i : Int) := by omega
/-- How many are false. -/
def falses : List Bool → Nat
  | [] => 0
  | b :: l => (if b then 0 else 1) + falses l
theorem falses_le : ∀ l : List Bool, falses l ≤ l.length
  | [] => Nat.le_refl _
  | b :: l => by
    have := falses_le l
    unfold falses
    simp only [List.length_cons]
    split <;> omega
theorem falses_set : ∀ (l : List Bool) (i : Nat), i < l.length → l.getD i false = false → falses (l.set i true) + 1 = falses l
  | [], i, h, _ => by simp at h
  | b :: l, 0, _, hb => by
    have : b = false := by simpa using hb
    subst this
    simp [falses]
    omega
  | b :: l, i + 1, h, hb => by
    have ih := falses_set l i (by simpa using h) (by simpa using hb)
    simp only [List.set_cons_succ, falses]
    omega
/-- Can a place be come to? -/
inductive Rch (E : List (List Int)) (s : Nat) : Nat → Prop
  | base : Rch E s s
  | step {i k : Nat} : Rch E s i → (k : Int) ∈ E.getD i [] → Rch E s k
/-- The edges lead to places that are there. -/
def inR (E : List (List Int)) : Prop := ∀ i, i < E.length → ∀ x, x ∈ E.getD i [] → ∃ k : Nat, x = (k : Int) ∧ k < E.length
structure Fin (E : List (List Int)) (s : Nat) (r : List Bool) : Prop where
  len : r.length = E.length
  iff : ∀ i, i < E.length → (r.getD i false = true ↔ Rch E s i)
theorem Fin.unique {E : List (List Int)} {s : Nat} {a b : List Bool} (ha : Fin E s a) (hb : Fin E s b) : a = b := by
  refine ext_getD false (by rw [ha.len, hb.len]) fun i hi => ?_
  have h1 := ha.iff i (by rw [← ha.len]; exact hi)
  have h2 := hb.iff i (by rw [← ha.len]; exact hi)
  rw [Bool.eq_iff_iff, h1, h2]
theorem fin_of {E : List (List Int)} {s : Nat} {r : List Bool} (hE : inR E) (hs : s < E.length) (hl : r.length = E.length) (hsound : ∀ i, i < E.length → r.getD i false = true → Rch E s i) (h0 : r.getD s false = true)
    (hc : ∀ i, i < E.length → r.getD i false = true → ∀ k : Nat, (k : Int) ∈ E.getD i [] → r.getD k false = true) : Fin E s r := by
  refine ⟨hl, fun i hi => ⟨hsound i hi, fun h => ?_⟩⟩
  have key : ∀ i, Rch E s i → i < E.length ∧ r.getD i false = true := fun i h => by
    induction h with
    | base => exact ⟨hs, h0⟩
    | step h1 h2 ih =>
      obtain ⟨k', e, hk⟩ := hE _ ih.1 _ h2
      have e2 : k' = _ := (Int.ofNat_inj.1 e).symm
      subst e2
      exact ⟨hk, hc _ ih.1 ih.2 _ h2⟩
  exact (key i h).2

/-! ### the program's walk -/
structure WInv (E : List (List Int)) (s W T : Nat) (out : List Bool) (todo : List Int) : Prop where
  len : out.length = E.length
  rng : ∀ x, x ∈ todo → ∃ k : Nat, x = (k : Int) ∧ k < E.length ∧ Rch E s k
  sound : ∀ i, i < E.length → out.getD i false = true → Rch E s i
  first : out.getD s false = true ∨ (s : Int) ∈ todo
  closed : ∀ i, i < E.length → out.getD i false = true → ∀ k : Nat, (k : Int) ∈ E.getD i [] → out.getD k false = true ∨ (k : Int) ∈ todo
  size : todo.length + falses out * W ≤ T
theorem walk_fin (E : List (List Int)) (hE : inR E) (s W T : Nat) (hs : s < E.length) (hW : ∀ i, i < E.length → (E.getD i []).length ≤ W) (hWb : W ≤ 1000000) (hT : T ≤ 1000000000) :
    ∀ (c : Nat) (out : List Bool), falses out ≤ c → ∀ (t : Nat) (todo : List Int), todo.length ≤ t → WInv E s W T out todo → ∃ r, Evt (fun q => edgeWalk q E out todo) r ∧ Fin E s r := by
  intro c
  induction c with
  | zero =>
    intro out hc t
    induction t with
    | zero =>
      intro todo ht h
      obtain rfl : todo = [] := List.eq_nil_of_length_eq_zero (by omega)
      refine ⟨out, Evt.succ (by simp only [edgeWalk, if_true]; exact Evt.pure), fin_of hE hs h.len h.sound (by simpa using h.first) (fun i hi ho k hk => by simpa using h.closed i hi ho k hk)⟩
    | succ t iht =>
      intro todo ht h
      by_cases hn : todo = []
      · exact iht todo (by rw [hn]; simp) h
      · obtain ⟨pre, x, rfl⟩ : ∃ pre x, todo = pre ++ [x] := ⟨todo.dropLast, todo.getLast hn, (List.dropLast_concat_getLast hn).symm⟩
        obtain ⟨k, rfl, hk, hR⟩ := h.rng x (by simp)
        have hkt : out.getD k false = true := by
          cases ho : out.getD k false
          · have := falses_set out k (by rw [h.len]; exact hk) ho
            omega
          · rfl
        obtain ⟨r, h1, h2⟩ := iht pre (by simp at ht; omega) ⟨h.len, fun y hy => h.rng y (by simp [hy]), h.sound, by
          rcases h.first with a | a
          · exact .inl a
          · rcases List.mem_append.1 a with a | a
            · exact .inr a
            · have : s = k := by have := List.mem_singleton.1 a; omega
              exact .inl (by rw [this]; exact hkt), fun i hi ho j hj => by
          rcases h.closed i hi ho j hj with a | a
          · exact .inl a
          · rcases List.mem_append.1 a with a | a
            · exact .inr a
            · have : j = k := by have := List.mem_singleton.1 a; omega
              exact .inl (by rw [this]; exact hkt), by have := h.size; simp at this; omega⟩
        refine ⟨r, Evt.succ ?_, h2⟩
        have a1 : (k : Int) < (out.length : Int) := by rw [h.len]; omega
        have a2 : (k : Int) < (E.length : Int) := by omega
        have a3 : (pre ++ [(k : Int)]).length ≤ 1000000000 := by have := h.size; omega
        have a4 : (E.getD k []).length ≤ 1000000000 := by have := hW k hk; omega
        simp only [edgeWalk, hn, if_false, List.getLastD_concat, List.dropLast_concat, nonneg, a1, a2, a3, a4, Int.toNat_natCast, and_self, if_true, rdbN, hkt]
        exact h1
  | succ c ihc =>
    intro out hc t
    induction t with
    | zero =>
      intro todo ht h
      obtain rfl : todo = [] := List.eq_nil_of_length_eq_zero (by omega)
      refine ⟨out, Evt.succ (by simp only [edgeWalk, if_true]; exact Evt.pure), fin_of hE hs h.len h.sound (by simpa using h.first) (fun i hi ho k hk => by simpa using h.closed i hi ho k hk)⟩
    | succ t iht =>
      intro todo ht h
      by_cases hn : todo = []
      · exact iht todo (by rw [hn]; simp) h
      · obtain ⟨pre, x, rfl⟩ : ∃ pre x, todo = pre ++ [x] := ⟨todo.dropLast, todo.getLast hn, (List.dropLast_concat_getLast hn).symm⟩
        obtain ⟨k, rfl, hk, hR⟩ := h.rng x (by simp)
        have a1 : (k : Int) < (out.length : Int) := by rw [h.len]; omega
        have a2 : (k : Int) < (E.length : Int) := by omega
        have a3 : (pre ++ [(k : Int)]).length ≤ 1000000000 := by have := h.size; omega
        have a4 : (E.getD k []).length ≤ 1000000000 := by have := hW k hk; omega
        cases hkt : out.getD k false
        · have hfs := falses_set out k (by rw [h.len]; exact hk) hkt
          have hset : ∀ j, (out.set k true).getD j false = true ↔ j = k ∨ out.getD j false = true := fun j => by
            by_cases e : k = j
            · subst e
              rw [lset_same false (show k < out.length by rw [h.len]; exact hk)]
              simp
            · rw [lset_other false e]
              have e' : ¬ j = k := fun h => e h.symm
              simp [e']
          obtain ⟨r, h1, h2⟩ := ihc (out.set k true) (by omega) _ (pre ++ E.getD k []) (Nat.le_refl _) ⟨by simp [h.len], fun y hy => by
            rcases List.mem_append.1 hy with a | a
            · exact h.rng y (by simp [a])
            · obtain ⟨j, e, hj⟩ := hE k hk y a
              subst e
              exact ⟨j, rfl, hj, hR.step a⟩, fun i hi ho => by
            rcases (hset i).1 ho with a | a
            · rw [a]; exact hR
            · exact h.sound i hi a, by
            rcases h.first with a | a
            · exact .inl ((hset s).2 (.inr a))
            · rcases List.mem_append.1 a with a | a
              · exact .inr (by simp [a])
              · have : s = k := by have := List.mem_singleton.1 a; omega
                exact .inl ((hset s).2 (.inl this)), fun i hi ho j hj => by
            rcases (hset i).1 ho with a | a
            · subst a
              exact .inr (by simp only [List.mem_append]; exact .inr hj)
            · rcases h.closed i hi a j hj with b | b
              · exact .inl ((hset j).2 (.inr b))
              · rcases List.mem_append.1 b with b | b
                · exact .inr (by simp only [List.mem_append]; exact .inl b)
                · have : j = k := by have := List.mem_singleton.1 b; omega
                  exact .inl ((hset j).2 (.inl this)), by
            have h5 := h.size
            have h6 := hW k hk
            have h7 : falses out * W = falses (out.set k true) * W + W := by rw [← hfs, Nat.add_mul, Nat.one_mul]
            rw [List.length_append] at h5 ⊢
            simp only [List.length_singleton] at h5
            omega⟩
          refine ⟨r, Evt.succ ?_, h2⟩
          simp only [edgeWalk, hn, if_false, List.getLastD_concat, List.dropLast_concat, nonneg, a1, a2, a3, a4, Int.toNat_natCast, and_self, if_true, rdbN, hkt, Bool.false_eq_true]
          exact h1
        · obtain ⟨r, h1, h2⟩ := iht pre (by simp at ht; omega) ⟨h.len, fun y hy => h.rng y (by simp [hy]), h.sound, by
            rcases h.first with a | a
            · exact .inl a
            · rcases List.mem_append.1 a with a | a
              · exact .inr a
              · have : s = k := by have := List.mem_singleton.1 a; omega
                exact .inl (by rw [this]; exact hkt), fun i hi ho j hj => by
            rcases h.closed i hi ho j hj with a | a
            · exact .inl a
            · rcases List.mem_append.1 a with a | a
              · exact .inr a
              · have : j = k := by have := List.mem_singleton.1 a; omega
                exact .inl (by rw [this]; exact hkt), by have := h.size; simp at this; omega⟩
          refine ⟨r, Evt.succ ?_, h2⟩
          simp only [edgeWalk, hn, if_false, List.getLastD_concat, List.dropLast_concat, nonneg, a1, a2, a3, a4, Int.toNat_natCast, and_self, if_true, rdbN, hkt]
          exact h1
theorem falses_rep : ∀ n, falses (List.replicate n false) = n
  | 0 => rfl
  | n + 1 => by
    rw [List.replicate_succ, falses, falses_rep n]
    simp
    omega
theorem walk_all (E : List (List Int)) (hE : inR E) (s : Nat) (hs : s < E.length) (hn : E.length ≤ 16384) (hW : ∀ i, i < E.length → (E.getD i []).length ≤ 16384) :
    ∃ r, Evt (fun q => edgeWalk q E (List.replicate E.length false) [(s : Int)]) r ∧ Fin E s r := by
  refine walk_fin E hE s 16384 (1 + E.length * 16384) hs hW (by omega) (by omega) _ _ (Nat.le_refl _) _ _ (Nat.le_refl _) ⟨by simp, fun x hx => ?_, fun i hi h => ?_, .inr (by simp), fun i hi h => ?_, by rw [falses_rep]; simp⟩
  · obtain rfl := List.mem_singleton.1 hx
    exact ⟨s, rfl, hs, .base⟩
  · exact absurd h (by rw [getD_eq false (by simpa using hi)]; simp)
  · exact absurd h (by rw [getD_eq false (by simpa using hi)]; simp)

/-! ### the document's rounds -/
structure RInv (E : List (List Int)) (s : Nat) (out : List Bool) : Prop where
  len : out.length = E.length
  sound : ∀ i, i < E.length → out.getD i false = true → Rch E s i
  first : out.getD s false = true
structure PInv (E : List (List Int)) (s : Nat) (out0 : List Bool) (i j : Nat) (out : List Bool) (more : Bool) : Prop where
  inv : RInv E s out
  less : more = true → falses out < falses out0
  same : more = false → out = out0 ∧ (∀ i', i' < i → out0.getD i' false = true → ∀ k : Nat, (k : Int) ∈ E.getD i' [] → out0.getD k false = true) ∧ (out0.getD i false = true → ∀ t, t < j → t < (E.getD i []).length → ∀ k : Nat, (E.getD i []).getD t 0 = (k : Int) → out0.getD k false = true)
end Go.Proofs.Ytfgdjpgdabjpmaa.Pure
