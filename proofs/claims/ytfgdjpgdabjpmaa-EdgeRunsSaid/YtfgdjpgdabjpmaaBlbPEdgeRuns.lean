/- The blocks of a text: the program's and the document's are the same list; the marks of the document. -/
import Derived.Test.YtfgdjpgdabjpmaaPEdgeRunsx
import Derived.Test.YtfgdjpgdabjpmaaIsbPEdgeRuns
import Derived.Test.YtfgdjpgdabjpmaaRcbPEdgeRuns
import Derived.Test.YtfgdjpgdabjpmaaEv
namespace Go.Proofs.Ytfgdjpgdabjpmaa.Pure
open Go.RowKit Go.Proofs.YtfgdjpgdabjpmaaW.PrintWords Go.Proofs.YtfgdjpgdabjpmaaW.PrintLast Go.Proofs.Ytfgdjpgdabjpmaa.PEdgeRuns Go.Proofs.Ytfgdjpgdabjpmaa.Ev
set_option linter.unusedVariables false
set_option linter.unusedSimpArgs false

abbrev Bk := S84
abbrev opW (w : Int) : Int := (dec w).1
def endsV (w : Int) : Bool := decide (opW w = -1 ∨ opW w = 0 ∨ opW w = 15 ∨ opW w = 16 ∨ opW w = 17 ∨ opW w = 18 ∨ opW w = 19 ∨ opW w = 21)
/-- The word at a place. -/
abbrev at_ (l : List Int) (j : Nat) : Int := rd l (j : Int)
/-- An image that may be. -/
structure Good (l : List Int) (e : Int) (m : List Int) : Prop where
  words : allW l
  pos : 0 < l.length
  len : l.length ≤ 16384
  ent : 0 ≤ e ∧ e < l.length
  tg : ∀ j, j < l.length → (tgt (at_ l j)).2 = true → 0 ≤ (tgt (at_ l j)).1 ∧ (tgt (at_ l j)).1 < l.length
  last : opW (at_ l (l.length - 1)) = 0 ∨ opW (at_ l (l.length - 1)) = 15 ∨ opW (at_ l (l.length - 1)) = 19 ∨ opW (at_ l (l.length - 1)) = 21
theorem tgt_range (w : Int) (h : (tgt w).2 = true) : 0 ≤ (tgt w).1 ∧ (tgt w).1 ≤ 16383 := by
  unfold tgt at h ⊢
  split at h
  · rename_i hb
    rw [if_pos hb]
    unfold dec at hb ⊢
    by_cases c : opOf w < 22 ∧ okF (hv (opOf w)) (dOf w) (aOf w) (bOf w) (nn w) = true
    · rw [if_pos c] at hb ⊢
      have h2 := c.2
      unfold okF at h2
      simp only [Bool.and_eq_true, decide_eq_true_eq] at h2
      have h3 := h2.2
      rw [if_pos hb] at h3
      exact h3
    · rw [if_neg c] at hb
      have hb2 : bt1 (hv (-1)) 16 = true := hb
      exact absurd hb2 (by decide)
  · cases h
theorem good_of_from (l : List Int) : ∀ (d i : Nat), i + d = l.length → chkFrom l d i = (0, 0) → (∀ j, i ≤ j → j < l.length → (tgt (at_ l j)).2 = true → (tgt (at_ l j)).1 < l.length) ∧ (opW (rd l ((l.length : Int) - 1)) = 0 ∨ opW (rd l ((l.length : Int) - 1)) = 15 ∨ opW (rd l ((l.length : Int) - 1)) = 19 ∨ opW (rd l ((l.length : Int) - 1)) = 21)
  | 0, i, h, hc => by
    refine ⟨fun j h1 h2 => by omega, ?_⟩
    unfold chkFrom at hc
    split at hc
    · assumption
    · cases hc
  | d + 1, i, h, hc => by
    rw [chkFrom_succ] at hc
    split at hc
    · cases hc
    · rename_i hn
      obtain ⟨h1, h2⟩ := good_of_from l d (i + 1) (by omega) hc
      refine ⟨fun j hj hl ht => ?_, h2⟩
      by_cases e : j = i
      · subst e
        rcases Int.lt_or_le (tgt (at_ l j)).1 (l.length : Int) with a | a
        · exact a
        · exact absurd ⟨ht, a⟩ hn
      · exact h1 j (by omega) hl ht
theorem good_of {l m : List Int} {e x : Int} (hW : allW l) (h : chk l e m = (0, x)) : Good l e m := by
  unfold chk at h
  split at h
  · cases h
  · split at h
    · cases h
    · split at h
      · cases h
      · split at h
        · cases h
        · rename_i h0 h1 h2 h3
          have hx : x = 0 := by
            have : ∀ d i, (chkFrom l d i).1 = 0 → (chkFrom l d i).2 = 0 := by
              intro d
              induction d with
              | zero => intro i; unfold chkFrom; split <;> simp
              | succ d ih => intro i; rw [chkFrom_succ]; split; simp; exact ih (i + 1)
            have := this l.length 0 (by rw [h])
            rwa [h] at this
          subst hx
          obtain ⟨a, b⟩ := good_of_from l l.length 0 (by omega) h
          refine ⟨hW, by omega, by omega, by omega, fun j hj ht => ⟨(tgt_range _ ht).1, a j (by omega) hj ht⟩, ?_⟩
          have : ((l.length : Int) - 1) = ((l.length - 1 : Nat) : Int) := by omega
          rw [this] at b
          exact b

/-! ### what the program sees -/
theorem isa_ends {w : Int} (h : isW w) (k : Nat) (hk : 1 ≤ k) : isa_Ends.f k w = some (endsV w) := by
  unfold isa_Ends.f endsV
  rw [isa_dec h k hk]
  simp only [Option.bind_some]
  generalize hq : (dec w).1 = o
  have : opW w = o := hq
  rw [this]
  repeat' split
  all_goals simp_all
theorem dec_n_range {w : Int} (h : isW w) : -4611686018427387904 ≤ (dec w).2.2.2.2 ∧ (dec w).2.2.2.2 ≤ 4611686018427387904 := by
  unfold isW at h
  unfold dec
  split
  · show -4611686018427387904 ≤ nn w ∧ nn w ≤ 4611686018427387904
    unfold nn nOf
    split <;> omega
  · show -4611686018427387904 ≤ w ∧ w ≤ 4611686018427387904
    omega
theorem decs_eq (k : Nat) (hk : 1 ≤ k) : ∀ (l : List Int), allW l → decs k l = some (l.map dec)
  | [], _ => rfl
  | w :: l, h => by
    have hw := h w (by simp)
    unfold decs
    rw [isa_dec hw k hk]
    simp only [Option.bind_some]
    rw [if_pos (dec_n_range hw), decs_eq k hk l (fun x hx => h x (by simp [hx]))]
    rfl
theorem blkInfo_eq (k : Nat) (hk : 1 ≤ k) : ∀ (l : List Int), allW l → blkInfo k l = some (l.map fun w => (tgt w, endsV w))
  | [], _ => rfl
  | w :: l, h => by
    have hw := h w (by simp)
    unfold blkInfo
    rw [isa_target hw k hk, isa_ends hw k hk]
    simp only [Option.bind_some]
    have ht : -4611686018427387904 ≤ (tgt w).1 ∧ (tgt w).1 ≤ 4611686018427387904 := by
      cases hb : (tgt w).2
      · have : (tgt w).1 = 0 := by
          unfold tgt at hb ⊢
          split at hb
          · cases hb
          · rename_i hn; rw [if_neg hn]
        omega
      · have := tgt_range w hb
        omega
    have ht' : -4611686018427387904 ≤ (if bt1 (hv (dec w).1) 16 = true then ((dec w).2.2.2.2, true) else (0, false)).1 ∧ (if bt1 (hv (dec w).1) 16 = true then ((dec w).2.2.2.2, true) else (0, false)).1 ≤ 4611686018427387904 := ht
    rw [if_pos ht', blkInfo_eq k hk l (fun x hx => h x (by simp [hx]))]
    rfl
theorem map_at {α : Type} (f : Int → α) (l : List Int) (d : α) (j : Nat) (h : j < l.length) : (l.map f).getD j d = f (at_ l j) := by
  rw [getD_eq d (by simpa using h), List.getElem_map]
  show _ = f (rd l (j : Int))
  rw [rd_nat, getD_eq 0 h]
theorem mem_seen (mk : Nat → List Int) (x : Int) : ∀ n, x ∈ seenTo mk n ↔ ∃ j, j < n ∧ x ∈ mk j
  | 0 => by simp [seenTo]
  | n + 1 => by
    unfold seenTo
    rw [List.mem_append, List.mem_reverse, mem_seen mk x n]
    constructor
    · rintro (h | ⟨j, h1, h2⟩)
      · exact ⟨n, by omega, h⟩
      · exact ⟨j, by omega, h2⟩
    · rintro ⟨j, h1, h2⟩
      by_cases e : j = n
      · subst e; exact .inl h2
      · exact .inr ⟨j, by omega, h2⟩
theorem places_eq (L : List Int) : ∀ n, places L n = nats (fun p => decide ((p : Int) ∈ L)) n
  | 0 => rfl
  | n + 1 => by
    unfold places
    rw [nats_next, places_eq L n]
    by_cases h : (n : Int) ∈ L
    · rw [if_pos (by rwa [List.contains_iff_mem]), if_pos (by simpa using h)]
    · rw [if_neg (by rwa [List.contains_iff_mem]), if_neg (by simpa using h), List.append_nil]

/-! ### the document's marks -/
/-- Is a place marked by the word at another one? -/
def hit (l : List Int) (c : Int) (j p : Nat) : Prop :=
  (c = 0 ∧ tgt (at_ l j) = ((p : Int), true)) ∨ (c = 1 ∧ opW (at_ l j) = 20 ∧ tgt (at_ l j) = ((p : Int), true)) ∨ (c = 2 ∧ (opW (at_ l j) = 17 ∨ opW (at_ l j) = 18) ∧ p = j + 1)
theorem set_true {l : List Bool} {i : Nat} (h : i < l.length) (a : Nat) : (l.set i true).getD a false = true ↔ a = i ∨ l.getD a false = true := by
  by_cases e : i = a
  · subst e
    rw [lset_same false h]
    simp
  · rw [lset_other false e]
    have e' : ¬ a = i := fun h => e h.symm
    simp [e']
end Go.Proofs.Ytfgdjpgdabjpmaa.Pure
