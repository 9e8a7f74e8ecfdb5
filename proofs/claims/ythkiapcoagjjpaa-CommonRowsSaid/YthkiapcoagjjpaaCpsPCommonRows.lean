/- Common prefixes of suffixes, and a suffix array's, over numbers and lists. -/
import Derived.Test.YthkiapcoagjjpaaStCommonRows
import Derived.Test.YthkiapcoagjjpaaEv
namespace Go.Proofs.Ythkiapcoagjjpaa.KasCommonRows
open Go.RowKit Go.Proofs.YthkiapcoagjjpaaW.PrintWords Go.Proofs.YthkiapcoagjjpaaW.PrintLast Go.Proofs.YthkiapcoagjjpaaW.PrintMore Go.Proofs.Ythkiapcoagjjpaa.PCommonRows Go.Proofs.Ythkiapcoagjjpaa.Ev Go.Proofs.Ythkiapcoagjjpaa.Suf
set_option linter.unusedVariables false
set_option linter.unusedSimpArgs false
theorem nonneg (i : Nat) : (0 : Int) ≤ (i : Int) := Int.natCast_nonneg i
theorem wsum (i j : Nat) (hi : i ≤ 9000000) (hj : j ≤ 9000000) : wrap64 ((i : Int) + (j : Int)) = ((i + j : Nat) : Int) := by unfold wrap64; omega
theorem wsumL {n i j : Nat} (hi : i ≤ n) (hj : j ≤ n) (hn : n ≤ 9000000) : wrap64 ((i : Int) + (j : Int)) = ((i + j : Nat) : Int) := wsum i j (Nat.le_trans hi hn) (Nat.le_trans hj hn)
theorem wrapL {n j : Nat} (hj : j ≤ n) (hn : n ≤ 9000000) : wrap64 ((j : Int) + 1) = ((j + 1 : Nat) : Int) := wrap1 j (Nat.lt_of_le_of_lt (Nat.le_trans hj hn) (by decide))
theorem wrapm {n j : Nat} (hj : j ≤ n) (hn : n ≤ 9000000) : wrap64 (((j + 1 : Nat) : Int) - 1) = (j : Int) := by
  have : j ≤ 9000000 := Nat.le_trans hj hn
  clear hj hn
  unfold wrap64; omega
theorem wrapm0 : wrap64 (((0 : Nat) : Int) - 1) = -1 := by unfold wrap64; omega
theorem rd_gt (l : List Int) (i : Nat) : rd l (i : Int) = gt l i := by rw [rd_nat]; rfl
theorem ev_in {l : List Int} {M : Int} {x : Nat} (h : x < l.length) : ev l M x = gt l x := if_pos h
theorem ev_out {l : List Int} {M : Int} {x : Nat} (h : l.length ≤ x) : ev l M x = M := if_neg (by omega)
/-! ### common prefixes -/
/-- The suffixes at i and k begin with the same N numbers. -/
def CP (l : List Int) (i k N : Nat) : Prop := ∀ u, u < N → i + u < l.length ∧ k + u < l.length ∧ gt l (i + u) = gt l (k + u)
def lcF (l : List Int) : Nat → Nat → Nat → Nat
  | 0, _, _ => 0
  | d + 1, i, k => if i < l.length ∧ k < l.length ∧ gt l i = gt l k then lcF l d (i + 1) (k + 1) + 1 else 0
def lc (l : List Int) (i k : Nat) : Nat := lcF l l.length i k
section
variable {l : List Int} {M : Int}
theorem CP.symm {i k N : Nat} (h : CP l i k N) : CP l k i N := fun u hu => ⟨(h u hu).2.1, (h u hu).1, (h u hu).2.2.symm⟩
theorem CP.trans {i j k N : Nat} (h : CP l i j N) (h' : CP l j k N) : CP l i k N := fun u hu => ⟨(h u hu).1, (h' u hu).2.1, (h u hu).2.2.trans (h' u hu).2.2⟩
theorem CP.zero {i k : Nat} : CP l i k 0 := fun u hu => absurd hu (Nat.not_lt_zero u)
theorem CP.mono {i k N N' : Nat} (h : CP l i k N) (hN : N' ≤ N) : CP l i k N' := fun u hu => h u (by omega)
theorem CP.shift {i k N : Nat} (h : CP l i k (N + 1)) : CP l (i + 1) (k + 1) N := fun u hu => by
  have := h (u + 1) (by omega)
  rwa [show i + (u + 1) = i + 1 + u by omega, show k + (u + 1) = k + 1 + u by omega] at this
theorem CP.len {i k N : Nat} (h : CP l i k N) (hi : i ≤ l.length) : i + N ≤ l.length := by
  cases N with
  | zero => exact hi
  | succ N => have := (h N (by omega)).1; omega
theorem cp_lcF : ∀ (d i k N : Nat), l.length ≤ i + d → (CP l i k N ↔ N ≤ lcF l d i k)
  | 0, i, k, N, h => by
    constructor
    · intro hc
      cases N with
      | zero => exact Nat.le_refl _
      | succ N => have := (hc 0 (by omega)).1; omega
    · intro hN
      obtain rfl : N = 0 := Nat.le_zero.1 hN
      exact CP.zero
  | d + 1, i, k, N, h => by
    unfold lcF
    by_cases c : i < l.length ∧ k < l.length ∧ gt l i = gt l k
    · rw [if_pos c]
      cases N with
      | zero => exact ⟨fun _ => Nat.zero_le _, fun _ => CP.zero⟩
      | succ N =>
        constructor
        · intro hc
          have := (cp_lcF d (i + 1) (k + 1) N (by omega)).1 hc.shift
          omega
        · intro hN
          have := (cp_lcF d (i + 1) (k + 1) N (by omega)).2 (by omega)
          intro u hu
          cases u with
          | zero => exact c
          | succ u =>
            have := this u (by omega)
            rwa [show i + (u + 1) = i + 1 + u by omega, show k + (u + 1) = k + 1 + u by omega]
    · rw [if_neg c]
      constructor
      · intro hc
        cases N with
        | zero => exact Nat.le_refl _
        | succ N => exact absurd (hc 0 (by omega)) c
      · intro hN
        obtain rfl : N = 0 := Nat.le_zero.1 hN
        exact CP.zero
theorem cp_iff {i k N : Nat} : CP l i k N ↔ N ≤ lc l i k := cp_lcF l.length i k N (by omega)
theorem cp_lc (i k : Nat) : CP l i k (lc l i k) := cp_iff.2 (Nat.le_refl _)
theorem lc_eq {i k N : Nat} (h : ∀ N', CP l i k N' ↔ N' ≤ N) : lc l i k = N := Nat.le_antisymm ((h _).1 (cp_lc i k)) (cp_iff.1 ((h N).2 (Nat.le_refl _)))
theorem lc_len {i k : Nat} (hi : i ≤ l.length) : i + lc l i k ≤ l.length := (cp_lc i k).len hi
/-- Of three suffixes in order the first and the second have in common what the first and the third have. -/
theorem cp_between (hM : ∀ x, x < l.length → M < gt l x) {x y z N : Nat} (hxy : sl l M x y) (hyz : sl l M y z) (h : CP l x z N) : CP l x y N := by
  obtain ⟨q, t, ht, h1, h2⟩ := hxy
  have htN : N ≤ t := by
    rcases Nat.lt_or_ge t N with c | c
    · exfalso
      have e : ∀ u, u ≤ t → ev l M (x + u) = ev l M (z + u) := fun u hu => by
        obtain ⟨a, b, g⟩ := h u (by omega)
        rw [ev_in a, ev_in b, g]
      refine sl.asym hyz ⟨t + 1, t, by omega, fun u hu => ?_, ?_⟩
      · rw [← e u (by omega), h1 u hu]
      · rw [← e t (by omega)]; exact h2
    · exact c
  intro u hu
  obtain ⟨a, _, _⟩ := h u hu
  have e := h1 u (by omega)
  rw [ev_in a] at e
  by_cases c : y + u < l.length
  · rw [ev_in c] at e; exact ⟨a, c, e⟩
  · rw [ev_out (by omega)] at e
    have := hM _ a
    omega
theorem sl_shift {i k : Nat} (h : sl l M i k) (hc : CP l i k 1) (hM : ∀ x, x < l.length → M < gt l x) : sl l M (i + 1) (k + 1) := by
  obtain ⟨q, t, ht, h1, h2⟩ := h
  cases t with
  | zero =>
    obtain ⟨a, b, g⟩ := hc 0 (by omega)
    rw [ev_in a, ev_in b, g] at h2
    omega
  | succ t =>
    refine ⟨t + 1, t, by omega, fun u hu => ?_, ?_⟩
    · have := h1 (u + 1) (by omega)
      rwa [show i + (u + 1) = i + 1 + u by omega, show k + (u + 1) = k + 1 + u by omega] at this
    · rwa [show i + (t + 1) = i + 1 + t by omega, show k + (t + 1) = k + 1 + t by omega] at h2
end
/-! ### a suffix array -/
structure SA (l : List Int) (M : Int) (A R : List Int) (a r : Nat → Nat) : Prop where
  hM : ∀ x, x < l.length → M < gt l x
  lenA : A.length = l.length
  lenR : R.length = l.length
  A_ : ∀ x, x < l.length → gt A x = (a x : Int)
  R_ : ∀ v, v < l.length → gt R v = (r v : Int)
  alt : ∀ x, x < l.length → a x < l.length
  rlt : ∀ v, v < l.length → r v < l.length
  ra : ∀ x, x < l.length → r (a x) = x
  ar : ∀ v, v < l.length → a (r v) = v
  srt : ∀ x y, x < y → y < l.length → sl l M (a x) (a y)
theorem of_ok (l : List Int) (hn : l.length ≤ 1000000) : ∃ (A R : List Int) (z : Nat) (M : Int) (a r : Nat → Nat), suffix_Of.f l = some (A, R, wrap64 (z : Int)) ∧ SA l M A R a r ∧ l.length - 1 ≤ z ∧ z ≤ 6 * l.length * (Suf.bits l.length + 1) * (Suf.bits l.length + 1) := by
  obtain ⟨M, hM⟩ := low l
  obtain ⟨A, R, z, e, hA, sA, hR, hRA, hz1, hz2⟩ := ofF_ok hM hn
  refine ⟨A, R, z, M, fun x => (gt A x).toNat, fun v => (gt R v).toNat, ?_, ?_, hz1, hz2⟩
  · unfold suffix_Of.f
    rw [if_neg (by omega), e]; rfl
  · have key : ∀ v, v < l.length → ∃ x, x < l.length ∧ (gt A x).toNat = v ∧ gt R v = (x : Int) := fun v hv => by
      obtain ⟨x, hx, ex⟩ := hA.sur hv
      exact ⟨x, hx, ex, by rw [← ex]; exact hRA x hx⟩
    refine ⟨hM, hA.1, hR, fun x hx => hA.nn hx, fun v hv => ?_, fun x hx => hA.lt hx, fun v hv => ?_, fun x hx => ?_, fun v hv => ?_, sA⟩
    · obtain ⟨x, hx, ex, er⟩ := key v hv
      rw [er]; simp
    · obtain ⟨x, hx, ex, er⟩ := key v hv
      show (gt R v).toNat < _
      rw [er]; simpa using hx
    · show (gt R (gt A x).toNat).toNat = x
      rw [hRA x hx]; simp
    · obtain ⟨x, hx, ex, er⟩ := key v hv
      show (gt A (gt R v).toNat).toNat = v
      rw [er]; simpa using ex
section
variable {l A R : List Int} {M : Int} {a r : Nat → Nat}
/-- What a suffix has in common with the one ahead of it in the order is no more than one shorter at the next place. -/
theorem SA.next (h : SA l M A R a r) {i : Nat} (hi : i + 1 < l.length) (hr : 0 < r i) (hr' : 0 < r (i + 1)) : CP l (a (r (i + 1) - 1)) (i + 1) (lc l (a (r i - 1)) i - 1) := by
  obtain ⟨N, hN⟩ : ∃ N, N = lc l (a (r i - 1)) i := ⟨_, rfl⟩
  rw [← hN]
  by_cases c : N ≤ 1
  · rw [show N - 1 = 0 by omega]; exact CP.zero
  · have hcp : CP l (a (r i - 1)) i N := by rw [hN]; exact cp_lc _ _
    obtain ⟨j, hj⟩ : ∃ j, j = a (r i - 1) := ⟨_, rfl⟩
    rw [← hj] at hcp
    have hrl := h.rlt i (by omega)
    have hs : sl l M j i := by
      have := h.srt (r i - 1) (r i) (by omega) hrl
      rw [h.ar i (by omega), ← hj] at this
      exact this
    have hs' : sl l M (j + 1) (i + 1) := sl_shift hs (hcp.mono (by omega)) h.hM
    have hj1 : j + 1 < l.length := (hcp 1 (by omega)).1
    have hcp' : CP l (j + 1) (i + 1) (N - 1) := CP.shift (by rw [show N - 1 + 1 = N by omega]; exact hcp)
    have hb := h.rlt (i + 1) hi
    have ha := h.rlt (j + 1) hj1
    have hlt : r (j + 1) < r (i + 1) := by
      rcases Nat.lt_trichotomy (r (j + 1)) (r (i + 1)) with c1 | c1 | c1
      · exact c1
      · have e1 := h.ar (j + 1) hj1
        rw [c1, h.ar (i + 1) hi] at e1
        rw [e1] at hs'
        exact absurd hs' (sl.asym hs')
      · have := h.srt _ _ c1 ha
        rw [h.ar (j + 1) hj1, h.ar (i + 1) hi] at this
        exact absurd this (sl.asym hs')
    by_cases c2 : r (j + 1) = r (i + 1) - 1
    · rw [← c2, h.ar (j + 1) hj1]; exact hcp'
    · have s1 := h.srt (r (j + 1)) (r (i + 1) - 1) (by omega) (by omega)
      have s2 := h.srt (r (i + 1) - 1) (r (i + 1)) (by omega) hb
      rw [h.ar (j + 1) hj1] at s1
      rw [h.ar (i + 1) hi] at s2
      exact (cp_between h.hM s1 s2 hcp').symm.trans hcp'
/-- The prefixes of neighbours. -/
def IsP (l : List Int) (a : Nat → Nat) (P : List Int) : Prop := P.length = l.length ∧ (0 < l.length → gt P 0 = 0) ∧ ∀ t, 0 < t → t < l.length → gt P t = (lc l (a (t - 1)) (a t) : Int)
theorem SA.row (h : SA l M A R a r) {P : List Int} (hP : IsP l a P) (x : Nat) : ∀ (y : Nat), x < y → y < l.length → ∀ N : Nat, (CP l (a x) (a y) N ↔ ∀ t, x < t → t ≤ y → (N : Int) ≤ gt P t)
  | 0, hxy, hy, N => by omega
  | y + 1, hxy, hy, N => by
    have hlast : (CP l (a y) (a (y + 1)) N ↔ (N : Int) ≤ gt P (y + 1)) := by
      rw [hP.2.2 (y + 1) (by omega) hy, cp_iff, Nat.add_sub_cancel]
      omega
    by_cases c : x = y
    · subst c
      rw [hlast]
      exact ⟨fun hh t h1 h2 => by obtain rfl : t = x + 1 := by omega
                                  exact hh, fun hh => hh (x + 1) (by omega) (Nat.le_refl _)⟩
    · have ih := h.row hP x y (by omega) (by omega) N
      have s1 := h.srt x y (by omega) (by omega)
      have s2 := h.srt y (y + 1) (by omega) hy
      constructor
      · intro hc t h1 h2
        have c1 := cp_between h.hM s1 s2 hc
        by_cases c2 : t = y + 1
        · subst c2; exact hlast.1 (c1.symm.trans hc)
        · exact ih.1 c1 t h1 (by omega)
      · intro hh
        exact (ih.2 fun t h1 h2 => hh t h1 (by omega)).trans (hlast.2 (hh (y + 1) (by omega) (Nat.le_refl _)))
end
end Go.Proofs.Ythkiapcoagjjpaa.KasCommonRows
