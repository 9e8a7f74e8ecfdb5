/- The program's way to find the common prefixes of neighbours, over numbers and lists. -/
import Derived.Test.YthkiapcoagjjpaaCpsPCommonRows
namespace Go.Proofs.Ythkiapcoagjjpaa.KasCommonRows
open Go.RowKit Go.Proofs.YthkiapcoagjjpaaW.PrintWords Go.Proofs.YthkiapcoagjjpaaW.PrintLast Go.Proofs.YthkiapcoagjjpaaW.PrintMore Go.Proofs.Ythkiapcoagjjpaa.PCommonRows Go.Proofs.Ythkiapcoagjjpaa.Ev Go.Proofs.Ythkiapcoagjjpaa.Suf
set_option linter.unusedVariables false
set_option linter.unusedSimpArgs false
theorem equal_loop (l : List Int) (hl : l.length ≤ 9000000) : ∀ (d i : Nat), i + d = l.length → Evt (fun k => slices_Equal_int_int.l0 k l l (l.length : Int) (i : Int)) true
  | 0, i, h => by
    obtain rfl : i = l.length := by omega
    refine Evt.succ ?_
    simp only [slices_Equal_int_int.l0, Int.lt_irrefl, if_false]
    exact Evt.pure
  | d + 1, i, h => by
    refine Evt.succ ?_
    have h1 : (i : Int) < (l.length : Int) := by omega
    have hi : i ≤ l.length := by omega
    simp only [slices_Equal_int_int.l0, h1, nonneg, if_true, wrapL hi hl]
    exact equal_loop l hl d (i + 1) (by omega)
theorem equal_ev (l : List Int) (hl : l.length ≤ 9000000) : Evt (fun k => slices_Equal_int_int.f k l l) true := by
  simp only [slices_Equal_int_int.f, if_true]
  exact equal_loop l hl l.length 0 (by omega)
section
variable {l A R : List Int} {M z : Int} {a r : Nat → Nat}
/-- What stands when i places are done. -/
structure KI (l : List Int) (a r : Nat → Nat) (i : Nat) (P : List Int) (c m : Nat) : Prop where
  len : P.length = l.length
  zero : 0 < l.length → gt P 0 = 0
  done : ∀ v, v < i → 0 < r v → gt P (r v) = (lc l (a (r v - 1)) v : Int)
  le : m ≤ l.length
  cp : i < l.length → 0 < r i → CP l (a (r i - 1)) i m
  cost : c ≤ 2 * i + m + if a 0 < i then l.length else 0
theorem gt_set (d : List Int) (i x : Nat) (v : Int) (h : i < d.length) : gt (d.set i v) x = if x = i then v else gt d x := by
  unfold gt
  by_cases c : x = i
  · subst c; rw [if_pos rfl, lset_same 0 h]
  · rw [if_neg c, lset_other 0 (fun e => c e.symm)]
theorem KI.reset (h : SA l M A R a r) {i : Nat} {P : List Int} {c m : Nat} (k : KI l a r i P c m) (hi : i < l.length) (hr : r i = 0) : KI l a r (i + 1) P c 0 := by
  refine ⟨k.len, k.zero, fun v hv h0 => ?_, Nat.zero_le _, fun _ _ => CP.zero, ?_⟩
  · by_cases e : v = i
    · subst e; omega
    · exact k.done v (by omega) h0
  · have e : a 0 = i := by rw [← hr]; exact h.ar i hi
    have hc := k.cost
    have hm := k.le
    rw [e, if_neg (Nat.lt_irrefl _)] at hc
    rw [e, if_pos (by omega)]
    omega
theorem KI.step (h : SA l M A R a r) {i : Nat} {P : List Int} {c m : Nat} (k : KI l a r i P c m) (hi : i < l.length) (hr : 0 < r i) {c' : Nat} (hc : c' ≤ c + (lc l (a (r i - 1)) i - m) + 1) :
    KI l a r (i + 1) (P.set (r i) (lc l (a (r i - 1)) i : Int)) c' (lc l (a (r i - 1)) i - 1) := by
  have hrl := h.rlt i hi
  have hlen := k.len
  have hml := cp_iff.1 (k.cp hi hr)
  have hll : lc l (a (r i - 1)) i ≤ l.length := by
    have := (cp_lc (l := l) (a (r i - 1)) i).symm.len (Nat.le_of_lt hi)
    omega
  refine ⟨by rw [List.length_set]; exact hlen, fun h0 => ?_, fun v hv h0 => ?_, by omega, fun h1 h2 => h.next h1 hr h2, ?_⟩
  · rw [gt_set _ _ _ _ (by omega), if_neg (by omega)]; exact k.zero h0
  · rw [gt_set _ _ _ _ (by omega)]
    by_cases e : v = i
    · subst e; rw [if_pos rfl]
    · have : r v ≠ r i := fun e2 => e (by rw [← h.ar v (by omega), e2, h.ar i hi])
      rw [if_neg this]
      exact k.done v (by omega) h0
  · have hk := k.cost
    by_cases c1 : a 0 < i
    · rw [if_pos c1] at hk
      rw [if_pos (by omega)]
      omega
    · rw [if_neg c1] at hk
      split <;> omega
theorem cost_le {c i m n : Nat} (h : c ≤ 2 * i + m + n) (hi : i ≤ n) (hm : m ≤ n) (hn : n ≤ 1000000) : c ≤ 4000000 := by omega
theorem KI.cost_ok {i : Nat} {P : List Int} {c m : Nat} (k : KI l a r i P c m) (hi : i ≤ l.length) : c ≤ 4 * l.length := by
  have hc := k.cost; have hm := k.le
  split at hc <;> omega
theorem sum_le {c m m0 n : Nat} (h0 : c ≤ 4000000) (hm : m ≤ n) (hn : n ≤ 1000000) : c + (m - m0) ≤ 8000000 := by omega
/-- The inner loop. -/
theorem kas_in (h : SA l M A R a r) (hn : l.length ≤ 1000000) {i k : Nat} (hi : i < l.length) (hk : k < l.length) (P : List Int) (hr : r i < P.length)
    (c0 : Nat) (m0 : Nat) (hc0 : c0 ≤ 4000000) :
    ∀ (d m : Nat), m + d = lc l k i → m0 ≤ m → ∃ c' : Nat, c' ≤ c0 + (lc l k i - m0) + 1 ∧ ∀ y : List Int × Int × Int, Evt (fun q => common_Prefixes.l0 q l A (P.set (r i) (lc l k i : Int)) (c' : Int) (mx (wrap64 ((lc l k i : Int) - 1)) 0) (l.length : Int) ((i + 1 : Nat) : Int) A R z) y →
      Evt (fun q => common_Prefixes.l1 q l A P ((c0 + (m - m0) : Nat) : Int) (m : Int) (i : Int) (r i : Int) (k : Int) (l.length : Int) (i : Int) A R z) y
  | 0, m, e, hm => by
    obtain rfl : m = lc l k i := by omega
    have hlen := (cp_lc (l := l) k i).symm.len (Nat.le_of_lt hi)
    have hlen' := (cp_lc (l := l) k i).len (Nat.le_of_lt hk)
    have hml : lc l k i ≤ l.length := by omega
    have hn9 : l.length ≤ 9000000 := by omega
    have w1 := wsumL (Nat.le_of_lt hi) hml hn9
    have w2 := wsumL (Nat.le_of_lt hk) hml hn9
    have hri : (r i : Int) < (P.length : Int) := by omega
    by_cases c : i + lc l k i < l.length ∧ k + lc l k i < l.length
    · have a1 : ((i + lc l k i : Nat) : Int) < (l.length : Int) := Int.ofNat_lt.2 c.1
      have a2 : ((k + lc l k i : Nat) : Int) < (l.length : Int) := Int.ofNat_lt.2 c.2
      have ne : ¬ gt l (i + lc l k i) = gt l (k + lc l k i) := fun g => by
        have : CP l k i (lc l k i + 1) := fun u hu => by
          by_cases cu : u = lc l k i
          · subst cu; exact ⟨c.2, c.1, g.symm⟩
          · exact cp_lc k i u (by omega)
        have := cp_iff.1 this
        omega
      have hcs : c0 + (lc l k i - m0) ≤ 8000000 := sum_le hc0 hml hn
      have e1 := wrapL hcs (by omega)
      refine ⟨c0 + (lc l k i - m0) + 1, Nat.le_refl _, fun y hend => Evt.succ (Evt.succ ?_)⟩
      simp only [common_Prefixes.l1, w1, w2, a1, a2, decide_true, if_true, common_Prefixes.j2, nonneg, rd_gt, ne, if_false, hri, Int.toNat_natCast, e1, wrapL (Nat.le_of_lt hi) hn9]
      exact hend
    · by_cases c1 : i + lc l k i < l.length
      · have a1 : ((i + lc l k i : Nat) : Int) < (l.length : Int) := Int.ofNat_lt.2 c1
        have a2 : decide (((k + lc l k i : Nat) : Int) < (l.length : Int)) = false := decide_eq_false (fun hh => c ⟨c1, Int.ofNat_lt.1 hh⟩)
        refine ⟨c0 + (lc l k i - m0), by omega, fun y hend => Evt.succ (Evt.succ ?_)⟩
        simp only [common_Prefixes.l1, w1, w2, a1, a2, Bool.false_eq_true, if_false, if_true, common_Prefixes.j2, nonneg, hri, Int.toNat_natCast, wrapL (Nat.le_of_lt hi) hn9]
        exact hend
      · have a1 : ¬ ((i + lc l k i : Nat) : Int) < (l.length : Int) := fun hh => c1 (Int.ofNat_lt.1 hh)
        refine ⟨c0 + (lc l k i - m0), by omega, fun y hend => Evt.succ (Evt.succ ?_)⟩
        simp only [common_Prefixes.l1, w1, a1, Bool.false_eq_true, if_false, if_true, common_Prefixes.j2, nonneg, hri, Int.toNat_natCast, wrapL (Nat.le_of_lt hi) hn9]
        exact hend
  | d + 1, m, e, hm => by
    have hn9 : l.length ≤ 9000000 := by omega
    obtain ⟨b2, b1, g⟩ := cp_lc (l := l) k i m (by omega)
    have hml : m ≤ l.length := by omega
    have w1 := wsumL (Nat.le_of_lt hi) hml hn9
    have w2 := wsumL (Nat.le_of_lt hk) hml hn9
    have a1 : ((i + m : Nat) : Int) < (l.length : Int) := Int.ofNat_lt.2 b1
    have a2 : ((k + m : Nat) : Int) < (l.length : Int) := Int.ofNat_lt.2 b2
    have hcs : c0 + (m - m0) ≤ 8000000 := sum_le hc0 hml hn
    have e1 := wrapL hcs (by omega)
    obtain ⟨c', hc', ih⟩ := kas_in h hn hi hk P hr c0 m0 hc0 d (m + 1) (by omega) (by omega)
    rw [show c0 + (m + 1 - m0) = c0 + (m - m0) + 1 by omega] at ih
    refine ⟨c', hc', fun y hend => Evt.succ (Evt.succ ?_)⟩
    simp only [common_Prefixes.l1, w1, w2, a1, a2, decide_true, if_true, common_Prefixes.j2, nonneg, rd_gt, g.symm, e1, wrapL hml hn9]
    exact ih y hend
theorem mx_pred {n m : Nat} (hm : m ≤ n) (hn : n ≤ 1000000) : mx (wrap64 ((m : Int) - 1)) 0 = ((m - 1 : Nat) : Int) := by
  cases m with
  | zero => rw [wrapm0]; rfl
  | succ m =>
    rw [wrapm (n := n) (by omega) (by omega)]
    unfold mx
    split <;> omega
theorem kas_loop (h : SA l M A R a r) (hn : l.length ≤ 1000000) : ∀ (d i : Nat) (P : List Int) (c m : Nat), i + d = l.length → KI l a r i P c m →
    ∃ (P' : List Int) (c' : Nat), c' ≤ 4 * l.length ∧ IsP l a P' ∧ Evt (fun q => common_Prefixes.l0 q l A P (c : Int) (m : Int) (l.length : Int) (i : Int) A R z) (P', mx (c' : Int) (wrap64 ((l.length : Int) - 1)), 0)
  | 0, i, P, c, m, e, k => by
    obtain rfl : i = l.length := by omega
    refine ⟨P, c, k.cost_ok (Nat.le_refl _), ⟨k.len, k.zero, fun t h0 ht => ?_⟩, ?_⟩
    · have := k.done (a t) (h.alt t ht) (by rw [h.ra t ht]; exact h0)
      rwa [h.ra t ht] at this
    · refine Evt.succ ?_
      simp only [common_Prefixes.l0, Int.lt_irrefl, if_false]
      exact Evt.pure
  | d + 1, i, P, c, m, e, k => by
    have hi : i < l.length := by omega
    have hn9 : l.length ≤ 9000000 := by omega
    have h1 : (i : Int) < (l.length : Int) := Int.ofNat_lt.2 hi
    have h2 : (i : Int) < (R.length : Int) := by rw [h.lenR]; exact h1
    by_cases c0 : r i = 0
    · obtain ⟨P', c', hc', hP', ev⟩ := kas_loop h hn d (i + 1) P c 0 (by omega) (k.reset h hi c0)
      refine ⟨P', c', hc', hP', Evt.succ ?_⟩
      have hz : ((0 : Nat) : Int) = 0 := rfl
      simp only [common_Prefixes.l0, h1, h2, nonneg, if_true, rd_gt, h.R_ i hi, c0, hz, wrapL (Nat.le_of_lt hi) hn9]
      exact ev
    · have hrl := h.rlt i hi
      have hne : ¬ (r i : Int) = 0 := by omega
      obtain ⟨s, hs⟩ : ∃ s, r i = s + 1 := ⟨r i - 1, by omega⟩
      have hsl : s < l.length := by omega
      have w : wrap64 ((r i : Int) - 1) = (s : Int) := by rw [hs]; exact wrapm (n := l.length) (by omega) hn9
      have h3 : (s : Int) < (A.length : Int) := by rw [h.lenA]; exact Int.ofNat_lt.2 hsl
      have hlc : lc l (a s) i ≤ l.length := by
        have := (cp_lc (l := l) (a s) i).symm.len (Nat.le_of_lt hi)
        omega
      have hpre : r i - 1 = s := by omega
      have hcp := cp_iff.1 (k.cp hi (by omega))
      rw [hpre] at hcp
      have hck := k.cost_ok (Nat.le_of_lt hi)
      obtain ⟨c1, hc1, hin⟩ := kas_in (z := z) h hn hi (h.alt s hsl) P (by rw [k.len]; exact hrl) c m (by omega) (lc l (a s) i - m) m (by omega) (Nat.le_refl _)
      have hst := KI.step h k hi (by omega) (c' := c1) (by rw [hpre]; exact hc1)
      rw [hpre] at hst
      obtain ⟨P', c', hc', hP', ev⟩ := kas_loop h hn d (i + 1) _ c1 _ (by omega) hst
      refine ⟨P', c', hc', hP', Evt.succ ?_⟩
      rw [← mx_pred hlc hn] at ev
      have ev2 := hin _ ev
      rw [Nat.sub_self, Nat.add_zero] at ev2
      simp only [common_Prefixes.l0, h1, h2, nonneg, if_true, rd_gt, h.R_ i hi, hne, if_false, w, h3, h.A_ s hsl]
      exact ev2
theorem prefixes_ev (h : SA l M A R a r) (hn : l.length ≤ 1000000) {z : Int} (ho : suffix_Of.f l = some (A, R, z)) : ∃ (P : List Int) (c : Nat), c ≤ 4 * l.length ∧ IsP l a P ∧ Evt (fun q => common_Prefixes.f q l A) (P, mx (c : Int) (wrap64 ((l.length : Int) - 1)), 0) := by
  have k0 : KI l a r 0 (List.replicate l.length 0) 0 0 := by
    refine ⟨by simp, fun h0 => ?_, fun v hv => by omega, Nat.zero_le _, fun _ _ => CP.zero, by omega⟩
    simp [gt, List.getD_eq_getElem?_getD, h0]
  obtain ⟨P, c, hc, hP, ev⟩ := kas_loop (z := z) h hn l.length 0 _ 0 0 (by omega) k0
  refine ⟨P, c, hc, hP, ?_⟩
  simp only [common_Prefixes.f, ho, Option.bind_some]
  refine Evt.bind (equal_ev A (by rw [h.lenA]; omega)) ?_
  have h1 : l.length ≤ 35184372088832 := by omega
  simp only [if_true, nonneg, Int.toNat_natCast, h1]
  exact ev
end
end Go.Proofs.Ythkiapcoagjjpaa.KasCommonRows
