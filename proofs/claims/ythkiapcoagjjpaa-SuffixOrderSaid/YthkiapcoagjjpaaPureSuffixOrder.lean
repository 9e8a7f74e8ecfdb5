/- The law of the suffix array, without the document's answer, over numbers and lists. -/
import Derived.Test.YthkiapcoagjjpaaStSuffixOrder
import Derived.Test.YthkiapcoagjjpaaEv
namespace Go.Proofs.Ythkiapcoagjjpaa.Pure
open Go.RowKit Go.Proofs.YthkiapcoagjjpaaW.PrintWords Go.Proofs.YthkiapcoagjjpaaW.PrintLast Go.Proofs.YthkiapcoagjjpaaW.PrintMore Go.Proofs.Ythkiapcoagjjpaa.PSuffixOrder Go.Proofs.Ythkiapcoagjjpaa.Ev Go.Proofs.Ythkiapcoagjjpaa.Suf
set_option linter.unusedVariables false
set_option linter.unusedSimpArgs false
theorem nonneg (i : Nat) : (0 : Int) ≤ (i : Int) := Int.natCast_nonneg i
theorem eqInts_loop (l : List Int) (hl : l.length ≤ 1000000) : ∀ (d i : Nat), i + d = l.length → Evt (fun k => pleatref00_EqInts.l0 k l l (i : Int)) true
  | 0, i, h => by
    obtain rfl : i = l.length := by omega
    refine Evt.succ ?_
    simp only [pleatref00_EqInts.l0, Int.lt_irrefl, if_false]
    exact Evt.pure
  | d + 1, i, h => by
    refine Evt.succ ?_
    have h1 : (i : Int) < (l.length : Int) := by omega
    simp only [pleatref00_EqInts.l0, h1, nonneg, if_true, wrap1 i (by omega)]
    exact eqInts_loop l hl d (i + 1) (by omega)
theorem eqInts (l : List Int) (hl : l.length ≤ 1000000) : Evt (fun k => pleatref00_EqInts.f k l l) true := by
  simp only [pleatref00_EqInts.f, if_true]
  exact eqInts_loop l hl l.length 0 (by omega)
theorem lives_true : Evt (fun q => pleatlaw16_lives.f q) true := Evt.of_mono pleatlaw16_lives.mono 60 (by decide +kernel)
theorem rd_gt (l : List Int) (i : Nat) : rd l (i : Int) = gt l i := by rw [rd_nat]; rfl
theorem ev_in {l : List Int} {M : Int} {x : Nat} (h : x < l.length) : ev l M x = gt l x := if_pos h
theorem ev_out {l : List Int} {M : Int} {x : Nat} (h : l.length ≤ x) : ev l M x = M := if_neg (by omega)
/-- Where two suffixes are alike, and one is less behind that, both go on. -/
theorem both_in {l : List Int} {M : Int} (hM : ∀ x, x < l.length → M < gt l x) {i k t : Nat} (h1 : ∀ u, u < t → ev l M (i + u) = ev l M (k + u)) (h2 : ev l M (i + t) < ev l M (k + t)) {j : Nat} (hj : j < t) : i + j < l.length ∧ k + j < l.length := by
  have e := h1 j hj
  by_cases a : i + j < l.length
  · by_cases b : k + j < l.length
    · exact ⟨a, b⟩
    · rw [ev_in a, ev_out (by omega)] at e
      have := hM _ a
      omega
  · by_cases b : k + j < l.length
    · rw [ev_in b, ev_out (by omega)] at e
      have := hM _ b
      omega
    · rw [ev_out (by omega), ev_out (by omega)] at h2
      omega
theorem wsum (i j : Nat) (hi : i ≤ 1000000) (hj : j ≤ 1000000) : wrap64 ((i : Int) + (j : Int)) = ((i + j : Nat) : Int) := by unfold wrap64; omega
theorem wsumL {n i j : Nat} (hi : i ≤ n) (hj : j ≤ n) (hn : n ≤ 1000000) : wrap64 ((i : Int) + (j : Int)) = ((i + j : Nat) : Int) := wsum i j (Nat.le_trans hi hn) (Nat.le_trans hj hn)
theorem wrapL {n j : Nat} (hj : j ≤ n) (hn : n ≤ 1000000) : wrap64 ((j : Int) + 1) = ((j + 1 : Nat) : Int) := wrap1 j (Nat.lt_of_le_of_lt (Nat.le_trans hj hn) (by decide))
theorem less_loop {l : List Int} {M : Int} (hM : ∀ x, x < l.length → M < gt l x) (hl : l.length ≤ 1000000) {i k t : Nat} (hi : i < l.length) (hk : k < l.length) (h1 : ∀ u, u < t → ev l M (i + u) = ev l M (k + u)) (h2 : ev l M (i + t) < ev l M (k + t)) :
    ∀ (d j : Nat), j + d = t → Evt (fun q => pleatlaw16_less.l0 q l (i : Int) (k : Int) (j : Int)) true
  | 0, j, h => by
    obtain rfl : j = t := by omega
    have hkt : k + j < l.length := by
      by_cases c : k + j < l.length
      · exact c
      · rw [ev_out (x := k + j) (by omega)] at h2
        by_cases b : i + j < l.length
        · rw [ev_in b] at h2; have := hM _ b; omega
        · rw [ev_out (by omega)] at h2; omega
    have hit : i + j ≤ l.length := by
      by_cases c : j = 0
      · omega
      · have := both_in hM h1 h2 (j := j - 1) (by omega)
        omega
    have hjl : j ≤ l.length := Nat.le_trans (Nat.le_add_left j i) hit
    have w1 : wrap64 ((i : Int) + (j : Int)) = ((i + j : Nat) : Int) := wsumL (Nat.le_of_lt hi) hjl hl
    have w2 : wrap64 ((k : Int) + (j : Int)) = ((k + j : Nat) : Int) := wsumL (Nat.le_of_lt hk) hjl hl
    have a2 : ((k + j : Nat) : Int) < (l.length : Int) := Int.ofNat_lt.2 hkt
    refine Evt.succ ?_
    by_cases c : i + j < l.length
    · have a1 : ((i + j : Nat) : Int) < (l.length : Int) := Int.ofNat_lt.2 c
      rw [ev_in c, ev_in hkt, ← rd_gt, ← rd_gt] at h2
      have ne : ¬ rd l ((i + j : Nat) : Int) = rd l ((k + j : Nat) : Int) := by omega
      have ne2 : ¬ ((i + j : Nat) : Int) = (l.length : Int) := by omega
      simp only [pleatlaw16_less.l0, w1, w2, a1, a2, nonneg, if_true, ne, ne2, if_false, h2, decide_true]
      exact Evt.pure
    · have a1 : ¬ ((i + j : Nat) : Int) < (l.length : Int) := by omega
      have e1 : ((i + j : Nat) : Int) = (l.length : Int) := by omega
      simp only [pleatlaw16_less.l0, w1, w2, a1, a2, e1, if_true, if_false, decide_true, Int.lt_irrefl]
      exact Evt.pure
  | d + 1, j, h => by
    obtain ⟨b1, b2⟩ := both_in hM h1 h2 (j := j) (by omega)
    have e := h1 j (by omega)
    have hj : j ≤ l.length := Nat.le_of_lt (Nat.lt_of_le_of_lt (Nat.le_add_left j i) b1)
    rw [ev_in b1, ev_in b2, ← rd_gt, ← rd_gt] at e
    have w1 : wrap64 ((i : Int) + (j : Int)) = ((i + j : Nat) : Int) := wsumL (Nat.le_of_lt hi) hj hl
    have w2 : wrap64 ((k : Int) + (j : Int)) = ((k + j : Nat) : Int) := wsumL (Nat.le_of_lt hk) hj hl
    have a1 : ((i + j : Nat) : Int) < (l.length : Int) := Int.ofNat_lt.2 b1
    have a2 : ((k + j : Nat) : Int) < (l.length : Int) := Int.ofNat_lt.2 b2
    refine Evt.succ ?_
    simp only [pleatlaw16_less.l0, w1, w2, a1, a2, nonneg, if_true, e, wrapL hj hl]
    exact less_loop hM hl hi hk h1 h2 d (j + 1) (by omega)
theorem less_ev {l : List Int} {M : Int} (hM : ∀ x, x < l.length → M < gt l x) (hl : l.length ≤ 1000000) {i k : Nat} (hi : i < l.length) (hk : k < l.length) (h : sl l M i k) : Evt (fun q => pleatlaw16_less.f q l (i : Int) (k : Int)) true := by
  obtain ⟨q, t, ht, h1, h2⟩ := h
  simp only [pleatlaw16_less.f]
  exact less_loop hM hl hi hk h1 h2 t 0 (by omega)
/-! ### other numbers in the same order -/
theorem ev_lt_iff {l T : List Int} {M M' : Int} (hM : ∀ x, x < l.length → M < gt l x) (hM' : ∀ x, x < T.length → M' < gt T x) (hn : T.length = l.length) (ho : ∀ x y, x < l.length → y < l.length → (gt T x < gt T y ↔ gt l x < gt l y)) (a b : Nat) : ev T M' a < ev T M' b ↔ ev l M a < ev l M b := by
  by_cases ha : a < l.length
  · by_cases hb : b < l.length
    · rw [ev_in (l := T) (by omega), ev_in (l := T) (by omega), ev_in ha, ev_in hb]
      exact ho a b ha hb
    · rw [ev_in (l := T) (by omega), ev_out (l := T) (by omega), ev_in ha, ev_out (by omega)]
      have := hM a ha; have := hM' a (by omega)
      constructor <;> intro h <;> omega
  · by_cases hb : b < l.length
    · rw [ev_out (l := T) (by omega), ev_in (l := T) (by omega), ev_out (by omega), ev_in hb]
      have := hM b hb; have := hM' b (by omega)
      constructor <;> intro h <;> omega
    · rw [ev_out (l := T) (by omega), ev_out (l := T) (by omega), ev_out (by omega), ev_out (by omega)]
      constructor <;> intro h <;> omega
theorem sl_same {l T : List Int} {M M' : Int} (hM : ∀ x, x < l.length → M < gt l x) (hM' : ∀ x, x < T.length → M' < gt T x) (hn : T.length = l.length) (ho : ∀ x y, x < l.length → y < l.length → (gt T x < gt T y ↔ gt l x < gt l y)) {i j : Nat} (h : sl T M' i j) : sl l M i j := by
  obtain ⟨q, t, ht, h1, h2⟩ := h
  refine ⟨q, t, ht, fun u hu => ?_, (ev_lt_iff hM hM' hn ho _ _).1 h2⟩
  have e := h1 u hu
  have p1 := ev_lt_iff hM hM' hn ho (i + u) (j + u)
  have p2 := ev_lt_iff hM hM' hn ho (j + u) (i + u)
  rcases Int.lt_trichotomy (ev l M (i + u)) (ev l M (j + u)) with c | c | c
  · have := p1.2 c; omega
  · exact c
  · have := p2.2 c; omega
/-- How many of the first k numbers are less than v. -/
def cntN (l : List Int) (v : Int) : Nat → Nat
  | 0 => 0
  | k + 1 => cntN l v k + if gt l k < v then 1 else 0
theorem cntN_le (l : List Int) (v : Int) : ∀ k, cntN l v k ≤ k
  | 0 => Nat.le_refl _
  | k + 1 => by unfold cntN; have := cntN_le l v k; split <;> omega
theorem cntN_mono (l : List Int) {v w : Int} (h : v ≤ w) : ∀ k, cntN l v k ≤ cntN l w k
  | 0 => Nat.le_refl _
  | k + 1 => by
    unfold cntN
    have := cntN_mono l h k
    by_cases c : gt l k < v
    · rw [if_pos c, if_pos (by omega)]; omega
    · rw [if_neg c]; omega
theorem cntN_lt (l : List Int) {v w : Int} (h : v < w) : ∀ k x, x < k → gt l x = v → cntN l v k < cntN l w k
  | 0, x, hx, e => by omega
  | k + 1, x, hx, e => by
    unfold cntN
    by_cases c : x = k
    · subst c
      have := cntN_mono l (Int.le_of_lt h) x
      rw [if_neg (by omega), if_pos (by omega)]; omega
    · have := cntN_lt l h k x (by omega) e
      by_cases c2 : gt l k < v
      · rw [if_pos c2, if_pos (by omega)]; omega
      · rw [if_neg c2]; omega
def twin (l : List Int) (s i k : Nat) : List Int := (List.range l.length).map fun x => if x < i then ((s * cntN l (gt l x) l.length : Nat) : Int) else if x = i then ((s * cntN l (gt l x) k : Nat) : Int) else 0
theorem twin_len (l : List Int) (s i k : Nat) : (twin l s i k).length = l.length := by simp [twin]
theorem twin_at (l : List Int) (s i k : Nat) {x : Nat} (h : x < l.length) : gt (twin l s i k) x = if x < i then ((s * cntN l (gt l x) l.length : Nat) : Int) else if x = i then ((s * cntN l (gt l x) k : Nat) : Int) else 0 := by
  simp [gt, twin, List.getD_eq_getElem?_getD, h]
theorem gt_ext {a b : List Int} (hl : a.length = b.length) (h : ∀ i, i < a.length → gt a i = gt b i) : a = b := ext_getD 0 hl h
theorem twin_start (l : List Int) (s : Nat) : twin l s 0 0 = List.replicate l.length 0 := by
  refine gt_ext (by rw [twin_len]; simp) fun x hx => ?_
  rw [twin_len] at hx
  rw [twin_at l s 0 0 hx, if_neg (by omega)]
  have : gt (List.replicate l.length (0 : Int)) x = 0 := by simp [gt, List.getD_eq_getElem?_getD, hx]
  rw [this]
  split
  · simp [cntN]
  · rfl
theorem twin_row (l : List Int) (s i : Nat) : twin l s i l.length = twin l s (i + 1) 0 := by
  refine gt_ext (by rw [twin_len, twin_len]) fun x hx => ?_
  rw [twin_len] at hx
  rw [twin_at l s _ _ hx, twin_at l s _ _ hx]
  by_cases a : x < i
  · rw [if_pos a, if_pos (by omega)]
  · rw [if_neg a]
    by_cases b : x = i
    · rw [if_pos b, if_pos (by omega)]
    · rw [if_neg b, if_neg (by omega)]
      split
      · simp [cntN]
      · rfl
theorem twin_no (l : List Int) (s i k : Nat) (h : ¬ gt l k < gt l i) : twin l s i (k + 1) = twin l s i k := by
  refine gt_ext (by rw [twin_len, twin_len]) fun x hx => ?_
  rw [twin_len] at hx
  rw [twin_at l s _ _ hx, twin_at l s _ _ hx]
  by_cases a : x < i
  · rw [if_pos a, if_pos a]
  · rw [if_neg a, if_neg a]
    by_cases b : x = i
    · subst b
      rw [if_pos rfl, if_pos rfl, cntN, if_neg h, Nat.add_zero]
    · rw [if_neg b, if_neg b]
theorem gt_set' (d : List Int) (i x : Nat) (v : Int) (h : i < d.length) : gt (d.set i v) x = if x = i then v else gt d x := by
  unfold gt
  by_cases c : x = i
  · subst c; rw [if_pos rfl, lset_same 0 h]
  · rw [if_neg c, lset_other 0 (fun e => c e.symm)]
theorem twin_yes (l : List Int) (s i k : Nat) (hi : i < l.length) (h : gt l k < gt l i) : (twin l s i k).set i (gt (twin l s i k) i + (s : Int)) = twin l s i (k + 1) := by
  refine gt_ext (by rw [List.length_set, twin_len, twin_len]) fun x hx => ?_
  rw [List.length_set, twin_len] at hx
  rw [gt_set' _ _ _ _ (by rw [twin_len]; exact hi), twin_at l s i k hi, twin_at l s i (k + 1) hx, twin_at l s i k hx]
  by_cases b : x = i
  · subst b
    rw [if_pos rfl, if_neg (Nat.lt_irrefl _), if_pos rfl, if_neg (Nat.lt_irrefl _), if_pos rfl, cntN, if_pos h, Nat.mul_add, Nat.mul_one]
    omega
  · rw [if_neg b]
    by_cases a : x < i
    · rw [if_pos a, if_pos a]
    · rw [if_neg a, if_neg b, if_neg a, if_neg b]
theorem twin_order (l : List Int) (s : Nat) (hs : 0 < s) (x y : Nat) (hx : x < l.length) (hy : y < l.length) : gt (twin l s l.length 0) x < gt (twin l s l.length 0) y ↔ gt l x < gt l y := by
  rw [twin_at l s _ _ hx, twin_at l s _ _ hy, if_pos hx, if_pos hy]
  constructor
  · intro h
    rcases Int.lt_or_le (gt l x) (gt l y) with c | c
    · exact c
    · have := cntN_mono l c l.length
      have := Nat.mul_le_mul_left s this
      omega
  · intro h
    have := cntN_lt l h l.length x hx rfl
    have := Nat.mul_lt_mul_of_pos_left this hs
    omega
theorem step_small (m : Int) (h : 0 ≤ m) (h2 : m < 1000) : wrap64 (1 + wrap64 m) = 1 + m := by
  have w1 : wrap64 m = m := by unfold wrap64; omega
  rw [w1]
  unfold wrap64; omega
theorem mod_small (u : Int) (h : 0 ≤ u) : 0 ≤ Int.tmod u 1000 ∧ Int.tmod u 1000 < 1000 := by
  rw [Int.tmod_eq_emod_of_nonneg h]
  omega
theorem u64_nonneg (x : Int) : 0 ≤ IntKind.u64.wrap x := Int.emod_nonneg _ (by decide)
theorem step_of (by_ : Int) : ∃ s : Nat, wrap64 (1 + (wrap64 (Int.tmod (IntKind.u64.wrap by_) 1000))) = (s : Int) ∧ 0 < s ∧ s ≤ 1000 := by
  obtain ⟨h1, h2⟩ := mod_small _ (u64_nonneg by_)
  rw [step_small _ h1 h2]
  generalize Int.tmod (IntKind.u64.wrap by_) 1000 = m at h1 h2
  exact ⟨(1 + m).toNat, by omega, by omega, by omega⟩
/-! ### the law's loops -/
section
variable {l A R : List Int} {z : Int} {s : Nat} {by_ : Int}
theorem end_small (hl : l.length ≤ 200) (hs : 0 < s) {M : Int} (hM : ∀ x, x < l.length → M < gt l x) (hA : Pm l.length A) (sA : ∀ x y, x < y → y < l.length → sl l M (gt A x).toNat (gt A y).toNat) :
    Evt (fun k => (suffix_Of.f (twin l s l.length 0)).bind fun bt => (pleatref00_EqInts.f k bt.1 A).bind fun t => if t = true then (pleatlaw16_lives.f k).bind fun t => some t else some false) true := by
  obtain ⟨M', hM'⟩ := low (twin l s l.length 0)
  obtain ⟨A', R', z', e, hA', sA', _⟩ := ofF_ok hM' (by rw [twin_len]; omega)
  have hf : suffix_Of.f (twin l s l.length 0) = some (A', R', wrap64 (z' : Int)) := by
    unfold suffix_Of.f
    rw [if_neg (by rw [twin_len]; omega), e]; rfl
  rw [twin_len] at hA' sA'
  have hAA : A' = A := arr_one (lt := sl l M) (fun i j h => sl.asym h) hA' hA (fun x y hx hy => sl_same hM hM' (twin_len _ _ _ _) (fun x y hx hy => twin_order l s hs x y hx hy) (sA' x y hx hy)) sA
  subst hAA
  simp only [hf, Option.bind_some]
  refine Evt.bind (eqInts A' (by rw [hA'.1]; omega)) ?_
  simp only [if_true]
  exact Evt.bind lives_true Evt.pure
theorem rows_big (hl : ¬ l.length ≤ 200) (hl2 : l.length ≤ 2048) (T : List Int) (st : Int) : ∀ (d i : Nat), i + d = l.length → Evt (fun k => pleatlaw16_SuffixOrder.l1 k l T st (i : Int) A R z) true
  | 0, i, h => by
    refine Evt.succ ?_
    have h1 : ¬ (i : Int) < (l.length : Int) := by omega
    have h2 : (l.length : Int) > 200 := by omega
    simp only [pleatlaw16_SuffixOrder.l1, h1, h2, if_true, if_false]
    exact Evt.bind lives_true Evt.pure
  | d + 1, i, h => by
    refine Evt.succ (Evt.succ (Evt.succ ?_))
    have h1 : (i : Int) < (l.length : Int) := by omega
    have h0 : (0 : Int) < (l.length : Int) := by omega
    have h2 : decide ((l.length : Int) ≤ 200) = false := decide_eq_false (by omega)
    simp only [pleatlaw16_SuffixOrder.l1, h1, h0, if_true, pleatlaw16_SuffixOrder.l2, h2, pleatlaw16_SuffixOrder.j5, Bool.false_eq_true, if_false, wrap1 i (by omega)]
    exact rows_big hl hl2 T st d (i + 1) (by omega)
theorem row_small (hl : l.length ≤ 200) (hs1 : s ≤ 1000) {i : Nat} (hi : i < l.length) (hend : Evt (fun k => pleatlaw16_SuffixOrder.l1 k l (twin l s (i + 1) 0) (s : Int) ((i + 1 : Nat) : Int) A R z) true) :
    ∀ (d k : Nat), k + d = l.length → Evt (fun q => pleatlaw16_SuffixOrder.l2 q l (twin l s i k) (s : Int) (i : Int) (k : Int) A R z) true
  | 0, k, h => by
    obtain rfl : k = l.length := by omega
    refine Evt.succ (Evt.succ ?_)
    simp only [pleatlaw16_SuffixOrder.l2, Int.lt_irrefl, if_false, pleatlaw16_SuffixOrder.j5, Bool.false_eq_true, wrap1 i (by omega), twin_row]
    exact hend
  | d + 1, k, h => by
    refine Evt.succ (Evt.succ ?_)
    have h1 : (k : Int) < (l.length : Int) := by omega
    have h2 : (i : Int) < (l.length : Int) := by omega
    have h3 : decide ((l.length : Int) ≤ 200) = true := decide_eq_true (by omega)
    have h4 : (i : Int) < ((twin l s i k).length : Int) := by rw [twin_len]; omega
    by_cases c : gt l k < gt l i
    · have hv : wrap64 (gt (twin l s i k) i + (s : Int)) = gt (twin l s i k) i + (s : Int) := by
        rw [twin_at l s i k hi, if_neg (Nat.lt_irrefl _), if_pos rfl]
        have := cntN_le l (gt l i) k
        have := Nat.mul_le_mul hs1 this
        unfold wrap64; omega
      simp only [pleatlaw16_SuffixOrder.l2, h1, h2, h3, h4, if_true, pleatlaw16_SuffixOrder.j5, nonneg, rd_gt, c, Int.toNat_natCast, hv, twin_yes l s i k hi c, wrap1 k (by omega)]
      exact row_small hl hs1 hi hend d (k + 1) (by omega)
    · simp only [pleatlaw16_SuffixOrder.l2, h1, h2, h3, if_true, pleatlaw16_SuffixOrder.j5, nonneg, rd_gt, c, if_false, wrap1 k (by omega)]
      rw [← twin_no l s i k c]
      exact row_small hl hs1 hi hend d (k + 1) (by omega)
theorem rows_small (hl : l.length ≤ 200) (hs : 0 < s) (hs1 : s ≤ 1000) {M : Int} (hM : ∀ x, x < l.length → M < gt l x) (hA : Pm l.length A) (sA : ∀ x y, x < y → y < l.length → sl l M (gt A x).toNat (gt A y).toNat) :
    ∀ (d i : Nat), i + d = l.length → Evt (fun k => pleatlaw16_SuffixOrder.l1 k l (twin l s i 0) (s : Int) (i : Int) A R z) true
  | 0, i, h => by
    obtain rfl : i = l.length := by omega
    refine Evt.succ ?_
    have h2 : ¬ (l.length : Int) > 200 := by omega
    simp only [pleatlaw16_SuffixOrder.l1, Int.lt_irrefl, h2, if_false]
    exact end_small hl hs hM hA sA
  | d + 1, i, h => by
    refine Evt.succ ?_
    have h1 : (i : Int) < (l.length : Int) := by omega
    simp only [pleatlaw16_SuffixOrder.l1, h1, if_true]
    exact row_small hl hs1 (by omega) (rows_small hl hs hs1 hM hA sA d (i + 1) (by omega)) l.length 0 (by omega)
/-- Which places have been met. -/
def seen (A : List Int) (n i : Nat) : List Bool := (List.range n).map fun v => decide (∃ x, x < i ∧ (gt A x).toNat = v)
theorem seen_len (A : List Int) (n i : Nat) : (seen A n i).length = n := by simp [seen]
theorem seen_at (A : List Int) {n : Nat} (i : Nat) {v : Nat} (h : v < n) : (seen A n i).getD v false = decide (∃ x, x < i ∧ (gt A x).toNat = v) := by
  simp [seen, List.getD_eq_getElem?_getD, h]
theorem seen_start (A : List Int) (n : Nat) : List.replicate n false = seen A n 0 := by
  refine ext_getD false (by rw [seen_len]; simp) fun v hv => ?_
  rw [List.length_replicate] at hv
  rw [seen_at A 0 hv]
  have : ¬ ∃ x, x < 0 ∧ (gt A x).toNat = v := fun ⟨x, hx, _⟩ => by omega
  rw [decide_eq_false this]
  simp [List.getD_eq_getElem?_getD, hv]
theorem seen_next (A : List Int) (n i : Nat) (h : (gt A i).toNat < n) : (seen A n i).set (gt A i).toNat true = seen A n (i + 1) := by
  refine ext_getD false (by rw [List.length_set, seen_len, seen_len]) fun v hv => ?_
  rw [List.length_set, seen_len] at hv
  rw [seen_at A (i + 1) hv]
  by_cases c : (gt A i).toNat = v
  · subst c
    rw [lset_same false (by rw [seen_len]; exact h)]
    exact (decide_eq_true ⟨i, by omega, rfl⟩).symm
  · rw [lset_other false c, seen_at A i hv]
    congr 1
    refine propext ⟨fun ⟨x, hx, e⟩ => ⟨x, by omega, e⟩, fun ⟨x, hx, e⟩ => ?_⟩
    by_cases c2 : x = i
    · subst c2; exact absurd e c
    · exact ⟨x, by omega, e⟩
theorem check_loop (hl : l.length ≤ 2048) {M : Int} (hM : ∀ x, x < l.length → M < gt l x) (hA : Pm l.length A) (sA : ∀ x y, x < y → y < l.length → sl l M (gt A x).toNat (gt A y).toNat) (hR : R.length = l.length) (hRA : ∀ x, x < l.length → gt R (gt A x).toNat = (x : Int)) :
    ∀ (d i : Nat), i + d = l.length → Evt (fun q => pleatlaw16_SuffixOrder.l0 q l by_ (seen A l.length i) (i : Int) A R z) true
  | 0, i, h => by
    obtain rfl : i = l.length := by omega
    obtain ⟨s, es, hs, hs1⟩ := step_of by_
    refine Evt.succ ?_
    have h1 : l.length ≤ 35184372088832 := by omega
    simp only [pleatlaw16_SuffixOrder.l0, Int.lt_irrefl, if_false, nonneg, if_true, es, Int.toNat_natCast, h1]
    by_cases c : l.length ≤ 200
    · rw [← twin_start l s]
      exact rows_small c hs hs1 hM hA sA l.length 0 (by omega)
    · exact rows_big c hl _ _ l.length 0 (by omega)
  | d + 1, i, h => by
    have hi : i < l.length := by omega
    obtain ⟨a, ha⟩ : ∃ a, a = (gt A i).toNat := ⟨_, rfl⟩
    have han : a < l.length := by rw [ha]; exact hA.lt hi
    have hai : gt A i = (a : Int) := by rw [ha]; exact hA.nn hi
    have hRa : gt R a = (i : Int) := by rw [ha]; exact hRA i hi
    have hA1 := hA.1
    have h1 : (i : Int) < (l.length : Int) := by omega
    have h2 : (i : Int) < (A.length : Int) := by omega
    have h3 : ¬ (a : Int) < 0 := by omega
    have h4 : ¬ (a : Int) ≥ (l.length : Int) := by omega
    have h5 : (a : Int) < ((seen A l.length i).length : Int) := by rw [seen_len]; omega
    have h6 : ¬ rdOf false (seen A l.length i) (a : Int) = true := by
      have : rdOf false (seen A l.length i) (a : Int) = (seen A l.length i).getD a false := rfl
      rw [this, seen_at A i han]
      intro hh
      obtain ⟨x, hx, e⟩ := of_decide_eq_true hh
      have := hA.inj (x := x) (y := i) (by omega) hi (by rw [e, ha])
      omega
    have h7 : (a : Int) < (R.length : Int) := by omega
    have h8 : ((i : Int) != (i : Int)) = false := by simp
    have hnx : (seen A l.length i).set a true = seen A l.length (i + 1) := by rw [ha]; exact seen_next A _ i (by rw [← ha]; exact han)
    have ih := check_loop hl hM hA sA hR hRA d (i + 1) (by omega)
    refine Evt.succ (Evt.succ ?_)
    simp only [pleatlaw16_SuffixOrder.l0, h1, h2, nonneg, if_true, rd_gt, hai, h3, h4, if_false, h5, h6, h7, hRa, h8, pleatlaw16_SuffixOrder.j2, Bool.false_eq_true, Int.toNat_natCast, hnx, Option.bind_some, wrap1 i (by omega)]
    by_cases c : i = 0
    · subst c
      have h9 : ¬ ((0 : Nat) : Int) > 0 := by omega
      simp only [h9, if_false]
      exact ih
    · obtain ⟨j, rfl⟩ : ∃ j, i = j + 1 := ⟨i - 1, by omega⟩
      have h9 : ((j + 1 : Nat) : Int) > 0 := by omega
      have w : wrap64 (((j + 1 : Nat) : Int) - 1) = (j : Int) := by unfold wrap64; omega
      have h10 : (j : Int) < (A.length : Int) := by omega
      have hlt := sA j (j + 1) (by omega) hi
      rw [← ha] at hlt
      have hj : gt A j = ((gt A j).toNat : Int) := hA.nn (by omega)
      simp only [h9, if_true, w, nonneg, h10, rd_gt]
      rw [hj]
      refine Evt.bind (less_ev hM (by omega) (hA.lt (by omega)) han hlt) ?_
      simp only [if_true]
      exact ih
end
theorem SuffixOrder : St.SuffixOrder := by
  intro l by_ hl hb
  refine Evt.out (g := fun q => pleatlaw16_SuffixOrder.f q l by_) ?_
  unfold pleatlaw16_SuffixOrder.f
  by_cases c : (l.length : Int) > 2048
  · simp only [c, if_true]
    exact Evt.bind lives_true Evt.pure
  · simp only [c, if_false]
    have hc : pleatref00_CopyInts.f l = some l := by
      unfold pleatref00_CopyInts.f
      rw [if_pos (by simp; omega)]
      rfl
    obtain ⟨M, hM⟩ := low l
    obtain ⟨A, R, z, e, hA, sA, hR, hRA, _⟩ := ofF_ok hM (by omega)
    have hf : suffix_Of.f l = some (A, R, wrap64 (z : Int)) := by
      unfold suffix_Of.f
      rw [if_neg (by omega), e]; rfl
    have h1 : (A.length : Int) = (l.length : Int) := by rw [hA.1]
    have h2 : ((R.length : Int) != (l.length : Int)) = false := by rw [hR]; simp
    simp only [hc, Option.bind_some, hf, h1, if_true, h2]
    refine Evt.succ ?_
    have h3 : l.length ≤ 281474976710656 := by omega
    simp only [pleatlaw16_SuffixOrder.j0, Bool.false_eq_true, if_false, nonneg, if_true, Int.toNat_natCast, h3]
    rw [seen_start A]
    exact check_loop (by omega) hM hA sA hR hRA l.length 0 (by omega)
end Go.Proofs.Ythkiapcoagjjpaa.Pure
