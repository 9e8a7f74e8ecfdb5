/- The law of common prefixes and rows, without the document's answer, over numbers and lists. -/
import Derived.Test.YthkiapcoagjjpaaStCommonRows
import Derived.Test.YthkiapcoagjjpaaKasPCommonRows
namespace Go.Proofs.Ythkiapcoagjjpaa.Pure
open Go.RowKit Go.Proofs.YthkiapcoagjjpaaW.PrintWords Go.Proofs.YthkiapcoagjjpaaW.PrintLast Go.Proofs.YthkiapcoagjjpaaW.PrintMore Go.Proofs.Ythkiapcoagjjpaa.PCommonRows Go.Proofs.Ythkiapcoagjjpaa.Ev Go.Proofs.Ythkiapcoagjjpaa.Suf Go.Proofs.Ythkiapcoagjjpaa.KasCommonRows
set_option linter.unusedVariables false
set_option linter.unusedSimpArgs false
theorem lives_true : Evt (fun q => pleatlaw17_lives.f q) true := Evt.of_mono pleatlaw17_lives.mono 60 (by decide +kernel)
theorem copy_ev (l : List Int) (h : l.length ≤ 9000000) : pleatref00_CopyInts.f l = some l := by
  unfold pleatref00_CopyInts.f
  rw [if_pos (by simp; omega)]
  rfl
theorem bits_up : ∀ k n : Nat, n < 2 ^ k → Suf.bits n ≤ k
  | 0, n, h => by obtain rfl : n = 0 := by omega
                  rw [bits_zero]; exact Nat.le_refl _
  | k + 1, n, h => by
    by_cases c : n = 0
    · rw [c, bits_zero]; omega
    · rw [bits_pos (by omega)]
      have := bits_up k (n / 2) (by rw [Nat.pow_succ] at h; omega)
      omega
theorem bits_loop : ∀ (m n c : Nat), n < 2 ^ m → m ≤ 40 → c + m ≤ 100 → Evt (fun q => pleatref16_Bits.l0 q (n : Int) (c : Int)) ((c + Suf.bits n : Nat) : Int)
  | 0, n, c, h, hm, hc => by
    obtain rfl : n = 0 := by omega
    refine Evt.succ ?_
    have h0 : ¬ ((0 : Nat) : Int) > 0 := by omega
    simp only [pleatref16_Bits.l0, h0, if_false, bits_zero, Nat.add_zero]
    exact Evt.pure
  | m + 1, n, c, h, hm, hc => by
    by_cases c0 : n = 0
    · subst c0
      refine Evt.succ ?_
      have h0 : ¬ ((0 : Nat) : Int) > 0 := by omega
      simp only [pleatref16_Bits.l0, h0, if_false, bits_zero, Nat.add_zero]
      exact Evt.pure
    · refine Evt.succ ?_
      have h0 : (n : Int) > 0 := by omega
      have hp : 2 ^ (m + 1) ≤ 2 ^ 40 := Nat.pow_le_pow_right (by omega) hm
      have h9 : (2 : Nat) ^ 40 = 1099511627776 := by decide
      have h1 : wrap64 (Int.tdiv (n : Int) 2) = ((n / 2 : Nat) : Int) := by
        rw [Int.tdiv_eq_ediv_of_nonneg (by omega)]; unfold wrap64; omega
      simp only [pleatref16_Bits.l0, h0, if_true, h1, wrap1 c (by omega)]
      have := bits_loop m (n / 2) (c + 1) (by rw [Nat.pow_succ] at h; omega) (by omega) (by omega)
      rw [bits_pos (by omega)]
      have e : c + 1 + Suf.bits (n / 2) = c + (Suf.bits (n / 2) + 1) := by omega
      rw [e] at this
      exact this
/-! ### the least -/
theorem minF_ok (l : List Int) : ∀ n : Nat, (∃ j : Nat, j ≤ n ∧ minF l (n + 1) = rd l (j : Int)) ∧ ∀ j : Nat, j ≤ n → minF l (n + 1) ≤ rd l (j : Int)
  | 0 => ⟨⟨0, Nat.le_refl _, rfl⟩, fun j hj => by obtain rfl : j = 0 := by omega
                                                  exact Int.le_refl _⟩
  | n + 1 => by
    obtain ⟨⟨j, hj, e⟩, h⟩ := minF_ok l n
    rw [minF_succ l (i := n + 1) (by omega)]
    by_cases c : rd l ((n + 1 : Nat) : Int) < minF l (n + 1)
    · rw [if_pos c]
      refine ⟨⟨n + 1, Nat.le_refl _, rfl⟩, fun i hi => ?_⟩
      by_cases c2 : i = n + 1
      · subst c2; exact Int.le_refl _
      · have := h i (by omega); omega
    · rw [if_neg c]
      refine ⟨⟨j, by omega, e⟩, fun i hi => ?_⟩
      by_cases c2 : i = n + 1
      · subst c2; omega
      · exact h i (by omega)
theorem rd_cut (l : List Int) {a b j : Nat} (h : a + j < b) : rd ((l.take b).drop a) (j : Int) = rd l ((a + j : Nat) : Int) := by
  rw [rd_nat, rd_nat]
  simp [List.getD_eq_getElem?_getD, List.getElem?_drop, List.getElem?_take, h]
theorem mn_mx (a b : Nat) (h : a ≠ b) : ∃ lo hi : Nat, mn (a : Int) (b : Int) = (lo : Int) ∧ mx (a : Int) (b : Int) = (hi : Int) ∧ lo < hi ∧ ((lo = a ∧ hi = b) ∨ (lo = b ∧ hi = a)) := by
  by_cases c : a < b
  · exact ⟨a, b, by unfold mn; split <;> omega, by unfold mx; split <;> omega, c, .inl ⟨rfl, rfl⟩⟩
  · exact ⟨b, a, by unfold mn; split <;> omega, by unfold mx; split <;> omega, by omega, .inr ⟨rfl, rfl⟩⟩
theorem least_same (P : List Int) {a : Nat} (ha : a < P.length) : Evt (fun q => common_Least.f q P (a : Int) (a : Int)) (-1, 0) := by
  have c1 : ¬ (a : Int) < 0 := by omega
  have c3 : ¬ (a : Int) ≥ (P.length : Int) := by omega
  simp only [common_Least.f, c1, c3, if_false, decide_false]
  refine Evt.succ ?_
  simp only [common_Least.j0, Bool.false_eq_true, if_false, if_true]
  exact Evt.pure
theorem least_val (P : List Int) (hl : P.length ≤ 1000000) {a b : Nat} (ha : a < P.length) (hb : b < P.length) (e : a ≠ b) {lo hi : Nat} (hlh : (lo = a ∧ hi = b) ∨ (lo = b ∧ hi = a)) (hlt : lo < hi) :
    ∃ v : Int, Evt (fun q => common_Least.f q P (a : Int) (b : Int)) (v, 0) ∧ (∃ t, lo < t ∧ t ≤ hi ∧ v = gt P t) ∧ ∀ t, lo < t → t ≤ hi → v ≤ gt P t := by
  obtain ⟨lo', hi', m1, m2, hlt', hlh'⟩ := mn_mx a b e
  obtain rfl : lo' = lo := by omega
  obtain rfl : hi' = hi := by omega
  have c1 : ¬ (a : Int) < 0 := by omega
  have c2 : ¬ (b : Int) < 0 := by omega
  have c3 : ¬ (a : Int) ≥ (P.length : Int) := by omega
  have c4 : ¬ (b : Int) ≥ (P.length : Int) := by omega
  have e' : ¬ (a : Int) = (b : Int) := by omega
  have hlo : lo' ≤ P.length := by omega
  have hhl : hi' ≤ P.length := by omega
  have hl9 : P.length ≤ 9000000 := by omega
  have h1 : ((lo' + 1 : Nat) : Int) ≤ ((hi' + 1 : Nat) : Int) := by omega
  have h2 : ((hi' + 1 : Nat) : Int) ≤ (P.length : Int) := by omega
  have hlen : ((P.take (hi' + 1)).drop (lo' + 1)).length = hi' - lo' - 1 + 1 := by rw [List.length_drop, List.length_take]; omega
  obtain ⟨⟨j, hj, ej⟩, hall⟩ := minF_ok ((P.take (hi' + 1)).drop (lo' + 1)) (hi' - lo' - 1)
  refine ⟨minF ((P.take (hi' + 1)).drop (lo' + 1)) (hi' - lo' - 1 + 1), ?_, ⟨lo' + 1 + j, by omega, by omega, ?_⟩, fun t h3 h4 => ?_⟩
  · have hf : slices_Min_int_int.f ((P.take (hi' + 1)).drop (lo' + 1)) = some (minF ((P.take (hi' + 1)).drop (lo' + 1)) (hi' - lo' - 1 + 1)) := by
      unfold slices_Min_int_int.f
      rw [if_pos ⟨by omega, by omega⟩, hlen]
    simp only [common_Least.f, c1, c2, c3, c4, if_false, decide_false]
    refine Evt.succ ?_
    simp only [common_Least.j0, Bool.false_eq_true, if_false, e', m1, m2, wrapL hlo hl9, wrapL hhl hl9, nonneg, if_true, h1, h2, Int.toNat_natCast, hf, Option.bind_some]
    exact Evt.pure
  · rw [ej, rd_cut P (by omega), rd_gt]
  · have := hall (t - (lo' + 1)) (by omega)
    rw [rd_cut P (by omega), rd_gt] at this
    rwa [show lo' + 1 + (t - (lo' + 1)) = t by omega] at this
/-! ### the row -/
theorem holds_true {l : List Int} {len : Int} {i : Nat} (h0 : 0 < i) (h1 : i < l.length) (h2 : len ≤ gt l i) : gHolds l len (i : Int) = true := decide_eq_true ⟨by omega, by omega, by rw [rd_gt]; exact h2⟩
theorem holds_false {l : List Int} {len : Int} {i : Nat} (h : i = 0 ∨ l.length ≤ i ∨ ¬ len ≤ gt l i) : gHolds l len (i : Int) = false := decide_eq_false (fun hh => by
  rcases h with h | h | h
  · omega
  · omega
  · rw [rd_gt] at hh; exact h hh.2.2)
theorem down_ok (P : List Int) (len : Int) : ∀ (i : Nat), i < P.length → ∀ K, i ≤ K → ∃ f : Nat, gDown P len K (i : Int) = (f : Int) ∧ f ≤ i ∧ (∀ t, f < t → t ≤ i → len ≤ gt P t) ∧ (f = 0 ∨ ¬ len ≤ gt P f)
  | 0, h, K, hK => by
    refine ⟨0, ?_, Nat.le_refl _, fun t h1 h2 => by omega, .inl rfl⟩
    cases K with
    | zero => rfl
    | succ K => rw [gDown, holds_false (.inl rfl), if_neg (by decide)]
  | i + 1, h, K, hK => by
    obtain ⟨K, rfl⟩ : ∃ m, K = m + 1 := ⟨K - 1, by omega⟩
    by_cases c : len ≤ gt P (i + 1)
    · obtain ⟨f, e, h1, h2, h3⟩ := down_ok P len i (by omega) K (by omega)
      refine ⟨f, ?_, by omega, fun t h4 h5 => ?_, h3⟩
      · rw [gDown, holds_true (by omega) h c, if_pos rfl, show ((i + 1 : Nat) : Int) - 1 = (i : Int) by omega]
        exact e
      · by_cases c2 : t = i + 1
        · subst c2; exact c
        · exact h2 t h4 (by omega)
    · refine ⟨i + 1, ?_, Nat.le_refl _, fun t h4 h5 => by omega, .inr c⟩
      rw [gDown, holds_false (.inr (.inr c)), if_neg (by decide)]
theorem up_ok (P : List Int) (len : Int) : ∀ (d j : Nat), 0 < j → j + d = P.length → ∀ K, d ≤ K → ∃ t : Nat, gUp P len K (j : Int) = (t : Int) ∧ j ≤ t ∧ t ≤ P.length ∧ (∀ s, j ≤ s → s < t → len ≤ gt P s) ∧ (t = P.length ∨ ¬ len ≤ gt P t)
  | 0, j, h0, h, K, hK => by
    refine ⟨j, ?_, Nat.le_refl _, by omega, fun s h1 h2 => by omega, .inl (by omega)⟩
    cases K with
    | zero => rfl
    | succ K => rw [gUp, holds_false (.inr (.inl (by omega))), if_neg (by decide)]
  | d + 1, j, h0, h, K, hK => by
    obtain ⟨K, rfl⟩ : ∃ m, K = m + 1 := ⟨K - 1, by omega⟩
    by_cases c : len ≤ gt P j
    · obtain ⟨t, e, h1, h2, h3, h4⟩ := up_ok P len d (j + 1) (by omega) (by omega) K (by omega)
      refine ⟨t, ?_, by omega, h2, fun s h5 h6 => ?_, h4⟩
      · rw [gUp, holds_true h0 (by omega) c, if_pos rfl]
        exact e
      · by_cases c2 : s = j
        · subst c2; exact c
        · exact h3 s (by omega) h6
    · refine ⟨j, ?_, Nat.le_refl _, by omega, fun s h1 h2 => by omega, .inr c⟩
      rw [gUp, holds_false (.inr (.inr c)), if_neg (by decide)]
section
variable {l A R P : List Int} {M z : Int} {a r : Nat → Nat} {i : Nat} {len : Nat} {f t : Nat}
/-- The row just holds the places that begin alike. -/
theorem row_iff (h : SA l M A R a r) (hP : IsP l a P) (hi : i < l.length) (hf1 : f ≤ i) (hf2 : ∀ s, f < s → s ≤ i → (len : Int) ≤ gt P s) (hf3 : f = 0 ∨ ¬ (len : Int) ≤ gt P f) (ht1 : i + 1 ≤ t) (ht2 : t ≤ l.length) (ht3 : ∀ s, i + 1 ≤ s → s < t → (len : Int) ≤ gt P s) (ht4 : t = l.length ∨ ¬ (len : Int) ≤ gt P t)
    {k : Nat} (hk : k < l.length) (hne : k ≠ i) : (f ≤ k ∧ k < t) ↔ len ≤ lc l (a i) (a k) := by
  rw [← cp_iff]
  by_cases c : k < i
  · constructor
    · rintro ⟨h1, h2⟩
      exact ((h.row hP k i c hi len).2 fun s h3 h4 => hf2 s (by omega) h4).symm
    · intro hc
      refine ⟨?_, by omega⟩
      have hall := (h.row hP k i c hi len).1 hc.symm
      rcases hf3 with e | e
      · omega
      · rcases Nat.lt_or_ge k f with c2 | c2
        · exact absurd (hall f c2 hf1) e
        · exact c2
  · constructor
    · rintro ⟨h1, h2⟩
      exact (h.row hP i k (by omega) hk len).2 fun s h3 h4 => ht3 s (by omega) (by omega)
    · intro hc
      refine ⟨by omega, ?_⟩
      have hall := (h.row hP i k (by omega) hk len).1 hc
      rcases ht4 with e | e
      · omega
      · rcases Nat.lt_or_ge k t with c2 | c2
        · exact c2
        · exact absurd (hall t (by omega) c2) e
theorem least_lc (h : SA l M A R a r) (hP : IsP l a P) (hn : l.length ≤ 1000000) (hi : i < l.length) {k : Nat} (hk : k < l.length) (hne : i ≠ k) : Evt (fun q => common_Least.f q P (i : Int) (k : Int)) ((lc l (a i) (a k) : Int), 0) := by
  have hPl := hP.1
  have key : ∀ x y : Nat, x < y → y < l.length → ((x = i ∧ y = k) ∨ (x = k ∧ y = i)) → ∃ v : Int, Evt (fun q => common_Least.f q P (i : Int) (k : Int)) (v, 0) ∧ v = (lc l (a x) (a y) : Int) := fun x y hxy hy hx => by
    obtain ⟨v, ev, ⟨s, h1, h2, h3⟩, h4⟩ := least_val P (by omega) (a := i) (b := k) (by omega) (by omega) hne hx hxy
    refine ⟨v, ev, ?_⟩
    have hs : gt P s = (lc l (a (s - 1)) (a s) : Int) := hP.2.2 s (by omega) (by omega)
    have hv : v = ((lc l (a (s - 1)) (a s) : Nat) : Int) := by rw [h3, hs]
    have : lc l (a x) (a y) = lc l (a (s - 1)) (a s) := lc_eq fun N => by
      rw [h.row hP x y hxy hy N]
      constructor
      · intro hh
        have := hh s h1 h2
        omega
      · intro hN u h5 h6
        have := h4 u h5 h6
        omega
    rw [hv, this]
  rcases Nat.lt_or_gt_of_ne hne with c | c
  · obtain ⟨v, ev, e⟩ := key i k c hk (.inl ⟨rfl, rfl⟩)
    rwa [e] at ev
  · obtain ⟨v, ev, e⟩ := key k i c hi (.inr ⟨rfl, rfl⟩)
    have : lc l (a k) (a i) = lc l (a i) (a k) := lc_eq fun N => ⟨fun hc => cp_iff.1 hc.symm, fun hN => (cp_iff.2 hN).symm⟩
    rw [e, this] at ev
    exact ev
/-- The loop that finds out what two suffixes have in common. -/
theorem pre_loop (hn : l.length ≤ 1000000) {x y : Nat} (hx : x < l.length) (hy : y < l.length) {k : Nat} {len' : Int}
    (hend : Evt (fun q => pleatlaw17_CommonRows.j7 q l len' P (i : Int) (f : Int) (t : Int) (k : Int) (lc l x y : Int) A R z) true) :
    ∀ (d m : Nat), m + d = lc l x y → Evt (fun q => pleatlaw17_CommonRows.l2 q l len' P (i : Int) (f : Int) (t : Int) (k : Int) (x : Int) (y : Int) (m : Int) A R z) true
  | 0, m, e => by
    obtain rfl : m = lc l x y := by omega
    have hn9 : l.length ≤ 9000000 := by omega
    have hlen := (cp_lc (l := l) x y).len (Nat.le_of_lt hx)
    have hml : lc l x y ≤ l.length := by omega
    have w1 := wsumL (Nat.le_of_lt hx) hml hn9
    have w2 := wsumL (Nat.le_of_lt hy) hml hn9
    refine Evt.succ ?_
    by_cases c1 : x + lc l x y < l.length
    · have a1 : ((x + lc l x y : Nat) : Int) < (l.length : Int) := Int.ofNat_lt.2 c1
      by_cases c2 : y + lc l x y < l.length
      · have a2 : ((y + lc l x y : Nat) : Int) < (l.length : Int) := Int.ofNat_lt.2 c2
        have ne : ¬ gt l (x + lc l x y) = gt l (y + lc l x y) := fun g => by
          have : CP l x y (lc l x y + 1) := fun u hu => by
            by_cases cu : u = lc l x y
            · subst cu; exact ⟨c1, c2, g⟩
            · exact cp_lc x y u (by omega)
          have := cp_iff.1 this
          omega
        simp only [pleatlaw17_CommonRows.l2, w1, w2, a1, a2, if_true, nonneg, rd_gt, ne, if_false]
        exact hend
      · have a2 : ¬ ((y + lc l x y : Nat) : Int) < (l.length : Int) := fun hh => c2 (Int.ofNat_lt.1 hh)
        simp only [pleatlaw17_CommonRows.l2, w1, w2, a1, a2, if_true, if_false]
        exact hend
    · have a1 : ¬ ((x + lc l x y : Nat) : Int) < (l.length : Int) := fun hh => c1 (Int.ofNat_lt.1 hh)
      simp only [pleatlaw17_CommonRows.l2, w1, a1, if_false]
      exact hend
  | d + 1, m, e => by
    have hn9 : l.length ≤ 9000000 := by omega
    obtain ⟨b1, b2, g⟩ := cp_lc (l := l) x y m (by omega)
    have hml : m ≤ l.length := by omega
    have w1 := wsumL (Nat.le_of_lt hx) hml hn9
    have w2 := wsumL (Nat.le_of_lt hy) hml hn9
    have a1 : ((x + m : Nat) : Int) < (l.length : Int) := Int.ofNat_lt.2 b1
    have a2 : ((y + m : Nat) : Int) < (l.length : Int) := Int.ofNat_lt.2 b2
    refine Evt.succ ?_
    simp only [pleatlaw17_CommonRows.l2, w1, w2, a1, a2, if_true, nonneg, rd_gt, g, wrapL hml hn9]
    exact pre_loop hn hx hy hend d (m + 1) (by omega)
theorem j8_ev {k n : Nat} (hend : Evt (fun q => pleatlaw17_CommonRows.l1 q l (len : Int) P (i : Int) (f : Int) (t : Int) (wrap64 ((k : Int) + 1)) A R z) true) (hrow : (f ≤ k ∧ k < t) ↔ (len ≤ n ∨ i = k)) :
    Evt (fun q => pleatlaw17_CommonRows.j8 q l (len : Int) P (i : Int) (f : Int) (t : Int) (k : Int) (n : Int) false A R z) true := by
  refine Evt.succ ?_
  by_cases c1 : f ≤ k
  · have a1 : (k : Int) ≥ (f : Int) := by omega
    by_cases c2 : len ≤ n
    · have a2 : (n : Int) ≥ (len : Int) := by omega
      have c3 : (decide ((k : Int) < (t : Int)) != true) = false := by
        have := (hrow.2 (.inl c2)).2
        rw [decide_eq_true (by omega)]; rfl
      simp only [pleatlaw17_CommonRows.j8, Bool.false_eq_true, if_false, a1, a2, if_true, c3]
      exact hend
    · have a2 : ¬ (n : Int) ≥ (len : Int) := by omega
      have c3 : (decide ((k : Int) < (t : Int)) != ((i : Int) == (k : Int))) = false := by
        by_cases e : i = k
        · have := (hrow.2 (.inr e)).2
          subst e
          rw [decide_eq_true (by omega)]; simp
        · have : ¬ k < t := fun hh => by
            rcases hrow.1 ⟨c1, hh⟩ with h1 | h1
            · exact c2 h1
            · exact e h1
          rw [decide_eq_false (by omega)]
          have : ((i : Int) == (k : Int)) = false := by simp; omega
          rw [this]; rfl
      simp only [pleatlaw17_CommonRows.j8, Bool.false_eq_true, if_false, a1, a2, if_true, c3]
      exact hend
  · have a1 : ¬ (k : Int) ≥ (f : Int) := by omega
    have c2 : ¬ len ≤ n := fun hh => c1 (hrow.2 (.inl hh)).1
    have c3 : ¬ i = k := fun hh => c1 (hrow.2 (.inr hh)).1
    have a2 : ¬ (n : Int) ≥ (len : Int) := by omega
    have c4 : (false != ((i : Int) == (k : Int))) = false := by
      have : ((i : Int) == (k : Int)) = false := by simp; omega
      rw [this]; rfl
    simp only [pleatlaw17_CommonRows.j8, Bool.false_eq_true, if_false, a1, a2, c4]
    exact hend
theorem inner_loop (h : SA l M A R a r) (hP : IsP l a P) (hn : l.length ≤ 1000000) (hi : i < l.length) (hrow : ∀ k, k < l.length → k ≠ i → ((f ≤ k ∧ k < t) ↔ len ≤ lc l (a i) (a k))) (hself : f ≤ i ∧ i < t)
    (hend : Evt (fun q => pleatlaw17_CommonRows.l0 q l (len : Int) P ((i + 1 : Nat) : Int) A R z) true) :
    ∀ (d k : Nat), k + d = l.length → Evt (fun q => pleatlaw17_CommonRows.l1 q l (len : Int) P (i : Int) (f : Int) (t : Int) (k : Int) A R z) true
  | 0, k, e => by
    obtain rfl : k = l.length := by omega
    have hn9 : l.length ≤ 9000000 := by omega
    refine Evt.succ ?_
    simp only [pleatlaw17_CommonRows.l1, Int.lt_irrefl, if_false, wrapL (Nat.le_of_lt hi) hn9]
    exact hend
  | d + 1, k, e => by
    have hk : k < l.length := by omega
    have hn9 : l.length ≤ 9000000 := by omega
    have hA := h.lenA
    have hPl := hP.1
    have h1 : (k : Int) < (l.length : Int) := Int.ofNat_lt.2 hk
    have h2 : (i : Int) < (A.length : Int) := by omega
    have h3 : (k : Int) < (A.length : Int) := by omega
    have hai := h.alt i hi
    have hak := h.alt k hk
    have g1 : ¬ (a i : Int) < 0 := by omega
    have g2 : ¬ (a i : Int) ≥ (l.length : Int) := by omega
    have g3 : ¬ (a k : Int) < 0 := by omega
    have g4 : decide ((a k : Int) ≥ (l.length : Int)) = false := decide_eq_false (by omega)
    have ih := inner_loop h hP hn hi hrow hself hend d (k + 1) (by omega)
    rw [← wrapL (Nat.le_of_lt hk) hn9] at ih
    refine Evt.succ (Evt.succ ?_)
    simp only [pleatlaw17_CommonRows.l1, h1, h2, h3, nonneg, if_true, rd_gt, h.A_ i hi, h.A_ k hk, g1, g2, g3, g4, if_false, pleatlaw17_CommonRows.j5, Bool.false_eq_true]
    refine pre_loop hn hai hak ?_ (lc l (a i) (a k)) 0 (by omega)
    refine Evt.succ ?_
    simp only [pleatlaw17_CommonRows.j7, copy_ev P (by omega), Option.bind_some]
    by_cases c : i = k
    · subst c
      refine Evt.bind (least_same P (by omega)) ?_
      have hb : ((-1 : Int) != (-1)) = false := by decide
      simp only [if_true, hb]
      exact j8_ev ih ⟨fun _ => .inr rfl, fun _ => hself⟩
    · have hne : ¬ (i : Int) = (k : Int) := by omega
      refine Evt.bind (least_lc h hP hn hi hk c) ?_
      simp only [if_true, hne, if_false]
      exact j8_ev ih ((hrow k hk (fun e => c e.symm)).trans ⟨fun hh => .inl hh, fun hh => hh.resolve_right c⟩)
theorem outer_loop (h : SA l M A R a r) (hP : IsP l a P) (hn : l.length ≤ 1000000) : ∀ (d i : Nat), i + d = l.length → Evt (fun q => pleatlaw17_CommonRows.l0 q l (len : Int) P (i : Int) A R z) true
  | 0, i, e => by
    obtain rfl : i = l.length := by omega
    refine Evt.succ ?_
    simp only [pleatlaw17_CommonRows.l0, Int.lt_irrefl, if_false]
    exact Evt.bind lives_true Evt.pure
  | d + 1, i, e => by
    have hi : i < l.length := by omega
    have hPl := hP.1
    have h1 : (i : Int) < (l.length : Int) := Int.ofNat_lt.2 hi
    obtain ⟨f, ef, hf1, hf2, hf3⟩ := down_ok P (len : Int) i (by omega) P.length (by omega)
    obtain ⟨t, et, ht1, ht2, ht3, ht4⟩ := up_ok P (len : Int) (P.length - (i + 1)) (i + 1) (by omega) (by omega) P.length (by omega)
    have hg : common_Group.f P (i : Int) (len : Int) = some ((f : Int), (t : Int), 0) := by
      unfold common_Group.f
      rw [if_neg (by omega), if_neg (by omega), ef, show (i : Int) + 1 = ((i + 1 : Nat) : Int) by omega, et]
    have c1 : ¬ (f : Int) > (i : Int) := by omega
    have c2 : decide ((t : Int) ≤ (i : Int)) = false := decide_eq_false (by omega)
    refine Evt.succ (Evt.succ ?_)
    simp only [pleatlaw17_CommonRows.l0, h1, if_true, copy_ev P (by omega), Option.bind_some, hg, c1, if_false, c2, pleatlaw17_CommonRows.j3, Bool.false_eq_true]
    exact inner_loop h hP hn hi (fun k hk hne => row_iff h hP hi hf1 hf2 hf3 ht1 (by omega) ht3 (by omega) hk hne) ⟨hf1, by omega⟩ (outer_loop h hP hn d (i + 1) (by omega)) l.length 0 (by omega)
end
theorem cost_small {n b z c : Nat} (hn : n ≤ 60) (hb : b ≤ 6) (hb1 : 0 < n → 1 ≤ b) (hz : z ≤ 6 * n * (b + 1) * (b + 1)) (hc : c ≤ 4 * n) : z + c ≤ 8 * n * (b + 1) * (b + 1) ∧ 8 * n * (b + 1) * (b + 1) ≤ 1000000 := by
  obtain ⟨q, hq⟩ : ∃ q, q = n * (b + 1) * (b + 1) := ⟨_, rfl⟩
  have e1 : 6 * n * (b + 1) * (b + 1) = 6 * q := by rw [hq]; simp only [Nat.mul_assoc]
  have e2 : 8 * n * (b + 1) * (b + 1) = 8 * q := by rw [hq]; simp only [Nat.mul_assoc]
  have e3 : 4 * n ≤ 2 * q + 2 * q := by
    by_cases c0 : n = 0
    · subst c0; omega
    · have h1 : n * 2 ≤ n * (b + 1) := Nat.mul_le_mul_left n (by have := hb1 (by omega); omega)
      have h2 : n * (b + 1) * 1 ≤ n * (b + 1) * (b + 1) := Nat.mul_le_mul_left _ (by omega)
      have h3 : n * (b + 1) * 2 ≤ n * (b + 1) * (b + 1) := Nat.mul_le_mul_left _ (by have := hb1 (by omega); omega)
      omega
  have e3' : 4 * n ≤ 2 * q := by
    by_cases c0 : n = 0
    · subst c0; omega
    · have h1 : n * 2 ≤ n * (b + 1) := Nat.mul_le_mul_left n (by have := hb1 (by omega); omega)
      have h3 : n * (b + 1) * 2 ≤ n * (b + 1) * (b + 1) := Nat.mul_le_mul_left _ (by have := hb1 (by omega); omega)
      omega
  have e4 : q ≤ 60 * 7 * 7 := by
    rw [hq]
    exact Nat.mul_le_mul (Nat.mul_le_mul hn (by omega)) (by omega)
  omega
theorem over_false {n b z c : Nat} {C : Int} (hn : n ≤ 60) (hb : b ≤ 6) (hb1 : 0 < n → 1 ≤ b) (hz : z ≤ 6 * n * (b + 1) * (b + 1)) (hc : c ≤ 4 * n) (hC : C = mx (c : Int) (wrap64 ((n : Int) - 1))) :
    decide ((wrap64 (wrap64 (z : Int) + C)) > (wrap64 ((wrap64 ((wrap64 (8 * (n : Int))) * (wrap64 (((b : Nat) : Int) + 1)))) * (wrap64 (((b : Nat) : Int) + 1))))) = false := by
  obtain ⟨c', hc', e⟩ : ∃ c' : Nat, c' ≤ 4 * n ∧ C = (c' : Int) := by
    rw [hC]
    cases n with
    | zero => exact ⟨0, by omega, by obtain rfl : c = 0 := by omega
                                     rw [wrapm0]; rfl⟩
    | succ n =>
      rw [wrapm (n := n) (Nat.le_refl _) (by omega)]
      unfold mx
      split
      · exact ⟨n, by omega, rfl⟩
      · exact ⟨c, hc, rfl⟩
  obtain ⟨h1, h2⟩ := cost_small hn hb hb1 hz hc'
  rw [e]
  have w1 : wrap64 (8 * (n : Int)) = ((8 * n : Nat) : Int) := by clear hz h1 h2; unfold wrap64; omega
  have w2 : wrap64 ((b : Int) + 1) = ((b + 1 : Nat) : Int) := by clear hz h1 h2; unfold wrap64; omega
  have h3 : 8 * n * (b + 1) ≤ 1000000 := Nat.le_trans (Nat.le_mul_of_pos_right _ (Nat.succ_pos b)) h2
  rw [w1, w2, ← Int.natCast_mul]
  have w3 : ∀ x : Nat, x ≤ 1000000 → wrap64 (x : Int) = (x : Int) := fun x hx => by unfold wrap64; omega
  rw [w3 _ h3, ← Int.natCast_mul, w3 _ h2, w3 z (by omega), ← Int.natCast_add, w3 _ (by omega)]
  exact decide_eq_false (by omega)
theorem CommonRows : St.CommonRows := by
  intro l len hl hlen
  refine Evt.out (g := fun q => pleatlaw17_CommonRows.f q l len) ?_
  have alive : Evt (fun q => pleatlaw17_CommonRows.j0 q l len true) true := by
    refine Evt.succ ?_
    simp only [pleatlaw17_CommonRows.j0, if_true]
    exact Evt.bind lives_true Evt.pure
  by_cases c1 : (l.length : Int) > 60
  · simp only [pleatlaw17_CommonRows.f, c1, if_true]; exact alive
  by_cases c2 : len < 0
  · simp only [pleatlaw17_CommonRows.f, c1, c2, if_true, if_false]; exact alive
  by_cases c3 : len > 61
  · simp only [pleatlaw17_CommonRows.f, c1, c2, c3, if_false, decide_true]; exact alive
  simp only [pleatlaw17_CommonRows.f, c1, c2, c3, if_false, decide_false]
  obtain ⟨n, rfl⟩ : ∃ n : Nat, len = (n : Int) := ⟨len.toNat, by omega⟩
  have hn : l.length ≤ 60 := by omega
  obtain ⟨A, R, z, M, a, r, ho, h, hz1, hz2⟩ := of_ok l (by omega)
  obtain ⟨P, c, hc, hP, ev⟩ := prefixes_ev h (by omega) ho
  have hb := bits_up 6 l.length (by omega)
  have hb1 : 0 < l.length → 1 ≤ Suf.bits l.length := fun h0 => by rw [bits_pos h0]; omega
  have hbits : Evt (fun q => pleatref16_Bits.f q (l.length : Int)) ((Suf.bits l.length : Nat) : Int) := by
    have := bits_loop 6 l.length 0 (by omega) (by omega) (by omega)
    rw [Nat.zero_add] at this
    exact this
  have hov := over_false (C := mx (c : Int) (wrap64 ((l.length : Int) - 1))) hn hb hb1 hz2 hc rfl
  have hA := h.lenA
  have hPl := hP.1
  refine Evt.succ ?_
  simp only [pleatlaw17_CommonRows.j0, Bool.false_eq_true, if_false, copy_ev l (by omega), Option.bind_some, ho, copy_ev A (by omega)]
  refine Evt.bind ev (Evt.bind hbits ?_)
  simp only [if_true, hPl, hA, hov]
  refine Evt.succ ?_
  simp only [pleatlaw17_CommonRows.j1, Bool.false_eq_true, if_false]
  exact outer_loop h hP (by omega) l.length 0 (by omega)
end Go.Proofs.Ythkiapcoagjjpaa.Pure
