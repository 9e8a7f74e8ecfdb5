/- The law of two suffixes and of the bound, over numbers and lists. -/
import Derived.Test.YthkiapcoagjjpaaStSuffixTells
import Derived.Test.YthkiapcoagjjpaaEv
namespace Go.Proofs.Ythkiapcoagjjpaa.Pure
open Go.RowKit Go.Proofs.YthkiapcoagjjpaaW.PrintWords Go.Proofs.YthkiapcoagjjpaaW.PrintLast Go.Proofs.YthkiapcoagjjpaaW.PrintMore Go.Proofs.Ythkiapcoagjjpaa.PSuffixTells Go.Proofs.Ythkiapcoagjjpaa.Ev Go.Proofs.Ythkiapcoagjjpaa.Suf
set_option linter.unusedVariables false
set_option linter.unusedSimpArgs false
theorem nonneg (i : Nat) : (0 : Int) ≤ (i : Int) := Int.natCast_nonneg i
theorem eqInts_loop (l : List Int) (hl : l.length ≤ 1000000) : ∀ (d i : Nat), i + d = l.length → Evt (fun k => pleatref00_EqInts.l0 k l l (i : Int)) true
  | 0, i, h => by
    obtain rfl : i = l.length := by omega
    refine Evt.succ ?_
    simp only [pleatref00_EqInts.l0, Int.lt_irrefl, if_false]
    exact Evt.pure
  | d + 1, i, h => by
    refine Evt.succ ?_
    have h1 : (i : Int) < (l.length : Int) := by omega
    simp only [pleatref00_EqInts.l0, h1, nonneg, if_true, wrap1 i (by omega)]
    exact eqInts_loop l hl d (i + 1) (by omega)
theorem eqInts (l : List Int) (hl : l.length ≤ 1000000) : Evt (fun k => pleatref00_EqInts.f k l l) true := by
  simp only [pleatref00_EqInts.f, if_true]
  exact eqInts_loop l hl l.length 0 (by omega)
theorem lives_true : Evt (fun q => pleatlaw16_lives.f q) true := Evt.of_mono pleatlaw16_lives.mono 60 (by decide +kernel)
theorem cmp_int (x y : Int) : cmp_Compare_int.f x y = some (if x < y then -1 else if x > y then 1 else 0) := by
  unfold cmp_Compare_int.f cmp_isNaN_int.f
  simp only [bne_self_eq_false, Option.bind_some, Bool.false_eq_true, if_false]
  split
  · rfl
  · split <;> rfl
theorem rd_drop (l : List Int) (i j : Nat) : rd (l.drop i) (j : Int) = rd l ((i + j : Nat) : Int) := by
  rw [rd_nat, rd_nat]
  simp [List.getD_eq_getElem?_getD]
theorem two_loops (l : List Int) (hl : l.length ≤ 1000000) (i k : Nat) (hi : i < l.length) (hk : k < l.length) : ∀ (d j : Nat), i + j + d = l.length → k + j ≤ l.length →
    ∃ (b : Bool) (r : Int), Evt (fun q => slices_Compare_int_int.l0 q (l.drop i) (l.drop k) (l.drop i) ((l.drop i).length : Int) (j : Int)) r ∧ Evt (fun q => pleatref16_Less.l0 q l ((i + j : Nat) : Int) ((k + j : Nat) : Int)) b ∧ (b = true → r = -1) ∧ (b = false → r = if i = k then 0 else 1) ∧ (i = k → b = false)
  | 0, j, h, h2 => by
    refine ⟨decide (k + j < l.length), if k < i then -1 else 0, ?_, ?_, ?_, ?_, ?_⟩
    · refine Evt.succ ?_
      have h1 : ¬ (j : Int) < ((l.drop i).length : Int) := by rw [List.length_drop]; omega
      simp only [slices_Compare_int_int.l0, h1, if_false]
      by_cases c : k < i
      · have h3 : ((l.drop i).length : Int) < ((l.drop k).length : Int) := by rw [List.length_drop, List.length_drop]; omega
        simp only [h3, c, if_true]
        exact Evt.pure
      · have h3 : ¬ ((l.drop i).length : Int) < ((l.drop k).length : Int) := by rw [List.length_drop, List.length_drop]; omega
        simp only [h3, c, if_false]
        exact Evt.pure
    · refine Evt.succ (Evt.succ ?_)
      have h1 : ¬ ((i + j : Nat) : Int) < (l.length : Int) := by omega
      have h4 : ((i + j : Nat) : Int) = (l.length : Int) := by omega
      have h5 : decide (((k + j : Nat) : Int) < (l.length : Int)) = decide (k + j < l.length) := by congr 1; exact propext ⟨fun h => by omega, fun h => by omega⟩
      simp only [pleatref16_Less.l0, h4, Int.lt_irrefl, if_false, pleatref16_Less.j1, Bool.false_eq_true, if_true, h5]
      exact Evt.pure
    · intro hb
      have := of_decide_eq_true hb
      rw [if_pos (by omega)]
    · intro hb
      have := of_decide_eq_false hb
      rw [if_neg (by omega), if_pos (by omega)]
    · intro e
      exact decide_eq_false (by omega)
  | d + 1, j, h, h2 => by
    have a1 : (j : Int) < ((l.drop i).length : Int) := by rw [List.length_drop]; omega
    have a2 : ((i + j : Nat) : Int) < (l.length : Int) := by omega
    by_cases c : k + j = l.length
    · refine ⟨false, 1, ?_, ?_, (fun h => by cases h), (fun _ => by rw [if_neg (by omega)]), fun _ => rfl⟩
      · refine Evt.succ ?_
        have a3 : (j : Int) ≥ ((l.drop k).length : Int) := by rw [List.length_drop]; omega
        simp only [slices_Compare_int_int.l0, a1, a3, nonneg, if_true]
        exact Evt.pure
      · refine Evt.succ (Evt.succ ?_)
        have a3 : decide (((k + j : Nat) : Int) < (l.length : Int)) = false := decide_eq_false (by omega)
        have a4 : ¬ ((i + j : Nat) : Int) = (l.length : Int) := by omega
        simp only [pleatref16_Less.l0, a2, if_true, pleatref16_Less.j1, a3, Bool.false_eq_true, if_false, a4]
        exact Evt.pure
    · have a3 : ¬ (j : Int) ≥ ((l.drop k).length : Int) := by rw [List.length_drop]; omega
      have a3' : (j : Int) < ((l.drop k).length : Int) := by rw [List.length_drop]; omega
      have a4 : ((k + j : Nat) : Int) < (l.length : Int) := by omega
      have a5 : decide (((k + j : Nat) : Int) < (l.length : Int)) = true := decide_eq_true a4
      by_cases e : rd l ((i + j : Nat) : Int) = rd l ((k + j : Nat) : Int)
      · obtain ⟨b, r, h3, h4, h5⟩ := two_loops l hl i k hi hk d (j + 1) (by omega) (by omega)
        refine ⟨b, r, ?_, ?_, h5⟩
        · refine Evt.succ ?_
          simp only [slices_Compare_int_int.l0, a1, a3, a3', nonneg, if_true, if_false, cmp_int, rd_drop, e, Int.lt_irrefl, gt_iff_lt, Option.bind_some, wrap1 j (by omega)]
          exact h3
        · refine Evt.succ (Evt.succ ?_)
          simp only [pleatref16_Less.l0, a2, if_true, pleatref16_Less.j1, a5, nonneg, a4, e, wrap1 (i + j) (by omega), wrap1 (k + j) (by omega)]
          exact h4
      · by_cases lt : rd l ((i + j : Nat) : Int) < rd l ((k + j : Nat) : Int)
        · refine ⟨true, -1, ?_, ?_, fun _ => rfl, (fun h => by cases h), (fun h => absurd (by rw [h]) e)⟩
          · refine Evt.succ ?_
            simp only [slices_Compare_int_int.l0, a1, a3, a3', nonneg, if_true, if_false, cmp_int, rd_drop, lt, Option.bind_some]
            exact Evt.pure
          · refine Evt.succ (Evt.succ ?_)
            simp only [pleatref16_Less.l0, a2, if_true, pleatref16_Less.j1, a5, nonneg, a4, e, if_false, lt, decide_true]
            exact Evt.pure
        · have gt : rd l ((k + j : Nat) : Int) < rd l ((i + j : Nat) : Int) := by omega
          refine ⟨false, 1, ?_, ?_, (fun h => by cases h), (fun _ => by rw [if_neg (fun h => e (by rw [h]))]), fun _ => rfl⟩
          · refine Evt.succ ?_
            simp only [slices_Compare_int_int.l0, a1, a3, a3', nonneg, if_true, if_false, cmp_int, rd_drop, lt, gt_iff_lt, gt, Option.bind_some]
            exact Evt.pure
          · refine Evt.succ (Evt.succ ?_)
            simp only [pleatref16_Less.l0, a2, if_true, pleatref16_Less.j1, a5, nonneg, a4, e, if_false, lt, decide_false]
            exact Evt.pure
theorem compare_ev (l : List Int) (hl : l.length ≤ 1000000) (i k : Int) : ∃ r : Int, Evt (fun q => suffix_Compare.f q l i k) r ∧ Evt (fun q => pleatref16_Compare.f q l i k) r := by
  by_cases c1 : i < 0
  · refine ⟨0, ?_, ?_⟩
    · simp only [suffix_Compare.f, c1, if_true]; exact Evt.pure
    · refine Evt.succ ?_
      simp only [pleatref16_Compare.f, c1, if_true, pleatref16_Compare.j0]; exact Evt.pure
  by_cases c2 : k < 0
  · refine ⟨0, ?_, ?_⟩
    · simp only [suffix_Compare.f, c1, c2, if_true, if_false]; exact Evt.pure
    · refine Evt.succ ?_
      simp only [pleatref16_Compare.f, c1, c2, if_true, if_false, pleatref16_Compare.j0]; exact Evt.pure
  by_cases c3 : i ≥ (l.length : Int)
  · refine ⟨0, ?_, ?_⟩
    · simp only [suffix_Compare.f, c1, c2, c3, if_true, if_false]; exact Evt.pure
    · refine Evt.succ ?_
      simp only [pleatref16_Compare.f, c1, c2, c3, if_true, if_false, pleatref16_Compare.j0]; exact Evt.pure
  by_cases c4 : k ≥ (l.length : Int)
  · refine ⟨0, ?_, ?_⟩
    · simp only [suffix_Compare.f, c1, c2, c3, c4, if_true, if_false]; exact Evt.pure
    · refine Evt.succ ?_
      simp only [pleatref16_Compare.f, c1, c2, c3, c4, if_true, if_false, pleatref16_Compare.j0]; exact Evt.pure
  obtain ⟨a, rfl⟩ : ∃ a : Nat, i = (a : Int) := ⟨i.toNat, by omega⟩
  obtain ⟨b, rfl⟩ : ∃ b : Nat, k = (b : Int) := ⟨k.toNat, by omega⟩
  have h0 : (a : Int) ≤ (l.length : Int) := by omega
  have h1 : (b : Int) ≤ (l.length : Int) := by omega
  obtain ⟨t, r, e1, e2, p1, p2, p3⟩ := two_loops l hl a b (by omega) (by omega) (l.length - a) 0 (by omega) (by omega)
  refine ⟨r, ?_, ?_⟩
  · simp only [suffix_Compare.f, c1, c2, c3, c4, if_false, nonneg, if_true, h0, h1, Int.toNat_natCast, slices_Compare_int_int.f]
    exact e1
  · refine Evt.succ ?_
    simp only [pleatref16_Compare.f, c1, c2, c3, c4, if_false, pleatref16_Compare.j0]
    by_cases e : a = b
    · subst e
      simp only [beq_self_eq_true, if_true]
      rw [p2 (p3 rfl), if_pos rfl]
      exact Evt.pure
    · have e3 : ((a : Int) == (b : Int)) = false := by simp; omega
      simp only [e3, Bool.false_eq_true, if_false, pleatref16_Less.f]
      have e2' : Evt (fun q => pleatref16_Less.l0 (q + 1) l (a : Int) (b : Int)) t := by
        obtain ⟨K, hK⟩ := e2
        exact ⟨K, fun q hq => hK (q + 1) (by omega)⟩
      obtain ⟨K, hK⟩ := e2
      refine ⟨K, fun q hq => ?_⟩
      have := hK q hq
      simp only [Nat.add_zero] at this
      show (pleatref16_Less.l0 q l (a : Int) (b : Int)).bind _ = _
      rw [this]
      cases t with
      | true => rw [p1 rfl]; rfl
      | false => rw [p2 rfl, if_neg e]; rfl
theorem bits_loop : ∀ (m n c : Nat), n < 2 ^ m → m ≤ 40 → c + m ≤ 100 → Evt (fun q => pleatref16_Bits.l0 q (n : Int) (c : Int)) ((c + Suf.bits n : Nat) : Int)
  | 0, n, c, h, hm, hc => by
    obtain rfl : n = 0 := by omega
    refine Evt.succ ?_
    have h0 : ¬ ((0 : Nat) : Int) > 0 := by omega
    simp only [pleatref16_Bits.l0, h0, if_false, bits_zero, Nat.add_zero]
    exact Evt.pure
  | m + 1, n, c, h, hm, hc => by
    by_cases c0 : n = 0
    · subst c0
      refine Evt.succ ?_
      have h0 : ¬ ((0 : Nat) : Int) > 0 := by omega
      simp only [pleatref16_Bits.l0, h0, if_false, bits_zero, Nat.add_zero]
      exact Evt.pure
    · refine Evt.succ ?_
      have h0 : (n : Int) > 0 := by omega
      have hp : 2 ^ (m + 1) ≤ 2 ^ 40 := Nat.pow_le_pow_right (by omega) hm
      have h9 : (2 : Nat) ^ 40 = 1099511627776 := by decide
      have h1 : wrap64 (Int.tdiv (n : Int) 2) = ((n / 2 : Nat) : Int) := by
        rw [Int.tdiv_eq_ediv_of_nonneg (by omega)]; unfold wrap64; omega
      simp only [pleatref16_Bits.l0, h0, if_true, h1, wrap1 c (by omega)]
      have := bits_loop m (n / 2) (c + 1) (by rw [Nat.pow_succ] at h; omega) (by omega) (by omega)
      rw [bits_pos (by omega)]
      have e : c + 1 + Suf.bits (n / 2) = c + (Suf.bits (n / 2) + 1) := by omega
      rw [e] at this
      exact this
theorem most_ev (n : Int) : ∃ r : Int, suffix_Most.f n = some r ∧ Evt (fun q => pleatref16_Most.f q n) r := by
  unfold suffix_Most.f pleatref16_Most.f
  by_cases c1 : n < 1
  · exact ⟨0, by rw [if_pos c1], by simp only [c1, if_true]; exact Evt.pure⟩
  by_cases c2 : n > 16384
  · exact ⟨0, by rw [if_neg c1, if_pos c2], by simp only [c1, c2, if_true, if_false]; exact Evt.pure⟩
  obtain ⟨a, rfl⟩ : ∃ a : Nat, n = (a : Int) := ⟨n.toNat, by omega⟩
  have h1 : IntKind.u64.wrap (a : Int) = (a : Int) := by
    show (a : Int) % 18446744073709551616 = _
    omega
  have h2 : bits_Len.f (a : Int) = some ((Suf.bits a : Nat) : Int) := by
    unfold bits_Len.f
    rw [if_pos ⟨by omega, by omega⟩, Int.toNat_natCast, blenF_eq 16 a (by omega)]
  refine ⟨_, by rw [if_neg c1, if_neg c2, h1, h2]; rfl, ?_⟩
  simp only [c1, c2, if_false]
  have := bits_loop 15 a 0 (by omega) (by omega) (by omega)
  rw [Nat.zero_add] at this
  exact Evt.bind this Evt.pure
theorem SuffixTells : St.SuffixTells := by
  intro l i k n hl hi hk hn
  refine Evt.out (g := fun q => pleatlaw16_SuffixTells.f q l i k n) ?_
  unfold pleatlaw16_SuffixTells.f
  by_cases c : 65536 < l.length
  · simp only [c, if_true]
    exact lives_true
  · simp only [c, if_false]
    obtain ⟨r, e1, e2⟩ := compare_ev l (by omega) i k
    obtain ⟨m, e3, e4⟩ := most_ev n
    refine Evt.bind e1 (Evt.bind e2 (Evt.bind (Evt.const e3) (Evt.bind e4 (Evt.bind (eqInts l (by omega)) ?_))))
    simp only [and_self, if_true]
    exact lives_true
end Go.Proofs.Ythkiapcoagjjpaa.Pure
