/- The law of the least between two places and of the row around one, over numbers and lists. -/
import Derived.Test.YthkiapcoagjjpaaStCommonTells
import Derived.Test.YthkiapcoagjjpaaEv
namespace Go.Proofs.Ythkiapcoagjjpaa.Pure
open Go.RowKit Go.Proofs.YthkiapcoagjjpaaW.PrintWords Go.Proofs.YthkiapcoagjjpaaW.PrintLast Go.Proofs.YthkiapcoagjjpaaW.PrintMore Go.Proofs.Ythkiapcoagjjpaa.PCommonTells Go.Proofs.Ythkiapcoagjjpaa.Ev
set_option linter.unusedVariables false
set_option linter.unusedSimpArgs false
theorem nonneg (i : Nat) : (0 : Int) ≤ (i : Int) := Int.natCast_nonneg i
theorem eqInts_loop (l : List Int) (hl : l.length ≤ 1000000) : ∀ (d i : Nat), i + d = l.length → Evt (fun k => pleatref00_EqInts.l0 k l l (i : Int)) true
  | 0, i, h => by
    obtain rfl : i = l.length := by omega
    refine Evt.succ ?_
    simp only [pleatref00_EqInts.l0, Int.lt_irrefl, if_false]
    exact Evt.pure
  | d + 1, i, h => by
    refine Evt.succ ?_
    have h1 : (i : Int) < (l.length : Int) := by omega
    simp only [pleatref00_EqInts.l0, h1, nonneg, if_true, wrap1 i (by omega)]
    exact eqInts_loop l hl d (i + 1) (by omega)
theorem eqInts (l : List Int) (hl : l.length ≤ 1000000) : Evt (fun k => pleatref00_EqInts.f k l l) true := by
  simp only [pleatref00_EqInts.f, if_true]
  exact eqInts_loop l hl l.length 0 (by omega)
theorem lives_true : Evt (fun q => pleatlaw17_lives.f q) true := Evt.of_mono pleatlaw17_lives.mono 60 (by decide +kernel)
/-! ### the least -/
theorem minF_ok (l : List Int) : ∀ n : Nat, (∃ j : Nat, j ≤ n ∧ minF l (n + 1) = rd l (j : Int)) ∧ ∀ j : Nat, j ≤ n → minF l (n + 1) ≤ rd l (j : Int)
  | 0 => ⟨⟨0, Nat.le_refl _, rfl⟩, fun j hj => by obtain rfl : j = 0 := by omega
                                                  exact Int.le_refl _⟩
  | n + 1 => by
    obtain ⟨⟨j, hj, e⟩, h⟩ := minF_ok l n
    rw [minF_succ l (i := n + 1) (by omega)]
    by_cases c : rd l ((n + 1 : Nat) : Int) < minF l (n + 1)
    · rw [if_pos c]
      refine ⟨⟨n + 1, Nat.le_refl _, rfl⟩, fun i hi => ?_⟩
      by_cases c2 : i = n + 1
      · subst c2; exact Int.le_refl _
      · have := h i (by omega); omega
    · rw [if_neg c]
      refine ⟨⟨j, by omega, e⟩, fun i hi => ?_⟩
      by_cases c2 : i = n + 1
      · subst c2; omega
      · exact h i (by omega)
theorem rd_cut (l : List Int) {a b j : Nat} (h : a + j < b) : rd ((l.take b).drop a) (j : Int) = rd l ((a + j : Nat) : Int) := by
  rw [rd_nat, rd_nat]
  simp [List.getD_eq_getElem?_getD, List.getElem?_drop, List.getElem?_take, h]
theorem wrapS1 {n j : Nat} (hj : j ≤ n) (hn : n ≤ 1000000) : wrap64 ((j : Int) + 1) = ((j + 1 : Nat) : Int) := wrap1 j (Nat.lt_of_le_of_lt (Nat.le_trans hj hn) (by decide))
theorem ref_least_loop (l : List Int) (hl : l.length ≤ 1000000) (i k : Int) (lo hi : Nat) (hm : mx i k = (hi : Int)) (hh : hi < l.length) : ∀ (d j : Nat) (x : Int), j + d = hi → ∃ v : Int, Evt (fun q => pleatref17_Least.l0 q l i k x (j : Int)) (v, 0) ∧ (v = x ∨ ∃ t : Nat, j ≤ t ∧ t < hi ∧ v = rd l (t : Int)) ∧ v ≤ x ∧ ∀ t : Nat, j ≤ t → t < hi → v ≤ rd l (t : Int)
  | 0, j, x, h => by
    obtain rfl : j = hi := by omega
    refine ⟨x, ?_, .inl rfl, Int.le_refl _, fun t h1 h2 => by omega⟩
    refine Evt.succ ?_
    simp only [pleatref17_Least.l0, hm, Int.lt_irrefl, if_false]
    exact Evt.pure
  | d + 1, j, x, h => by
    have hj : j ≤ l.length := by omega
    have h1 : (j : Int) < (hi : Int) := by omega
    have h2 : (j : Int) < (l.length : Int) := by omega
    obtain ⟨v, e, p1, p2, p3⟩ := ref_least_loop l hl i k lo hi hm hh d (j + 1) (mn x (rd l (j : Int))) (by omega)
    have hmn : mn x (rd l (j : Int)) ≤ x ∧ mn x (rd l (j : Int)) ≤ rd l (j : Int) ∧ (mn x (rd l (j : Int)) = x ∨ mn x (rd l (j : Int)) = rd l (j : Int)) := by
      unfold mn; split <;> refine ⟨?_, ?_, ?_⟩ <;> omega
    refine ⟨v, ?_, ?_, by omega, fun t h3 h4 => ?_⟩
    · refine Evt.succ ?_
      simp only [pleatref17_Least.l0, hm, h1, h2, nonneg, if_true, wrapS1 hj hl]
      exact e
    · rcases p1 with p1 | ⟨t, a, b, c⟩
      · rcases hmn.2.2 with q | q
        · exact .inl (by omega)
        · exact .inr ⟨j, Nat.le_refl _, by omega, by omega⟩
      · exact .inr ⟨t, by omega, b, c⟩
    · by_cases c : t = j
      · subst c; omega
      · exact p3 t (by omega) h4
theorem mn_mx (a b : Nat) (h : a ≠ b) : ∃ lo hi : Nat, mn (a : Int) (b : Int) = (lo : Int) ∧ mx (a : Int) (b : Int) = (hi : Int) ∧ lo < hi ∧ (hi = a ∨ hi = b) := by
  by_cases c : a < b
  · exact ⟨a, b, by unfold mn; split <;> omega, by unfold mx; split <;> omega, c, .inr rfl⟩
  · exact ⟨b, a, by unfold mn; split <;> omega, by unfold mx; split <;> omega, by omega, .inl rfl⟩
theorem least_ev (l : List Int) (hl : l.length ≤ 1000000) (i k : Int) : ∃ r : Int × Int, Evt (fun q => common_Least.f q l i k) r ∧ Evt (fun q => pleatref17_Least.f q l i k) r := by
  have err : Evt (fun q => common_Least.j0 q l i k true) (0, 1) ∧ Evt (fun q => pleatref17_Least.j0 q l i k true) (0, 1) := by
    refine ⟨Evt.succ ?_, Evt.succ ?_⟩
    · simp only [common_Least.j0, if_true]; exact Evt.pure
    · simp only [pleatref17_Least.j0, if_true]; exact Evt.pure
  by_cases c1 : i < 0
  · exact ⟨_, by simp only [common_Least.f, c1, if_true]; exact err.1, by simp only [pleatref17_Least.f, c1, if_true]; exact err.2⟩
  by_cases c2 : k < 0
  · exact ⟨_, by simp only [common_Least.f, c1, c2, if_true, if_false]; exact err.1, by simp only [pleatref17_Least.f, c1, c2, if_true, if_false]; exact err.2⟩
  by_cases c3 : i ≥ (l.length : Int)
  · exact ⟨_, by simp only [common_Least.f, c1, c2, c3, if_true, if_false]; exact err.1, by simp only [pleatref17_Least.f, c1, c2, c3, if_true, if_false]; exact err.2⟩
  by_cases c4 : k ≥ (l.length : Int)
  · exact ⟨_, by simp only [common_Least.f, c1, c2, c3, c4, if_false, decide_true]; exact err.1, by simp only [pleatref17_Least.f, c1, c2, c3, c4, if_false, decide_true]; exact err.2⟩
  obtain ⟨a, rfl⟩ : ∃ a : Nat, i = (a : Int) := ⟨i.toNat, by omega⟩
  obtain ⟨b, rfl⟩ : ∃ b : Nat, k = (b : Int) := ⟨k.toNat, by omega⟩
  simp only [common_Least.f, pleatref17_Least.f, c1, c2, c3, c4, if_false, decide_false]
  by_cases e : a = b
  · subst e
    refine ⟨(-1, 0), Evt.succ ?_, Evt.succ ?_⟩
    · simp only [common_Least.j0, Bool.false_eq_true, if_false, if_true]; exact Evt.pure
    · simp only [pleatref17_Least.j0, Bool.false_eq_true, if_false, if_true]; exact Evt.pure
  · obtain ⟨lo, hi, m1, m2, hlt, hhi⟩ := mn_mx a b e
    have e' : ¬ (a : Int) = (b : Int) := by omega
    have hh : hi < l.length := by omega
    have hlo : lo ≤ l.length := by omega
    have hhl : hi ≤ l.length := by omega
    obtain ⟨v, ev, p1, p2, p3⟩ := ref_least_loop l hl (a : Int) (b : Int) lo hi m2 hh (hi - (lo + 1)) (lo + 1) (rd l (hi : Int)) (by omega)
    refine ⟨(v, 0), Evt.succ ?_, Evt.succ ?_⟩
    · have h1 : ((lo + 1 : Nat) : Int) ≤ ((hi + 1 : Nat) : Int) := by omega
      have h2 : ((hi + 1 : Nat) : Int) ≤ (l.length : Int) := by omega
      have hlen : ((l.take (hi + 1)).drop (lo + 1)).length = hi - lo - 1 + 1 := by rw [List.length_drop, List.length_take]; omega
      have hf : slices_Min_int_int.f ((l.take (hi + 1)).drop (lo + 1)) = some v := by
        unfold slices_Min_int_int.f
        rw [if_pos ⟨by omega, by omega⟩, hlen]
        obtain ⟨⟨j, hj, ej⟩, hall⟩ := minF_ok ((l.take (hi + 1)).drop (lo + 1)) (hi - lo - 1)
        rw [rd_cut l (by omega)] at ej
        congr 1
        have q1 : ∀ t : Nat, lo + 1 ≤ t → t ≤ hi → minF ((l.take (hi + 1)).drop (lo + 1)) (hi - lo - 1 + 1) ≤ rd l (t : Int) := fun t h3 h4 => by
          have := hall (t - (lo + 1)) (by omega)
          rw [rd_cut l (by omega)] at this
          rwa [show lo + 1 + (t - (lo + 1)) = t by omega] at this
        have q2 : v ≤ minF ((l.take (hi + 1)).drop (lo + 1)) (hi - lo - 1 + 1) := by
          rw [ej]
          by_cases c : lo + 1 + j = hi
          · rw [c]; exact p2
          · exact p3 _ (by omega) (by omega)
        have q3 : minF ((l.take (hi + 1)).drop (lo + 1)) (hi - lo - 1 + 1) ≤ v := by
          rcases p1 with p1 | ⟨t, h3, h4, h5⟩
          · rw [p1]; exact q1 hi (by omega) (Nat.le_refl _)
          · rw [h5]; exact q1 t h3 (by omega)
        omega
      simp only [common_Least.j0, Bool.false_eq_true, if_false, e', m1, m2, wrapS1 hlo hl, wrapS1 hhl hl, nonneg, if_true, h1, h2, Int.toNat_natCast, hf, Option.bind_some]
      exact Evt.pure
    · have h2 : (hi : Int) < (l.length : Int) := by omega
      simp only [pleatref17_Least.j0, Bool.false_eq_true, if_false, e', m1, m2, nonneg, if_true, h2, wrapS1 hlo hl]
      exact ev
/-! ### the row -/
theorem holds_true {l : List Int} {len : Int} {i : Nat} (h0 : 0 < i) (h1 : i < l.length) (h2 : len ≤ rd l (i : Int)) : gHolds l len (i : Int) = true := decide_eq_true ⟨by omega, by omega, h2⟩
theorem holds_false {l : List Int} {len : Int} {i : Nat} (h : i = 0 ∨ l.length ≤ i ∨ ¬ len ≤ rd l (i : Int)) : gHolds l len (i : Int) = false := decide_eq_false (fun hh => by
  rcases h with h | h | h
  · omega
  · omega
  · exact h hh.2.2)
theorem up_loop (l : List Int) (hl : l.length ≤ 1000000) (len f : Int) : ∀ (d j : Nat), 0 < j → j + d = l.length → ∀ K, d ≤ K → Evt (fun q => pleatref17_Group.l1 q l len f (j : Int)) (f, gUp l len K (j : Int), 0)
  | 0, j, h0, h, K, hK => by
    have e : gUp l len K (j : Int) = (j : Int) := by
      cases K with
      | zero => rfl
      | succ K => rw [gUp, holds_false (.inr (.inl (by omega))), if_neg (by decide)]
    rw [e]
    refine Evt.succ ?_
    have h1 : ¬ (j : Int) < (l.length : Int) := by omega
    simp only [pleatref17_Group.l1, h1, if_false]
    exact Evt.pure
  | d + 1, j, h0, h, K, hK => by
    obtain ⟨K, rfl⟩ : ∃ m, K = m + 1 := ⟨K - 1, by omega⟩
    have hj : j ≤ l.length := by omega
    have h1 : (j : Int) < (l.length : Int) := by omega
    refine Evt.succ ?_
    by_cases c : len ≤ rd l (j : Int)
    · rw [gUp, holds_true h0 (by omega) c, if_pos rfl]
      simp only [pleatref17_Group.l1, h1, nonneg, if_true, ge_iff_le, c, wrapS1 hj hl]
      exact up_loop l hl len f d (j + 1) (by omega) (by omega) K (by omega)
    · rw [gUp, holds_false (.inr (.inr c)), if_neg (by decide)]
      simp only [pleatref17_Group.l1, h1, nonneg, if_true, ge_iff_le, c, if_false]
      exact Evt.pure
theorem wrapm {n j : Nat} (hj : j ≤ n) (hn : n ≤ 1000000) : wrap64 (((j + 1 : Nat) : Int) - 1) = (j : Int) := by
  have : j ≤ 1000000 := Nat.le_trans hj hn
  clear hj hn
  unfold wrap64; omega
theorem down_loop (l : List Int) (hl : l.length ≤ 1000000) (len : Int) (a : Nat) (ha : a < l.length) : ∀ (j : Nat), j ≤ a → ∀ K, j ≤ K → Evt (fun q => pleatref17_Group.l0 q l (a : Int) len (j : Int)) (gDown l len K (j : Int), gUp l len l.length ((a : Int) + 1), 0)
  | 0, hj, K, hK => by
    have e : gDown l len K ((0 : Nat) : Int) = ((0 : Nat) : Int) := by
      cases K with
      | zero => rfl
      | succ K => rw [gDown, holds_false (.inl rfl), if_neg (by decide)]
    rw [e]
    refine Evt.succ (Evt.succ ?_)
    have h0 : ¬ ((0 : Nat) : Int) > 0 := by omega
    simp only [pleatref17_Group.l0, h0, if_false, pleatref17_Group.j2, wrapS1 (Nat.le_of_lt ha) hl]
    exact up_loop l hl len _ (l.length - (a + 1)) (a + 1) (by omega) (by omega) l.length (by omega)
  | j + 1, hj, K, hK => by
    obtain ⟨K, rfl⟩ : ∃ m, K = m + 1 := ⟨K - 1, by omega⟩
    have h0 : ((j + 1 : Nat) : Int) > 0 := by omega
    have h1 : ((j + 1 : Nat) : Int) < (l.length : Int) := by omega
    have hjl : j ≤ l.length := by omega
    by_cases c : len ≤ rd l ((j + 1 : Nat) : Int)
    · rw [gDown, holds_true (by omega) (by omega) c, if_pos rfl, show ((j + 1 : Nat) : Int) - 1 = (j : Int) by omega]
      refine Evt.succ ?_
      simp only [pleatref17_Group.l0, h0, h1, nonneg, if_true, ge_iff_le, c, wrapm hjl hl]
      exact down_loop l hl len a ha j (by omega) K (by omega)
    · rw [gDown, holds_false (.inr (.inr c)), if_neg (by decide)]
      refine Evt.succ (Evt.succ ?_)
      simp only [pleatref17_Group.l0, h0, h1, nonneg, if_true, ge_iff_le, c, if_false, pleatref17_Group.j2, wrapS1 (Nat.le_of_lt ha) hl]
      exact up_loop l hl len _ (l.length - (a + 1)) (a + 1) (by omega) (by omega) l.length (by omega)
theorem group_ev (l : List Int) (hl : l.length ≤ 1000000) (i len : Int) : ∃ r : Int × Int × Int, common_Group.f l i len = some r ∧ Evt (fun q => pleatref17_Group.f q l i len) r := by
  have err : Evt (fun q => pleatref17_Group.j0 q l i len true) (0, 0, 1) := by
    refine Evt.succ ?_
    simp only [pleatref17_Group.j0, if_true]; exact Evt.pure
  unfold common_Group.f
  by_cases c : i < 0 ∨ (l.length : Int) ≤ i ∨ len < 0
  · refine ⟨_, by rw [if_pos c], ?_⟩
    by_cases c1 : i < 0
    · simp only [pleatref17_Group.f, c1, if_true]; exact err
    by_cases c2 : i ≥ (l.length : Int)
    · simp only [pleatref17_Group.f, c1, c2, if_true, if_false]; exact err
    have c3 : len < 0 := by omega
    simp only [pleatref17_Group.f, c1, c2, c3, if_false, decide_true]; exact err
  · refine ⟨_, by rw [if_neg c, if_neg (by omega)], ?_⟩
    obtain ⟨a, rfl⟩ : ∃ a : Nat, i = (a : Int) := ⟨i.toNat, by omega⟩
    have c1 : ¬ (a : Int) < 0 := by omega
    have c2 : ¬ (a : Int) ≥ (l.length : Int) := by omega
    have c3 : ¬ len < 0 := by omega
    simp only [pleatref17_Group.f, c1, c2, c3, if_false, decide_false]
    refine Evt.succ ?_
    simp only [pleatref17_Group.j0, Bool.false_eq_true, if_false]
    exact down_loop l hl len a (by omega) a (Nat.le_refl _) l.length (by omega)
theorem CommonTells : St.CommonTells := by
  intro l i k len hl hi hk hn
  refine Evt.out (g := fun q => pleatlaw17_CommonTells.f q l i k len) ?_
  unfold pleatlaw17_CommonTells.f
  by_cases c : 16384 < l.length
  · simp only [c, if_true]
    exact lives_true
  · simp only [c, if_false]
    obtain ⟨r, e1, e2⟩ := least_ev l (by omega) i k
    obtain ⟨m, e3, e4⟩ := group_ev l (by omega) i len
    refine Evt.bind e1 (Evt.bind e2 (Evt.bind (Evt.const e3) (Evt.bind e4 (Evt.bind (eqInts l (by omega)) ?_))))
    simp only [and_self, if_true]
    exact lives_true
end Go.Proofs.Ythkiapcoagjjpaa.Pure
