/- No choice keeps more: of spots whose places rise, what is kept overlaps nowhere, and no other choice that overlaps nowhere has more; as a statement over lists of numbers. -/
import Derived.Test.YthkiapcoagjjpaaStPruneMost
import Derived.Test.YthkiapcoagjjpaaEv
namespace Go.Proofs.Ythkiapcoagjjpaa.Pure
open Go.RowKit Go.Proofs.YthkiapcoagjjpaaW.PrintWords Go.Proofs.YthkiapcoagjjpaaW.PrintLast Go.Proofs.Ythkiapcoagjjpaa.PPruneMost Go.Proofs.Ythkiapcoagjjpaa.Ev
set_option linter.unusedVariables false
set_option linter.unusedSimpArgs false

abbrev Sp := S27
abbrev zp : Sp := z27
def pl (L : List Sp) (i : Nat) : Int := (L.getD i zp).f0
theorem rdp (l : List Sp) (i : Nat) : rd_T27 l (i : Int) = l.getD i zp := by simp [rd_T27]
theorem rdb (l : List Bool) (i : Nat) : rdOf false l (i : Int) = l.getD i false := by simp [rdOf]
theorem nonneg (i : Nat) : (0 : Int) ≤ (i : Int) := by omega
theorem wrap_pred (i : Nat) (h0 : 0 < i) (h : i < 9007199254740992) : wrap64 ((i : Int) - 1) = ((i - 1 : Nat) : Int) := by unfold wrap64; omega
theorem mem_getD {l : List Sp} {x : Sp} (h : x ∈ l) : ∃ i, i < l.length ∧ l.getD i zp = x := by
  obtain ⟨i, hi, rfl⟩ := List.getElem_of_mem h
  exact ⟨i, hi, getD_eq zp hi⟩
theorem ov_eq (n : Int) (s x : Sp) (hs : 0 ≤ s.f0 ∧ s.f0 ≤ 16384) (hx : 0 ≤ x.f0 ∧ x.f0 ≤ 16384) : ov n s x = (decide (x.f0 - s.f0 < n) && decide (s.f0 - x.f0 < n)) := by
  unfold ov
  rw [show wrap64 (x.f0 - s.f0) = x.f0 - s.f0 by unfold wrap64; omega, show wrap64 (-(x.f0 - s.f0)) = s.f0 - x.f0 by unfold wrap64; omega]

/-! ### what is kept -/
theorem apart_facts (n : Int) (hn : 1 ≤ n) (L : List Sp) (hr : ∀ i, i < L.length → 0 ≤ pl L i ∧ pl L i ≤ 16384) (hs : ∀ i j, i < j → j < L.length → pl L i < pl L j) : ∀ j, j ≤ L.length →
    (apartL n L j).Sublist (L.take j) ∧ (apartL n L j).Pairwise (fun a b => n ≤ b.f0 - a.f0) ∧ ∀ t, t < j → ∃ z, z ∈ apartL n L j ∧ z.f0 ≤ pl L t ∧ pl L t - z.f0 < n
  | 0, _ => ⟨by simp [apartL], by simp [apartL], fun t ht => by omega⟩
  | j + 1, hj => by
    obtain ⟨h1, h2, h3⟩ := apart_facts n hn L hr hs j (by omega)
    have hx : (0 : Int) ≤ (L.getD j zp).f0 ∧ (L.getD j zp).f0 ≤ 16384 := hr j (by omega)
    have hin : ∀ z, z ∈ apartL n L j → (0 ≤ z.f0 ∧ z.f0 ≤ 16384) ∧ z.f0 < (L.getD j zp).f0 := fun z hz => by
      have hz2 := h1.subset hz
      obtain ⟨t, ht, e⟩ := mem_getD hz2
      rw [List.length_take] at ht
      have e2 : L.getD t zp = z := by rw [← e, getD_eq zp (by omega), getD_eq zp (by rw [List.length_take]; omega), List.getElem_take]
      have a := hr t (by omega)
      have b := hs t j (by omega) (by omega)
      unfold pl at a b
      rw [e2] at a b
      exact ⟨a, b⟩
    have ht := take_next zp (show j < L.length by omega)
    unfold apartL
    rw [rdp]
    generalize hxe : L.getD j zp = x at hx hin ht
    have hplj : pl L j = x.f0 := by unfold pl; rw [hxe]
    by_cases c : (apartL n L j).any (ov n x) = true
    · rw [if_pos c]
      obtain ⟨z, hz, ho⟩ := List.any_eq_true.1 c
      obtain ⟨ha, hb⟩ := hin z hz
      rw [ov_eq n x z hx ha, Bool.and_eq_true, decide_eq_true_eq, decide_eq_true_eq] at ho
      refine ⟨by rw [ht]; exact h1.trans (List.sublist_append_left _ _), h2, fun t h => ?_⟩
      by_cases e : t = j
      · subst e
        exact ⟨z, hz, by omega, by omega⟩
      · exact h3 t (by omega)
    · rw [if_neg c]
      have hgap : ∀ z, z ∈ apartL n L j → n ≤ x.f0 - z.f0 := fun z hz => by
        obtain ⟨ha, hb⟩ := hin z hz
        rw [Bool.not_eq_true, List.any_eq_false] at c
        have := c z hz
        rw [ov_eq n x z hx ha, Bool.and_eq_true, decide_eq_true_eq, decide_eq_true_eq] at this
        omega
      refine ⟨by rw [ht]; exact h1.append (List.Sublist.refl _), ?_, fun t h => ?_⟩
      · rw [List.pairwise_append]
        refine ⟨h2, by simp, fun a ha b hb => ?_⟩
        obtain rfl := List.mem_singleton.1 hb
        exact hgap a ha
      · by_cases e : t = j
        · subst e
          exact ⟨x, by simp, by omega, by omega⟩
        · obtain ⟨z, hz, h⟩ := h3 t (by omega)
          exact ⟨z, by simp [hz], h⟩
theorem pair_at {n : Int} {K : List Sp} (h : K.Pairwise (fun a b => n ≤ b.f0 - a.f0)) {i j : Nat} (hij : i < j) (hj : j < K.length) : n ≤ pl K j - pl K i := by
  have := List.pairwise_iff_getElem.1 h i j (by omega) hj hij
  unfold pl
  rw [getD_eq zp hj, getD_eq zp (by omega)]
  exact this
theorem over_zero (n : Int) (K : List Sp) (hr : ∀ z, z ∈ K → 0 ≤ z.f0 ∧ z.f0 ≤ 16384) (h : K.Pairwise (fun a b => n ≤ b.f0 - a.f0)) : ∀ j, j ≤ K.length → overL n K j = 0
  | 0, _ => rfl
  | j + 1, hj => by
    unfold overL
    rw [over_zero n K hr h j (by omega), rdp, Nat.zero_add, List.length_eq_zero_iff, List.filter_eq_nil_iff]
    intro z hz ho
    have hjx : K.getD j zp ∈ K := by rw [getD_eq zp (by omega)]; exact List.getElem_mem _
    obtain ⟨t, ht, e⟩ := mem_getD hz
    rw [List.length_take] at ht
    have e2 : K.getD t zp = z := by rw [← e, getD_eq zp (by omega), getD_eq zp (by rw [List.length_take]; omega), List.getElem_take]
    have g := pair_at h (show t < j by omega) (by omega)
    unfold pl at g
    rw [e2] at g
    rw [ov_eq n _ z (hr _ hjx) (hr _ (List.mem_of_mem_take hz)), Bool.and_eq_true, decide_eq_true_eq, decide_eq_true_eq] at ho
    omega

/-! ### counting -/
theorem filter_le {p q : Sp → Bool} (h : ∀ z, p z = true → q z = true) : ∀ K : List Sp, (K.filter p).length ≤ (K.filter q).length
  | [] => Nat.le_refl _
  | a :: K => by
    have ih := filter_le h K
    cases hp : p a
    · cases hq : q a
      · simpa [List.filter_cons, hp, hq] using ih
      · simp only [List.filter_cons, hp, hq, if_true]
        simp
        omega
    · have hq := h a hp
      simp only [List.filter_cons, hp, hq, if_true, List.length_cons]
      omega
theorem filter_lt {p q : Sp → Bool} (h : ∀ z, p z = true → q z = true) : ∀ K : List Sp, (∃ z, z ∈ K ∧ q z = true ∧ p z = false) → (K.filter p).length < (K.filter q).length
  | [], ⟨z, hz, _⟩ => by simp at hz
  | a :: K, ⟨z, hz, h1, h2⟩ => by
    have hle := filter_le h K
    rcases List.mem_cons.1 hz with e | e
    · subst e
      simp only [List.filter_cons, h1, h2, if_true]
      simp
      omega
    · have ih := filter_lt h K ⟨z, e, h1, h2⟩
      cases hp : p a
      · cases hq : q a
        · simpa [List.filter_cons, hp, hq] using ih
        · simp only [List.filter_cons, hp, hq, if_true]
          simp
          omega
      · have hq := h a hp
        simp only [List.filter_cons, hp, hq, if_true, List.length_cons]
        omega
theorem count (n : Int) (hn : 1 ≤ n) (K S : List Sp) (hg : ∀ t, 0 < t → t < S.length → n ≤ pl S t - pl S (t - 1)) (hc : ∀ t, t < S.length → ∃ z, z ∈ K ∧ z.f0 ≤ pl S t ∧ pl S t - z.f0 < n) : ∀ t, t < S.length → t + 1 ≤ (K.filter (fun z => decide (z.f0 ≤ pl S t))).length
  | 0, h => by
    obtain ⟨z, hz, h1, _⟩ := hc 0 h
    exact List.length_pos_of_mem (List.mem_filter.2 ⟨hz, by simpa using h1⟩)
  | t + 1, h => by
    have ih := count n hn K S hg hc t (by omega)
    obtain ⟨z, hz, h1, h2⟩ := hc (t + 1) h
    have g := hg (t + 1) (by omega) h
    rw [Nat.add_sub_cancel] at g
    have := filter_lt (p := fun z => decide (z.f0 ≤ pl S t)) (q := fun z => decide (z.f0 ≤ pl S (t + 1))) (fun z hz => by simp at hz ⊢; omega) K ⟨z, hz, by simpa using h1, by simp; omega⟩
    omega
theorem most (n : Int) (hn : 1 ≤ n) (K S : List Sp) (hg : ∀ t, 0 < t → t < S.length → n ≤ pl S t - pl S (t - 1)) (hc : ∀ t, t < S.length → ∃ z, z ∈ K ∧ z.f0 ≤ pl S t ∧ pl S t - z.f0 < n) : S.length ≤ K.length := by
  by_cases h : S.length = 0
  · omega
  · have := count n hn K S hg hc (S.length - 1) (by omega)
    have h2 := List.length_filter_le (fun z => decide (z.f0 ≤ pl S (S.length - 1))) K
    omega

/-! ### the program's functions -/
theorem works_true : Evt (fun q => pleatlaw20_works.f q) true := Evt.of_mono pleatlaw20_works.mono 100 (by decide +kernel)
theorem within_loop (n : Int) (hn : 1 ≤ n) (hn2 : n ≤ 16384) (L : List Sp) (hl : L.length ≤ 16384) (hr : ∀ i, i < L.length → 0 ≤ pl L i ∧ pl L i ≤ 16384) : ∀ (m i : Nat), i + m = L.length → Evt (fun q => prune_within.l0 q n L (L.length : Int) (i : Int)) true
  | 0, i, h => by
    obtain rfl : i = L.length := by omega
    refine Evt.succ ?_
    have h1 : n ≥ 1 := hn
    simp only [prune_within.l0, Int.lt_irrefl, if_false, h1, if_true, hn2, decide_true]
    exact Evt.pure
  | m + 1, i, h => by
    refine Evt.succ ?_
    have h1 : (i : Int) < (L.length : Int) := by omega
    have h2 := hr i (by omega)
    unfold pl at h2
    have h3 : ¬ (L.getD i zp).f0 < 0 := by omega
    have h4 : ¬ (L.getD i zp).f0 > 16384 := by omega
    simp only [prune_within.l0, h1, nonneg, if_true, rdp, h3, h4, if_false, wrap1 i (by omega)]
    exact within_loop n hn hn2 L hl hr m (i + 1) (by omega)
theorem within_true (n : Int) (hn : 1 ≤ n) (hn2 : n ≤ 16384) (L : List Sp) (hl : L.length ≤ 16384) (hr : ∀ i, i < L.length → 0 ≤ pl L i ∧ pl L i ≤ 16384) : Evt (fun q => prune_within.f q n L) true :=
  within_loop n hn hn2 L hl hr L.length 0 (Nat.zero_add _)
theorem apart_eq (n : Int) (hn : 1 ≤ n) (hn2 : n ≤ 16384) (L : List Sp) (hl : L.length ≤ 16384) (hr : ∀ i, i < L.length → 0 ≤ pl L i ∧ pl L i ≤ 16384) : Evt (fun q => prune_Apart.f q n L) (apartL n L L.length) := by
  have h : L.length ≤ 1048576 := by omega
  simp only [prune_Apart.f]
  refine Evt.bind (within_true n hn hn2 L hl hr) ?_
  simp only [if_true, h]
  exact Evt.pure
theorem over_eq (n : Int) (hn : 1 ≤ n) (hn2 : n ≤ 16384) (L : List Sp) (hl : L.length ≤ 16384) (hr : ∀ i, i < L.length → 0 ≤ pl L i ∧ pl L i ≤ 16384) : Evt (fun q => prune_Overlaps.f q n L) ((overL n L L.length : Nat) : Int) := by
  simp only [prune_Overlaps.f]
  refine Evt.bind (within_true n hn hn2 L hl hr) ?_
  simp only [if_true, hl]
  exact Evt.pure
theorem l2_true (n : Int) (S K : List Sp) (hS : S.length ≤ 300) (hb : ∀ t, t < S.length → 0 ≤ pl S t ∧ pl S t ≤ 16384) (hm : (∀ t, 0 < t → t < S.length → n ≤ pl S t - pl S (t - 1)) → S.length ≤ K.length) :
    ∀ (m i : Nat), i + m = S.length + 1 → 0 < i → (∀ t, 0 < t → t < i → t < S.length → n ≤ pl S t - pl S (t - 1)) → Evt (fun q => pleatlaw20_PruneMost.l2 q n S K (i : Int)) true
  | 0, i, h, h0, hg => by
    refine Evt.succ ?_
    have h1 : ¬ (i : Int) < (S.length : Int) := by omega
    have h2 : (S.length : Int) ≤ (K.length : Int) := by have := hm (fun t a b => hg t a (by omega) b); omega
    simp only [pleatlaw20_PruneMost.l2, h1, if_false, h2, if_true]
    exact Evt.bind works_true Evt.pure
  | m + 1, i, h, h0, hg => by
    refine Evt.succ ?_
    by_cases c : i < S.length
    · have h1 : (i : Int) < (S.length : Int) := by omega
      have h3 : ((i - 1 : Nat) : Int) < (S.length : Int) := by omega
      have h4 := hb i c
      have h5 := hb (i - 1) (by omega)
      have hd : wrap64 ((S.getD i zp).f0 - (S.getD (i - 1) zp).f0) = pl S i - pl S (i - 1) := by
        unfold pl at h4 h5 ⊢
        unfold wrap64
        omega
      simp only [pleatlaw20_PruneMost.l2, h1, nonneg, if_true, wrap_pred i h0 (by omega), h3, rdp, hd, wrap1 i (by omega)]
      by_cases c2 : pl S i - pl S (i - 1) < n
      · simp only [c2, if_true]
        exact Evt.bind works_true Evt.pure
      · simp only [c2, if_false]
        refine l2_true n S K hS hb hm m (i + 1) (by omega) (by omega) fun t a b d => ?_
        by_cases e : t = i
        · subst e
          omega
        · exact hg t a (by omega) d
    · have h1 : ¬ (i : Int) < (S.length : Int) := by omega
      have h2 : (S.length : Int) ≤ (K.length : Int) := by have := hm (fun t a b => hg t a (by omega) b); omega
      simp only [pleatlaw20_PruneMost.l2, h1, if_false, h2, if_true]
      exact Evt.bind works_true Evt.pure
theorem l1_true (n : Int) (S K : List Sp) (hK : K.length ≤ 300) (hb : ∀ t, t < K.length → 0 ≤ pl K t ∧ pl K t ≤ 16384) (hp : K.Pairwise (fun a b => n ≤ b.f0 - a.f0)) (hnext : Evt (fun q => pleatlaw20_PruneMost.l2 q n S K 1) true) :
    ∀ (m i : Nat), i + m = K.length + 1 → 0 < i → Evt (fun q => pleatlaw20_PruneMost.l1 q n S K (i : Int)) true
  | 0, i, h, h0 => by
    refine Evt.succ ?_
    have h1 : ¬ (i : Int) < (K.length : Int) := by omega
    simp only [pleatlaw20_PruneMost.l1, h1, if_false]
    exact hnext
  | m + 1, i, h, h0 => by
    refine Evt.succ ?_
    by_cases c : i < K.length
    · have h1 : (i : Int) < (K.length : Int) := by omega
      have h3 : ((i - 1 : Nat) : Int) < (K.length : Int) := by omega
      have h4 := hb i c
      have h5 := hb (i - 1) (by omega)
      have hg := pair_at hp (show i - 1 < i by omega) c
      have hd : ¬ wrap64 ((K.getD i zp).f0 - (K.getD (i - 1) zp).f0) < n := by
        unfold pl at h4 h5 hg
        unfold wrap64
        omega
      simp only [pleatlaw20_PruneMost.l1, h1, nonneg, if_true, wrap_pred i h0 (by omega), h3, rdp, hd, if_false, wrap1 i (by omega)]
      exact l1_true n S K hK hb hp hnext m (i + 1) (by omega) (by omega)
    · have h1 : ¬ (i : Int) < (K.length : Int) := by omega
      simp only [pleatlaw20_PruneMost.l1, h1, if_false]
      exact hnext
theorem rise_lt {L : List Sp} {n : Nat} (h : ∀ t, 0 < t → t < n → pl L (t - 1) < pl L t) : ∀ j i, i < j → j < n → pl L i < pl L j
  | 0, i, hij, _ => by omega
  | j + 1, i, hij, hj => by
    have h1 := h (j + 1) (by omega) hj
    rw [Nat.add_sub_cancel] at h1
    by_cases e : i = j
    · subst e; exact h1
    · have := rise_lt h j i (by omega) (by omega)
      omega
theorem law (n : Int) (hn : 1 ≤ n) (hn2 : n ≤ 16384) (L : List Sp) (ch : List Bool) (hl : L.length ≤ 300) :
    ∀ (m i : Nat) (S : List Sp), i + m = L.length → S.Sublist (L.take i) → (∀ t, t < i → 0 ≤ pl L t ∧ pl L t ≤ 16384) → (∀ t, 0 < t → t < i → pl L (t - 1) < pl L t) → Evt (fun q => pleatlaw20_PruneMost.l0 q n L ch S (i : Int)) true
  | 0, i, S, h, hS, hr, hi => by
    obtain rfl : i = L.length := by omega
    rw [List.take_length] at hS
    have hs : ∀ i j, i < j → j < L.length → pl L i < pl L j := fun i j a b => rise_lt hi j i a b
    obtain ⟨k1, k2, k3⟩ := apart_facts n hn L hr hs L.length (Nat.le_refl _)
    rw [List.take_length] at k1
    have hrm : ∀ z, z ∈ L → 0 ≤ z.f0 ∧ z.f0 ≤ 16384 := fun z hz => by
      obtain ⟨t, ht, e⟩ := mem_getD hz
      have := hr t ht
      unfold pl at this
      rwa [e] at this
    have hsub : ∀ {Q : List Sp}, Q.Sublist L → ∀ t, t < Q.length → 0 ≤ pl Q t ∧ pl Q t ≤ 16384 := fun {Q} hQ t ht => by
      unfold pl
      rw [getD_eq zp ht]
      exact hrm _ (hQ.subset (List.getElem_mem ht))
    have hSl := hS.length_le
    have hKl := k1.length_le
    refine Evt.succ ?_
    simp only [pleatlaw20_PruneMost.l0, Int.lt_irrefl, if_false]
    refine Evt.bind (apart_eq n hn hn2 L (by omega) hr) (Evt.bind (over_eq n hn hn2 _ (by omega) (hsub k1)) ?_)
    rw [over_zero n _ (fun z hz => hrm z (k1.subset hz)) k2 _ (Nat.le_refl _)]
    have hmost : (∀ t, 0 < t → t < S.length → n ≤ pl S t - pl S (t - 1)) → S.length ≤ (apartL n L L.length).length := fun hg => by
      refine most n hn _ S hg fun t ht => ?_
      obtain ⟨u, hu, e⟩ := mem_getD (hS.subset (List.getElem_mem ht))
      obtain ⟨z, hz, h1, h2⟩ := k3 u hu
      have e2 : pl S t = pl L u := by unfold pl; rw [e, getD_eq zp ht]
      exact ⟨z, hz, by omega, by omega⟩
    have h2 := l2_true n S (apartL n L L.length) (by omega) (hsub hS) hmost S.length 1 (by omega) (by omega) (fun t a b _ => by omega)
    have h1 := l1_true n S (apartL n L L.length) (by omega) (hsub k1) k2 h2 (apartL n L L.length).length 1 (by omega) (by omega)
    have h3 : Evt (fun q => pleatlaw20_PruneMost.j3 q n S (apartL n L L.length) false) true := by
      refine Evt.succ ?_
      simp only [pleatlaw20_PruneMost.j3, Bool.false_eq_true, if_false]
      exact h1
    simp only [Int.ofNat_zero, Int.cast_ofNat_Int, if_true]
    by_cases c : (L.length : Int) > 0
    · simp only [c, if_true]
      have hne : (((apartL n L L.length).length : Int) == 0) = false := by
        obtain ⟨z, hz, _⟩ := k3 0 (by omega)
        have := List.length_pos_of_mem hz
        rw [beq_eq_false_iff_ne]
        omega
      rw [hne]
      exact h3
    · simp only [c, if_false]
      exact h3
  | m + 1, i, S, h, hS, hr, hi => by
    have hil : i < L.length := by omega
    have h1 : (i : Int) < (L.length : Int) := by omega
    have stop : Evt (fun q => pleatlaw20_PruneMost.j2 q n L ch S (i : Int) true) true := by
      refine Evt.succ ?_
      simp only [pleatlaw20_PruneMost.j2, if_true]
      exact Evt.bind works_true Evt.pure
    refine Evt.succ ?_
    simp only [pleatlaw20_PruneMost.l0, h1, nonneg, if_true, rdp]
    by_cases c1 : (L.getD i zp).f0 < 0
    · simp only [c1, if_true]
      exact stop
    · by_cases c2 : (L.getD i zp).f0 > 16384
      · simp only [c1, c2, if_true, if_false]
        exact stop
      · simp only [c1, c2, if_false]
        have ht := take_next zp hil
        have goes : (0 < i → pl L (i - 1) < pl L i) → Evt (fun q => pleatlaw20_PruneMost.j2 q n L ch S (i : Int) false) true := fun hlt => by
          have hr' : ∀ t, t < i + 1 → 0 ≤ pl L t ∧ pl L t ≤ 16384 := fun t a => by
            by_cases e : t = i
            · subst e; unfold pl; omega
            · exact hr t (by omega)
          have hi' : ∀ t, 0 < t → t < i + 1 → pl L (t - 1) < pl L t := fun t a b => by
            by_cases e : t = i
            · subst e; exact hlt a
            · exact hi t a (by omega)
          have g1 := law n hn hn2 L ch hl m (i + 1) S (by omega) (by rw [ht]; exact hS.trans (List.sublist_append_left _ _)) hr' hi'
          have g2 := law n hn hn2 L ch hl m (i + 1) (S ++ [L.getD i zp]) (by omega) (by rw [ht]; exact hS.append (List.Sublist.refl _)) hr' hi'
          have hS3 : S.length < 8796093022208 := by have := hS.length_le; rw [List.length_take] at this; omega
          refine Evt.succ ?_
          simp only [pleatlaw20_PruneMost.j2, Bool.false_eq_true, if_false, nonneg, if_true, h1, rdp, rdb, hS3, wrap1 i (by omega)]
          by_cases d1 : (i : Int) < (ch.length : Int)
          · simp only [d1, if_true]
            cases ch.getD i false
            · simpa using g1
            · simpa using g2
          · simp only [d1, if_false]
            exact g1
        by_cases c3 : (i : Int) > 0
        · have h3 : ((i - 1 : Nat) : Int) < (L.length : Int) := by omega
          simp only [c3, if_true, wrap_pred i (by omega) (by omega), nonneg, h3, rdp]
          by_cases c4 : (L.getD (i - 1) zp).f0 ≥ (L.getD i zp).f0
          · simp only [c4, decide_true]
            exact stop
          · simp only [c4, decide_false]
            exact goes fun _ => by unfold pl; omega
        · simp only [c3, if_false]
          exact goes fun h => by omega
theorem PruneMost : St.PruneMost := by
  intro n L ch _ _ _
  have stop : ∀ n, Evt (fun q => pleatlaw20_PruneMost.j0 q n L ch true) true := fun n => by
    refine Evt.succ ?_
    simp only [pleatlaw20_PruneMost.j0, if_true]
    exact Evt.bind works_true Evt.pure
  refine Evt.out (g := fun k => pleatlaw20_PruneMost.f k n L ch) ?_
  unfold pleatlaw20_PruneMost.f
  by_cases c1 : (L.length : Int) > 300
  · simp only [c1, if_true]
    exact stop n
  · by_cases c2 : n < 1
    · simp only [c1, c2, if_false, if_true]
      exact stop n
    · simp only [c1, c2, if_false]
      by_cases c3 : n > 16384
      · simp only [c3, decide_true]
        exact stop n
      · simp only [c3, decide_false]
        refine Evt.succ ?_
        simp only [pleatlaw20_PruneMost.j0, Bool.false_eq_true, if_false]
        exact law n (by omega) (by omega) L ch (by omega) L.length 0 [] (Nat.zero_add _) (by simp) (fun t a => by omega) (fun t _ b => by omega)
end Go.Proofs.Ythkiapcoagjjpaa.Pure
