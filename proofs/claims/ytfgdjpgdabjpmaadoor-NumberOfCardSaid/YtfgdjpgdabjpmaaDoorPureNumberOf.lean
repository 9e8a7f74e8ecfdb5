/- The law of numbers: the program's and the document's are the same, over numbers and lists. -/
import Derived.Test.YtfgdjpgdabjpmaaDoorStNumberOf
import Derived.Test.YtfgdjpgdabjpmaaDoorIsaPNumberOf
import Derived.Test.YtfgdjpgdabjpmaaDoorEv
import Derived.Laws.BitsAllLaws
import Derived.Test.YtfgdjpgdabjpmaaDoorAlonePNumberOf
namespace Go.Proofs.YtfgdjpgdabjpmaaDoor.Pure
open Go.RowKit Go.Proofs.YtfgdjpgdabjpmaaDoorW.PrintWords Go.Proofs.YtfgdjpgdabjpmaaDoorW.PrintLast Go.Proofs.YtfgdjpgdabjpmaaDoorW.PrintMore Go.Proofs.YtfgdjpgdabjpmaaDoor.PNumberOf Go.Proofs.YtfgdjpgdabjpmaaDoor.Ev
set_option linter.unusedVariables false
set_option linter.unusedSimpArgs false
theorem nonneg (i : Nat) : (0 : Int) ≤ (i : Int) := by omega
theorem chk_ev {l : List Int} (m : List Int) (e : Int) (hW : allW l) : Evt (fun k => image_Check.f k l e m) (chk l e m) := ⟨16386, fun k hk => isa_chk l m e hW k (.inr hk)⟩
theorem allW_of {l : List Int} (h : ∀ x ∈ l, (Lit.int .u32 x).wf = true) : allW l := fun x hx => by
  have := h x hx
  have hmin : IntKind.u32.min = 0 := rfl
  have hmax : IntKind.u32.max = 4294967295 := rfl
  simp only [Lit.wf, Bool.and_eq_true, decide_eq_true_eq] at this
  unfold isW
  omega
theorem words_loop (l : List Int) (hl : l.length ≤ 40000) : ∀ (d i : Nat), i + d = l.length → Evt (fun k => pleatref00_EqWords.l0 k l l (i : Int)) true
  | 0, i, h => by
    obtain rfl : i = l.length := by omega
    refine Evt.succ ?_
    simp only [pleatref00_EqWords.l0, Int.lt_irrefl, if_false]
    exact Evt.pure
  | d + 1, i, h => by
    refine Evt.succ ?_
    have h1 : (i : Int) < (l.length : Int) := by omega
    simp only [pleatref00_EqWords.l0, h1, nonneg, if_true, wrap1 i (by omega)]
    exact words_loop l hl d (i + 1) (by omega)
theorem longs_loop (l : List Int) (hl : l.length ≤ 40000) : ∀ (d i : Nat), i + d = l.length → Evt (fun k => pleatref00_EqLongs.l0 k l l (i : Int)) true
  | 0, i, h => by
    obtain rfl : i = l.length := by omega
    refine Evt.succ ?_
    simp only [pleatref00_EqLongs.l0, Int.lt_irrefl, if_false]
    exact Evt.pure
  | d + 1, i, h => by
    refine Evt.succ ?_
    have h1 : (i : Int) < (l.length : Int) := by omega
    simp only [pleatref00_EqLongs.l0, h1, nonneg, if_true, wrap1 i (by omega)]
    exact longs_loop l hl d (i + 1) (by omega)
theorem eqImage (l m : List Int) (e : Int) (hl : l.length ≤ 40000) (hm : m.length ≤ 40000) : Evt (fun k => pleatref00_EqImage.f k l e m l e m) true := by
  have h1 : Evt (fun k => pleatref00_EqWords.f k l l) true := by
    simp only [pleatref00_EqWords.f, if_true]
    exact words_loop l hl l.length 0 (by omega)
  have h2 : Evt (fun k => pleatref00_EqLongs.f k m m) true := by
    simp only [pleatref00_EqLongs.f, if_true]
    exact longs_loop m hm m.length 0 (by omega)
  simp only [pleatref00_EqImage.f, if_true]
  refine Evt.bind h1 ?_
  simp only [if_true]
  exact Evt.bind h2 Evt.pure
/-- Numbering, with no rounds. -/
def numL : List Int → List (Int × Int) → Int → List Int → List Int
  | [], _, _, l => l
  | v :: ws, m, n, l => match m.lookup v with
    | some x => numL ws m n (l ++ [x])
    | none => numL ws (if al v = true then m else (v, n) :: m) (n + 1) (l ++ [n])
theorem num_eq (k : Nat) (hk : 4 ≤ k) : ∀ (ws : List Int) (m : List (Int × Int)) (n : Int) (l : List Int), allW ws → number_Of.l k ws m n l = some (numL ws m n l)
  | [], _, _, _, _ => rfl
  | v :: ws, m, n, l, h => by
    unfold number_Of.l numL
    cases m.lookup v with
    | some x => exact num_eq k hk ws _ _ _ (fun x hx => h x (by simp [hx]))
    | none =>
      simp only [alone_eq (h v (by simp)) k hk, Option.bind_some]
      exact num_eq k hk ws _ _ _ (fun x hx => h x (by simp [hx]))

/-- What holds of the words that have been numbered: their numbers l, the book m, the next number n. -/
structure Inv (ws l : List Int) (m : List (Int × Int)) (n : Int) : Prop where
  len : l.length = ws.length
  pos : 0 ≤ n
  low : ∀ i, i < l.length → 0 ≤ rd l (i : Int) ∧ rd l (i : Int) < n
  book : ∀ v x, m.lookup v = some x → al v = false ∧ ∃ i, i < ws.length ∧ rd ws (i : Int) = v ∧ rd l (i : Int) = x
  there : ∀ i, i < ws.length → al (rd ws (i : Int)) = false → m.lookup (rd ws (i : Int)) = some (rd l (i : Int))
  same : ∀ i k, i < ws.length → k < i → (rd l (i : Int) = rd l (k : Int) ↔ rd ws (i : Int) = rd ws (k : Int) ∧ al (rd ws (i : Int)) = false)
  next : ∀ i, i < l.length → rd l (i : Int) ≤ (Mapv.distinct (l.take i).reverse : Nat) ∧ mx ((Mapv.distinct (l.take i).reverse : Nat) - 1) (rd l (i : Int)) = (Mapv.distinct (l.take (i + 1)).reverse : Nat) - 1
  count : (Mapv.distinct l.reverse : Nat) = n
theorem rd_old (l : List Int) (x : Int) (i : Nat) (h : i < l.length) : rd (l ++ [x]) (i : Int) = rd l (i : Int) := by
  simp [rd, List.getD_eq_getElem?_getD, List.getElem?_append_left h]
theorem rd_new (l : List Int) (x : Int) : rd (l ++ [x]) (l.length : Int) = x := by
  simp [rd, List.getD_eq_getElem?_getD]
theorem mem_rd {l : List Int} {x : Int} (h : x ∈ l) : ∃ i, i < l.length ∧ rd l (i : Int) = x := by
  obtain ⟨i, hi, rfl⟩ := List.getElem_of_mem h
  exact ⟨i, hi, by simp [rd, List.getD_eq_getElem?_getD, List.getElem?_eq_getElem hi]⟩
theorem rd_mem {l : List Int} (i : Nat) (h : i < l.length) : rd l (i : Int) ∈ l := by
  have : rd l (i : Int) = l[i] := by simp [rd, List.getD_eq_getElem?_getD, List.getElem?_eq_getElem h]
  rw [this]
  exact List.getElem_mem h
/-- Numbers that rise by one where a new one comes. -/
theorem Inv.nil : Inv [] [] [] 0 := ⟨rfl, by omega, fun i h => by simp at h, fun v x h => by simp at h, fun i h => by simp at h, fun i k h => by simp at h, fun i h => by simp at h, rfl⟩
theorem Inv.old {ws l : List Int} {m : List (Int × Int)} {n v x : Int} (h : Inv ws l m n) (hm : m.lookup v = some x) : Inv (ws ++ [v]) (l ++ [x]) m n := by
  obtain ⟨ha, j, hj, hv, hx⟩ := h.book v x hm
  have hjl : j < l.length := by have := h.len; omega
  have hlen := h.len
  have hcnt : (Mapv.distinct (l ++ [x]).reverse : Int) = n := by
    rw [List.reverse_append]
    show (Mapv.distinct (x :: l.reverse) : Int) = n
    unfold Mapv.distinct
    have : l.reverse.contains x = true := by
      rw [List.contains_iff_mem, List.mem_reverse, ← hx]
      exact rd_mem j hjl
    rw [if_pos this]
    exact h.count
  refine ⟨by simp [h.len], h.pos, ?_, ?_, ?_, ?_, ?_, ?_⟩
  · intro i hi
    rcases Nat.lt_or_ge i l.length with c | c
    · rw [rd_old _ _ _ c]; exact h.low i c
    · have e : i = l.length := by simp at hi; omega
      subst e
      rw [rd_new, ← hx]
      exact h.low j hjl
  · intro v' x' h'
    obtain ⟨ha', j', hj', hv', hx'⟩ := h.book v' x' h'
    exact ⟨ha', j', by simp; omega, by rw [rd_old _ _ _ hj']; exact hv', by rw [rd_old _ _ _ (by omega)]; exact hx'⟩
  · intro i hi hai
    rcases Nat.lt_or_ge i ws.length with c | c
    · rw [rd_old _ _ _ c] at hai ⊢
      rw [rd_old _ _ _ (by omega)]
      exact h.there i c hai
    · have e : i = ws.length := by simp at hi; omega
      subst e
      rw [rd_new, hm, ← h.len, rd_new]
  · intro i k hi hk
    rcases Nat.lt_or_ge i ws.length with c | c
    · rw [rd_old ws v i c, rd_old ws v k (by omega), rd_old l x i (by omega), rd_old l x k (by omega)]
      exact h.same i k c hk
    · have e : i = ws.length := by simp at hi; omega
      subst e
      have e2 : rd (l ++ [x]) (ws.length : Int) = x := by rw [← hlen]; exact rd_new l x
      rw [rd_new ws v, e2, rd_old ws v k hk, rd_old l x k (by omega)]
      have hkl : k < ws.length := hk
      constructor
      · intro e1
        refine ⟨?_, ha⟩
        rcases Nat.lt_trichotomy k j with c1 | c1 | c1
        · have := (h.same j k hj c1).1 (by rw [hx]; exact e1)
          rw [← hv]; exact this.1
        · subst c1; exact hv.symm
        · have := (h.same k j hkl c1).1 (by rw [hx]; exact e1.symm)
          rw [this.1]; exact hv.symm
      · rintro ⟨e1, _⟩
        have := h.there k hkl (by rw [← e1]; exact ha)
        rw [← e1, hm] at this
        exact Option.some.inj this
  · intro i hi
    rcases Nat.lt_or_ge i l.length with c | c
    · rw [rd_old _ _ _ c, List.take_append_of_le_length (by omega), List.take_append_of_le_length (by omega)]
      exact h.next i c
    · have e : i = l.length := by simp at hi; omega
      subst e
      rw [rd_new, List.take_left, h.count, List.take_of_length_le (by simp), hcnt]
      have := (h.low j hjl).2
      unfold mx
      omega
  · exact hcnt
theorem Inv.new {ws l : List Int} {m : List (Int × Int)} {n v : Int} (h : Inv ws l m n) (hm : m.lookup v = none) : Inv (ws ++ [v]) (l ++ [n]) (if al v = true then m else (v, n) :: m) (n + 1) := by
  have hlen := h.len
  have hp := h.pos
  have hcnt : (Mapv.distinct (l ++ [n]).reverse : Int) = n + 1 := by
    rw [List.reverse_append]
    show (Mapv.distinct (n :: l.reverse) : Int) = n + 1
    unfold Mapv.distinct
    have : ¬ l.reverse.contains n = true := by
      rw [List.contains_iff_mem, List.mem_reverse]
      intro hmem
      obtain ⟨i, hi, e⟩ := mem_rd hmem
      have := (h.low i hi).2
      omega
    rw [if_neg this]
    have := h.count
    omega
  have hlk : ∀ u, (if al v = true then m else (v, n) :: m).lookup u = if al v = false ∧ u = v then some n else m.lookup u := by
    intro u
    cases ha : al v
    · simp only [Bool.false_eq_true, if_false, true_and]
      by_cases e : u = v
      · subst e; rw [if_pos rfl, List.lookup_cons_self]
      · rw [if_neg e, List.lookup_cons, show (u == v) = false by simpa using e]
    · simp
  refine ⟨by simp [h.len], by omega, ?_, ?_, ?_, ?_, ?_, ?_⟩
  · intro i hi
    rcases Nat.lt_or_ge i l.length with c | c
    · rw [rd_old _ _ _ c]; have := h.low i c; omega
    · have e : i = l.length := by simp at hi; omega
      subst e
      rw [rd_new]; omega
  · intro v' x' h'
    rw [hlk] at h'
    by_cases c : al v = false ∧ v' = v
    · rw [if_pos c] at h'
      obtain rfl := Option.some.inj h'
      obtain ⟨c1, rfl⟩ := c
      exact ⟨c1, ws.length, by simp, rd_new _ _, by rw [← h.len]; exact rd_new _ _⟩
    · rw [if_neg c] at h'
      obtain ⟨ha', j', hj', hv', hx'⟩ := h.book v' x' h'
      exact ⟨ha', j', by simp; omega, by rw [rd_old _ _ _ hj']; exact hv', by rw [rd_old _ _ _ (by omega)]; exact hx'⟩
  · intro i hi hai
    rw [hlk]
    rcases Nat.lt_or_ge i ws.length with c | c
    · rw [rd_old _ _ _ c] at hai ⊢
      rw [rd_old _ _ _ (by omega)]
      have := h.there i c hai
      rw [if_neg (fun hh => by rw [hh.2, hm] at this; cases this)]
      exact this
    · have e : i = ws.length := by simp at hi; omega
      subst e
      rw [rd_new] at hai ⊢
      rw [if_pos ⟨hai, rfl⟩, ← h.len, rd_new]
  · intro i k hi hk
    rcases Nat.lt_or_ge i ws.length with c | c
    · rw [rd_old ws v i c, rd_old ws v k (by omega), rd_old l n i (by omega), rd_old l n k (by omega)]
      exact h.same i k c hk
    · have e : i = ws.length := by simp at hi; omega
      subst e
      have e2 : rd (l ++ [n]) (ws.length : Int) = n := by rw [← hlen]; exact rd_new l n
      rw [rd_new ws v, e2, rd_old ws v k hk, rd_old l n k (by omega)]
      have hkl : k < ws.length := hk
      constructor
      · intro e1
        have := (h.low k (by omega)).2
        omega
      · rintro ⟨e1, ha⟩
        have := h.there k hkl (by rw [← e1]; exact ha)
        rw [← e1, hm] at this
        cases this
  · intro i hi
    rcases Nat.lt_or_ge i l.length with c | c
    · rw [rd_old _ _ _ c, List.take_append_of_le_length (by omega), List.take_append_of_le_length (by omega)]
      exact h.next i c
    · have e : i = l.length := by simp at hi; omega
      subst e
      rw [rd_new, List.take_left, h.count, List.take_of_length_le (by simp), hcnt]
      unfold mx
      omega
  · exact hcnt
theorem num_inv : ∀ (ws ws0 l : List Int) (m : List (Int × Int)) (n : Int), Inv ws0 l m n → ∃ m' n', Inv (ws0 ++ ws) (numL ws m n l) m' n'
  | [], ws0, l, m, n, h => ⟨m, n, by rw [List.append_nil]; exact h⟩
  | v :: ws, ws0, l, m, n, h => by
    unfold numL
    rw [show ws0 ++ v :: ws = (ws0 ++ [v]) ++ ws by simp]
    cases hm : m.lookup v with
    | some x => exact num_inv ws _ _ _ _ (h.old hm)
    | none => exact num_inv ws _ _ _ _ (h.new hm)

theorem lives_true : Evt (fun q => pleatlaw15_lives.f q) true := Evt.of_mono pleatlaw15_lives.mono 100 (by decide +kernel)
/-! ### the document's Alone -/
theorem s15_hi (x : Int) (h : 0 ≤ x ∧ x < 65536) : (x / 32768 == 1) = s15 x := by
  obtain ⟨a, rfl⟩ := Int.eq_ofNat_of_zero_le h.1
  have ha : a < 65536 := by omega
  unfold s15
  rw [show (32768 : Int) = ((32768 : Nat) : Int) from rfl, u16_and_nat _ _ ha (by decide)]
  by_cases hl : a < 32768
  · have h0 : a &&& 32768 = 0 := by
      apply Nat.eq_of_testBit_eq
      intro i
      rw [Nat.testBit_and, show (32768 : Nat) = 2 ^ 15 from rfl, Nat.testBit_two_pow]
      by_cases e : 15 = i
      · subst e; rw [Nat.testBit_lt_two_pow hl]; simp
      · simp [e]
    rw [h0]
    have : (a : Int) / ((32768 : Nat) : Int) = 0 := by omega
    rw [this]; rfl
  · have h1 : a &&& 32768 ≠ 0 := by
      intro hh
      have h2 : (a &&& 32768).testBit 15 = true := by
        rw [Nat.testBit_and, show (32768 : Nat) = 2 ^ 15 from rfl, Nat.testBit_two_pow_self, show a = 2 ^ 15 + (a - 32768) by omega, Nat.testBit_two_pow_add_eq, Nat.testBit_lt_two_pow (by omega)]
        rfl
      rw [hh] at h2
      simp at h2
    have h3 : (a : Int) / ((32768 : Nat) : Int) = 1 := by omega
    rw [h3]
    simp
    exact h1
theorem bit_of (b : Bool) (r : Int) (h0 : 0 ≤ r) (h1 : r < 16) (h2 : b = true ∨ r = 0) : ∃ v, pleatref13_bit.f b r = some v ∧ s15 v = (r == 15) ∧ 0 ≤ v ∧ v < 65536 := by
  unfold pleatref13_bit.f
  cases b with
  | true => exact ⟨_, by rw [if_pos rfl, if_pos h0], s15_shl r h0 h1⟩
  | false =>
    have hr : r = 0 := by simpa using h2
    subst hr
    exact ⟨0, by simp, by decide⟩
theorem ref_links {w : Int} (h : isW w) (h0 : ¬ (dec w).1 < 0) (h17 : (dec w).1 ≠ 17) (h18 : (dec w).1 ≠ 18) (k : Nat) (hk : 8 ≤ k) :
    pleatref13_Links.f k w = some (decide ((dec w).2.1 = 15 ∨ (dec w).2.2.1 = 15 ∨ (dec w).2.2.2.1 = 15)) := by
  obtain ⟨k, rfl⟩ : ∃ m, k = m + 1 := ⟨k - 1, by omega⟩
  obtain ⟨h22, hok⟩ := dec_fields h h0
  unfold pleatref13_Links.f pleatref13_Reads.f pleatref13_Writes.f
  rw [ref_dec h _ (by omega)]
  generalize dec w = t at *
  obtain ⟨o, D, A, B, N⟩ := t
  simp only [okF, Bool.and_eq_true, decide_eq_true_eq] at hok
  obtain ⟨⟨⟨⟨d0, d1, d2⟩, a0, a1, a2⟩, b0, b1, b2⟩, _⟩ := hok
  simp only at h17 h18
  obtain ⟨vD, eD, sD⟩ := bit_of (bt1 (hv o) 1) D d0 d1 (by simpa using d2)
  obtain ⟨vA, eA, sA⟩ := bit_of (bt1 (hv o) 2) A a0 a1 (by simpa using a2)
  obtain ⟨vB, eB, sB⟩ := bit_of (bt1 (hv o) 4) B b0 b1 (by simpa using b2)
  have e18 : (o == 18) = false := by simpa using h18
  simp only [Option.bind_some, ref_has' _ _ (show 3 ≤ k + 1 by omega), ref_has' _ _ (show 3 ≤ k by omega), h17, if_false, e18, pleatref13_Writes.j0, Bool.false_eq_true, eA, eB, eD]
  have oAB := s15_or vA vB sA.2 sB.2
  have oABD := s15_or _ vD oAB.2 sD.2
  rw [s15_hi _ oABD.2, oABD.1, oAB.1, sA.1, sB.1, sD.1]
  congr 1
  rw [Bool.eq_iff_iff]
  simp
  omega
theorem ref_alone {w : Int} (h : isW w) (k : Nat) (hk : 10 ≤ k) : pleatref13_Alone.f k w = some (al w) := by
  obtain ⟨k, rfl⟩ : ∃ m, k = m + 2 := ⟨k - 2, by omega⟩
  unfold pleatref13_Alone.f al
  rw [ref_dec h _ (by omega)]
  simp only [Option.bind_some]
  by_cases c0 : (dec w).1 < 0
  · have hm : (dec w).1 = -1 := by
      unfold dec at c0 ⊢
      by_cases c : opOf w < 22 ∧ okF (hv (opOf w)) (dOf w) (aOf w) (bOf w) (nn w) = true
      · rw [if_pos c] at c0; have := op_range h; simp only at c0; omega
      · rw [if_neg c]
    rw [if_pos hm, hm]
    rfl
  · have hm : ¬ (dec w).1 = -1 := by omega
    rw [if_neg hm]
    by_cases c16 : (dec w).1 = 16
    · rw [c16]; rfl
    · have e16 : ((dec w).1 == 16) = false := by simpa using c16
      rw [e16]
      simp only [pleatref13_Alone.j0, Bool.false_eq_true, if_false]
      by_cases c19 : (dec w).1 = 19
      · rw [if_pos c19, c19]
        simp [pleatref13_Alone.j1]
      · rw [if_neg c19]
        by_cases c17 : (dec w).1 = 17
        · have hok := (dec_fields h c0).2
          rw [c17] at hok ⊢
          have : hv 17 = 24 := by decide
          rw [this] at hok
          simp only [okF, Bool.and_eq_true, decide_eq_true_eq] at hok
          obtain ⟨⟨⟨⟨_, _, d2⟩, _, _, a2⟩, _, _, b2⟩, _⟩ := hok
          have hD : (dec w).2.1 = 0 := by simpa [bt1] using d2
          have hA : (dec w).2.2.1 = 0 := by simpa [bt1] using a2
          have hB : (dec w).2.2.2.1 = 0 := by simpa [bt1] using b2
          rw [hD, hA, hB]
          simp [pleatref13_Alone.j1]
        · have e17 : ((dec w).1 == 17) = false := by simpa using c17
          rw [e17]
          simp only [pleatref13_Alone.j1, Bool.false_eq_true, if_false]
          by_cases c18 : (dec w).1 = 18
          · have hok := (dec_fields h c0).2
            rw [c18] at hok ⊢
            have : hv 18 = 2 := by decide
            rw [this] at hok
            simp only [okF, Bool.and_eq_true, decide_eq_true_eq] at hok
            obtain ⟨⟨⟨⟨_, _, d2⟩, _, _, a2⟩, _, _, b2⟩, _⟩ := hok
            have hD : (dec w).2.1 = 0 := by simpa [bt1] using d2
            have hB : (dec w).2.2.2.1 = 0 := by simpa [bt1] using b2
            rw [hD, hB]
            simp
            by_cases c : (dec w).2.2.1 = 15
            · simp [c]
            · simp [c]
          · rw [if_neg c18, ref_links h c0 c17 c18 k (by omega)]
            have hne : ¬ ((dec w).1 < 0 ∨ (dec w).1 = 16) := by omega
            rw [if_neg hne]
            have e19 : ((dec w).1 != 19) = true := by simpa using c19
            rw [e19]
            simp
theorem alone_ev {w : Int} (h : isW w) : Evt (fun k => touch_Alone.f k w) (al w) := ⟨4, fun k hk => alone_eq h k hk⟩
theorem ref_alone_ev {w : Int} (h : isW w) : Evt (fun k => pleatref13_Alone.f k w) (al w) := ⟨10, fun k hk => ref_alone h k hk⟩
def sameB (v w : Int) : Bool := if v = w then !al v else false
theorem same_ev {v w : Int} (h : isW v) : Evt (fun k => number_Same.f k v w) (sameB v w) := by
  unfold number_Same.f sameB
  by_cases e : v = w
  · simp only [e, if_true]
    exact Evt.bind (alone_ev (e ▸ h)) Evt.pure
  · simp only [e, if_false]
    exact Evt.pure
theorem ref_same_ev {v w : Int} (h : isW v) : Evt (fun k => pleatref15_Same.f k v w) (sameB v w) := by
  unfold pleatref15_Same.f sameB
  by_cases e : v = w
  · simp only [e, if_true]
    exact Evt.bind (ref_alone_ev (e ▸ h)) Evt.pure
  · simp only [e, if_false]
    exact Evt.pure
/-! ### the document's numbers -/
theorem take_rd (l : List Int) (i j : Nat) (hj : j < i) (hi : i ≤ l.length) : rd (l.take i) (j : Int) = rd l (j : Int) := by
  rw [rd_nat, rd_nat, List.getD_eq_getElem?_getD, List.getD_eq_getElem?_getD, List.getElem?_take, if_pos hj]
theorem inner (l l0 : List Int) (m : List (Int × Int)) (n : Int) (i : Nat) (R : List Int) (hW : allW l) (hi : i < l.length) (hl : l.length ≤ 40000) (hI : Inv (l.take i) l0 m n)
    (hs : ∀ x, m.lookup (rd l (i : Int)) = some x → Evt (fun k => pleatref15_Numbers.l0 k l (l0 ++ [x]) n ((i + 1 : Nat) : Int)) R)
    (hn : m.lookup (rd l (i : Int)) = none → Evt (fun k => pleatref15_Numbers.l0 k l (l0 ++ [n]) (wrap64 (n + 1)) ((i + 1 : Nat) : Int)) R) :
    ∀ (d q : Nat), q + d = i → (∀ j, j < q → ¬ (rd l (j : Int) = rd l (i : Int) ∧ al (rd l (i : Int)) = false)) → Evt (fun k => pleatref15_Numbers.l1 k l l0 n (i : Int) (-1) (q : Int)) R := by
  have hlen : l0.length = i := by rw [hI.len, List.length_take]; omega
  have hw1 := wrap1 i (by omega)
  have hroom : l0.length < 17592186044416 := by omega
  intro d
  induction d with
  | zero =>
    intro q hq hno
    obtain rfl : q = i := by omega
    refine Evt.succ ?_
    simp only [pleatref15_Numbers.l1, Int.lt_irrefl, if_false]
    refine Evt.succ ?_
    simp only [pleatref15_Numbers.j2, Bool.false_eq_true, if_false, show ((-1 : Int) < 0) from by decide, if_true, hroom, hw1]
    refine hn ?_
    cases hm : m.lookup (rd l (q : Int)) with
    | none => rfl
    | some x =>
      obtain ⟨h1, j, h2, h3, _⟩ := hI.book _ _ hm
      rw [List.length_take] at h2
      rw [take_rd l q j (by omega) (by omega)] at h3
      exact absurd ⟨h3, h1⟩ (hno j (by omega))
  | succ d ih =>
    intro q hq hno
    have hqi : (q : Int) < (i : Int) := by omega
    have hql : (q : Int) < (l.length : Int) := by omega
    have hil : (i : Int) < (l.length : Int) := by omega
    refine Evt.succ ?_
    simp only [pleatref15_Numbers.l1, hqi, if_true, show decide ((-1 : Int) < 0) = true from rfl]
    refine Evt.succ ?_
    simp only [pleatref15_Numbers.j2, if_true, nonneg, hql, hil, wrap1 q (by omega)]
    refine Evt.bind (ref_same_ev (rd_W hW q (by omega))) ?_
    by_cases e : rd l (q : Int) = rd l (i : Int)
    · by_cases ha : al (rd l (i : Int)) = true
      · simp only [sameB, e, if_true, ha, Bool.not_true, Bool.false_eq_true, if_false]
        exact ih (q + 1) (by omega) fun j hj hh => by rw [ha] at hh; cases hh.2
      · have ha2 : al (rd l (i : Int)) = false := by simpa using ha
        have hx : m.lookup (rd l (i : Int)) = some (rd l0 (q : Int)) := by
          have := hI.there q (by rw [List.length_take]; omega) (by rw [take_rd l i q (by omega) (by omega), e]; exact ha2)
          rw [take_rd l i q (by omega) (by omega), e] at this
          exact this
        have h0 : 0 ≤ rd l0 (q : Int) := (hI.low q (by omega)).1
        have hq0 : (q : Int) < (l0.length : Int) := by omega
        have hlt : ¬ rd l0 (q : Int) < 0 := by omega
        simp only [sameB, e, if_true, ha2, Bool.not_false, hq0]
        have hs2 := hs _ hx
        generalize rd l0 (q : Int) = x at *
        refine Evt.succ ?_
        by_cases hq1 : ((q + 1 : Nat) : Int) < (i : Int)
        · simp only [pleatref15_Numbers.l1, hq1, if_true, decide_eq_false hlt]
          refine Evt.succ ?_
          simp only [pleatref15_Numbers.j2, Bool.false_eq_true, if_false, hlt, hroom, if_true, hw1]
          exact hs2
        · simp only [pleatref15_Numbers.l1, hq1, if_false]
          refine Evt.succ ?_
          simp only [pleatref15_Numbers.j2, Bool.false_eq_true, if_false, hlt, hroom, if_true, hw1]
          exact hs2
    · simp only [sameB, e, if_false, Bool.false_eq_true]
      exact ih (q + 1) (by omega) fun j hj hh => by
        by_cases hjq : j = q
        · subst hjq; exact e hh.1
        · exact hno j (by omega) hh
theorem outer (l : List Int) (hW : allW l) (hl : l.length ≤ 40000) : ∀ (d i : Nat) (l0 : List Int) (m : List (Int × Int)) (n : Int), i + d = l.length → Inv (l.take i) l0 m n → n ≤ (i : Int) → Evt (fun k => pleatref15_Numbers.l0 k l l0 n (i : Int)) (numL (l.drop i) m n l0)
  | 0, i, l0, m, n, h, hI, hni => by
    obtain rfl : i = l.length := by omega
    refine Evt.succ ?_
    simp only [pleatref15_Numbers.l0, Int.lt_irrefl, if_false, List.drop_length, numL]
    exact Evt.pure
  | d + 1, i, l0, m, n, h, hI, hni => by
    have hi : i < l.length := by omega
    have hil : (i : Int) < (l.length : Int) := by omega
    have hd : l.drop i = rd l (i : Int) :: l.drop (i + 1) := by
      rw [List.drop_eq_getElem_cons (by omega), rd_nat, getD_eq 0 (by omega)]
    have ht : l.take (i + 1) = l.take i ++ [rd l (i : Int)] := by rw [take_next 0 hi, rd_nat]
    have hw : wrap64 (n + 1) = n + 1 := by have := hI.pos; unfold wrap64; omega
    refine Evt.succ ?_
    simp only [pleatref15_Numbers.l0, hil, if_true]
    rw [hd]
    unfold numL
    cases hm : m.lookup (rd l (i : Int)) with
    | some x =>
      refine inner l l0 m n i _ hW hi hl hI (fun y hy => ?_) (fun hh => by rw [hm] at hh; cases hh) i 0 (by omega) (fun j hj => by omega)
      obtain rfl : x = y := Option.some.inj (hm.symm.trans hy)
      exact outer l hW hl d (i + 1) (l0 ++ [x]) m n (by omega) (by rw [ht]; exact hI.old hm) (by omega)
    | none =>
      refine inner l l0 m n i _ hW hi hl hI (fun y hy => by rw [hm] at hy; cases hy) (fun _ => ?_) i 0 (by omega) (fun j hj => by omega)
      rw [hw]
      exact outer l hW hl d (i + 1) (l0 ++ [n]) _ (n + 1) (by omega) (by rw [ht]; exact hI.new hm) (by omega)
theorem ref_numbers (l : List Int) (hW : allW l) (hl : l.length ≤ 40000) : Evt (fun k => pleatref15_Numbers.f k l) (numL l [] 0 []) := by
  have h := outer l hW hl l.length 0 [] [] 0 (by omega) (by rw [List.take_zero]; exact Inv.nil) (by omega)
  rw [List.drop_zero] at h
  exact h
/-! ### unlike numbers -/
theorem distinct_next (l : List Int) (i : Nat) (hi : i < l.length) : Mapv.distinct (l.take (i + 1)).reverse = if (∃ j, j < i ∧ rd l (j : Int) = rd l (i : Int)) then Mapv.distinct (l.take i).reverse else Mapv.distinct (l.take i).reverse + 1 := by
  rw [take_next 0 hi, List.reverse_append]
  show Mapv.distinct (l.getD i 0 :: (l.take i).reverse) = _
  unfold Mapv.distinct
  have e : (l.take i).reverse.contains (l.getD i 0) = true ↔ ∃ j, j < i ∧ rd l (j : Int) = rd l (i : Int) := by
    rw [List.contains_iff_mem, List.mem_reverse]
    constructor
    · intro h
      obtain ⟨j, hj⟩ := List.mem_iff_getElem?.1 h
      rw [List.getElem?_take] at hj
      split at hj
      · rename_i hji
        exact ⟨j, hji, by rw [rd_nat, rd_nat, List.getD_eq_getElem?_getD, hj]; rfl⟩
      · cases hj
    · rintro ⟨j, hj, he⟩
      rw [rd_nat, rd_nat] at he
      rw [← he]
      refine List.mem_iff_getElem?.2 ⟨j, ?_⟩
      rw [List.getElem?_take, if_pos hj, List.getElem?_eq_getElem (by omega), getD_eq 0 (by omega)]
  by_cases c : (l.take i).reverse.contains (l.getD i 0) = true
  · rw [if_pos c, if_pos (e.1 c)]
    cases (l.take i).reverse <;> rfl
  · rw [if_neg c, if_neg (fun hh => c (e.2 hh))]
    cases (l.take i).reverse <;> rfl
theorem cnt_inner (l : List Int) (c : Int) (i : Nat) (R : Int) (hi : i < l.length) (hl : l.length ≤ 40000) 
    (hy : (∃ j, j < i ∧ rd l (j : Int) = rd l (i : Int)) → Evt (fun k => pleatref15_Count.l0 k l c ((i + 1 : Nat) : Int)) R)
    (hn : ¬ (∃ j, j < i ∧ rd l (j : Int) = rd l (i : Int)) → Evt (fun k => pleatref15_Count.l0 k l (wrap64 (c + 1)) ((i + 1 : Nat) : Int)) R) :
    ∀ (d q : Nat), q + d = i → (∀ j, j < q → rd l (j : Int) ≠ rd l (i : Int)) → Evt (fun k => pleatref15_Count.l1 k l c (i : Int) true (q : Int)) R := by
  have hw1 := wrap1 i (by omega)
  intro d
  induction d with
  | zero =>
    intro q hq hno
    obtain rfl : q = i := by omega
    refine Evt.succ ?_
    simp only [pleatref15_Count.l1, Int.lt_irrefl, if_false, if_true, hw1]
    exact hn fun ⟨j, hj, he⟩ => hno j hj he
  | succ d ih =>
    intro q hq hno
    have hqi : (q : Int) < (i : Int) := by omega
    have hql : (q : Int) < (l.length : Int) := by omega
    have hil : (i : Int) < (l.length : Int) := by omega
    refine Evt.succ ?_
    simp only [pleatref15_Count.l1, hqi, if_true, nonneg, hql, hil, wrap1 q (by omega)]
    by_cases e : rd l (q : Int) = rd l (i : Int)
    · have e2 : (rd l (q : Int) != rd l (i : Int)) = false := by simp [e]
      rw [e2]
      refine Evt.succ ?_
      have hh := hy ⟨q, by omega, e⟩
      by_cases hq1 : ((q + 1 : Nat) : Int) < (i : Int)
      · simp only [pleatref15_Count.l1, hq1, if_true, Bool.false_eq_true, if_false, hw1]
        exact hh
      · simp only [pleatref15_Count.l1, hq1, if_false, Bool.false_eq_true, hw1]
        exact hh
    · have e2 : (rd l (q : Int) != rd l (i : Int)) = true := by simp [e]
      rw [e2]
      exact ih (q + 1) (by omega) fun j hj => by
        by_cases hjq : j = q
        · subst hjq; exact e
        · exact hno j (by omega)
theorem distinct_le (l : List Int) : Mapv.distinct l ≤ l.length := by
  induction l with
  | nil => exact Nat.le_refl _
  | cons a t ih => unfold Mapv.distinct; split <;> simp <;> omega
theorem cnt_outer (l : List Int) (hl : l.length ≤ 40000) : ∀ (d i : Nat), i + d = l.length → Evt (fun k => pleatref15_Count.l0 k l ((Mapv.distinct (l.take i).reverse : Nat) : Int) (i : Int)) ((Mapv.distinct l.reverse : Nat) : Int)
  | 0, i, h => by
    obtain rfl : i = l.length := by omega
    refine Evt.succ ?_
    simp only [pleatref15_Count.l0, Int.lt_irrefl, if_false, List.take_length]
    exact Evt.pure
  | d + 1, i, h => by
    have hi : i < l.length := by omega
    have hil : (i : Int) < (l.length : Int) := by omega
    have hb : Mapv.distinct (l.take i).reverse ≤ 40000 := Nat.le_trans (distinct_le _) (by simp; omega)
    refine Evt.succ ?_
    simp only [pleatref15_Count.l0, hil, if_true]
    have ih := cnt_outer l hl d (i + 1) (by omega)
    have hd := distinct_next l i hi
    refine cnt_inner l _ i _ hi hl (fun hh => ?_) (fun hh => ?_) i 0 (by omega) (fun j hj => by omega)
    · rw [if_pos hh] at hd
      rw [hd] at ih; exact ih
    · rw [if_neg hh] at hd
      rw [hd] at ih
      rw [show wrap64 (((Mapv.distinct (l.take i).reverse : Nat) : Int) + 1) = ((Mapv.distinct (l.take i).reverse + 1 : Nat) : Int) from wrap1 _ (by omega)]
      exact ih
theorem ref_count (l : List Int) (hl : l.length ≤ 40000) : Evt (fun k => pleatref15_Count.f k l) ((Mapv.distinct l.reverse : Nat) : Int) := by
  have h := cnt_outer l hl l.length 0 (by omega)
  rw [List.take_zero] at h
  exact h
theorem eqInts_loop (l : List Int) (hl : l.length ≤ 1000000) : ∀ (d i : Nat), i + d = l.length → Evt (fun k => pleatref00_EqInts.l0 k l l (i : Int)) true
  | 0, i, h => by
    obtain rfl : i = l.length := by omega
    refine Evt.succ ?_
    simp only [pleatref00_EqInts.l0, Int.lt_irrefl, if_false]
    exact Evt.pure
  | d + 1, i, h => by
    refine Evt.succ ?_
    have h1 : (i : Int) < (l.length : Int) := by omega
    simp only [pleatref00_EqInts.l0, h1, nonneg, if_true, wrap1 i (by omega)]
    exact eqInts_loop l hl d (i + 1) (by omega)
theorem eqInts (l : List Int) (hl : l.length ≤ 1000000) : Evt (fun k => pleatref00_EqInts.f k l l) true := by
  simp only [pleatref00_EqInts.f, if_true]
  exact eqInts_loop l hl l.length 0 (by omega)
theorem refchk_ev {l : List Int} (m : List Int) (e : Int) (hW : allW l) : Evt (fun k => pleatref07_Check.f k l e m) (chk l e m) := ⟨16392, fun k hk => ref_chk l m e hW k (.inr hk)⟩
theorem chk_len {l m : List Int} {e : Int} (h : (chk l e m).1 = 0) : l.length ≤ 16384 := by
  unfold chk at h
  repeat' split at h
  all_goals first | (simp at h; done) | omega
theorem count_ev {l : List Int} (h : ∀ x ∈ l, (Lit.int .i64 x).wf = true) : number_Count.f l = some ((Mapv.distinct l.reverse : Nat) : Int) := by
  unfold number_Count.f
  rw [if_pos]
  rw [List.all_eq_true]
  intro x hx
  have := h x hx
  have hmin : IntKind.i64.min = -9223372036854775808 := rfl
  have hmax : IntKind.i64.max = 9223372036854775807 := rfl
  simp only [Lit.wf, Bool.and_eq_true, decide_eq_true_eq] at this ⊢
  omega
theorem num_len : ∀ (ws : List Int) (m : List (Int × Int)) (n : Int) (l : List Int), (numL ws m n l).length = l.length + ws.length
  | [], _, _, _ => rfl
  | v :: ws, m, n, l => by
    unfold numL
    split
    · rw [num_len]; simp; omega
    · rw [num_len]; simp; omega
theorem all_num (l m s b : List Int) (e f v w : Int) (hW : allW l) (hv : isW v) (hw : isW w) (hs : ∀ x ∈ s, (Lit.int .i64 x).wf = true) (hl : l.length ≤ 40000) (hm : m.length ≤ 40000) (hsl : s.length ≤ 40000) (hb : b.length ≤ 1000000) (h1 : Evt (fun k => number_Of.f k l e m) (b, f)) (h2 : Evt (fun k => pleatref15_Of.f k l e m) (b, f)) :
    Evt (fun k => (number_Of.f k l e m).bind fun b => (pleatref15_Of.f k l e m).bind fun v' => (pleatref00_EqInts.f k b.1 v'.1).bind fun q => (pleatref00_EqInts.f k s s).bind fun q3 => (pleatref00_EqImage.f k l e m l e m).bind fun p =>
  (number_Same.f k v w).bind fun s1 => (pleatref15_Same.f k v w).bind fun s2 => (number_Same.f k v v).bind fun s3 => (pleatref15_Same.f k v v).bind fun s4 => (number_Count.f s).bind fun n1 => (pleatref15_Count.f k s).bind fun n2 =>
  if b.2 = v'.2 ∧ q = true ∧ q3 = true ∧ p = true ∧ s1 = s2 ∧ s3 = s4 ∧ n1 = n2 ∧ b.1.length ≤ 1000000 then pleatlaw15_lives.f k else none) true := by
  refine Evt.bind h1 (Evt.bind h2 (Evt.bind (eqInts b hb) (Evt.bind (eqInts s (by omega)) (Evt.bind (eqImage l m e hl hm) (Evt.bind (same_ev hv) (Evt.bind (ref_same_ev hv) (Evt.bind (same_ev hv) (Evt.bind (ref_same_ev hv) (Evt.bind (Evt.const (count_ev hs)) (Evt.bind (ref_count s hsl) ?_))))))))))
  have hc : f = f ∧ true = true ∧ true = true ∧ true = true ∧ sameB v w = sameB v w ∧ sameB v v = sameB v v ∧ ((Mapv.distinct s.reverse : Nat) : Int) = ((Mapv.distinct s.reverse : Nat) : Int) ∧ b.length ≤ 1000000 := ⟨rfl, rfl, rfl, rfl, rfl, rfl, rfl, hb⟩
  simp only [hc, if_true]
  exact lives_true
theorem u32_of {x : Int} (h : (Lit.int .u32 x).wf = true) : isW x := by
  have hmin : IntKind.u32.min = 0 := rfl
  have hmax : IntKind.u32.max = 4294967295 := rfl
  simp only [Lit.wf, Bool.and_eq_true, decide_eq_true_eq] at h
  unfold isW
  omega
theorem NumberOf : St.NumberOf := by
  intro l e m v w s hl he hm hv hw hs
  have hW : allW l := allW_of hl.2
  refine Evt.out (g := fun k => pleatlaw15_NumberOf.f k l e m v w s) ?_
  unfold pleatlaw15_NumberOf.f
  by_cases c1 : numberHeavy l m s = true
  · simp only [c1, if_true]
    exact lives_true
  · simp only [c1, if_false]
    have hb : ¬ ((2048 < l.length ∧ l.length ≤ 16384) ∨ 32768 < l.length ∨ 8192 < m.length ∨ 2048 < s.length) := fun hh => c1 (decide_eq_true hh)
    by_cases hc : (chk l e m).1 = 0
    · have hlen := chk_len hc
      refine all_num l m s (numL l [] 0 []) e 0 v w hW (u32_of hv) (u32_of hw) hs.2 (by omega) (by omega) (by omega) (by rw [num_len]; simp; omega) ?_ ?_
      · refine ⟨16390, fun k hk => ?_⟩
        show number_Of.f k l e m = _
        unfold number_Of.f
        rw [isa_chk l m e hW k (.inr (by omega))]
        simp only [Option.bind_some, hc, if_true]
        rw [if_pos ⟨List.all_eq_true.2 fun x hx => decide_eq_true (hW x hx), by omega⟩, num_eq k (by omega) l [] 0 [] hW]
        rfl
      · refine Evt.bind (refchk_ev m e hW) ?_
        simp only [hc, if_true]
        exact Evt.bind (ref_numbers l hW (by omega)) Evt.pure
    · refine all_num l m s [] e (chk l e m).1 v w hW (u32_of hv) (u32_of hw) hs.2 (by omega) (by omega) (by omega) (by simp) ?_ ?_
      · refine ⟨16390, fun k hk => ?_⟩
        show number_Of.f k l e m = _
        unfold number_Of.f
        rw [isa_chk l m e hW k (.inr (by omega))]
        simp only [Option.bind_some, hc, if_false]
      · refine Evt.bind (refchk_ev m e hW) ?_
        simp only [hc, if_false]
        exact Evt.pure
end Go.Proofs.YtfgdjpgdabjpmaaDoor.Pure
