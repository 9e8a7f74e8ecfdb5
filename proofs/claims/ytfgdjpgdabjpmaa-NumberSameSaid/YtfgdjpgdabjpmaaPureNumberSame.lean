/- The theorem of stage 15, as a statement over numbers and lists: two places have one number just if their words are one word that is not alone; the numbers are 0, 1, .. by first standing. -/
import Derived.Test.YtfgdjpgdabjpmaaStNumberSame
import Derived.Test.YtfgdjpgdabjpmaaAlonePNumberSame
namespace Go.Proofs.Ytfgdjpgdabjpmaa.Pure
open Go.RowKit Go.Proofs.YtfgdjpgdabjpmaaW.PrintWords Go.Proofs.YtfgdjpgdabjpmaaW.PrintLast Go.Proofs.Ytfgdjpgdabjpmaa.PNumberSame
set_option linter.unusedVariables false
set_option linter.unusedSimpArgs false

/-- Numbering, with no rounds. -/
def numL : List Int → List (Int × Int) → Int → List Int → List Int
  | [], _, _, l => l
  | v :: ws, m, n, l => match m.lookup v with
    | some x => numL ws m n (l ++ [x])
    | none => numL ws (if al v = true then m else (v, n) :: m) (n + 1) (l ++ [n])
theorem num_eq (k : Nat) (hk : 4 ≤ k) : ∀ (ws : List Int) (m : List (Int × Int)) (n : Int) (l : List Int), allW ws → number_Of.l k ws m n l = some (numL ws m n l)
  | [], _, _, _, _ => rfl
  | v :: ws, m, n, l, h => by
    unfold number_Of.l numL
    cases m.lookup v with
    | some x => exact num_eq k hk ws _ _ _ (fun x hx => h x (by simp [hx]))
    | none =>
      simp only [alone_eq (h v (by simp)) k hk, Option.bind_some]
      exact num_eq k hk ws _ _ _ (fun x hx => h x (by simp [hx]))

/-- What holds of the words that have been numbered: their numbers l, the book m, the next number n. -/
structure Inv (ws l : List Int) (m : List (Int × Int)) (n : Int) : Prop where
  len : l.length = ws.length
  pos : 0 ≤ n
  low : ∀ i, i < l.length → 0 ≤ rd l (i : Int) ∧ rd l (i : Int) < n
  book : ∀ v x, m.lookup v = some x → al v = false ∧ ∃ i, i < ws.length ∧ rd ws (i : Int) = v ∧ rd l (i : Int) = x
  there : ∀ i, i < ws.length → al (rd ws (i : Int)) = false → m.lookup (rd ws (i : Int)) = some (rd l (i : Int))
  same : ∀ i k, i < ws.length → k < i → (rd l (i : Int) = rd l (k : Int) ↔ rd ws (i : Int) = rd ws (k : Int) ∧ al (rd ws (i : Int)) = false)
  next : ∀ i, i < l.length → rd l (i : Int) ≤ (Mapv.distinct (l.take i).reverse : Nat) ∧ mx ((Mapv.distinct (l.take i).reverse : Nat) - 1) (rd l (i : Int)) = (Mapv.distinct (l.take (i + 1)).reverse : Nat) - 1
  count : (Mapv.distinct l.reverse : Nat) = n
theorem rd_old (l : List Int) (x : Int) (i : Nat) (h : i < l.length) : rd (l ++ [x]) (i : Int) = rd l (i : Int) := by
  simp [rd, List.getD_eq_getElem?_getD, List.getElem?_append_left h]
theorem rd_new (l : List Int) (x : Int) : rd (l ++ [x]) (l.length : Int) = x := by
  simp [rd, List.getD_eq_getElem?_getD]
theorem mem_rd {l : List Int} {x : Int} (h : x ∈ l) : ∃ i, i < l.length ∧ rd l (i : Int) = x := by
  obtain ⟨i, hi, rfl⟩ := List.getElem_of_mem h
  exact ⟨i, hi, by simp [rd, List.getD_eq_getElem?_getD, List.getElem?_eq_getElem hi]⟩
theorem rd_mem {l : List Int} (i : Nat) (h : i < l.length) : rd l (i : Int) ∈ l := by
  have : rd l (i : Int) = l[i] := by simp [rd, List.getD_eq_getElem?_getD, List.getElem?_eq_getElem h]
  rw [this]
  exact List.getElem_mem h
/-- Numbers that rise by one where a new one comes. -/
theorem Inv.nil : Inv [] [] [] 0 := ⟨rfl, by omega, fun i h => by simp at h, fun v x h => by simp at h, fun i h => by simp at h, fun i k h => by simp at h, fun i h => by simp at h, rfl⟩
theorem Inv.old {ws l : List Int} {m : List (Int × Int)} {n v x : Int} (h : Inv ws l m n) (hm : m.lookup v = some x) : Inv (ws ++ [v]) (l ++ [x]) m n := by
  obtain ⟨ha, j, hj, hv, hx⟩ := h.book v x hm
  have hjl : j < l.length := by have := h.len; omega
  have hlen := h.len
  have hcnt : (Mapv.distinct (l ++ [x]).reverse : Int) = n := by
    rw [List.reverse_append]
    show (Mapv.distinct (x :: l.reverse) : Int) = n
    unfold Mapv.distinct
    have : l.reverse.contains x = true := by
      rw [List.contains_iff_mem, List.mem_reverse, ← hx]
      exact rd_mem j hjl
    rw [if_pos this]
    exact h.count
  refine ⟨by simp [h.len], h.pos, ?_, ?_, ?_, ?_, ?_, ?_⟩
  · intro i hi
    rcases Nat.lt_or_ge i l.length with c | c
    · rw [rd_old _ _ _ c]; exact h.low i c
    · have e : i = l.length := by simp at hi; omega
      subst e
      rw [rd_new, ← hx]
      exact h.low j hjl
  · intro v' x' h'
    obtain ⟨ha', j', hj', hv', hx'⟩ := h.book v' x' h'
    exact ⟨ha', j', by simp; omega, by rw [rd_old _ _ _ hj']; exact hv', by rw [rd_old _ _ _ (by omega)]; exact hx'⟩
  · intro i hi hai
    rcases Nat.lt_or_ge i ws.length with c | c
    · rw [rd_old _ _ _ c] at hai ⊢
      rw [rd_old _ _ _ (by omega)]
      exact h.there i c hai
    · have e : i = ws.length := by simp at hi; omega
      subst e
      rw [rd_new, hm, ← h.len, rd_new]
  · intro i k hi hk
    rcases Nat.lt_or_ge i ws.length with c | c
    · rw [rd_old ws v i c, rd_old ws v k (by omega), rd_old l x i (by omega), rd_old l x k (by omega)]
      exact h.same i k c hk
    · have e : i = ws.length := by simp at hi; omega
      subst e
      have e2 : rd (l ++ [x]) (ws.length : Int) = x := by rw [← hlen]; exact rd_new l x
      rw [rd_new ws v, e2, rd_old ws v k hk, rd_old l x k (by omega)]
      have hkl : k < ws.length := hk
      constructor
      · intro e1
        refine ⟨?_, ha⟩
        rcases Nat.lt_trichotomy k j with c1 | c1 | c1
        · have := (h.same j k hj c1).1 (by rw [hx]; exact e1)
          rw [← hv]; exact this.1
        · subst c1; exact hv.symm
        · have := (h.same k j hkl c1).1 (by rw [hx]; exact e1.symm)
          rw [this.1]; exact hv.symm
      · rintro ⟨e1, _⟩
        have := h.there k hkl (by rw [← e1]; exact ha)
        rw [← e1, hm] at this
        exact Option.some.inj this
  · intro i hi
    rcases Nat.lt_or_ge i l.length with c | c
    · rw [rd_old _ _ _ c, List.take_append_of_le_length (by omega), List.take_append_of_le_length (by omega)]
      exact h.next i c
    · have e : i = l.length := by simp at hi; omega
      subst e
      rw [rd_new, List.take_left, h.count, List.take_of_length_le (by simp), hcnt]
      have := (h.low j hjl).2
      unfold mx
      omega
  · exact hcnt
theorem Inv.new {ws l : List Int} {m : List (Int × Int)} {n v : Int} (h : Inv ws l m n) (hm : m.lookup v = none) : Inv (ws ++ [v]) (l ++ [n]) (if al v = true then m else (v, n) :: m) (n + 1) := by
  have hlen := h.len
  have hp := h.pos
  have hcnt : (Mapv.distinct (l ++ [n]).reverse : Int) = n + 1 := by
    rw [List.reverse_append]
    show (Mapv.distinct (n :: l.reverse) : Int) = n + 1
    unfold Mapv.distinct
    have : ¬ l.reverse.contains n = true := by
      rw [List.contains_iff_mem, List.mem_reverse]
      intro hmem
      obtain ⟨i, hi, e⟩ := mem_rd hmem
      have := (h.low i hi).2
      omega
    rw [if_neg this]
    have := h.count
    omega
  have hlk : ∀ u, (if al v = true then m else (v, n) :: m).lookup u = if al v = false ∧ u = v then some n else m.lookup u := by
    intro u
    cases ha : al v
    · simp only [Bool.false_eq_true, if_false, true_and]
      by_cases e : u = v
      · subst e; rw [if_pos rfl, List.lookup_cons_self]
      · rw [if_neg e, List.lookup_cons, show (u == v) = false by simpa using e]
    · simp
  refine ⟨by simp [h.len], by omega, ?_, ?_, ?_, ?_, ?_, ?_⟩
  · intro i hi
    rcases Nat.lt_or_ge i l.length with c | c
    · rw [rd_old _ _ _ c]; have := h.low i c; omega
    · have e : i = l.length := by simp at hi; omega
      subst e
      rw [rd_new]; omega
  · intro v' x' h'
    rw [hlk] at h'
    by_cases c : al v = false ∧ v' = v
    · rw [if_pos c] at h'
      obtain rfl := Option.some.inj h'
      obtain ⟨c1, rfl⟩ := c
      exact ⟨c1, ws.length, by simp, rd_new _ _, by rw [← h.len]; exact rd_new _ _⟩
    · rw [if_neg c] at h'
      obtain ⟨ha', j', hj', hv', hx'⟩ := h.book v' x' h'
      exact ⟨ha', j', by simp; omega, by rw [rd_old _ _ _ hj']; exact hv', by rw [rd_old _ _ _ (by omega)]; exact hx'⟩
  · intro i hi hai
    rw [hlk]
    rcases Nat.lt_or_ge i ws.length with c | c
    · rw [rd_old _ _ _ c] at hai ⊢
      rw [rd_old _ _ _ (by omega)]
      have := h.there i c hai
      rw [if_neg (fun hh => by rw [hh.2, hm] at this; cases this)]
      exact this
    · have e : i = ws.length := by simp at hi; omega
      subst e
      rw [rd_new] at hai ⊢
      rw [if_pos ⟨hai, rfl⟩, ← h.len, rd_new]
  · intro i k hi hk
    rcases Nat.lt_or_ge i ws.length with c | c
    · rw [rd_old ws v i c, rd_old ws v k (by omega), rd_old l n i (by omega), rd_old l n k (by omega)]
      exact h.same i k c hk
    · have e : i = ws.length := by simp at hi; omega
      subst e
      have e2 : rd (l ++ [n]) (ws.length : Int) = n := by rw [← hlen]; exact rd_new l n
      rw [rd_new ws v, e2, rd_old ws v k hk, rd_old l n k (by omega)]
      have hkl : k < ws.length := hk
      constructor
      · intro e1
        have := (h.low k (by omega)).2
        omega
      · rintro ⟨e1, ha⟩
        have := h.there k hkl (by rw [← e1]; exact ha)
        rw [← e1, hm] at this
        cases this
  · intro i hi
    rcases Nat.lt_or_ge i l.length with c | c
    · rw [rd_old _ _ _ c, List.take_append_of_le_length (by omega), List.take_append_of_le_length (by omega)]
      exact h.next i c
    · have e : i = l.length := by simp at hi; omega
      subst e
      rw [rd_new, List.take_left, h.count, List.take_of_length_le (by simp), hcnt]
      unfold mx
      omega
  · exact hcnt
theorem num_inv : ∀ (ws ws0 l : List Int) (m : List (Int × Int)) (n : Int), Inv ws0 l m n → ∃ m' n', Inv (ws0 ++ ws) (numL ws m n l) m' n'
  | [], ws0, l, m, n, h => ⟨m, n, by rw [List.append_nil]; exact h⟩
  | v :: ws, ws0, l, m, n, h => by
    unfold numL
    rw [show ws0 ++ v :: ws = (ws0 ++ [v]) ++ ws by simp]
    cases hm : m.lookup v with
    | some x => exact num_inv ws _ _ _ _ (h.old hm)
    | none => exact num_inv ws _ _ _ _ (h.new hm)

/-! ### the law's loops -/
section
variable (l l2 : List Int) (x5 : List Int) (e : Int)
theorem run_l1 (x7 : Int) (i : Nat) (b : Bool) (hi : i < x5.length) (hl : x5.length = l.length) (hm : l.length ≤ 300)
    (hs : ∀ k, k < i → ((rd x5 (i : Int) = rd x5 (k : Int)) ↔ (rd l (i : Int) = rd l (k : Int) ∧ b = false))) :
    ∀ (d j : Nat) (K : Nat), j + d = i → pleatlaw15_NumberSame.l1 (K + d + 1) x5 x7 (i : Int) b (j : Int) l e l2 = pleatlaw15_NumberSame.l0 K x5 x7 ((i + 1 : Nat) : Int) l e l2
  | 0, j, K, hj => by
    have hw : wrap64 ((i : Int) + 1) = ((i + 1 : Nat) : Int) := by unfold wrap64; omega
    simp only [pleatlaw15_NumberSame.l1]
    rw [if_neg (by omega), hw]
  | d + 1, j, K, hj => by
    have hw : wrap64 ((j : Int) + 1) = ((j + 1 : Nat) : Int) := by unfold wrap64; omega
    have ih := run_l1 x7 i b hi hl hm hs d (j + 1) K (by omega)
    have h1 := hs j (by omega)
    rw [show K + (d + 1) + 1 = (K + d + 1) + 1 by omega]
    generalize K + d + 1 = q at ih ⊢
    simp only [pleatlaw15_NumberSame.l1]
    rw [if_pos (by omega), if_pos (by omega), if_pos (by omega), if_pos (by omega), if_pos (by omega), if_pos (by omega), if_pos (by omega), hw, ih]
    by_cases c : rd l (i : Int) = rd l (j : Int)
    · rw [if_pos c]
      have : ((rd x5 (i : Int) == rd x5 (j : Int)) != (!b)) = false := by
        cases b
        · have : rd x5 (i : Int) = rd x5 (j : Int) := h1.2 ⟨c, rfl⟩
          simp [this]
        · have : ¬ rd x5 (i : Int) = rd x5 (j : Int) := fun hh => by have := (h1.1 hh).2; cases this
          simp [this]
      rw [this]
      simp
    · rw [if_neg c]
      have : ¬ rd x5 (i : Int) = rd x5 (j : Int) := fun hh => c (h1.1 hh).1
      have e1 : (rd x5 (i : Int) == rd x5 (j : Int)) = false := by simpa using this
      rw [e1]
      simp
theorem run_l0 (hW : allW l) (x7 : Int) (i : Nat) (hi : i < x5.length) (hl : x5.length = l.length) (hm : l.length ≤ 300) (h0 : 0 ≤ rd x5 (i : Int)) (h1 : rd x5 (i : Int) ≤ x7 + 1) (h7 : -1 ≤ x7 ∧ x7 ≤ 300)
    (hs : ∀ k, k < i → ((rd x5 (i : Int) = rd x5 (k : Int)) ↔ (rd l (i : Int) = rd l (k : Int) ∧ al (rd l (i : Int)) = false))) (K : Nat) :
    pleatlaw15_NumberSame.l0 (K + i + 5) x5 x7 (i : Int) l e l2 = pleatlaw15_NumberSame.l0 K x5 (mx x7 (rd x5 (i : Int))) ((i + 1 : Nat) : Int) l e l2 := by
  have hw : wrap64 (x7 + 1) = x7 + 1 := by unfold wrap64; omega
  have hd := isa_dec (rd_W hW i (by omega)) (K + i + 3) (by omega)
  have hrun := fun b hb => run_l1 l l2 x5 e (mx x7 (rd x5 (i : Int))) i b hi hl hm hb i 0 K (by omega)
  have hal : al (rd l (i : Int)) = if (dec (rd l (i : Int))).1 < 0 ∨ (dec (rd l (i : Int))).1 = 16 then true else if (dec (rd l (i : Int))).2.1 = 15 ∨ (dec (rd l (i : Int))).2.2.1 = 15 ∨ (dec (rd l (i : Int))).2.2.2.1 = 15 then (dec (rd l (i : Int))).1 != 19 else false := rfl
  generalize al (rd l (i : Int)) = b at hs hal
  have hr := hrun b hs
  simp only [pleatlaw15_NumberSame.l0]
  rw [if_pos (by omega), if_pos (by omega), if_neg (by omega), hw, decide_eq_false (by omega)]
  simp only [pleatlaw15_NumberSame.j3, Bool.false_eq_true, if_false]
  rw [if_pos (by omega), if_pos (by omega), if_pos (by omega), hd]
  simp only [Option.bind_some]
  generalize dec (rd l (i : Int)) = t at hal ⊢
  have h5 : pleatlaw15_NumberSame.j5 (K + i + 2) x5 (mx x7 (rd x5 (i : Int))) (i : Int) b l e l2 = pleatlaw15_NumberSame.l0 K x5 (mx x7 (rd x5 (i : Int))) ((i + 1 : Nat) : Int) l e l2 := by
    simp only [pleatlaw15_NumberSame.j5]
    exact hr
  have h4 : ∀ lk : Bool, b = (if t.1 < 0 ∨ t.1 = 16 then true else if lk = true then t.1 != 19 else false) → pleatlaw15_NumberSame.j4 (K + i + 3) x5 (mx x7 (rd x5 (i : Int))) (i : Int) lk l e l2 t.1 t.2.1 t.2.2.1 t.2.2.2.1 t.2.2.2.2 = pleatlaw15_NumberSame.l0 K x5 (mx x7 (rd x5 (i : Int))) ((i + 1 : Nat) : Int) l e l2 := by
    intro lk hb
    simp only [pleatlaw15_NumberSame.j4]
    by_cases c0 : t.1 < 0
    · rw [if_pos (.inl c0)] at hb
      rw [if_pos c0, ← hb]; exact h5
    · rw [if_neg c0]
      by_cases c1 : t.1 = 16
      · rw [if_pos (.inr c1)] at hb
        rw [if_pos c1, ← hb]; exact h5
      · rw [if_neg (by omega)] at hb
        rw [if_neg c1]
        cases lk
        · rw [if_neg (by decide)] at hb
          rw [if_neg (by decide), ← hb]; exact h5
        · rw [if_pos rfl] at hb
          rw [if_pos rfl, ← hb]; exact h5
  by_cases cD : t.2.1 = 15
  · rw [if_pos cD]; exact h4 true (by rw [hal]; simp [cD])
  · rw [if_neg cD]
    by_cases cA : t.2.2.1 = 15
    · rw [if_pos cA]; exact h4 true (by rw [hal]; simp [cA])
    · rw [if_neg cA]
      refine h4 _ ?_
      rw [hal]
      by_cases cB : t.2.2.2.1 = 15
      · simp [cB]
      · simp [cD, cA, cB]
end
theorem lives_true : ∃ T, ∀ k, T ≤ k → pleatlaw15_lives.f k = some true := by
  have h : pleatlaw15_lives.f 60 = some true := by decide +kernel
  refine ⟨60, fun k hk => ?_⟩
  obtain ⟨d, rfl⟩ : ∃ d, k = 60 + d := ⟨k - 60, by omega⟩
  clear hk
  induction d with
  | zero => exact h
  | succ d ih => exact pleatlaw15_lives.mono _ _ ih
theorem run_all (l l2 x5 : List Int) (e : Int) (m : List (Int × Int)) (n : Int) (hW : allW l) (hm : l.length ≤ 300) (hI : Inv l x5 m n) : ∀ (d i : Nat), i + d = x5.length → ∃ T, ∀ k, T ≤ k → pleatlaw15_NumberSame.l0 k x5 ((Mapv.distinct (x5.take i).reverse : Nat) - 1) (i : Int) l e l2 = some true
  | 0, i, hi => by
    obtain ⟨T, hT⟩ := lives_true
    refine ⟨T + 1, fun k hk => ?_⟩
    obtain ⟨k, rfl⟩ : ∃ q, k = q + 1 := ⟨k - 1, by omega⟩
    have hlen := hI.len
    have hp := hI.pos
    have hc := hI.count
    have hn : n ≤ 300 ∨ 300 < n := by omega
    have hlow : ∀ x ∈ x5, 0 ≤ x ∧ x < n := fun x hx => by obtain ⟨j, hj, rfl⟩ := mem_rd hx; exact hI.low j hj
    have hdl : ∀ q : List Int, Mapv.distinct q ≤ q.length := by
      intro q
      induction q with
      | nil => exact Nat.le_refl _
      | cons a q ih => unfold Mapv.distinct; split <;> simp <;> omega
    have hdl' := hdl x5.reverse
    rw [List.length_reverse] at hdl'
    have hcp : pleatref00_CopyInts.f x5 = some x5 := by
      unfold pleatref00_CopyInts.f
      rw [if_pos (by simp; omega)]
      rfl
    have hct : number_Count.f x5 = some n := by
      unfold number_Count.f
      rw [if_pos (by
        rw [List.all_eq_true]
        intro x hx
        have := hlow x hx
        exact decide_eq_true (by omega)), hc]
    have hti : x5.take i = x5 := List.take_of_length_le (by omega)
    simp only [pleatlaw15_NumberSame.l0]
    rw [if_neg (by omega), hcp]
    simp only [Option.bind_some]
    rw [hct]
    simp only [Option.bind_some]
    rw [hti, hc, if_pos (by unfold wrap64; omega), hT k (by omega)]
    rfl
  | d + 1, i, hi => by
    obtain ⟨T, hT⟩ := run_all l l2 x5 e m n hW hm hI d (i + 1) (by omega)
    have hlen := hI.len
    have hdl : ∀ q : List Int, Mapv.distinct q ≤ q.length := by
      intro q
      induction q with
      | nil => exact Nat.le_refl _
      | cons a q ih => unfold Mapv.distinct; split <;> simp <;> omega
    have hdl' := hdl (x5.take i).reverse
    rw [List.length_reverse, List.length_take] at hdl'
    obtain ⟨hn1, hn2⟩ := hI.next i (by omega)
    have hlo := hI.low i (by omega)
    refine ⟨T + i + 5, fun k hk => ?_⟩
    obtain ⟨K, rfl⟩ : ∃ K, k = K + i + 5 := ⟨k - i - 5, by omega⟩
    rw [run_l0 l l2 x5 e hW _ i (by omega) hlen hm hlo.1 (by omega) (by omega) (fun q hq => hI.same i q (by omega) hq) K, hn2]
    exact hT K (by omega)
theorem allW_of {l : List Int} (h : ∀ x ∈ l, (Lit.int .u32 x).wf = true) : allW l := fun x hx => by
  have := h x hx
  have hmin : IntKind.u32.min = 0 := rfl
  have hmax : IntKind.u32.max = 4294967295 := rfl
  simp only [Lit.wf, Bool.and_eq_true, decide_eq_true_eq] at this
  unfold isW
  omega
theorem chk_ok_len {l m : List Int} {e : Int} (h : (chk l e m).1 = 0) : l.length ≤ 16384 := by
  unfold chk at h
  by_cases h0 : l.length = 0
  · omega
  · rw [if_neg h0] at h
    by_cases h1 : 16384 < l.length
    · rw [if_pos h1] at h; simp at h
    · omega
theorem NumberSame : St.NumberSame := by
  intro l e m hl he hm
  have hW : allW l := allW_of hl.2
  obtain ⟨T, hT⟩ := lives_true
  obtain ⟨m', n', hI⟩ := num_inv l [] [] [] 0 Inv.nil
  rw [List.nil_append] at hI
  by_cases c300 : (l.length : Int) > 300
  · refine ⟨T + 16392 + 1, ?_⟩
    unfold pleatlaw15_NumberSame.f
    rw [ref_chk l m e hW _ (.inr (by omega))]
    simp only [Option.bind_some]
    rw [if_pos c300]
    simp only [pleatlaw15_NumberSame.j0, if_true]
    rw [hT _ (by omega)]
    rfl
  · by_cases c8 : (m.length : Int) > 8192
    · refine ⟨T + 16392 + 1, ?_⟩
      unfold pleatlaw15_NumberSame.f
      rw [ref_chk l m e hW _ (.inr (by omega))]
      simp only [Option.bind_some]
      rw [if_neg c300, if_pos c8]
      simp only [pleatlaw15_NumberSame.j0, if_true]
      rw [hT _ (by omega)]
      rfl
    · by_cases cok : (chk l e m).1 = 0
      · obtain ⟨T2, hT2⟩ := run_all l m (numL l [] 0 []) e m' n' hW (by omega) hI (numL l [] 0 []).length 0 (by omega)
        have hlen := hI.len
        refine ⟨T2 + 16392 + 2, ?_⟩
        unfold pleatlaw15_NumberSame.f
        rw [ref_chk l m e hW _ (.inr (by omega))]
        simp only [Option.bind_some]
        rw [if_neg c300, if_neg c8, cok]
        simp only [pleatlaw15_NumberSame.j0]
        rw [if_neg (by decide)]
        have hcp : pleatref00_CopyImage.f l e m = some (l, e, m) := by
          unfold pleatref00_CopyImage.f pleatref00_CopyWords.f pleatref00_CopyLongs.f
          rw [if_pos (by simp; omega), if_pos (by simp; omega)]
          rfl
        rw [hcp]
        simp only [Option.bind_some]
        have hnum : ∀ k, 16392 ≤ k → number_Of.f k l e m = some (numL l [] 0 [], 0) := by
          intro k hk
          unfold number_Of.f
          rw [isa_chk l m e hW k (.inr (by omega))]
          simp only [Option.bind_some]
          rw [if_pos cok, if_pos ⟨by
            rw [List.all_eq_true]
            intro x hx
            have := hW x hx
            exact decide_eq_true this, by omega⟩, num_eq k (by omega) l [] 0 [] hW]
          rfl
        rw [hnum _ (by omega)]
        simp only [Option.bind_some, if_true]
        have hb : (((numL l [] 0 []).length : Int) != (l.length : Int)) = false := by simp [hlen]
        rw [hb]
        simp only [pleatlaw15_NumberSame.j1]
        rw [if_neg (by decide)]
        have := hT2 (T2 + 16392) (by omega)
        simpa [Mapv.distinct] using this
      · refine ⟨T + 16392 + 1, ?_⟩
        unfold pleatlaw15_NumberSame.f
        rw [ref_chk l m e hW _ (.inr (by omega))]
        simp only [Option.bind_some]
        have hb : ((chk l e m).1 != 0) = true := by simpa using cok
        rw [if_neg c300, if_neg c8, hb]
        simp only [pleatlaw15_NumberSame.j0, if_true]
        rw [hT _ (by omega)]
        rfl
end Go.Proofs.Ytfgdjpgdabjpmaa.Pure
