/- Which words are alone, by their fields; what numbering gives. -/
import Derived.Test.YtfgdjpgdabjpmaaDoorIsaPNumberOf
namespace Go.Proofs.YtfgdjpgdabjpmaaDoor.PNumberOf
open Go.RowKit Go.Proofs.YtfgdjpgdabjpmaaDoorW.PrintWords Go.Proofs.YtfgdjpgdabjpmaaDoorW.PrintLast
set_option linter.unusedVariables false
set_option linter.unusedSimpArgs false
/-- Is a word alone? -/
def al (w : Int) : Bool :=
  if (dec w).1 < 0 ∨ (dec w).1 = 16 then true else if (dec w).2.1 = 15 ∨ (dec w).2.2.1 = 15 ∨ (dec w).2.2.2.1 = 15 then (dec w).1 != 19 else false
/-- What is known of the fields of an instruction. -/
theorem dec_fields {w : Int} (h : isW w) (h0 : ¬ (dec w).1 < 0) : (dec w).1 < 22 ∧ okF (hv (dec w).1) (dec w).2.1 (dec w).2.2.1 (dec w).2.2.2.1 (dec w).2.2.2.2 = true := by
  unfold dec at h0 ⊢
  by_cases c : opOf w < 22 ∧ okF (hv (opOf w)) (dOf w) (aOf w) (bOf w) (nn w) = true
  · rw [if_pos c] at h0 ⊢; exact c
  · rw [if_neg c] at h0; exact absurd (show (-1 : Int) < 0 by decide) h0
def s15 (x : Int) : Bool := Go.bits .and .u16 x 32768 != 0
theorem s15_or (x y : Int) (hx : 0 ≤ x ∧ x < 65536) (hy : 0 ≤ y ∧ y < 65536) : s15 (Go.bits .or .u16 x y) = (s15 x || s15 y) ∧ 0 ≤ Go.bits .or .u16 x y ∧ Go.bits .or .u16 x y < 65536 := by
  obtain ⟨a, rfl⟩ := Int.eq_ofNat_of_zero_le hx.1
  obtain ⟨b, rfl⟩ := Int.eq_ofNat_of_zero_le hy.1
  have ha : a < 65536 := by omega
  have hb : b < 65536 := by omega
  have hab : a ||| b < 65536 := Nat.or_lt_two_pow (n := 16) ha hb
  rw [u16_or_nat a b ha hb]
  refine ⟨?_, by omega, by omega⟩
  unfold s15
  rw [show (32768 : Int) = ((32768 : Nat) : Int) from rfl, u16_and_nat _ _ hab (by decide), u16_and_nat _ _ ha (by decide), u16_and_nat _ _ hb (by decide), Nat.and_or_distrib_right]
  generalize a &&& 32768 = p
  generalize b &&& 32768 = q
  by_cases hp : p = 0
  · subst hp
    simp
  · have h1 : (p ||| q) ≠ 0 := fun h => hp (Nat.or_eq_zero_iff.1 h).1
    have e1 : (((p ||| q : Nat) : Int) != 0) = true := by simp [h1]
    have e2 : ((p : Int) != 0) = true := by simp [hp]
    rw [e1, e2]; rfl
theorem s15_shl (r : Int) (h0 : 0 ≤ r) (h1 : r < 16) : s15 (shl .u16 1 r) = (r == 15) ∧ 0 ≤ shl .u16 1 r ∧ shl .u16 1 r < 65536 := by
  obtain ⟨n, rfl⟩ := Int.eq_ofNat_of_zero_le h0
  have hn : n < 16 := by omega
  have : ∀ n : Nat, n < 16 → s15 (shl .u16 1 (n : Int)) = ((n : Int) == 15) ∧ 0 ≤ shl .u16 1 (n : Int) ∧ shl .u16 1 (n : Int) < 65536 := by decide
  exact this n hn
theorem has_bools (op : Int) : isa_Has.f op = some (bt1 (hv op) 1, bt1 (hv op) 2, bt1 (hv op) 4, bt1 (hv op) 8, bt1 (hv op) 16) := by
  unfold isa_Has.f
  rw [has_eq]
  obtain ⟨b1, b2, b4, b8, b16⟩ := bits_has op
  simp only [Option.bind_some]
  have c : ∀ (x : Int) (b : Bool), (x == 0) = !b → (x != 0) = b := by intro x b h; show (!(x == 0)) = b; rw [h]; cases b <;> rfl
  rw [c _ _ b1, c _ _ b2, c _ _ b4, c _ _ b8, c _ _ b16]
theorem links_eq {w : Int} (h : isW w) (h0 : ¬ (dec w).1 < 0) (h17 : (dec w).1 ≠ 17) (h18 : (dec w).1 ≠ 18) (k : Nat) (hk : 1 ≤ k) :
    touch_Links.f k w = some (decide ((dec w).2.1 = 15 ∨ (dec w).2.2.1 = 15 ∨ (dec w).2.2.2.1 = 15)) := by
  obtain ⟨h22, hok⟩ := dec_fields h h0
  unfold touch_Links.f
  rw [isa_dec h k hk]
  generalize dec w = t at *
  obtain ⟨o, D, A, B, N⟩ := t
  simp only [Option.bind_some] at *
  simp only [okF, Bool.and_eq_true, decide_eq_true_eq] at hok
  obtain ⟨⟨⟨⟨d0, d1, d2⟩, a0, a1, a2⟩, b0, b1, b2⟩, _⟩ := hok
  have sD := s15_shl D d0 d1
  have sA := s15_shl A a0 a1
  have sB := s15_shl B b0 b1
  have z0 : s15 0 = false ∧ (0 : Int) ≤ 0 ∧ (0 : Int) < 65536 := by decide
  unfold touch_word_reads.f touch_word_writes.f
  rw [has_bools]
  simp only [Option.bind_some]
  have hrd : ∃ r : Int, (if bt1 (hv o) 2 = true then (if 0 ≤ A then (if bt1 (hv o) 4 = true then (if 0 ≤ B then (some (Go.bits .or .u16 (Go.bits .or .u16 0 (shl .u16 1 A)) (shl .u16 1 B))) else (none)) else (some (Go.bits .or .u16 0 (shl .u16 1 A)))) else (none)) else (if bt1 (hv o) 4 = true then (if 0 ≤ B then (some (Go.bits .or .u16 0 (shl .u16 1 B))) else (none)) else (some 0))) = some r ∧ s15 r = (A == 15 || B == 15) ∧ 0 ≤ r ∧ r < 65536 := by
    have oA := s15_or 0 _ z0.2 sA.2
    have oB := s15_or 0 _ z0.2 sB.2
    have oAB := s15_or _ _ oA.2 sB.2
    cases c2 : bt1 (hv o) 2 with
    | true =>
      cases c4 : bt1 (hv o) 4 with
      | true => exact ⟨_, by simp only [if_true]; rw [if_pos a0, if_pos b0], by rw [oAB.1, oA.1, sA.1, sB.1, z0.1]; simp, oAB.2⟩
      | false =>
        have hB : B = 0 := by rw [c4] at b2; simpa using b2
        subst hB
        exact ⟨_, by simp only [if_true, Bool.false_eq_true, if_false]; rw [if_pos a0], by rw [oA.1, sA.1, z0.1]; simp, oA.2⟩
    | false =>
      have hA : A = 0 := by rw [c2] at a2; simpa using a2
      subst hA
      cases c4 : bt1 (hv o) 4 with
      | true => exact ⟨_, by simp only [if_true, Bool.false_eq_true, if_false]; rw [if_pos b0], by rw [oB.1, sB.1, z0.1]; simp, oB.2⟩
      | false =>
        have hB : B = 0 := by rw [c4] at b2; simpa using b2
        subst hB
        exact ⟨0, by simp, by rw [z0.1]; rfl, z0.2⟩
  have hwr : ∃ s : Int, (if bt1 (hv o) 1 = true then (if 0 ≤ D then (some (shl .u16 1 D)) else (none)) else (if o = 17 then (some 32768) else (if o = 18 then (some 32768) else (some 0)))) = some s ∧ s15 s = (D == 15) ∧ 0 ≤ s ∧ s < 65536 := by
    cases c1 : bt1 (hv o) 1 with
    | true => exact ⟨_, by simp only [if_true]; rw [if_pos d0], sD.1, sD.2⟩
    | false =>
      have hD : D = 0 := by rw [c1] at d2; simpa using d2
      subst hD
      exact ⟨0, by simp only [Bool.false_eq_true, if_false]; rw [if_neg h17, if_neg h18], by rw [z0.1]; rfl, z0.2⟩
  obtain ⟨r, er, sr, r0⟩ := hrd
  obtain ⟨s, es, ss, s0⟩ := hwr
  rw [er]
  simp only [Option.bind_some]
  rw [es]
  simp only [Option.bind_some]
  have o1 := s15_or 0 r z0.2 r0
  have o2 := s15_or _ s o1.2 s0
  show some (s15 _) = _
  rw [o2.1, o1.1, z0.1, sr, ss]
  congr 1
  rw [Bool.eq_iff_iff]
  simp
  omega
theorem alone_eq {w : Int} (h : isW w) (k : Nat) (hk : 4 ≤ k) : touch_Alone.f k w = some (al w) := by
  obtain ⟨k, rfl⟩ : ∃ m, k = m + 2 := ⟨k - 2, by omega⟩
  unfold touch_Alone.f al
  rw [isa_dec h _ (by omega)]
  simp only [Option.bind_some]
  by_cases c0 : (dec w).1 < 0
  · have hm : (dec w).1 = -1 := by
      unfold dec at c0 ⊢
      by_cases c : opOf w < 22 ∧ okF (hv (opOf w)) (dOf w) (aOf w) (bOf w) (nn w) = true
      · rw [if_pos c] at c0; have := op_range h; simp only at c0; omega
      · rw [if_neg c]
    rw [if_pos hm, hm]
    rfl
  · have hm : ¬ (dec w).1 = -1 := by omega
    rw [if_neg hm]
    by_cases c16 : (dec w).1 = 16
    · rw [c16]; rfl
    · have e16 : ((dec w).1 == 16) = false := by simpa using c16
      rw [e16]
      simp only [touch_Alone.j0, Bool.false_eq_true, if_false]
      by_cases c19 : (dec w).1 = 19
      · rw [if_pos c19, c19]
        simp [touch_Alone.j1]
      · rw [if_neg c19]
        by_cases c17 : (dec w).1 = 17
        · have hok := (dec_fields h c0).2
          rw [c17] at hok ⊢
          have : hv 17 = 24 := by decide
          rw [this] at hok
          simp only [okF, Bool.and_eq_true, decide_eq_true_eq] at hok
          obtain ⟨⟨⟨⟨_, _, d2⟩, _, _, a2⟩, _, _, b2⟩, _⟩ := hok
          have hD : (dec w).2.1 = 0 := by simpa [bt1] using d2
          have hA : (dec w).2.2.1 = 0 := by simpa [bt1] using a2
          have hB : (dec w).2.2.2.1 = 0 := by simpa [bt1] using b2
          rw [hD, hA, hB]
          simp [touch_Alone.j1]
        · have e17 : ((dec w).1 == 17) = false := by simpa using c17
          rw [e17]
          simp only [touch_Alone.j1, Bool.false_eq_true, if_false]
          by_cases c18 : (dec w).1 = 18
          · have hok := (dec_fields h c0).2
            rw [c18] at hok ⊢
            have : hv 18 = 2 := by decide
            rw [this] at hok
            simp only [okF, Bool.and_eq_true, decide_eq_true_eq] at hok
            obtain ⟨⟨⟨⟨_, _, d2⟩, _, _, a2⟩, _, _, b2⟩, _⟩ := hok
            have hD : (dec w).2.1 = 0 := by simpa [bt1] using d2
            have hB : (dec w).2.2.2.1 = 0 := by simpa [bt1] using b2
            rw [hD, hB]
            simp
            by_cases c : (dec w).2.2.1 = 15
            · simp [c]
            · simp [c]
          · rw [if_neg c18, links_eq h c0 c17 c18 k (by omega)]
            simp only [Option.bind_some]
            rw [if_neg (by omega)]
            by_cases c : (dec w).2.1 = 15 ∨ (dec w).2.2.1 = 15 ∨ (dec w).2.2.2.1 = 15
            · rw [decide_eq_true c, if_pos c]
              simp [c19]
            · rw [decide_eq_false c, if_neg c]
end Go.Proofs.YtfgdjpgdabjpmaaDoor.PNumberOf
