/- The blocks of a text: the program's and the document's are the same list; the marks of the document. -/
import Derived.Test.YtfgdjpgdabjpmaaPEdgeListsx
import Derived.Test.YtfgdjpgdabjpmaaIsaPEdgeLists
import Derived.Test.YtfgdjpgdabjpmaaRchPEdgeLists
import Derived.Test.YtfgdjpgdabjpmaaEvEdgeLists
namespace Go.Proofs.Ytfgdjpgdabjpmaa.Pure
open Go.RowKit Go.Proofs.YtfgdjpgdabjpmaaW.PrintWords Go.Proofs.YtfgdjpgdabjpmaaW.PrintLast Go.Proofs.Ytfgdjpgdabjpmaa.PEdgeLists Go.Proofs.Ytfgdjpgdabjpmaa.Ev
set_option linter.unusedVariables false
set_option linter.unusedSimpArgs false

abbrev Bk := S84
abbrev opW (w : Int) : Int := (dec w).1
def endsV (w : Int) : Bool := decide (opW w = -1 ∨ opW w = 0 ∨ opW w = 15 ∨ opW w = 16 ∨ opW w = 17 ∨ opW w = 18 ∨ opW w = 19 ∨ opW w = 21)
/-- The word at a place. -/
abbrev at_ (l : List Int) (j : Nat) : Int := rd l (j : Int)
/-- An image that may be. -/
structure Good (l : List Int) (e : Int) (m : List Int) : Prop where
  words : allW l
  pos : 0 < l.length
  len : l.length ≤ 16384
  ent : 0 ≤ e ∧ e < l.length
  tg : ∀ j, j < l.length → (tgt (at_ l j)).2 = true → 0 ≤ (tgt (at_ l j)).1 ∧ (tgt (at_ l j)).1 < l.length
  last : opW (at_ l (l.length - 1)) = 0 ∨ opW (at_ l (l.length - 1)) = 15 ∨ opW (at_ l (l.length - 1)) = 19 ∨ opW (at_ l (l.length - 1)) = 21
theorem tgt_range (w : Int) (h : (tgt w).2 = true) : 0 ≤ (tgt w).1 ∧ (tgt w).1 ≤ 16383 := by
  unfold tgt at h ⊢
  split at h
  · rename_i hb
    rw [if_pos hb]
    unfold dec at hb ⊢
    by_cases c : opOf w < 22 ∧ okF (hv (opOf w)) (dOf w) (aOf w) (bOf w) (nn w) = true
    · rw [if_pos c] at hb ⊢
      have h2 := c.2
      unfold okF at h2
      simp only [Bool.and_eq_true, decide_eq_true_eq] at h2
      have h3 := h2.2
      rw [if_pos hb] at h3
      exact h3
    · rw [if_neg c] at hb
      have hb2 : bt1 (hv (-1)) 16 = true := hb
      exact absurd hb2 (by decide)
  · cases h
theorem good_of_from (l : List Int) : ∀ (d i : Nat), i + d = l.length → chkFrom l d i = (0, 0) → (∀ j, i ≤ j → j < l.length → (tgt (at_ l j)).2 = true → (tgt (at_ l j)).1 < l.length) ∧ (opW (rd l ((l.length : Int) - 1)) = 0 ∨ opW (rd l ((l.length : Int) - 1)) = 15 ∨ opW (rd l ((l.length : Int) - 1)) = 19 ∨ opW (rd l ((l.length : Int) - 1)) = 21)
  | 0, i, h, hc => by
    refine ⟨fun j h1 h2 => by omega, ?_⟩
    unfold chkFrom at hc
    split at hc
    · assumption
    · cases hc
  | d + 1, i, h, hc => by
    rw [chkFrom_succ] at hc
    split at hc
    · cases hc
    · rename_i hn
      obtain ⟨h1, h2⟩ := good_of_from l d (i + 1) (by omega) hc
      refine ⟨fun j hj hl ht => ?_, h2⟩
      by_cases e : j = i
      · subst e
        rcases Int.lt_or_le (tgt (at_ l j)).1 (l.length : Int) with a | a
        · exact a
        · exact absurd ⟨ht, a⟩ hn
      · exact h1 j (by omega) hl ht
theorem good_of {l m : List Int} {e x : Int} (hW : allW l) (h : chk l e m = (0, x)) : Good l e m := by
  unfold chk at h
  split at h
  · cases h
  · split at h
    · cases h
    · split at h
      · cases h
      · split at h
        · cases h
        · rename_i h0 h1 h2 h3
          have hx : x = 0 := by
            have : ∀ d i, (chkFrom l d i).1 = 0 → (chkFrom l d i).2 = 0 := by
              intro d
              induction d with
              | zero => intro i; unfold chkFrom; split <;> simp
              | succ d ih => intro i; rw [chkFrom_succ]; split; simp; exact ih (i + 1)
            have := this l.length 0 (by rw [h])
            rwa [h] at this
          subst hx
          obtain ⟨a, b⟩ := good_of_from l l.length 0 (by omega) h
          refine ⟨hW, by omega, by omega, by omega, fun j hj ht => ⟨(tgt_range _ ht).1, a j (by omega) hj ht⟩, ?_⟩
          have : ((l.length : Int) - 1) = ((l.length - 1 : Nat) : Int) := by omega
          rw [this] at b
          exact b

/-! ### what the program sees -/
theorem isa_ends {w : Int} (h : isW w) (k : Nat) (hk : 1 ≤ k) : isa_Ends.f k w = some (endsV w) := by
  unfold isa_Ends.f endsV
  rw [isa_dec h k hk]
  simp only [Option.bind_some]
  generalize hq : (dec w).1 = o
  have : opW w = o := hq
  rw [this]
  repeat' split
  all_goals simp_all
theorem ref_ends {w : Int} (h : isW w) (k : Nat) (hk : 6 ≤ k) : pleatref02_Ends.f k w = some (endsV w) := by
  unfold pleatref02_Ends.f endsV
  rw [ref_dec h k hk]
  simp only [Option.bind_some]
  generalize hq : (dec w).1 = o
  have : opW w = o := hq
  rw [this]
  repeat' split
  all_goals simp_all
theorem dec_n_range {w : Int} (h : isW w) : -4611686018427387904 ≤ (dec w).2.2.2.2 ∧ (dec w).2.2.2.2 ≤ 4611686018427387904 := by
  unfold isW at h
  unfold dec
  split
  · show -4611686018427387904 ≤ nn w ∧ nn w ≤ 4611686018427387904
    unfold nn nOf
    split <;> omega
  · show -4611686018427387904 ≤ w ∧ w ≤ 4611686018427387904
    omega
theorem decs_eq (k : Nat) (hk : 1 ≤ k) : ∀ (l : List Int), allW l → decs k l = some (l.map dec)
  | [], _ => rfl
  | w :: l, h => by
    have hw := h w (by simp)
    unfold decs
    rw [isa_dec hw k hk]
    simp only [Option.bind_some]
    rw [if_pos (dec_n_range hw), decs_eq k hk l (fun x hx => h x (by simp [hx]))]
    rfl
theorem blkInfo_eq (k : Nat) (hk : 1 ≤ k) : ∀ (l : List Int), allW l → blkInfo k l = some (l.map fun w => (tgt w, endsV w))
  | [], _ => rfl
  | w :: l, h => by
    have hw := h w (by simp)
    unfold blkInfo
    rw [isa_target hw k hk, isa_ends hw k hk]
    simp only [Option.bind_some]
    have ht : -4611686018427387904 ≤ (tgt w).1 ∧ (tgt w).1 ≤ 4611686018427387904 := by
      cases hb : (tgt w).2
      · have : (tgt w).1 = 0 := by
          unfold tgt at hb ⊢
          split at hb
          · cases hb
          · rename_i hn; rw [if_neg hn]
        omega
      · have := tgt_range w hb
        omega
    have ht' : -4611686018427387904 ≤ (if bt1 (hv (dec w).1) 16 = true then ((dec w).2.2.2.2, true) else (0, false)).1 ∧ (if bt1 (hv (dec w).1) 16 = true then ((dec w).2.2.2.2, true) else (0, false)).1 ≤ 4611686018427387904 := ht
    rw [if_pos ht', blkInfo_eq k hk l (fun x hx => h x (by simp [hx]))]
    rfl
theorem map_at {α : Type} (f : Int → α) (l : List Int) (d : α) (j : Nat) (h : j < l.length) : (l.map f).getD j d = f (at_ l j) := by
  rw [getD_eq d (by simpa using h), List.getElem_map]
  show _ = f (rd l (j : Int))
  rw [rd_nat, getD_eq 0 h]
theorem mem_seen (mk : Nat → List Int) (x : Int) : ∀ n, x ∈ seenTo mk n ↔ ∃ j, j < n ∧ x ∈ mk j
  | 0 => by simp [seenTo]
  | n + 1 => by
    unfold seenTo
    rw [List.mem_append, List.mem_reverse, mem_seen mk x n]
    constructor
    · rintro (h | ⟨j, h1, h2⟩)
      · exact ⟨n, by omega, h⟩
      · exact ⟨j, by omega, h2⟩
    · rintro ⟨j, h1, h2⟩
      by_cases e : j = n
      · subst e; exact .inl h2
      · exact .inr ⟨j, by omega, h2⟩
theorem places_eq (L : List Int) : ∀ n, places L n = nats (fun p => decide ((p : Int) ∈ L)) n
  | 0 => rfl
  | n + 1 => by
    unfold places
    rw [nats_next, places_eq L n]
    by_cases h : (n : Int) ∈ L
    · rw [if_pos (by rwa [List.contains_iff_mem]), if_pos (by simpa using h)]
    · rw [if_neg (by rwa [List.contains_iff_mem]), if_neg (by simpa using h), List.append_nil]

/-! ### the document's marks -/
/-- Is a place marked by the word at another one? -/
def hit (l : List Int) (c : Int) (j p : Nat) : Prop :=
  (c = 0 ∧ tgt (at_ l j) = ((p : Int), true)) ∨ (c = 1 ∧ opW (at_ l j) = 20 ∧ tgt (at_ l j) = ((p : Int), true)) ∨ (c = 2 ∧ (opW (at_ l j) = 17 ∨ opW (at_ l j) = 18) ∧ p = j + 1)
theorem set_true {l : List Bool} {i : Nat} (h : i < l.length) (a : Nat) : (l.set i true).getD a false = true ↔ a = i ∨ l.getD a false = true := by
  by_cases e : i = a
  · subst e
    rw [lset_same false h]
    simp
  · rw [lset_other false e]
    have e' : ¬ a = i := fun h => e h.symm
    simp [e']
theorem marks_loop {l m : List Int} {e : Int} (g : Good l e m) (c : Int) (hc : c = 0 ∨ c = 1 ∨ c = 2) : ∀ (d i : Nat) (x5 : List Bool), i + d = l.length → x5.length = l.length → (∀ p, p < l.length → (x5.getD p false = true ↔ ∃ j, j < i ∧ hit l c j p)) →
    ∃ r, Evt (fun q => pleatref11_Marks.l0 q c x5 (i : Int) l e m) r ∧ r.length = l.length ∧ ∀ p, p < l.length → (r.getD p false = true ↔ (∃ j, j < l.length ∧ hit l c j p) ∨ (c = 0 ∧ (p : Int) = e))
  | 0, i, x5, h, h5, hx => by
    obtain rfl : i = l.length := by omega
    by_cases c0 : c = 0
    · subst c0
      obtain ⟨en, rfl⟩ := Int.eq_ofNat_of_zero_le g.ent.1
      have he := g.ent.2
      have h2 : (en : Int) < (x5.length : Int) := by omega
      refine ⟨x5.set en true, Evt.succ ?_, by simp [h5], fun p hp => ?_⟩
      · simp only [pleatref11_Marks.l0, Int.lt_irrefl, if_false, if_true, nonneg, h2, Int.toNat_natCast]
        exact Evt.pure
      · rw [set_true (by omega), hx p hp]
        constructor
        · rintro (a | a)
          · exact .inr ⟨rfl, by omega⟩
          · exact .inl a
        · rintro (a | ⟨_, a⟩)
          · exact .inr a
          · exact .inl (by omega)
    · refine ⟨x5, Evt.succ ?_, h5, fun p hp => ?_⟩
      · simp only [pleatref11_Marks.l0, Int.lt_irrefl, if_false, c0]
        exact Evt.pure
      · rw [hx p hp]
        simp [c0]
  | d + 1, i, x5, h, h5, hx => by
    have hi : i < l.length := by omega
    have h1 : (i : Int) < (l.length : Int) := by omega
    have hw := rd_W g.words i hi
    have hd : Evt (fun q => pleatref02_Decode.f q (rd l (i : Int))) (dec (rd l (i : Int))) := ⟨6, fun k hk => ref_dec hw k hk⟩
    have ht : Evt (fun q => pleatref02_Target.f q (rd l (i : Int))) (tgt (rd l (i : Int))) := ⟨6, fun k hk => ref_target hw k hk⟩
    have htg := g.tg i hi
    -- what is handed on
    have next : ∀ (y : List Bool), y.length = l.length → (∀ p, p < l.length → (y.getD p false = true ↔ x5.getD p false = true ∨ hit l c i p)) →
        ∃ r, Evt (fun q => pleatref11_Marks.l0 q c y (((i + 1 : Nat) : Int)) l e m) r ∧ r.length = l.length ∧ ∀ p, p < l.length → (r.getD p false = true ↔ (∃ j, j < l.length ∧ hit l c j p) ∨ (c = 0 ∧ (p : Int) = e)) := fun y hy hyx => by
      refine marks_loop g c hc d (i + 1) y (by omega) hy fun p hp => ?_
      rw [hyx p hp, hx p hp]
      constructor
      · rintro (⟨j, a, b⟩ | a)
        · exact ⟨j, by omega, b⟩
        · exact ⟨i, by omega, a⟩
      · rintro ⟨j, a, b⟩
        by_cases e : j = i
        · subst e; exact .inr b
        · exact .inl ⟨j, by omega, b⟩
    rcases hc with rfl | rfl | rfl
    · cases hq : (tgt (rd l (i : Int))).2
      · obtain ⟨r, h6, h7⟩ := next x5 h5 fun p hp => by
          constructor
          · exact .inl
          · rintro (a | (⟨_, a⟩ | ⟨a, _⟩ | ⟨a, _⟩))
            · exact a
            · rw [show at_ l i = rd l (i : Int) from rfl] at a
              rw [a] at hq
              cases hq
            · cases a
            · cases a
        refine ⟨r, Evt.succ ?_, h7⟩
        simp only [pleatref11_Marks.l0, h1, nonneg, if_true]
        refine Evt.bind hd (Evt.bind ht ?_)
        simp only [hq, Bool.false_eq_true, if_false]
        refine Evt.succ ?_
        simp only [pleatref11_Marks.j1, Bool.false_eq_true, if_false, wrap1 i (by have := g.len; omega)]
        simpa using h6
      · obtain ⟨t0, t1⟩ := htg hq
        obtain ⟨tn, hte⟩ := Int.eq_ofNat_of_zero_le t0
        have hte' : (tgt (rd l (i : Int))).1 = (tn : Int) := hte
        have htl : tn < x5.length := by rw [hte] at t1; omega
        have h8 : (tn : Int) < (x5.length : Int) := by omega
        obtain ⟨r, h6, h7⟩ := next (x5.set tn true) (by simp [h5]) fun p hp => by
          rw [set_true htl]
          constructor
          · rintro (a | a)
            · subst a
              exact .inr (.inl ⟨rfl, Prod.ext hte hq⟩)
            · exact .inl a
          · rintro (a | (⟨_, a⟩ | ⟨a, _⟩ | ⟨a, _⟩))
            · exact .inr a
            · have : (tgt (at_ l i)).1 = (p : Int) := by rw [a]
              exact .inl (by rw [hte] at this; omega)
            · cases a
            · cases a
        refine ⟨r, Evt.succ ?_, h7⟩
        simp only [pleatref11_Marks.l0, h1, nonneg, if_true]
        refine Evt.bind hd (Evt.bind ht ?_)
        simp only [hq, if_true]
        refine Evt.succ ?_
        simp only [pleatref11_Marks.j1, if_true, hte', nonneg, h8, Option.bind_some, Int.toNat_natCast, wrap1 i (by have := g.len; omega)]
        simpa using h6
    · by_cases hq : (tgt (rd l (i : Int))).2 = true ∧ opW (rd l (i : Int)) = 20
      · obtain ⟨t0, t1⟩ := htg hq.1
        obtain ⟨tn, hte⟩ := Int.eq_ofNat_of_zero_le t0
        have hte' : (tgt (rd l (i : Int))).1 = (tn : Int) := hte
        have htl : tn < x5.length := by rw [hte] at t1; omega
        have h8 : (tn : Int) < (x5.length : Int) := by omega
        obtain ⟨r, h6, h7⟩ := next (x5.set tn true) (by simp [h5]) fun p hp => by
          rw [set_true htl]
          constructor
          · rintro (a | a)
            · subst a
              exact .inr (.inr (.inl ⟨rfl, hq.2, Prod.ext hte hq.1⟩))
            · exact .inl a
          · rintro (a | (⟨a, _⟩ | ⟨_, _, a⟩ | ⟨a, _⟩))
            · exact .inr a
            · cases a
            · have : (tgt (at_ l i)).1 = (p : Int) := by rw [a]
              exact .inl (by rw [hte] at this; omega)
            · cases a
        refine ⟨r, Evt.succ ?_, h7⟩
        simp only [pleatref11_Marks.l0, h1, nonneg, if_true]
        refine Evt.bind hd (Evt.bind ht ?_)
        have hq2 : ((dec (rd l (i : Int))).1 == 20) = true := by simpa using hq.2
        simp only [hq.1, if_true, hq2]
        refine Evt.succ ?_
        simp only [pleatref11_Marks.j1, if_true, hte', nonneg, h8, Option.bind_some, Int.toNat_natCast, wrap1 i (by have := g.len; omega)]
        simpa using h6
      · obtain ⟨r, h6, h7⟩ := next x5 h5 fun p hp => by
          constructor
          · exact .inl
          · rintro (a | (⟨a, _⟩ | ⟨_, a1, a⟩ | ⟨a, _⟩))
            · exact a
            · cases a
            · exact absurd ⟨by rw [show rd l (i : Int) = at_ l i from rfl, a], a1⟩ hq
            · cases a
        refine ⟨r, Evt.succ ?_, h7⟩
        simp only [pleatref11_Marks.l0, h1, nonneg, if_true]
        refine Evt.bind hd (Evt.bind ht ?_)
        have fin : Evt (fun q => pleatref11_Marks.j1 q 1 x5 (i : Int) (dec (rd l (i : Int))).1 (tgt (rd l (i : Int))).1 false l e m) r := by
          refine Evt.succ ?_
          simp only [pleatref11_Marks.j1, Bool.false_eq_true, if_false, wrap1 i (by have := g.len; omega)]
          simpa using h6
        cases hq1 : (tgt (rd l (i : Int))).2
        · simp only [Bool.false_eq_true, if_false]
          exact fin
        · have hq2 : ((dec (rd l (i : Int))).1 == 20) = false := by
            rw [beq_eq_false_iff_ne]
            exact fun a => hq ⟨hq1, a⟩
          simp only [if_true, hq2]
          simpa using fin
    · have j1eq : ∀ r, (∃ y, y.length = l.length ∧ Evt (fun q => pleatref11_Marks.l0 q 2 y (((i + 1 : Nat) : Int)) l e m) r ∧ y = (if opW (rd l (i : Int)) = 17 ∨ opW (rd l (i : Int)) = 18 then x5.set (i + 1) true else x5)) →
          Evt (fun q => pleatref11_Marks.j1 q 2 x5 (i : Int) (dec (rd l (i : Int))).1 (tgt (rd l (i : Int))).1 false l e m) r := by
        rintro r ⟨y, hy, h6, rfl⟩
        have hnl : opW (rd l (i : Int)) = 17 ∨ opW (rd l (i : Int)) = 18 → i + 1 < l.length := fun a => by
          rcases Nat.lt_or_ge (i + 1) l.length with b | b
          · exact b
          · have e1 : i = l.length - 1 := by omega
            have := g.last
            rw [← e1] at this
            have h9 : opW (at_ l i) = opW (rd l (i : Int)) := rfl
            omega
        refine Evt.succ ?_
        simp only [pleatref11_Marks.j1, Bool.false_eq_true, if_false, wrap1 i (by have := g.len; omega), if_true, nonneg, Int.toNat_natCast]
        by_cases a : (dec (rd l (i : Int))).1 = 17
        · have b := hnl (.inl a)
          have b2 : ((i + 1 : Nat) : Int) < (x5.length : Int) := by omega
          simp only [a, if_true, b2]
          rw [if_pos (.inl a)] at h6
          exact h6
        · by_cases a2 : (dec (rd l (i : Int))).1 = 18
          · have b := hnl (.inr a2)
            have b2 : ((i + 1 : Nat) : Int) < (x5.length : Int) := by omega
            simp only [a, a2, if_true, if_false, b2]
            rw [if_pos (.inr a2)] at h6
            simpa using h6
          · simp only [a, a2, if_false]
            rw [if_neg (by rintro (b | b); exact a b; exact a2 b)] at h6
            exact h6
      have hnl : opW (rd l (i : Int)) = 17 ∨ opW (rd l (i : Int)) = 18 → i + 1 < l.length := fun a => by
        rcases Nat.lt_or_ge (i + 1) l.length with b | b
        · exact b
        · have e1 : i = l.length - 1 := by omega
          have := g.last
          rw [← e1] at this
          have h9 : opW (at_ l i) = opW (rd l (i : Int)) := rfl
          omega
      have fin : ∃ r, Evt (fun q => pleatref11_Marks.j1 q 2 x5 (i : Int) (dec (rd l (i : Int))).1 (tgt (rd l (i : Int))).1 false l e m) r ∧ r.length = l.length ∧ ∀ p, p < l.length → (r.getD p false = true ↔ (∃ j, j < l.length ∧ hit l 2 j p) ∨ ((2 : Int) = 0 ∧ (p : Int) = e)) := by
        by_cases a : opW (rd l (i : Int)) = 17 ∨ opW (rd l (i : Int)) = 18
        · obtain ⟨r, h6, h7⟩ := next (x5.set (i + 1) true) (by simp [h5]) fun p hp => by
            rw [set_true (by have := hnl a; omega)]
            constructor
            · rintro (b | b)
              · exact .inr (.inr (.inr ⟨rfl, a, b⟩))
              · exact .inl b
            · rintro (b | (⟨b, _⟩ | ⟨b, _⟩ | ⟨_, _, b⟩))
              · exact .inr b
              · cases b
              · cases b
              · exact .inl b
          exact ⟨r, j1eq r ⟨x5.set (i + 1) true, by simp [h5], h6, by rw [if_pos a]⟩, h7⟩
        · obtain ⟨r, h6, h7⟩ := next x5 h5 fun p hp => by
            constructor
            · exact .inl
            · rintro (b | (⟨b, _⟩ | ⟨b, _⟩ | ⟨_, b, _⟩))
              · exact b
              · cases b
              · cases b
              · exact absurd b a
          exact ⟨r, j1eq r ⟨x5, h5, h6, by rw [if_neg a]⟩, h7⟩
      obtain ⟨r, h6, h7⟩ := fin
      refine ⟨r, Evt.succ ?_, h7⟩
      simp only [pleatref11_Marks.l0, h1, nonneg, if_true]
      refine Evt.bind hd (Evt.bind ht ?_)
      cases (tgt (rd l (i : Int))).2
      · simp only [Bool.false_eq_true, if_false]
        exact h6
      · simp only [if_true]
        simpa using h6
theorem marks_all {l m : List Int} {e : Int} (g : Good l e m) (c : Int) (hc : c = 0 ∨ c = 1 ∨ c = 2) :
    ∃ r, Evt (fun q => pleatref11_Marks.f q l e m c) r ∧ r.length = l.length ∧ ∀ p, p < l.length → (r.getD p false = true ↔ (∃ j, j < l.length ∧ hit l c j p) ∨ (c = 0 ∧ (p : Int) = e)) := by
  obtain ⟨r, h1, h2⟩ := marks_loop g c hc l.length 0 (List.replicate l.length false) (Nat.zero_add _) (by simp) fun p hp => by
    rw [getD_eq false (by simpa using hp)]
    simp
  refine ⟨r, ?_, h2⟩
  have h3 : l.length ≤ 281474976710656 := by have := g.len; omega
  simp only [pleatref11_Marks.f, nonneg, if_true, Int.toNat_natCast, h3]
  exact h1
end Go.Proofs.Ytfgdjpgdabjpmaa.Pure
