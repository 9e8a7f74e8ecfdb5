/- Where a machine's step goes, and which places its sealed words name. For EdgeRuns. -/
import Derived.Test.YtfgdjpgdabjpmaaMchPEdgeRuns
namespace Go.Proofs.Ytfgdjpgdabjpmaa.Pure
open Go.RowKit Go.Proofs.YtfgdjpgdabjpmaaW.PrintWords Go.Proofs.YtfgdjpgdabjpmaaW.PrintLast Go.Proofs.YtfgdjpgdabjpmaaW.PrintMore Go.Proofs.Ytfgdjpgdabjpmaa.PEdgeRuns Go.Proofs.Ytfgdjpgdabjpmaa.Ev
set_option linter.unusedVariables false
set_option linter.unusedSimpArgs false
/-- All sealed words of a machine name places of Z. -/
structure Seals (Z : Int → Prop) (s : MS) : Prop where
  regs : ∀ r, (s.reg r).f1 = true → Z (s.reg r).f0
  mem : ∀ x ∈ s.mem, x.f1 = true → Z x.f0
theorem Seals.put {Z : Int → Prop} {s : MS} (h : Seals Z s) (d : Nat) (x : S106) (hx : x.f1 = true → Z x.f0) : Seals Z (s.put d x) := by
  refine ⟨fun r => ?_, h.mem⟩
  show (if r = d then x else s.reg r).f1 = true → Z (if r = d then x else s.reg r).f0
  by_cases hr : r = d
  · rw [if_pos hr]; exact hx
  · rw [if_neg hr]; exact h.regs r
/-- Where an instruction goes. -/
def Flows (Z : Int → Prop) (p : Int) (op : Nat) (N m : Int) (s' : MS) : Prop :=
  ((op = 15 ∨ op = 17) ∧ m = N) ∨ (op = 16 ∧ (m = N ∨ m = wrap64 (p + 1))) ∨ ((op = 18 ∨ op = 19) ∧ Z m) ∨ (op = 21 ∧ s'.status ≠ 0) ∨ (((0 < op ∧ op < 15) ∨ op = 20) ∧ m = wrap64 (p + 1))
theorem fl_ok {Z : Int → Prop} {p : Int} {op : Nat} {N m m1 : Int} {s' s1 : MS} {e : Option (MS × Except Int Int)} (he : e = some (s', .ok m)) (h1 : e = some (s1, .ok m1)) (hs : Seals Z s1) (hf : Flows Z p op N m1 s1) : Seals Z s' ∧ Flows Z p op N m s' := by
  have h := Option.some.inj (h1.symm.trans he)
  obtain ⟨h2, h3⟩ := Prod.mk.inj h
  injection h3 with h3
  subst h2; subst h3
  exact ⟨hs, hf⟩
theorem fl_no {P : Prop} {m f : Int} {s' s1 : MS} {e : Option (MS × Except Int Int)} (he : e = some (s', .ok m)) (h1 : e = some (s1, .error f)) : P := by
  have h := Option.some.inj (h1.symm.trans he)
  obtain ⟨h2, h3⟩ := Prod.mk.inj h
  cases h3
set_option maxRecDepth 4000 in
theorem exec_flows {Z : Int → Prop} {s s' : MS} {m : Int} (h : Seals Z s) (op d a b : Nat) (N : Int) (hop : op < 22) (hz : op = 20 → Z N) (hc : op = 17 ∨ op = 18 → Z (wrap64 (s.place + 1))) (he : mexec s op d a b N = some (s', .ok m)) : Seals Z s' ∧ Flows Z s.place op N m s' := by
  have hcs : op = 0 ∨ op = 1 ∨ op = 2 ∨ (3 ≤ op ∧ op ≤ 10) ∨ op = 11 ∨ op = 12 ∨ op = 13 ∨ op = 14 ∨ op = 15 ∨ op = 16 ∨ op = 17 ∨ op = 18 ∨ op = 19 ∨ op = 20 ∨ op = 21 := by omega
  rcases hcs with rfl | rfl | rfl | hcs | rfl | rfl | rfl | rfl | rfl | rfl | rfl | rfl | rfl | rfl | rfl
  · exact fl_no he rfl
  · exact fl_ok he rfl (h.put d _ (fun hh => by cases hh)) (.inr (.inr (.inr (.inr ⟨.inl (by decide), rfl⟩))))
  · exact fl_ok he rfl (h.put d _ (h.regs a)) (.inr (.inr (.inr (.inr ⟨.inl (by decide), rfl⟩))))
  · obtain ⟨⟨r1, r2, r3⟩, hr, hf⟩ := calc_some op (s.reg a).f0 (s.reg a).f1 (s.reg b).f0 (s.reg b).f1
    have hq : mexec s op d a b N = ((word_Calc.f op (s.reg a).f0 (s.reg a).f1 (s.reg b).f0 (s.reg b).f1).bind fun r => if r.2.2 = 0 then some (s.put d ⟨r.1, r.2.1⟩, Except.ok (wrap64 (s.place + 1))) else some (s, Except.error r.2.2)) := by
      have : op = 3 ∨ op = 4 ∨ op = 5 ∨ op = 6 ∨ op = 7 ∨ op = 8 ∨ op = 9 ∨ op = 10 := by omega
      rcases this with rfl | rfl | rfl | rfl | rfl | rfl | rfl | rfl <;> rfl
    rw [hq, hr] at he
    dsimp only at hf
    subst hf
    by_cases hz3 : r3 = 0
    · exact fl_ok he (s1 := s.put d ⟨r1, false⟩) (by simp only [Option.bind_some, hz3, if_true]) (h.put d ⟨r1, false⟩ (fun hh => by cases hh)) (.inr (.inr (.inr (.inr ⟨.inl (by omega), rfl⟩))))
    · exact fl_no he (s1 := s) (f := r3) (by simp only [Option.bind_some, hz3, if_false])
  · obtain ⟨r, hr⟩ := addr_some (s.reg a).f0 (s.reg a).f1 N s.mem.length
    have hq : mexec s 11 d a b N = ((word_Address.f (s.reg a).f0 (s.reg a).f1 N s.mem.length).bind fun r => if r.2 = 0 then (if 0 ≤ r.1 ∧ r.1 < s.mem.length then some (s.put d (rd_T106 s.mem r.1), Except.ok (wrap64 (s.place + 1))) else none) else some (s, Except.error r.2)) := rfl
    rw [hq, hr] at he
    have hrg := addr_range hr
    by_cases hz3 : r.2 = 0
    · have hi := hrg hz3
      exact fl_ok he (s1 := s.put d (rd_T106 s.mem r.1)) (by simp only [Option.bind_some, hz3, if_true, hi, and_self]) (h.put d _ (h.mem _ (getT_mem _ _ hi.1 hi.2))) (.inr (.inr (.inr (.inr ⟨.inl (by decide), rfl⟩))))
    · exact fl_no he (s1 := s) (f := r.2) (by simp only [Option.bind_some, hz3, if_false])
  · obtain ⟨r, hr⟩ := addr_some (s.reg a).f0 (s.reg a).f1 N s.mem.length
    have hq : mexec s 12 d a b N = ((word_Address.f (s.reg a).f0 (s.reg a).f1 N s.mem.length).bind fun r => if r.2 = 0 then (if 0 ≤ r.1 ∧ r.1 < s.mem.length then some ({ s with mem := s.mem.set r.1.toNat (s.reg b) }, Except.ok (wrap64 (s.place + 1))) else none) else some (s, Except.error r.2)) := rfl
    rw [hq, hr] at he
    have hrg := addr_range hr
    by_cases hz3 : r.2 = 0
    · have hi := hrg hz3
      refine fl_ok he (s1 := { s with mem := s.mem.set r.1.toNat (s.reg b) }) (by simp only [Option.bind_some, hz3, if_true, hi, and_self]) ⟨h.regs, ?_⟩ (.inr (.inr (.inr (.inr ⟨.inl (by decide), rfl⟩))))
      intro y hy
      rcases List.mem_or_eq_of_mem_set hy with h1 | rfl
      · exact h.mem y h1
      · exact h.regs b
    · exact fl_no he (s1 := s) (f := r.2) (by simp only [Option.bind_some, hz3, if_false])
  · have hq : mexec s 13 d a b N = (if 0 ≤ s.taken then (if s.taken < s.tape.length then some (({ s with taken := wrap64 (s.taken + 1) } : MS).put d ⟨rd s.tape s.taken, false⟩, Except.ok (wrap64 (s.place + 1))) else some (s.put d ⟨0, false⟩, Except.ok (wrap64 (s.place + 1)))) else none) := rfl
    rw [hq] at he
    by_cases h0 : 0 ≤ s.taken
    · rw [if_pos h0] at he
      by_cases h1 : s.taken < s.tape.length
      · rw [if_pos h1] at he
        exact fl_ok he rfl (Seals.put (s := { s with taken := wrap64 (s.taken + 1) }) ⟨h.regs, h.mem⟩ d _ (fun hh => by cases hh)) (.inr (.inr (.inr (.inr ⟨.inl (by decide), rfl⟩))))
      · rw [if_neg h1] at he
        exact fl_ok he rfl (h.put d _ (fun hh => by cases hh)) (.inr (.inr (.inr (.inr ⟨.inl (by decide), rfl⟩))))
    · rw [if_neg h0] at he; cases he
  · have hq : mexec s 14 d a b N = (if (s.ports.length + 1) * 16 ≤ 140737488355328 then (if (s.reg a).f1 = true then some (s, Except.error 4) else some ({ s with ports := s.ports ++ [⟨N, (s.reg a).f0⟩] }, Except.ok (wrap64 (s.place + 1)))) else none) := rfl
    rw [hq] at he
    by_cases h0 : (s.ports.length + 1) * 16 ≤ 140737488355328
    · rw [if_pos h0] at he
      by_cases h1 : (s.reg a).f1 = true
      · rw [if_pos h1] at he; exact fl_no he rfl
      · rw [if_neg h1] at he
        exact fl_ok he rfl ⟨h.regs, h.mem⟩ (.inr (.inr (.inr (.inr ⟨.inl (by decide), rfl⟩))))
    · rw [if_neg h0] at he; cases he
  · exact fl_ok he rfl h (.inl ⟨.inl rfl, rfl⟩)
  · have hq : mexec s 16 d a b N = some (s, if (s.reg a).f1 = true then Except.error 4 else Except.ok (if (s.reg a).f0 = 0 then N else wrap64 (s.place + 1))) := rfl
    rw [hq] at he
    by_cases h1 : (s.reg a).f1 = true
    · rw [if_pos h1] at he; exact fl_no he rfl
    · rw [if_neg h1] at he
      refine fl_ok he rfl h (.inr (.inl ⟨rfl, ?_⟩))
      by_cases h2 : (s.reg a).f0 = 0
      · rw [if_pos h2]; exact .inl rfl
      · rw [if_neg h2]; exact .inr rfl
  · exact fl_ok he rfl (h.put 15 _ (fun _ => hc (.inl rfl))) (.inl ⟨.inr rfl, rfl⟩)
  · have hq : mexec s 18 d a b N = (if (s.reg a).f1 = true then some (s.put 15 ⟨wrap64 (s.place + 1), true⟩, Except.ok (s.reg a).f0) else some (s, Except.error 4)) := rfl
    rw [hq] at he
    by_cases h1 : (s.reg a).f1 = true
    · rw [if_pos h1] at he
      exact fl_ok he rfl (h.put 15 _ (fun _ => hc (.inr rfl))) (.inr (.inr (.inl ⟨.inl rfl, h.regs a h1⟩)))
    · rw [if_neg h1] at he; exact fl_no he rfl
  · have hq : mexec s 19 d a b N = some (s, if (s.reg a).f1 = true then Except.ok (s.reg a).f0 else Except.error 4) := rfl
    rw [hq] at he
    by_cases h1 : (s.reg a).f1 = true
    · rw [if_pos h1] at he
      exact fl_ok he rfl h (.inr (.inr (.inl ⟨.inr rfl, h.regs a h1⟩)))
    · rw [if_neg h1] at he; exact fl_no he rfl
  · exact fl_ok he rfl (h.put d _ (fun _ => hz rfl)) (.inr (.inr (.inr (.inr ⟨.inr rfl, rfl⟩))))
  · exact fl_ok he (s1 := { s with status := 1 }) rfl ⟨h.regs, h.mem⟩ (.inr (.inr (.inr (.inl ⟨rfl, by show (1 : Int) ≠ 0; decide⟩))))
/-- Where a step goes that leaves the machine running; the sealed words stay named by Z. -/
theorem step_flows {Z : Int → Prop} {T V : List Int} {n k : Nat} {s s' : MS} (h : MGood T V n s) (hW : allW T) (hT : T.length ≤ 16384) (hV : V.length ≤ 4096) (hn : n ≤ 9000) (hs : Seals Z s)
    (hz : ∀ q : Nat, q < T.length → (dec (rd T (q : Int))).1 = 20 → Z (dec (rd T (q : Int))).2.2.2.2) (hc : ∀ q : Nat, q < T.length → (dec (rd T (q : Int))).1 = 17 ∨ (dec (rd T (q : Int))).1 = 18 → Z ((q : Int) + 1))
    (hk : 1 ≤ k) (h1 : mstep k s = some s') (hs' : s'.status = 0) :
    s.place < (T.length : Int) ∧ Seals Z s' ∧ 0 ≤ (dec (rd T s.place)).1 ∧ Flows Z s.place (dec (rd T s.place)).1.toNat (dec (rd T s.place)).2.2.2.2 s'.place s' := by
  have hl : (s.text.length : Int) = (T.length : Int) := by rw [h.core.text]
  have hp0 := h.place
  unfold mstep at h1
  by_cases c1 : (s.text.length : Int) ≤ s.place
  · rw [if_pos c1] at h1
    obtain rfl := Option.some.inj h1
    exact absurd hs' (by show ¬ (2 : Int) = 0; decide)
  rw [if_neg c1, if_neg (by omega)] at h1
  obtain ⟨q, hq⟩ := Int.eq_ofNat_of_zero_le hp0
  have hqT : q < T.length := by omega
  have hw : isW (rd s.text s.place) := by
    rw [hq, h.core.text]
    exact rd_W hW q hqT
  rw [isa_dec hw k hk, Option.bind_some] at h1
  rw [h.core.text] at h1 hw
  rcases dec_fields hw with hd | ⟨d1, d2, d3, d4, d5, d6, d7, d8, d9⟩
  · rw [if_pos (by rw [hd]; decide)] at h1
    obtain rfl := Option.some.inj h1
    exact absurd hs' (by show ¬ (3 : Int) = 0; decide)
  rw [if_neg (by omega)] at h1
  simp only [d2, d3, d4, d5, d6, d7, d8, and_self, if_true] at h1
  obtain ⟨⟨s1, o⟩, he, h2⟩ := Option.bind_eq_some_iff.1 h1
  obtain rfl := Option.some.inj h2
  have hz' : (dec (rd T s.place)).1.toNat = 20 → Z (dec (rd T s.place)).2.2.2.2 := fun ho => by
    rw [hq] at ho ⊢
    rw [hq] at d1
    exact hz q hqT (by omega)
  have hc' : (dec (rd T s.place)).1.toNat = 17 ∨ (dec (rd T s.place)).1.toNat = 18 → Z (wrap64 (s.place + 1)) := fun ho => by
    have hw1 : wrap64 (s.place + 1) = (q : Int) + 1 := by rw [hq]; unfold wrap64; omega
    rw [hw1]
    rw [hq] at ho d1
    exact hc q hqT (by omega)
  cases o with
  | ok m =>
    obtain ⟨g1, g2⟩ := exec_flows hs (dec (rd T s.place)).1.toNat _ _ _ _ (by omega) hz' hc' he
    refine ⟨by omega, ⟨g1.regs, g1.mem⟩, d1, ?_⟩
    exact g2
  | error f =>
    obtain ⟨s2, o2, he2, _, _, h4⟩ := exec_core h.core hV hn hp0 (by omega) (dec (rd T s.place)).1.toNat (dec (rd T s.place)).2.1.toNat (dec (rd T s.place)).2.2.1.toNat (dec (rd T s.place)).2.2.2.1.toNat (dec (rd T s.place)).2.2.2.2 (by omega) (fun ho => d9 (by
      have : (dec (rd T s.place)).1 = 15 ∨ (dec (rd T s.place)).1 = 16 ∨ (dec (rd T s.place)).1 = 17 ∨ (dec (rd T s.place)).1 = 20 := by omega
      rcases this with h | h | h | h <;> rw [h] <;> decide))
    have h5 := Prod.mk.inj (Option.some.inj (he.symm.trans he2))
    exact absurd hs' (h4 f h5.2.symm).1
end Go.Proofs.Ytfgdjpgdabjpmaa.Pure
