/- What a machine does, over numbers and lists: every step of a machine that New made goes through; a run in two parts is the run. -/
import Derived.Test.YtfgdjpgdabjpmaaIsbPEdgeRuns
import Derived.Test.YtfgdjpgdabjpmaaEv
namespace Go.Proofs.Ytfgdjpgdabjpmaa.Pure
open Go.RowKit Go.Proofs.YtfgdjpgdabjpmaaW.PrintWords Go.Proofs.YtfgdjpgdabjpmaaW.PrintLast Go.Proofs.YtfgdjpgdabjpmaaW.PrintMore Go.Proofs.Ytfgdjpgdabjpmaa.PEdgeRuns Go.Proofs.Ytfgdjpgdabjpmaa.Ev
set_option linter.unusedVariables false
set_option linter.unusedSimpArgs false
/-- What stays true of a machine of the text T and the tape V; at most p ports. -/
structure Core (T V : List Int) (p : Nat) (s : MS) : Prop where
  text : s.text = T
  tape : s.tape = V
  regs : ∀ r, (s.reg r).f1 = true → 0 ≤ (s.reg r).f0
  mem : ∀ x ∈ s.mem, x.f1 = true → 0 ≤ x.f0
  memlen : s.mem.length ≤ 4096
  taken : 0 ≤ s.taken ∧ s.taken ≤ (V.length : Int)
  ports : s.ports.length ≤ p
/-- .. that has made n steps. -/
structure MGood (T V : List Int) (n : Nat) (s : MS) : Prop where
  core : Core T V n s
  place : 0 ≤ s.place
  steps : s.steps = (n : Int)
theorem dec_fields {w : Int} (h : isW w) : (dec w).1 = -1 ∨ (0 ≤ (dec w).1 ∧ (dec w).1 < 22 ∧ 0 ≤ (dec w).2.1 ∧ (dec w).2.1 < 16 ∧ 0 ≤ (dec w).2.2.1 ∧ (dec w).2.2.1 < 16 ∧ 0 ≤ (dec w).2.2.2.1 ∧ (dec w).2.2.2.1 < 16 ∧ (bt1 (hv (dec w).1) 16 = true → 0 ≤ (dec w).2.2.2.2)) := by
  unfold dec
  split
  · rename_i hc
    have ho := op_range h
    refine .inr ⟨ho.1, hc.1, ?_, ?_, ?_, ?_, ?_, ?_, ?_⟩
    · show 0 ≤ dOf w; unfold dOf; omega
    · show dOf w < 16; unfold dOf; omega
    · show 0 ≤ aOf w; unfold aOf; omega
    · show aOf w < 16; unfold aOf; omega
    · show 0 ≤ bOf w; unfold bOf; omega
    · show bOf w < 16; unfold bOf; omega
    · intro hb
      show 0 ≤ nn w
      have hb' : bt1 (hv (opOf w)) 16 = true := hb
      unfold nn
      rw [if_neg (fun hh => by rw [hb'] at hh; exact absurd hh.2.1 (by decide))]
      unfold nOf
      omega
  · exact .inl rfl
theorem put_regs {s : MS} {d : Nat} {x : S106} (h : ∀ r, (s.reg r).f1 = true → 0 ≤ (s.reg r).f0) (hx : x.f1 = true → 0 ≤ x.f0) : ∀ r, ((s.put d x).reg r).f1 = true → 0 ≤ ((s.put d x).reg r).f0 := by
  intro r
  show (if r = d then x else s.reg r).f1 = true → 0 ≤ (if r = d then x else s.reg r).f0
  by_cases hr : r = d
  · rw [if_pos hr]; exact hx
  · rw [if_neg hr]; exact h r
theorem getT_mem (l : List S106) (i : Int) (h0 : 0 ≤ i) (h1 : i < l.length) : rd_T106 l i ∈ l := by
  unfold rd_T106
  rw [List.getD_eq_getElem?_getD, List.getElem?_eq_getElem (by omega)]
  exact List.getElem_mem _
theorem set_mem {l : List S106} {i : Nat} {x : S106} (h : ∀ y ∈ l, y.f1 = true → 0 ≤ y.f0) (hx : x.f1 = true → 0 ≤ x.f0) : ∀ y ∈ l.set i x, y.f1 = true → 0 ≤ y.f0 := by
  intro y hy
  rcases List.mem_or_eq_of_mem_set hy with h1 | rfl
  · exact h y h1
  · exact hx
theorem addr_range {v : Int} {c : Bool} {n : Int} {size : Nat} {r : Int × Int} (h : word_Address.f v c n size = some r) : r.2 = 0 → 0 ≤ r.1 ∧ r.1 < (size : Int) := by
  unfold word_Address.f at h
  intro hz
  split at h
  · obtain rfl := Option.some.inj h; exact absurd hz (by decide)
  · split at h
    · split at h
      · obtain rfl := Option.some.inj h; exact ⟨by assumption, by assumption⟩
      · obtain rfl := Option.some.inj h; exact absurd hz (by decide)
    · obtain rfl := Option.some.inj h; exact absurd hz (by decide)
theorem addr_some (v : Int) (c : Bool) (n : Int) (size : Int) : ∃ r, word_Address.f v c n size = some r := by
  unfold word_Address.f
  repeat' split
  all_goals exact ⟨_, rfl⟩
theorem calc_some (o v : Int) (c : Bool) (u : Int) (d : Bool) : ∃ r, word_Calc.f o v c u d = some r ∧ r.2.1 = false := by
  unfold word_Calc.f
  repeat' split
  all_goals exact ⟨_, rfl, rfl⟩
/-- An instruction's outcome is good. -/
def ExecR (T V : List Int) (n : Nat) (s : MS) (e : Option (MS × Except Int Int)) : Prop :=
  ∃ s' o, e = some (s', o) ∧ (s'.steps = s.steps ∧ s'.place = s.place) ∧ (∀ m, o = .ok m → 0 ≤ m ∧ Core T V (n + 1) s') ∧ (∀ f, o = .error f → f ≠ 0 ∧ Core T V n s')
theorem ex_ok {T V : List Int} {n : Nat} {s s' : MS} {e : Option (MS × Except Int Int)} {m : Int} (he : e = some (s', .ok m)) (hs : s'.steps = s.steps ∧ s'.place = s.place) (hm : 0 ≤ m) (hc : Core T V (n + 1) s') : ExecR T V n s e :=
  ⟨s', .ok m, he, hs, fun m' h => by injection h with h; subst h; exact ⟨hm, hc⟩, fun f h => (by cases h)⟩
theorem ex_no {T V : List Int} {n : Nat} {s s' : MS} {e : Option (MS × Except Int Int)} {f : Int} (he : e = some (s', .error f)) (hs : s'.steps = s.steps ∧ s'.place = s.place) (hf : f ≠ 0) (hc : Core T V n s') : ExecR T V n s e :=
  ⟨s', .error f, he, hs, fun m h => (by cases h), fun f' h => by injection h with h; subst h; exact ⟨hf, hc⟩⟩
theorem Core.up {T V : List Int} {n : Nat} {s : MS} (h : Core T V n s) : Core T V (n + 1) s := ⟨h.text, h.tape, h.regs, h.mem, h.memlen, h.taken, Nat.le_succ_of_le h.ports⟩
theorem Core.put {T V : List Int} {n : Nat} {s : MS} (h : Core T V n s) (d : Nat) (x : S106) (hx : x.f1 = true → 0 ≤ x.f0) : Core T V n (s.put d x) := ⟨h.text, h.tape, put_regs h.regs hx, h.mem, h.memlen, h.taken, h.ports⟩
set_option maxRecDepth 4000 in
/-- What an instruction makes of a good machine. -/
theorem exec_core {T V : List Int} {n : Nat} {s : MS} (h : Core T V n s) (hV : V.length ≤ 4096) (hn : n ≤ 9000) (hp0 : 0 ≤ s.place) (hp : s.place < 16384) (op d a b : Nat) (N : Int) (hop : op < 22) (hN : op = 15 ∨ op = 16 ∨ op = 17 ∨ op = 20 → 0 ≤ N) : ExecR T V n s (mexec s op d a b N) := by
  have hw : 0 ≤ wrap64 (s.place + 1) := by unfold wrap64; omega
  have hc : op = 0 ∨ op = 1 ∨ op = 2 ∨ (3 ≤ op ∧ op ≤ 10) ∨ op = 11 ∨ op = 12 ∨ op = 13 ∨ op = 14 ∨ op = 15 ∨ op = 16 ∨ op = 17 ∨ op = 18 ∨ op = 19 ∨ op = 20 ∨ op = 21 := by omega
  rcases hc with rfl | rfl | rfl | hc | rfl | rfl | rfl | rfl | rfl | rfl | rfl | rfl | rfl | rfl | rfl
  · exact ex_no rfl ⟨rfl, rfl⟩ (by decide) h
  · exact ex_ok rfl ⟨rfl, rfl⟩ hw (h.up.put d _ (fun hh => by cases hh))
  · exact ex_ok rfl ⟨rfl, rfl⟩ hw (h.up.put d _ (h.regs a))
  · obtain ⟨⟨r1, r2, r3⟩, hr, hf⟩ := calc_some op (s.reg a).f0 (s.reg a).f1 (s.reg b).f0 (s.reg b).f1
    have he : mexec s op d a b N = ((word_Calc.f op (s.reg a).f0 (s.reg a).f1 (s.reg b).f0 (s.reg b).f1).bind fun r => if r.2.2 = 0 then some (s.put d ⟨r.1, r.2.1⟩, Except.ok (wrap64 (s.place + 1))) else some (s, Except.error r.2.2)) := by
      have : op = 3 ∨ op = 4 ∨ op = 5 ∨ op = 6 ∨ op = 7 ∨ op = 8 ∨ op = 9 ∨ op = 10 := by omega
      rcases this with rfl | rfl | rfl | rfl | rfl | rfl | rfl | rfl <;> rfl
    rw [he, hr]
    dsimp only at hf
    subst hf
    by_cases hz : r3 = 0
    · exact ex_ok (s' := s.put d ⟨r1, false⟩) (by simp only [Option.bind_some, hz, if_true]) ⟨rfl, rfl⟩ hw (h.up.put d ⟨r1, false⟩ (fun hh => by cases hh))
    · exact ex_no (by simp only [Option.bind_some, hz, if_false]) ⟨rfl, rfl⟩ hz h
  · obtain ⟨r, hr⟩ := addr_some (s.reg a).f0 (s.reg a).f1 N s.mem.length
    have hrg := addr_range hr
    have he : mexec s 11 d a b N = ((word_Address.f (s.reg a).f0 (s.reg a).f1 N s.mem.length).bind fun r => if r.2 = 0 then (if 0 ≤ r.1 ∧ r.1 < s.mem.length then some (s.put d (rd_T106 s.mem r.1), Except.ok (wrap64 (s.place + 1))) else none) else some (s, Except.error r.2)) := rfl
    rw [he, hr]
    by_cases hz : r.2 = 0
    · have hi := hrg hz
      exact ex_ok (s' := s.put d (rd_T106 s.mem r.1)) (by simp only [Option.bind_some, hz, if_true, hi, and_self]) ⟨rfl, rfl⟩ hw (h.up.put d _ (h.mem _ (getT_mem _ _ hi.1 hi.2)))
    · exact ex_no (by simp only [Option.bind_some, hz, if_false]) ⟨rfl, rfl⟩ hz h
  · obtain ⟨r, hr⟩ := addr_some (s.reg a).f0 (s.reg a).f1 N s.mem.length
    have hrg := addr_range hr
    have he : mexec s 12 d a b N = ((word_Address.f (s.reg a).f0 (s.reg a).f1 N s.mem.length).bind fun r => if r.2 = 0 then (if 0 ≤ r.1 ∧ r.1 < s.mem.length then some ({ s with mem := s.mem.set r.1.toNat (s.reg b) }, Except.ok (wrap64 (s.place + 1))) else none) else some (s, Except.error r.2)) := rfl
    rw [he, hr]
    by_cases hz : r.2 = 0
    · have hi := hrg hz
      exact ex_ok (s' := { s with mem := s.mem.set r.1.toNat (s.reg b) }) (by simp only [Option.bind_some, hz, if_true, hi, and_self]) ⟨rfl, rfl⟩ hw ⟨h.text, h.tape, h.regs, set_mem h.mem (h.regs b), by rw [List.length_set]; exact h.memlen, h.taken, Nat.le_succ_of_le h.ports⟩
    · exact ex_no (by simp only [Option.bind_some, hz, if_false]) ⟨rfl, rfl⟩ hz h
  · have he : mexec s 13 d a b N = (if 0 ≤ s.taken then (if s.taken < s.tape.length then some (({ s with taken := wrap64 (s.taken + 1) } : MS).put d ⟨rd s.tape s.taken, false⟩, Except.ok (wrap64 (s.place + 1))) else some (s.put d ⟨0, false⟩, Except.ok (wrap64 (s.place + 1)))) else none) := rfl
    rw [he, if_pos h.taken.1]
    by_cases ht : s.taken < s.tape.length
    · rw [if_pos ht]
      have hl : (s.tape.length : Int) = (V.length : Int) := by rw [h.tape]
      have h1 : wrap64 (s.taken + 1) = s.taken + 1 := by have := h.taken; unfold wrap64; omega
      refine ex_ok rfl ⟨rfl, rfl⟩ hw ⟨h.text, h.tape, put_regs h.regs (fun hh => by cases hh), h.mem, h.memlen, ?_, Nat.le_succ_of_le h.ports⟩
      show 0 ≤ wrap64 (s.taken + 1) ∧ wrap64 (s.taken + 1) ≤ _
      rw [h1]
      have := h.taken
      omega
    · rw [if_neg ht]
      exact ex_ok rfl ⟨rfl, rfl⟩ hw (h.up.put d _ (fun hh => by cases hh))
  · have he : mexec s 14 d a b N = (if (s.ports.length + 1) * 16 ≤ 140737488355328 then (if (s.reg a).f1 = true then some (s, Except.error 4) else some ({ s with ports := s.ports ++ [⟨N, (s.reg a).f0⟩] }, Except.ok (wrap64 (s.place + 1)))) else none) := rfl
    rw [he, if_pos (by have := h.ports; omega)]
    by_cases hs : (s.reg a).f1 = true
    · rw [if_pos hs]; exact ex_no rfl ⟨rfl, rfl⟩ (by decide) h
    · rw [if_neg hs]
      exact ex_ok rfl ⟨rfl, rfl⟩ hw ⟨h.text, h.tape, h.regs, h.mem, h.memlen, h.taken, by
        show (s.ports ++ [_]).length ≤ _
        rw [List.length_append]
        have := h.ports
        simp
        omega⟩
  · exact ex_ok rfl ⟨rfl, rfl⟩ (hN (by simp)) h.up
  · have he : mexec s 16 d a b N = some (s, if (s.reg a).f1 = true then Except.error 4 else Except.ok (if (s.reg a).f0 = 0 then N else wrap64 (s.place + 1))) := rfl
    rw [he]
    by_cases hs : (s.reg a).f1 = true
    · rw [if_pos hs]; exact ex_no rfl ⟨rfl, rfl⟩ (by decide) h
    · rw [if_neg hs]
      refine ex_ok rfl ⟨rfl, rfl⟩ ?_ h.up
      by_cases hz : (s.reg a).f0 = 0
      · rw [if_pos hz]; exact hN (by simp)
      · rw [if_neg hz]; exact hw
  · exact ex_ok rfl ⟨rfl, rfl⟩ (hN (by simp)) (h.up.put 15 _ (fun _ => hw))
  · have he : mexec s 18 d a b N = (if (s.reg a).f1 = true then some (s.put 15 ⟨wrap64 (s.place + 1), true⟩, Except.ok (s.reg a).f0) else some (s, Except.error 4)) := rfl
    rw [he]
    by_cases hs : (s.reg a).f1 = true
    · rw [if_pos hs]; exact ex_ok rfl ⟨rfl, rfl⟩ (h.regs a hs) (h.up.put 15 _ (fun _ => hw))
    · rw [if_neg hs]; exact ex_no rfl ⟨rfl, rfl⟩ (by decide) h
  · have he : mexec s 19 d a b N = some (s, if (s.reg a).f1 = true then Except.ok (s.reg a).f0 else Except.error 4) := rfl
    rw [he]
    by_cases hs : (s.reg a).f1 = true
    · rw [if_pos hs]; exact ex_ok rfl ⟨rfl, rfl⟩ (h.regs a hs) h.up
    · rw [if_neg hs]; exact ex_no rfl ⟨rfl, rfl⟩ (by decide) h
  · exact ex_ok rfl ⟨rfl, rfl⟩ hw (h.up.put d _ (fun _ => hN (by simp)))
  · exact ex_ok (s' := { s with status := 1 }) rfl ⟨rfl, rfl⟩ hp0 ⟨h.text, h.tape, h.regs, h.mem, h.memlen, h.taken, Nat.le_succ_of_le h.ports⟩
/-- A step of a good machine: it makes it, or it ends. -/
theorem step_good {T V : List Int} {n : Nat} {s : MS} (h : MGood T V n s) (hW : allW T) (hT : T.length ≤ 16384) (hV : V.length ≤ 4096) (hn : n ≤ 9000) :
    ∃ s', (∀ k, 1 ≤ k → mstep k s = some s') ∧ (MGood T V (n + 1) s' ∨ (MGood T V n s' ∧ s'.status ≠ 0)) := by
  have hc := h.core
  by_cases h1 : (s.text.length : Int) ≤ s.place
  · exact ⟨{ s with status := 2 }, fun k hk => by unfold mstep; rw [if_pos h1], .inr ⟨⟨⟨hc.text, hc.tape, hc.regs, hc.mem, hc.memlen, hc.taken, hc.ports⟩, h.place, h.steps⟩, by show (2 : Int) ≠ 0; decide⟩⟩
  · have hp0 := h.place
    have hl : (s.text.length : Int) = (T.length : Int) := by rw [hc.text]
    obtain ⟨q, hq⟩ := Int.eq_ofNat_of_zero_le hp0
    have hw : isW (rd s.text s.place) := by
      rw [hq, hc.text]
      exact rd_W hW q (by omega)
    rcases dec_fields hw with hd | ⟨d1, d2, d3, d4, d5, d6, d7, d8, d9⟩
    · refine ⟨{ s with status := 3 }, fun k hk => ?_, .inr ⟨⟨⟨hc.text, hc.tape, hc.regs, hc.mem, hc.memlen, hc.taken, hc.ports⟩, h.place, h.steps⟩, by show (3 : Int) ≠ 0; decide⟩⟩
      unfold mstep
      rw [if_neg h1, if_neg (by omega), isa_dec hw k hk]
      simp only [Option.bind_some, hd, show ((-1 : Int) < 0) from by decide, if_true]
    · have hN : (dec (rd s.text s.place)).1.toNat = 15 ∨ (dec (rd s.text s.place)).1.toNat = 16 ∨ (dec (rd s.text s.place)).1.toNat = 17 ∨ (dec (rd s.text s.place)).1.toNat = 20 → 0 ≤ (dec (rd s.text s.place)).2.2.2.2 := fun ho => d9 (by
        have : (dec (rd s.text s.place)).1 = 15 ∨ (dec (rd s.text s.place)).1 = 16 ∨ (dec (rd s.text s.place)).1 = 17 ∨ (dec (rd s.text s.place)).1 = 20 := by omega
        rcases this with h | h | h | h <;> rw [h] <;> decide)
      obtain ⟨s', o, he, hst, hok, hno⟩ := exec_core hc hV hn hp0 (by omega) (dec (rd s.text s.place)).1.toNat (dec (rd s.text s.place)).2.1.toNat (dec (rd s.text s.place)).2.2.1.toNat (dec (rd s.text s.place)).2.2.2.1.toNat (dec (rd s.text s.place)).2.2.2.2 (by omega) hN
      refine ⟨mland (s', o), fun k hk => ?_, ?_⟩
      · unfold mstep
        rw [if_neg h1, if_neg (by omega), isa_dec hw k hk]
        simp only [Option.bind_some, show ¬ ((dec (rd s.text s.place)).1 < 0) from by omega, if_false, d2, d3, d4, d5, d6, d7, d8, and_self, if_true, he]
      · cases o with
        | ok m =>
          obtain ⟨hm, hcc⟩ := hok m rfl
          have hs1 : wrap64 (s'.steps + 1) = ((n + 1 : Nat) : Int) := by rw [hst.1, h.steps]; unfold wrap64; omega
          exact .inl ⟨⟨hcc.text, hcc.tape, hcc.regs, hcc.mem, hcc.memlen, hcc.taken, hcc.ports⟩, hm, hs1⟩
        | error f =>
          obtain ⟨hf, hcc⟩ := hno f rfl
          exact .inr ⟨⟨⟨hcc.text, hcc.tape, hcc.regs, hcc.mem, hcc.memlen, hcc.taken, hcc.ports⟩, by show 0 ≤ s'.place; rw [hst.2]; exact hp0, hst.1.trans h.steps⟩, hf⟩
/-- So many steps, while it runs. -/
def goes : Nat → MS → MS
  | 0, s => s
  | d + 1, s => if s.status = 0 then (match mstep 1 s with | some s1 => if s1.steps = s.steps then s1 else goes d s1 | none => s) else s
theorem goes_ended {s : MS} (h : s.status ≠ 0) : ∀ d, goes d s = s
  | 0 => rfl
  | d + 1 => by rw [goes, if_neg h]
theorem goes_good {T V : List Int} (hW : allW T) (hT : T.length ≤ 16384) (hV : V.length ≤ 4096) : ∀ (d n : Nat) (s : MS), MGood T V n s → n + d ≤ 9000 → ∃ n', MGood T V n' (goes d s) ∧ n ≤ n' ∧ n' ≤ n + d ∧ ((goes d s).status ≠ 0 ∨ n' = n + d)
  | 0, n, s, h, hn => ⟨n, h, Nat.le_refl _, Nat.le_refl _, .inr rfl⟩
  | d + 1, n, s, h, hn => by
    by_cases hs : s.status = 0
    · obtain ⟨s1, h1, h2⟩ := step_good h hW hT hV (by omega)
      rw [goes, if_pos hs, h1 1 (Nat.le_refl _)]
      rcases h2 with h2 | ⟨h2, h3⟩
      · have hne : ¬ s1.steps = s.steps := by rw [h2.steps, h.steps]; omega
        simp only [hne, if_false]
        obtain ⟨n', g1, g2, g3, g4⟩ := goes_good hW hT hV d (n + 1) s1 h2 (by omega)
        exact ⟨n', g1, by omega, by omega, g4.elim .inl (fun h => .inr (by omega))⟩
      · have he : s1.steps = s.steps := by rw [h2.steps, h.steps]
        simp only [he, if_true]
        exact ⟨n, h2, Nat.le_refl _, by omega, .inl h3⟩
    · rw [goes_ended hs]
      exact ⟨n, h, Nat.le_refl _, by omega, .inl hs⟩
theorem goes_add {T V : List Int} (hW : allW T) (hT : T.length ≤ 16384) (hV : V.length ≤ 4096) : ∀ (d e n : Nat) (s : MS), MGood T V n s → n + d ≤ 9000 → goes (d + e) s = goes e (goes d s)
  | 0, e, n, s, h, hn => by rw [Nat.zero_add]; rfl
  | d + 1, e, n, s, h, hn => by
    rw [show d + 1 + e = d + e + 1 from by omega]
    by_cases hs : s.status = 0
    · obtain ⟨s1, h1, h2⟩ := step_good h hW hT hV (by omega)
      rw [goes, goes, if_pos hs, if_pos hs, h1 1 (Nat.le_refl _)]
      rcases h2 with h2 | ⟨h2, h3⟩
      · have hne : ¬ s1.steps = s.steps := by rw [h2.steps, h.steps]; omega
        simp only [hne, if_false]
        exact goes_add hW hT hV d e (n + 1) s1 h2 (by omega)
      · have he : s1.steps = s.steps := by rw [h2.steps, h.steps]
        simp only [he, if_true]
        exact (goes_ended h3 e).symm
    · rw [goes_ended hs, goes_ended hs, goes_ended hs]
theorem run_goes {T V : List Int} (hW : allW T) (hT : T.length ≤ 16384) (hV : V.length ≤ 4096) (k : Nat) (hk : 1 ≤ k) : ∀ (d n q : Nat) (s : MS) (was most : Int), MGood T V n s → n + d ≤ 9000 → 0 ≤ was → was ≤ (n : Int) → most = (n : Int) - was + (d : Int) → d + 2 ≤ q → mrun k q was most s = some (goes d s)
  | 0, n, q, s, was, most, h, hn, hw0, hw, hm, hq => by
    obtain ⟨q, rfl⟩ : ∃ j, q = j + 1 := ⟨q - 1, by omega⟩
    have h1 : wrap64 (s.steps - was) = (n : Int) - was := by rw [h.steps]; unfold wrap64; omega
    rw [mrun, h1, if_neg (by omega)]
    rfl
  | d + 1, n, q, s, was, most, h, hn, hw0, hw, hm, hq => by
    obtain ⟨q, rfl⟩ : ∃ j, q = j + 1 := ⟨q - 1, by omega⟩
    have h1 : wrap64 (s.steps - was) = (n : Int) - was := by rw [h.steps]; unfold wrap64; omega
    by_cases hs : s.status = 0
    · obtain ⟨s1, g1, g2⟩ := step_good h hW hT hV (by omega)
      rw [mrun, h1, if_pos ⟨by omega, hs⟩, g1 k hk, goes, if_pos hs, g1 1 (Nat.le_refl _)]
      simp only [Option.bind_some]
      rcases g2 with g2 | ⟨g2, g3⟩
      · have hne : ¬ s1.steps = s.steps := by rw [g2.steps, h.steps]; omega
        simp only [hne, if_false]
        exact run_goes hW hT hV k hk d (n + 1) q s1 was most g2 (by omega) hw0 (by omega) (by omega) (by omega)
      · have he : s1.steps = s.steps := by rw [g2.steps, h.steps]
        simp only [he, if_true]
        obtain ⟨q, rfl⟩ : ∃ j, q = j + 1 := ⟨q - 1, by omega⟩
        rw [mrun, if_neg (fun hh => g3 hh.2)]
    · rw [mrun, if_neg (fun hh => hs hh.2), goes_ended hs]
theorem new_good {l m v : List Int} {e : Int} (hm : m.length ≤ 4096) (he : 0 ≤ e) : MGood l v 0 (mfresh l e v (mwords m)) :=
  ⟨⟨rfl, rfl, fun r h => (by cases h), fun x hx h => (by
    obtain ⟨y, _, rfl⟩ := List.mem_map.1 hx
    cases h), by show (mwords m).length ≤ 4096; unfold mwords; rw [List.length_map]; exact hm, ⟨Int.le_refl 0, Int.natCast_nonneg _⟩, Nat.le_refl 0⟩, he, rfl⟩
end Go.Proofs.Ytfgdjpgdabjpmaa.Pure
