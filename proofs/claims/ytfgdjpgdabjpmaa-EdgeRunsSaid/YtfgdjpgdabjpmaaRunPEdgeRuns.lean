/- Where a step that was made goes: the next place of the block, or the beginning of a block to which the block's edges go. -/
import Derived.Test.YtfgdjpgdabjpmaaBkbPEdgeRuns
namespace Go.Proofs.Ytfgdjpgdabjpmaa.Pure
open Go.RowKit Go.Proofs.YtfgdjpgdabjpmaaW.PrintWords Go.Proofs.YtfgdjpgdabjpmaaW.PrintLast Go.Proofs.Ytfgdjpgdabjpmaa.PEdgeRuns Go.Proofs.Ytfgdjpgdabjpmaa.Ev
set_option linter.unusedVariables false
set_option linter.unusedSimpArgs false
theorem block_at_from {l : List Int} {e : Int} {p : Nat} (hp : p < l.length) : ∀ d s, s + d + 1 = nb l e → pt l e s ≤ (p : Int) → ∃ t, t < nb l e ∧ pt l e t ≤ (p : Int) ∧ (p : Int) < toN l e t
  | 0, s, hs, h => ⟨s, by omega, h, by unfold toN; rw [if_neg (by omega)]; omega⟩
  | d + 1, s, hs, h => by
    by_cases c : (p : Int) < toN l e s
    · exact ⟨s, by omega, h, c⟩
    · have h1 : toN l e s = pt l e (s + 1) := by unfold toN; rw [if_pos (by omega)]
      exact block_at_from hp d (s + 1) (by omega) (by omega)
theorem bnd_zero (l : List Int) (e : Int) (hl : 0 < l.length) : bnd l e 0 = true := (bnd_iff l e hl 0).2 (.inr (.inr (.inr rfl)))
theorem pt_zero {l : List Int} {e : Int} (hl : 0 < l.length) : pt l e 0 = 0 := by
  obtain ⟨t, ht, h⟩ := pt_idx (e := e) hl (bnd_zero l e hl)
  obtain ⟨m, hm, _, _⟩ := pt_mem (l := l) (e := e) (s := 0) (by omega)
  by_cases c : 0 < t
  · have := pt_lt c ht
    omega
  · obtain rfl : t = 0 := by omega
    rw [h]; rfl
theorem block_at {l : List Int} {e : Int} {p : Nat} (hp : p < l.length) : ∃ t, t < nb l e ∧ pt l e t ≤ (p : Int) ∧ (p : Int) < toN l e t := by
  have h0 := nb_pos (e := e) (l := l) (by omega)
  exact block_at_from hp (nb l e - 1) 0 (by omega) (by rw [pt_zero (by omega)]; omega)
/-- The block at a place is one alone. -/
theorem block_one {l : List Int} {e : Int} {p : Int} {s t : Nat} (hs : s < nb l e) (ht : t < nb l e) (h1 : pt l e s ≤ p) (h2 : p < toN l e s) (h3 : pt l e t ≤ p) (h4 : p < toN l e t) : s = t := by
  have key : ∀ a b : Nat, a < b → b < nb l e → p < toN l e a → pt l e b ≤ p → False := fun a b hab hb h5 h6 => by
    have h7 : toN l e a = pt l e (a + 1) := by unfold toN; rw [if_pos (by omega)]
    by_cases c : a + 1 = b
    · subst c; omega
    · have := pt_lt (l := l) (e := e) (show a + 1 < b by omega) hb
      omega
  rcases Nat.lt_trichotomy s t with c | c | c
  · exact (key s t c ht h2 h3).elim
  · exact c
  · exact (key t s c hs h4 h1).elim
/-- A step's way is an edge, or goes on in the block. -/
theorem edge_step {l m : List Int} {e : Int} (g : Good l e m) {s p : Nat} (hs : s < nb l e) (h1 : pt l e s ≤ (p : Int)) (h2 : (p : Int) < toN l e s) (q : Int)
    (hf : ((opW (at_ l p) = 15 ∨ opW (at_ l p) = 17) ∧ q = (dec (at_ l p)).2.2.2.2) ∨ (opW (at_ l p) = 16 ∧ (q = (dec (at_ l p)).2.2.2.2 ∨ q = (p : Int) + 1)) ∨ ((opW (at_ l p) = 18 ∨ opW (at_ l p) = 19) ∧ ∃ j p' : Nat, q = (p' : Int) ∧ p' < l.length ∧ j < l.length ∧ (hit l 1 j p' ∨ hit l 2 j p')) ∨ (((0 < opW (at_ l p) ∧ opW (at_ l p) < 15) ∨ opW (at_ l p) = 20) ∧ q = (p : Int) + 1)) :
    (q = (p : Int) + 1 ∧ q < toN l e s) ∨ ∃ t, t < nb l e ∧ pt l e t = q ∧ goV l e s t = true := by
  have hr := toN_range hs
  have hp : p < l.length := by omega
  by_cases c : (p : Int) + 1 < toN l e s
  · have hne : ¬ endsV (at_ l p) = true := fun he => by
      have hb : bnd l e (p + 1) = true := (bnd_iff l e g.pos (p + 1)).2 (.inr (.inl ⟨p, hp, he, rfl⟩))
      obtain ⟨t, ht, h⟩ := pt_idx (show p + 1 < l.length by omega) hb
      have h3 := toN_range ht
      have := block_one (p := (p : Int) + 1) hs ht (by omega) c (by omega) (by omega)
      subst this
      omega
    have hne' : ¬ (opW (at_ l p) = -1 ∨ opW (at_ l p) = 0 ∨ opW (at_ l p) = 15 ∨ opW (at_ l p) = 16 ∨ opW (at_ l p) = 17 ∨ opW (at_ l p) = 18 ∨ opW (at_ l p) = 19 ∨ opW (at_ l p) = 21) := fun h => hne (decide_eq_true h)
    rcases hf with ⟨h, _⟩ | ⟨h, _⟩ | ⟨h, _⟩ | ⟨_, h⟩
    · exact absurd (h.elim (fun h => .inr (.inr (.inl h))) (fun h => .inr (.inr (.inr (.inr (.inl h)))))) hne'
    · exact absurd (.inr (.inr (.inr (.inl h)))) hne'
    · exact absurd (h.elim (fun h => .inr (.inr (.inr (.inr (.inr (.inl h)))))) (fun h => .inr (.inr (.inr (.inr (.inr (.inr (.inl h)))))))) hne'
    · exact .inl ⟨h, by omega⟩
  · have hw : wLast l e s = at_ l p := by unfold wLast; rw [show (toN l e s).toNat - 1 = p from by omega]
    have hnext : ¬ (opW (at_ l p) = 0 ∨ opW (at_ l p) = 15 ∨ opW (at_ l p) = 19 ∨ opW (at_ l p) = 21) → s + 1 < nb l e ∧ pt l e (s + 1) = (p : Int) + 1 := fun hno => by
      by_cases c1 : s + 1 < nb l e
      · have h7 : toN l e s = pt l e (s + 1) := by unfold toN; rw [if_pos c1]
        exact ⟨c1, by omega⟩
      · have := wLast_last g hs c1
        rw [hw] at this
        exact absurd this hno
    have htgt : opW (at_ l p) = 15 ∨ opW (at_ l p) = 16 ∨ opW (at_ l p) = 17 → ∃ t, t < nb l e ∧ pt l e t = (dec (at_ l p)).2.2.2.2 := fun h => by
      have h5 := hv_tgt (w := at_ l p) (h.elim .inl (fun h => h.elim (fun h => .inr (.inl h)) (fun h => .inr (.inr (.inl h)))))
      obtain ⟨t, ht, h6⟩ := tgt_idx g hp (by rw [h5])
      exact ⟨t, ht, by rw [h6, h5]⟩
    refine .inr ?_
    rcases hf with ⟨h, hq⟩ | ⟨h, hq⟩ | ⟨h, j, p', hq, hp', hj, hh⟩ | ⟨h, hq⟩
    · obtain ⟨t, ht, h6⟩ := htgt (h.elim .inl (fun h => .inr (.inr h)))
      refine ⟨t, ht, h6.trans hq.symm, ?_⟩
      unfold goV
      rw [hw, if_neg (by omega), if_pos h, h6]
      exact decide_eq_true rfl
    · rcases hq with hq | hq
      · obtain ⟨t, ht, h6⟩ := htgt (.inr (.inl h))
        refine ⟨t, ht, h6.trans hq.symm, ?_⟩
        unfold goV
        rw [hw, if_neg (by omega), if_neg (by omega), if_pos h, h6]
        simp
      · obtain ⟨c1, c2⟩ := hnext (by omega)
        refine ⟨s + 1, c1, c2.trans hq.symm, ?_⟩
        unfold goV
        rw [hw, if_neg (by omega), if_neg (by omega), if_pos h]
        simp
    · have hb : bnd l e p' = true := hh.elim (fun h => hit_bnd g (.inl rfl) hj h) (fun h => hit_bnd g (.inr rfl) hj h)
      obtain ⟨t, ht, h6⟩ := pt_idx hp' hb
      refine ⟨t, ht, h6.trans hq.symm, ?_⟩
      unfold goV
      rw [hw, if_neg (by omega), if_neg (by omega), if_neg (by omega), if_pos h]
      exact (kn_iff g ht).2 ⟨p', h6, hh.elim (fun h => .inl ⟨j, hj, h⟩) (fun h => .inr ⟨j, hj, h⟩)⟩
    · obtain ⟨c1, c2⟩ := hnext (by omega)
      refine ⟨s + 1, c1, c2.trans hq.symm, ?_⟩
      unfold goV
      rw [hw, if_neg (by omega), if_neg (by omega), if_neg (by omega), if_neg (by omega)]
      exact decide_eq_true rfl
/-- The block that the program finds for a place of the text. -/
theorem of_at_loop {l m : List Int} {e : Int} (g : Good l e m) {p : Int} {s : Nat} (hs : s < nb l e) (h1 : pt l e s ≤ p) (h2 : p < toN l e s) : ∀ (d i q : Nat), i + d = s → d + 2 ≤ q → block_Of.l0 q p (bks l e) ((bks l e).length : Int) (i : Int) = some (s : Int)
  | 0, i, q, h, hq => by
    obtain rfl : i = s := by omega
    obtain ⟨q, rfl⟩ : ∃ j, q = j + 1 := ⟨q - 1, by omega⟩
    have hb := bks_len l e
    have hget : rd_T84 (bks l e) (i : Int) = ⟨pt l e i, toN l e i⟩ := by rw [rdB, bks_get hs]
    simp only [block_Of.l0]
    rw [if_pos (by omega), if_pos (by omega), if_pos (by omega), hget, if_pos h1, if_pos h2]
  | d + 1, i, q, h, hq => by
    obtain ⟨q, rfl⟩ : ∃ j, q = j + 1 := ⟨q - 1, by omega⟩
    have hb := bks_len l e
    have hnb := nb_le l e
    have hln := g.len
    have hil : i < nb l e := by omega
    have hget : rd_T84 (bks l e) (i : Int) = ⟨pt l e i, toN l e i⟩ := by rw [rdB, bks_get hil]
    have ih := of_at_loop g hs h1 h2 d (i + 1) q (by omega) (by omega)
    simp only [block_Of.l0]
    rw [if_pos (by omega), if_pos (by omega), if_pos (by omega), hget, wrap1 i (by omega), ih]
    have hn : ¬ (pt l e i ≤ p ∧ p < toN l e i) := fun hh => by
      have := block_one hil hs hh.1 hh.2 h1 h2
      omega
    by_cases c1 : pt l e i ≤ p
    · rw [if_pos c1, if_neg (fun c2 => hn ⟨c1, c2⟩)]
    · rw [if_neg c1]
theorem of_at {l m : List Int} {e : Int} (g : Good l e m) {p : Int} {s : Nat} (hs : s < nb l e) (h1 : pt l e s ≤ p) (h2 : p < toN l e s) {q : Nat} (hq : 16386 ≤ q) : block_Of.f q (bks l e) p = some (s : Int) := by
  have hnb := nb_le l e
  have hln := g.len
  exact of_at_loop g hs h1 h2 s 0 q (by omega) (by omega)
/-- What is come to from the entry's block. -/
theorem reached_at {l m : List Int} {e : Int} (g : Good l e m) (hm : m.length ≤ 4096) (hn : l.length ≤ 600) {s : Nat} (hs : s < nb l e) (h1 : pt l e s ≤ e) (h2 : e < toN l e s) : ∃ r, Evt (fun q => edge_Reached.f q l e m) (r, 0) ∧ Fin (edgs l e) s r := by
  have hnb := nb_le l e
  have hel := edgs_len l e
  have hW : ∀ i, i < (edgs l e).length → ((edgs l e).getD i []).length ≤ 16384 := fun i hi => by
    rw [hel] at hi
    rw [edgs_get hi]
    have := nats_len (goV l e i) (nb l e)
    unfold erow
    omega
  obtain ⟨r, w1, w2⟩ := walk_all (edgs l e) (edgs_in l e) s (by omega) (by omega) hW
  refine ⟨r, ?_, w2⟩
  have o1 : Evt (fun q => block_Of.f q (bks l e) e) (s : Int) := ⟨16386, fun q hq => of_at g hs h1 h2 hq⟩
  simp only [edge_Reached.f]
  refine Evt.bind (edges_eq g hm hn) ?_
  simp only [if_true]
  refine Evt.bind (blocks_eq g hm) (Evt.bind o1 ?_)
  have hp := nb_pos (e := e) g.pos
  have c : 0 < (edgs l e).length ∧ (edgs l e).length ≤ 16384 := ⟨by omega, by omega⟩
  refine Evt.ifp c ?_
  exact Evt.bind w1 Evt.pure
/-- An edge is in the list of the edges; what it leads to is come to. -/
theorem edge_mem {l : List Int} {e : Int} {s t : Nat} (hs : s < nb l e) (ht : t < nb l e) (h : goV l e s t = true) : (t : Int) ∈ (edgs l e).getD s [] := by
  rw [edgs_get hs]
  exact mem_nats.2 ⟨t, rfl, ht, h⟩
theorem reach_on {l : List Int} {e : Int} {s0 s t : Nat} {r : List Bool} (hr : Fin (edgs l e) s0 r) (hs : s < nb l e) (ht : t < nb l e) (h : goV l e s t = true) (hb : r.getD s false = true) : r.getD t false = true := by
  have hel := edgs_len l e
  exact (hr.iff t (by omega)).2 (.step ((hr.iff s (by omega)).1 hb) (edge_mem hs ht h))
end Go.Proofs.Ytfgdjpgdabjpmaa.Pure
