/- A run of the machine goes along the edges. -/
import Derived.Test.YtfgdjpgdabjpmaaRunPEdgeRuns
import Derived.Test.YtfgdjpgdabjpmaaMcfPEdgeRuns
namespace Go.Proofs.Ytfgdjpgdabjpmaa.Pure
open Go.RowKit Go.Proofs.YtfgdjpgdabjpmaaW.PrintWords Go.Proofs.YtfgdjpgdabjpmaaW.PrintLast Go.Proofs.Ytfgdjpgdabjpmaa.PEdgeRuns Go.Proofs.Ytfgdjpgdabjpmaa.Ev
set_option linter.unusedVariables false
set_option linter.unusedSimpArgs false
/-- The places that a sealed word may name. -/
def Zp (l : List Int) (x : Int) : Prop := ∃ j p' : Nat, x = (p' : Int) ∧ p' < l.length ∧ j < l.length ∧ (hit l 1 j p' ∨ hit l 2 j p')
theorem zp_addr {l m : List Int} {e : Int} (g : Good l e m) (q : Nat) (hq : q < l.length) (h : (dec (rd l (q : Int))).1 = 20) : Zp l (dec (rd l (q : Int))).2.2.2.2 := by
  have h5 := hv_tgt (w := at_ l q) (.inr (.inr (.inr h)))
  have h6 := g.tg q hq (by rw [h5])
  rw [h5] at h6
  obtain ⟨p', hp'⟩ := Int.eq_ofNat_of_zero_le h6.1
  exact ⟨q, p', hp', by have := h6.2; omega, hq, .inl (.inr (.inl ⟨rfl, h, by rw [h5]; exact Prod.ext hp' rfl⟩))⟩
theorem zp_site {l m : List Int} {e : Int} (g : Good l e m) (q : Nat) (hq : q < l.length) (h : (dec (rd l (q : Int))).1 = 17 ∨ (dec (rd l (q : Int))).1 = 18) : Zp l ((q : Int) + 1) := by
  have hne : q ≠ l.length - 1 := fun he => by
    have h1 := g.last
    rw [← he] at h1
    have h2 : opW (at_ l q) = 17 ∨ opW (at_ l q) = 18 := h
    omega
  exact ⟨q, q + 1, by omega, by omega, hq, .inr (.inr (.inr ⟨rfl, h, rfl⟩))⟩
theorem runs_ok {l m V : List Int} {e : Int} (g : Good l e m) (hV : V.length ≤ 4096) {r : List Bool} {s0 : Nat} (hr : Fin (edgs l e) s0 r) {k : Nat} (hk : 16386 ≤ k) : ∀ (d n : Nat) (s : MS), MGood l V n s → n + d ≤ 9000 → Seals (Zp l) s → s.place < (l.length : Int) → (∀ b, b < nb l e → pt l e b ≤ s.place → s.place < toN l e b → r.getD b false = true) → edgeRuns k (bks l e) (edgs l e) r d s = some ()
  | 0, n, s, h, hn, hS, hp, hb => rfl
  | d + 1, n, s, h, hn, hS, hp, hb => by
    obtain ⟨p, hq⟩ := Int.eq_ofNat_of_zero_le h.place
    obtain ⟨b, hbn, b1, b2⟩ := block_at (e := e) (l := l) (p := p) (by omega)
    obtain ⟨s', g1, g2⟩ := step_good h g.words g.len hV (by omega)
    have hrb := hb b hbn (by omega) (by omega)
    have hlr := hr.len
    have hel := edgs_len l e
    have hbl := bks_len l e
    have hget : rd_T84 (bks l e) (b : Int) = ⟨pt l e b, toN l e b⟩ := by rw [rdB, bks_get hbn]
    have hw : wrap64 (s.place + 1) = (p : Int) + 1 := by have := g.len; unfold wrap64; omega
    rw [edgeRuns, of_at g hbn (p := s.place) (by omega) (by omega) hk, Option.bind_some, if_pos ⟨by omega, by omega, by omega, by omega, by rw [Int.toNat_natCast]; exact hrb, by rw [Int.toNat_natCast, edgs_get hbn]; have := nats_len (goV l e b) (nb l e); have := nb_le l e; have := g.len; show (nats (goV l e b) (nb l e)).length ≤ 16384; omega⟩, g1 k (by omega), Option.bind_some]
    by_cases hz : s'.status ≠ 0
    · rw [if_pos hz]
    rw [if_neg hz]
    have hz0 : s'.status = 0 := Classical.not_not.1 hz
    have g3 : MGood l V (n + 1) s' := g2.elim id (fun h => absurd hz0 h.2)
    obtain ⟨f1, f2, f3, f4⟩ := step_flows h g.words g.len hV (by omega) hS (zp_addr g) (zp_site g) (by omega) (g1 k (by omega)) hz0
    have hes := edge_step g hbn b1 b2 s'.place (by
      unfold Flows at f4
      rw [hw, hq] at f4
      rw [hq] at f3
      rcases f4 with ⟨a, c⟩ | ⟨a, c⟩ | ⟨a, c⟩ | ⟨a, c⟩ | ⟨a, c⟩
      · exact .inl ⟨by show (dec (rd l (p : Int))).1 = 15 ∨ (dec (rd l (p : Int))).1 = 17; omega, c⟩
      · exact .inr (.inl ⟨by show (dec (rd l (p : Int))).1 = 16; omega, c⟩)
      · exact .inr (.inr (.inl ⟨by show (dec (rd l (p : Int))).1 = 18 ∨ (dec (rd l (p : Int))).1 = 19; omega, c⟩))
      · exact absurd hz0 c
      · exact .inr (.inr (.inr ⟨by show (0 < (dec (rd l (p : Int))).1 ∧ (dec (rd l (p : Int))).1 < 15) ∨ (dec (rd l (p : Int))).1 = 20; omega, c⟩)))
    have hrg := toN_range hbn
    rw [hw, hget]
    by_cases c : s'.place = (p : Int) + 1 ∧ s'.place < toN l e b
    · rw [if_pos c]
      refine runs_ok g hV hr hk d (n + 1) s' g3 (by omega) f2 (by omega) (fun t ht t1 t2 => ?_)
      have := block_one hbn ht (p := s'.place) (by omega) c.2 t1 t2
      subst this
      exact hrb
    · rw [if_neg c]
      rcases hes with hh | ⟨t, ht, t1, t2⟩
      · exact absurd hh c
      · have hrt := toN_range ht
        have hgt : rd_T84 (bks l e) (t : Int) = ⟨pt l e t, toN l e t⟩ := by rw [rdB, bks_get ht]
        rw [of_at g ht (p := s'.place) (by omega) (by omega) hk, Option.bind_some, hgt, if_pos ⟨by omega, by omega, t1, by rw [Int.toNat_natCast]; exact edge_mem hbn ht t2⟩]
        refine runs_ok g hV hr hk d (n + 1) s' g3 (by omega) f2 (by omega) (fun u hu u1 u2 => ?_)
        have := block_one ht hu (p := s'.place) (by omega) (by omega) u1 u2
        subst this
        exact reach_on hr hbn ht t2 hrb
theorem fresh_seals (Z : Int → Prop) (l m v : List Int) (e : Int) : Seals Z (mfresh l e v (mwords m)) :=
  ⟨fun r h => (by cases h), fun x hx h => (by
    obtain ⟨y, _, rfl⟩ := List.mem_map.1 hx
    cases h)⟩
theorem fresh_ev {l m V : List Int} {e : Int} (g : Good l e m) (hm : m.length ≤ 4096) (hV : V.length ≤ 4096) : Evt (fun k => mnew k l e m V) (some (mfresh l e V (mwords m)), 0) := ⟨16386, fun k hk => by
  have hl := g.len
  show mnew k l e m V = _
  unfold mnew
  rw [isa_chk l m e g.words k (.inr hk), Option.bind_some, chk_zero g hm, if_pos rfl, if_neg (by omega), if_pos ⟨by omega, by omega⟩]⟩
theorem run_ev {l m V : List Int} {e : Int} (g : Good l e m) (hm : m.length ≤ 4096) (hV : V.length ≤ 4096) {r : List Bool} {s : Nat} (hs : s < nb l e) (h1 : pt l e s ≤ e) (h2 : e < toN l e s) (hr : Fin (edgs l e) s r) (d : Nat) (hd : d ≤ 300) : Evt (fun k => edgeRuns k (bks l e) (edgs l e) r d (mfresh l e V (mwords m))) () := ⟨16386, fun k hk => by
  have hel := edgs_len l e
  refine runs_ok g hV hr hk d 0 _ (new_good hm g.ent.1) (by omega) (fresh_seals _ l m V e) g.ent.2 (fun b hb b1 b2 => ?_)
  have := block_one hs hb h1 h2 b1 b2
  subst this
  exact (hr.iff s (by omega)).2 .base⟩
end Go.Proofs.Ytfgdjpgdabjpmaa.Pure
