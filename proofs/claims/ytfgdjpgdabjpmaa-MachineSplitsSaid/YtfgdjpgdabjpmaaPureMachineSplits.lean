/- The law of a run in two parts, as a statement over numbers and lists. -/
import Derived.Test.YtfgdjpgdabjpmaaStMachineSplits
import Derived.Test.YtfgdjpgdabjpmaaMchPMachineSplits
namespace Go.Proofs.Ytfgdjpgdabjpmaa.Pure
open Go.RowKit Go.Proofs.YtfgdjpgdabjpmaaW.PrintWords Go.Proofs.YtfgdjpgdabjpmaaW.PrintLast Go.Proofs.YtfgdjpgdabjpmaaW.PrintMore Go.Proofs.Ytfgdjpgdabjpmaa.PMachineSplits Go.Proofs.Ytfgdjpgdabjpmaa.Ev
set_option linter.unusedVariables false
set_option linter.unusedSimpArgs false
theorem works_60 : pleatlaw10_works.f 60 = some true := by decide +kernel
theorem works_ge (d : Nat) : pleatlaw10_works.f (60 + d) = some true := by
  induction d with
  | zero => exact works_60
  | succ d ih => exact pleatlaw10_works.mono _ _ ih
theorem works_k {k : Nat} (h : 60 ≤ k) : pleatlaw10_works.f k = some true := by
  obtain ⟨d, rfl⟩ : ∃ d, k = 60 + d := ⟨k - 60, by omega⟩
  exact works_ge d
theorem row_loop (l : List S106) (hl : l.length ≤ 10000) : ∀ (d i k : Nat), i + d = l.length → d + 1 ≤ k → pleatref00_EqRow.l0 k l l (i : Int) = some true
  | 0, i, k, hi, hk => by
    obtain ⟨k, rfl⟩ : ∃ q, k = q + 1 := ⟨k - 1, by omega⟩
    simp only [pleatref00_EqRow.l0]
    rw [if_neg (by omega)]
  | d + 1, i, k, hi, hk => by
    obtain ⟨k, rfl⟩ : ∃ q, k = q + 1 := ⟨k - 1, by omega⟩
    simp only [pleatref00_EqRow.l0]
    rw [if_pos (by omega), if_pos (by omega), if_pos (by omega), if_neg (by simp), wrap1 i (by omega)]
    exact row_loop l hl d (i + 1) k (by omega) (by omega)
theorem row_eq (l : List S106) (hl : l.length ≤ 10000) {k : Nat} (hk : 10001 ≤ k) : pleatref00_EqRow.f k l l = some true := by
  unfold pleatref00_EqRow.f
  rw [if_pos rfl]
  exact row_loop l hl l.length 0 k (by omega) (by omega)
theorem ports_loop (l : List S161) (hl : l.length ≤ 10000) : ∀ (d i k : Nat), i + d = l.length → d + 1 ≤ k → pleatref00_EqPorts.l0 k l l (i : Int) = some true
  | 0, i, k, hi, hk => by
    obtain ⟨k, rfl⟩ : ∃ q, k = q + 1 := ⟨k - 1, by omega⟩
    simp only [pleatref00_EqPorts.l0]
    rw [if_neg (by omega)]
  | d + 1, i, k, hi, hk => by
    obtain ⟨k, rfl⟩ : ∃ q, k = q + 1 := ⟨k - 1, by omega⟩
    simp only [pleatref00_EqPorts.l0]
    rw [if_pos (by omega), if_pos (by omega), if_pos (by omega), if_neg (by simp), wrap1 i (by omega)]
    exact ports_loop l hl d (i + 1) k (by omega) (by omega)
theorem ports_eq (l : List S161) (hl : l.length ≤ 10000) {k : Nat} (hk : 10001 ≤ k) : pleatref00_EqPorts.f k l l = some true := by
  unfold pleatref00_EqPorts.f
  rw [if_pos rfl]
  exact ports_loop l hl l.length 0 k (by omega) (by omega)
theorem chk_ok {T M : List Int} {e : Int} (h : (chk T e M).1 = 0) : T.length ≤ 16384 ∧ M.length ≤ 4096 ∧ 0 ≤ e := by
  unfold chk at h
  by_cases h0 : T.length = 0
  · rw [if_pos h0] at h; exact absurd h (by decide)
  rw [if_neg h0] at h
  by_cases h1 : 16384 < T.length
  · rw [if_pos h1] at h; exact absurd h (by decide)
  rw [if_neg h1] at h
  by_cases h2 : 4096 < M.length
  · rw [if_pos h2] at h; exact absurd h (by decide)
  rw [if_neg h2] at h
  by_cases h3 : e < 0 ∨ (T.length : Int) ≤ e
  · rw [if_pos h3] at h; exact absurd h (by decide)
  exact ⟨by omega, by omega, by omega⟩
theorem much_some (T M V : List Int) (e : Int) : ∃ u, pleatlaw10_much.f T e M V = some u := by
  unfold pleatlaw10_much.f
  repeat' split
  all_goals exact ⟨_, rfl⟩
theorem splits_core (T M V : List Int) (e x0 x1 : Int) (hW : allW T) (k : Nat) (hk : 20000 ≤ k) : pleatlaw10_MachineSplits.f k T e M V x0 x1 = some true := by
  unfold pleatlaw10_MachineSplits.f
  obtain ⟨u, hu⟩ := much_some T M V e
  have hwk := works_k (k := k) (by omega)
  rw [hu, Option.bind_some]
  by_cases h5 : u = true ∨ x0 < 0 ∨ x1 < 0 ∨ 2000 < x0 ∨ 2000 < x1
  · rw [if_pos h5]; exact hwk
  rw [if_neg h5]
  unfold mnew
  rw [isa_chk T M e hW k (.inr (by omega)), Option.bind_some]
  by_cases c0 : (chk T e M).1 = 0
  · rw [if_pos c0]
    by_cases ct : 4096 < V.length
    · rw [if_pos ct, Option.bind_some]
      show (if (21 : Int) ≠ 0 then pleatlaw10_works.f k else none) = some true
      rw [if_pos (by decide)]; exact hwk
    · rw [if_neg ct]
      obtain ⟨t1, t2, t3⟩ := chk_ok c0
      have hV : V.length ≤ 4096 := by omega
      rw [if_pos ⟨by omega, by omega⟩, Option.bind_some]
      have hs := new_good (l := T) (v := V) t2 t3
      generalize mfresh T e V (mwords M) = s at hs ⊢
      dsimp only
      rw [if_pos rfl]
      obtain ⟨d0, rfl⟩ := Int.eq_ofNat_of_zero_le (a := x0) (by omega)
      obtain ⟨d1, rfl⟩ := Int.eq_ofNat_of_zero_le (a := x1) (by omega)
      have b0 : d0 ≤ 2000 := by omega
      have b1 : d1 ≤ 2000 := by omega
      have s0 : s.steps = 0 := hs.steps
      have hc : mrun k k s.steps (wrap64 ((d0 : Int) + (d1 : Int))) s = some (goes d1 (goes d0 s)) := by
        have hw : wrap64 ((d0 : Int) + (d1 : Int)) = ((d0 + d1 : Nat) : Int) := by unfold wrap64; omega
        rw [hw, s0, ← goes_add hW t1 hV d0 d1 0 s hs (by omega)]
        clear hw
        exact run_goes hW t1 hV k (by omega) (d0 + d1) 0 k s 0 ((d0 + d1 : Nat) : Int) hs (by omega) (by omega) (by omega) (by omega) (by omega)
      obtain ⟨n1, g1, l1, l2, l3⟩ := goes_good hW t1 hV d0 0 s hs (by omega)
      have ha := run_goes hW t1 hV k (by omega) d0 0 k s s.steps (d0 : Int) hs (by omega) (by omega) (by omega) (by omega) (by omega)
      obtain ⟨n2, g2, r1, r2, r3⟩ := goes_good hW t1 hV d1 n1 (goes d0 s) g1 (by omega)
      have a0 : (goes d0 s).steps = (n1 : Int) := g1.steps
      have hb := run_goes hW t1 hV k (by omega) d1 n1 k (goes d0 s) (goes d0 s).steps (d1 : Int) g1 (by omega) (by omega) (by omega) (by omega) (by omega)
      have L3 := Aside0.mk l3
      have R3 := Aside0.mk r3
      clear l3 r3
      have hend : (goes d1 (goes d0 s)).status = 0 → (goes d0 s).status = 0 := fun h => by
        by_cases hz : (goes d0 s).status = 0
        · exact hz
        · rw [goes_ended hz] at h; exact absurd h hz
      rw [ha, Option.bind_some, hb, Option.bind_some, hc, Option.bind_some]
      generalize hbe : goes d1 (goes d0 s) = b at *
      generalize hae : goes d0 s = a at *
      have v0 : b.steps = (n2 : Int) := g2.steps
      have w1 : wrap64 (b.steps - s.steps) = (n2 : Int) := by rw [v0, s0]; unfold wrap64; omega
      have w2 : wrap64 (a.steps - s.steps) = (n1 : Int) := by rw [a0, s0]; unfold wrap64; omega
      have w3 : wrap64 (b.steps - a.steps) = (n2 : Int) - (n1 : Int) := by rw [a0, v0]; unfold wrap64; omega
      have w4 : wrap64 ((n1 : Int) + ((n2 : Int) - (n1 : Int))) = (n2 : Int) := by unfold wrap64; omega
      have m1 := g2.core.memlen
      have m2 := g2.core.ports
      rw [row_eq b.mem (by omega) (by omega), Option.bind_some, ports_eq b.ports (by omega) (by omega), Option.bind_some, w1, w2, w3, w4]
      rw [if_pos ⟨⟨rfl, rfl, rfl, v0, rfl, rfl, rfl⟩, by omega, by omega, by omega, by omega⟩]
      by_cases hz : b.status ≠ 0
      · rw [if_pos hz]
        have hd := run_goes hW t1 hV k (by omega) 5 n2 k b b.steps 5 g2 (by omega) (by omega) (by omega) (by omega) (by omega)
        rw [goes_ended hz] at hd
        rw [hd, Option.bind_some, if_neg hz, Option.bind_some]
        have w5 : wrap64 (b.steps - b.steps) = 0 := by unfold wrap64; omega
        rw [if_pos ⟨w5, rfl, rfl, v0⟩]
        exact hwk
      · rw [if_neg hz]
        have hz0 : b.status = 0 := Classical.not_not.1 hz
        have e2 : n2 = n1 + d1 := R3.out.elim (fun h => absurd h hz) id
        have e1 : n1 = 0 + d0 := L3.out.elim (fun h => absurd (hend hz0) h) id
        have w6 : (n2 : Int) = wrap64 ((d0 : Int) + (d1 : Int)) := by unfold wrap64; omega
        rw [if_pos w6]
        exact hwk
  · rw [if_neg c0, Option.bind_some]
    show (if (chk T e M).1 ≠ 0 then pleatlaw10_works.f k else none) = some true
    rw [if_pos c0]; exact hwk
theorem MachineSplits : St.MachineSplits := by
  intro T e M V x0 x1 hT he hM hV hx0 hx1
  refine ⟨20000, splits_core T M V e x0 x1 ?_ 20000 (Nat.le_refl _)⟩
  intro x hx
  have h := hT.2 x hx
  simp [Lit.wf, IntKind.min, IntKind.max, IntKind.bits, IntKind.signed] at h
  unfold isW
  omega
end Go.Proofs.Ytfgdjpgdabjpmaa.Pure
