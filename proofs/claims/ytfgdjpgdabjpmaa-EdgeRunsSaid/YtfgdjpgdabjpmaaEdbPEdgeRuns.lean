/- Lists of numbers that rise; lists turned round; lists that are one: the program's functions. -/
import Derived.Test.YtfgdjpgdabjpmaaRcbPEdgeRuns
namespace Go.Proofs.Ytfgdjpgdabjpmaa.Pure
open Go.RowKit Go.Proofs.YtfgdjpgdabjpmaaW.PrintWords Go.Proofs.YtfgdjpgdabjpmaaW.PrintLast Go.Proofs.Ytfgdjpgdabjpmaa.PEdgeRuns Go.Proofs.Ytfgdjpgdabjpmaa.Ev
set_option linter.unusedVariables false
set_option linter.unusedSimpArgs false

theorem rdb (l : List Bool) (i : Nat) : rdOf false l (i : Int) = l.getD i false := by simp [rdOf]
/-! ### rising -/
theorem rise1 (n : Nat) (hn : n ≤ 16384) (p : Nat → Bool) (x30 : List Bool) (hl : x30.length = n) (hx : ∀ i, i < n → x30.getD i false = p i) :
    ∀ (m i : Nat), i + m = n → Evt (fun k => edge_rising.l1 k (nats p i) x30 (n : Int) (i : Int)) (nats p n)
  | 0, i, h => by
    obtain rfl : i = n := by omega
    refine Evt.succ ?_
    simp only [edge_rising.l1, Int.lt_irrefl, if_false]
    exact Evt.pure
  | m + 1, i, h => by
    refine Evt.succ ?_
    have h1 : (i : Int) < (n : Int) := by omega
    have h2 : (i : Int) < (x30.length : Int) := by omega
    have h3 : (nats p i).length < 17592186044416 := by have := nats_len p i; omega
    have h4 := hx i (by omega)
    have ih := rise1 n hn p x30 hl hx m (i + 1) (by omega)
    rw [nats_next] at ih
    simp only [edge_rising.l1, h1, h2, nonneg, if_true, rdb, h4, h3, wrap1 i (by omega)]
    cases hp : p i
    · rw [hp] at ih
      simpa using ih
    · rw [hp] at ih
      simpa using ih
theorem rise0 (l : List Int) (n : Nat) (hn : n ≤ 16384) (hl : l.length ≤ 16384) :
    ∀ (m j : Nat) (x5 : List Bool), j + m = l.length → x5.length = n → (∀ i, i < n → x5.getD i false = decide ((i : Int) ∈ l.take j)) →
    Evt (fun k => edge_rising.l0 k (n : Int) x5 l (l.length : Int) (j : Int)) (nats (fun i => decide ((i : Int) ∈ l)) n)
  | 0, j, x5, h, h5, hx => by
    obtain rfl : j = l.length := by omega
    refine Evt.succ ?_
    simp only [edge_rising.l0, Int.lt_irrefl, if_false, h5]
    rw [List.take_length] at hx
    exact rise1 n hn (fun i => decide ((i : Int) ∈ l)) x5 h5 hx n 0 (by omega)
  | m + 1, j, x5, h, h5, hx => by
    refine Evt.succ ?_
    have h1 : (j : Int) < (l.length : Int) := by omega
    simp only [edge_rising.l0, h1, nonneg, if_true, rd_nat, wrap1 j (by omega), h5, ge_iff_le]
    have ht := take_next 0 (show j < l.length by omega)
    generalize l.getD j 0 = v at ht ⊢
    by_cases c1 : 0 ≤ v
    · by_cases c2 : v < (n : Int)
      · simp only [c1, c2, if_true]
        refine rise0 l n hn hl m (j + 1) (x5.set v.toNat true) (by omega) (by simp [h5]) fun i hi => ?_
        rw [ht]
        by_cases hv : v.toNat = i
        · rw [hv, lset_same _ (by omega)]
          symm
          rw [decide_eq_true_eq, List.mem_append]
          exact .inr (by simp; omega)
        · rw [lset_other _ hv, hx i hi]
          have : ¬ ((i : Int) = v) := by omega
          simp [this]
      · simp only [c1, c2, if_true, if_false]
        refine rise0 l n hn hl m (j + 1) x5 (by omega) h5 fun i hi => ?_
        rw [ht, hx i hi]
        have : ¬ ((i : Int) = v) := by omega
        simp [this]
    · simp only [c1, if_false]
      refine rise0 l n hn hl m (j + 1) x5 (by omega) h5 fun i hi => ?_
      rw [ht, hx i hi]
      have : ¬ ((i : Int) = v) := by omega
      simp [this]
theorem rise (l : List Int) (n : Nat) (hn : n ≤ 16384) (hl : l.length ≤ 16384) : Evt (fun k => edge_rising.f k l (n : Int)) (nats (fun i => decide ((i : Int) ∈ l)) n) := by
  have h1 : n ≤ 281474976710656 := by omega
  simp only [edge_rising.f, nonneg, if_true, Int.toNat_natCast, h1]
  exact rise0 l n hn hl l.length 0 _ (by omega) (by simp) fun i hi => by simp [List.getD_eq_getElem?_getD, hi]

/-! ### Back -/
/-- The places before i whose list has a number. -/
def froms (l : List (List Int)) (i k : Nat) : List Int := nats (fun j => decide ((k : Int) ∈ l.getD j [])) i
/-! ### two lists that are one -/
end Go.Proofs.Ytfgdjpgdabjpmaa.Pure
