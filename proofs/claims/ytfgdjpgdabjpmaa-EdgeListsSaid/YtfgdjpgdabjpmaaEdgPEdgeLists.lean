/- Lists of numbers that rise; lists turned round; lists that are one: the program's functions. -/
import Derived.Test.YtfgdjpgdabjpmaaRchPEdgeLists
namespace Go.Proofs.Ytfgdjpgdabjpmaa.Pure
open Go.RowKit Go.Proofs.YtfgdjpgdabjpmaaW.PrintWords Go.Proofs.YtfgdjpgdabjpmaaW.PrintLast Go.Proofs.Ytfgdjpgdabjpmaa.PEdgeLists Go.Proofs.Ytfgdjpgdabjpmaa.Ev
set_option linter.unusedVariables false
set_option linter.unusedSimpArgs false

theorem rdb (l : List Bool) (i : Nat) : rdOf false l (i : Int) = l.getD i false := by simp [rdOf]
/-! ### rising -/
theorem rise1 (n : Nat) (hn : n ≤ 16384) (p : Nat → Bool) (x30 : List Bool) (hl : x30.length = n) (hx : ∀ i, i < n → x30.getD i false = p i) :
    ∀ (m i : Nat), i + m = n → Evt (fun k => edge_rising.l1 k (nats p i) x30 (n : Int) (i : Int)) (nats p n)
  | 0, i, h => by
    obtain rfl : i = n := by omega
    refine Evt.succ ?_
    simp only [edge_rising.l1, Int.lt_irrefl, if_false]
    exact Evt.pure
  | m + 1, i, h => by
    refine Evt.succ ?_
    have h1 : (i : Int) < (n : Int) := by omega
    have h2 : (i : Int) < (x30.length : Int) := by omega
    have h3 : (nats p i).length < 17592186044416 := by have := nats_len p i; omega
    have h4 := hx i (by omega)
    have ih := rise1 n hn p x30 hl hx m (i + 1) (by omega)
    rw [nats_next] at ih
    simp only [edge_rising.l1, h1, h2, nonneg, if_true, rdb, h4, h3, wrap1 i (by omega)]
    cases hp : p i
    · rw [hp] at ih
      simpa using ih
    · rw [hp] at ih
      simpa using ih
theorem rise0 (l : List Int) (n : Nat) (hn : n ≤ 16384) (hl : l.length ≤ 16384) :
    ∀ (m j : Nat) (x5 : List Bool), j + m = l.length → x5.length = n → (∀ i, i < n → x5.getD i false = decide ((i : Int) ∈ l.take j)) →
    Evt (fun k => edge_rising.l0 k (n : Int) x5 l (l.length : Int) (j : Int)) (nats (fun i => decide ((i : Int) ∈ l)) n)
  | 0, j, x5, h, h5, hx => by
    obtain rfl : j = l.length := by omega
    refine Evt.succ ?_
    simp only [edge_rising.l0, Int.lt_irrefl, if_false, h5]
    rw [List.take_length] at hx
    exact rise1 n hn (fun i => decide ((i : Int) ∈ l)) x5 h5 hx n 0 (by omega)
  | m + 1, j, x5, h, h5, hx => by
    refine Evt.succ ?_
    have h1 : (j : Int) < (l.length : Int) := by omega
    simp only [edge_rising.l0, h1, nonneg, if_true, rd_nat, wrap1 j (by omega), h5, ge_iff_le]
    have ht := take_next 0 (show j < l.length by omega)
    generalize l.getD j 0 = v at ht ⊢
    by_cases c1 : 0 ≤ v
    · by_cases c2 : v < (n : Int)
      · simp only [c1, c2, if_true]
        refine rise0 l n hn hl m (j + 1) (x5.set v.toNat true) (by omega) (by simp [h5]) fun i hi => ?_
        rw [ht]
        by_cases hv : v.toNat = i
        · rw [hv, lset_same _ (by omega)]
          symm
          rw [decide_eq_true_eq, List.mem_append]
          exact .inr (by simp; omega)
        · rw [lset_other _ hv, hx i hi]
          have : ¬ ((i : Int) = v) := by omega
          simp [this]
      · simp only [c1, c2, if_true, if_false]
        refine rise0 l n hn hl m (j + 1) x5 (by omega) h5 fun i hi => ?_
        rw [ht, hx i hi]
        have : ¬ ((i : Int) = v) := by omega
        simp [this]
    · simp only [c1, if_false]
      refine rise0 l n hn hl m (j + 1) x5 (by omega) h5 fun i hi => ?_
      rw [ht, hx i hi]
      have : ¬ ((i : Int) = v) := by omega
      simp [this]
theorem rise (l : List Int) (n : Nat) (hn : n ≤ 16384) (hl : l.length ≤ 16384) : Evt (fun k => edge_rising.f k l (n : Int)) (nats (fun i => decide ((i : Int) ∈ l)) n) := by
  have h1 : n ≤ 281474976710656 := by omega
  simp only [edge_rising.f, nonneg, if_true, Int.toNat_natCast, h1]
  exact rise0 l n hn hl l.length 0 _ (by omega) (by simp) fun i hi => by simp [List.getD_eq_getElem?_getD, hi]

/-! ### Back -/
/-- The places before i whose list has a number. -/
def froms (l : List (List Int)) (i k : Nat) : List Int := nats (fun j => decide ((k : Int) ∈ l.getD j [])) i
theorem backIn (l : List (List Int)) (n i : Nat) (hn : n ≤ 16384) (hi : i < n) (rs : List Int) (hrs : ∀ x ∈ rs, ∃ m : Nat, x = (m : Int) ∧ m < n) (hnd : rs.Nodup) (hrl : rs.length ≤ 16384) (r : List (List Int))
    (hnext : ∀ x3 : List (List Int), x3.length = n → (∀ k, k < n → x3.getD k [] = froms l i k ++ (if (k : Int) ∈ rs then [(i : Int)] else [])) → Evt (fun q => edge_Back.l0 q l x3 l (n : Int) (wrap64 ((i : Int) + 1))) r) :
    ∀ (m j : Nat) (x3 : List (List Int)), j + m = rs.length → x3.length = n → (∀ k, k < n → x3.getD k [] = froms l i k ++ (if (k : Int) ∈ rs.take j then [(i : Int)] else [])) →
    Evt (fun q => edge_Back.l1 q l x3 (i : Int) l (n : Int) (i : Int) rs (rs.length : Int) (j : Int)) r
  | 0, j, x3, h, h3, hx => by
    obtain rfl : j = rs.length := by omega
    refine Evt.succ ?_
    simp only [edge_Back.l1, Int.lt_irrefl, if_false]
    rw [List.take_length] at hx
    exact hnext x3 h3 hx
  | m + 1, j, x3, h, h3, hx => by
    refine Evt.succ ?_
    have h1 : (j : Int) < (rs.length : Int) := by omega
    have hj : j < rs.length := by omega
    have ht := take_next 0 hj
    obtain ⟨a, ha, han⟩ := hrs (rs.getD j 0) (by rw [getD_eq 0 hj]; exact List.getElem_mem hj)
    have hnot : ¬ ((a : Int) ∈ rs.take j) := by
      intro hc
      have h2 : (rs.take (j + 1)).Nodup := hnd.sublist (List.take_sublist _ _)
      rw [ht, List.nodup_append] at h2
      exact h2.2.2 (a : Int) hc (rs.getD j 0) (by simp) ha.symm
    have hxa := hx a han
    rw [if_neg hnot, List.append_nil] at hxa
    have h5 : (a : Int) < (x3.length : Int) := by omega
    have h6 : (froms l i a).length < 17592186044416 := by have := nats_len (fun j => decide ((a : Int) ∈ l.getD j [])) i; unfold froms; omega
    simp only [edge_Back.l1, h1, nonneg, if_true, rd_nat, ha, h5, rd9, hxa, h6, wrap1 j (by omega), Int.toNat_natCast]
    refine backIn l n i hn hi rs hrs hnd hrl r hnext m (j + 1) _ (by omega) (by simp [h3]) fun k hk => ?_
    rw [ht, ha]
    by_cases e : a = k
    · subst e
      rw [lset_same _ (by omega), if_pos (by simp)]
    · rw [lset_other _ e, hx k hk]
      have : ¬ ((k : Int) = (a : Int)) := by omega
      simp [this]
theorem backOut (l : List (List Int)) (hn : l.length ≤ 16384) (hl : ∀ x ∈ l, x.length ≤ 16384) :
    ∀ (m i : Nat) (x3 : List (List Int)), i + m = l.length → x3.length = l.length → (∀ k, k < l.length → x3.getD k [] = froms l i k) →
    Evt (fun q => edge_Back.l0 q l x3 l (l.length : Int) (i : Int)) ((List.range l.length).map (froms l l.length))
  | 0, i, x3, h, h3, hx => by
    obtain rfl : i = l.length := by omega
    refine Evt.succ ?_
    simp only [edge_Back.l0, Int.lt_irrefl, if_false]
    refine Evt.const (congrArg some (ext_getD [] (by simp [h3]) fun k hk => ?_))
    rw [hx k (by omega), getD_eq [] (by simp; omega)]
    simp
  | m + 1, i, x3, h, h3, hx => by
    refine Evt.succ ?_
    have hi : i < l.length := by omega
    have h1 : (i : Int) < (l.length : Int) := by omega
    have hlen : (l.getD i []).length ≤ 16384 := by rw [getD_eq [] hi]; exact hl _ (List.getElem_mem hi)
    simp only [edge_Back.l0, h1, nonneg, if_true, rd9]
    refine Evt.bind (rise (l.getD i []) l.length hn hlen) ?_
    have h0 := backIn l l.length i hn hi (nats (fun j => decide ((j : Int) ∈ l.getD i [])) l.length) (fun x hx => by obtain ⟨m, e, h, _⟩ := mem_nats.1 hx; exact ⟨m, e, h⟩) (nats_nodup _ _) (Nat.le_trans (nats_len _ _) hn)
      ((List.range l.length).map (froms l l.length)) (fun x3' h3' hx' => ?_) _ 0 x3 (Nat.zero_add _) h3 (fun k hk => by rw [hx k hk]; simp)
    · exact h0
    · rw [wrap1 i (by omega)]
      refine backOut l hn hl m (i + 1) x3' (by omega) h3' fun k hk => ?_
      rw [hx' k hk]
      unfold froms
      rw [nats_next]
      congr 1
      by_cases c : (k : Int) ∈ l.getD i []
      · have c' : (k : Int) ∈ nats (fun j => decide ((j : Int) ∈ l.getD i [])) l.length := mem_nats.2 ⟨k, rfl, hk, by simpa using c⟩
        rw [if_pos c', if_pos (by simpa using c)]
      · have c' : ¬ (k : Int) ∈ nats (fun j => decide ((j : Int) ∈ l.getD i [])) l.length := fun hc => by
          obtain ⟨m, e, _, h⟩ := mem_nats.1 hc
          have : m = k := by omega
          subst this
          exact c (by simpa using h)
        rw [if_neg c', if_neg (by simpa using c)]
theorem back_eq (l : List (List Int)) (hn : l.length ≤ 16384) (hl : ∀ x ∈ l, x.length ≤ 16384) : Evt (fun q => edge_Back.f q l) ((List.range l.length).map (froms l l.length)) := by
  have h1 : l.length ≤ 11728124029610 := by omega
  simp only [edge_Back.f, nonneg, if_true, Int.toNat_natCast, h1]
  exact backOut l hn hl l.length 0 _ (by omega) (by simp) fun k hk => by
    rw [getD_eq [] (by simpa using hk), List.getElem_replicate]
    rfl

/-! ### two lists that are one -/
theorem ints_eq (l : List Int) (hl : l.length ≤ 16384) : ∀ (m j : Nat), j + m = l.length → Evt (fun q => pleatref00_EqInts.l0 q l l (j : Int)) true
  | 0, j, h => by
    obtain rfl : j = l.length := by omega
    refine Evt.succ ?_
    simp only [pleatref00_EqInts.l0, Int.lt_irrefl, if_false]
    exact Evt.pure
  | m + 1, j, h => by
    refine Evt.succ ?_
    have h1 : (j : Int) < (l.length : Int) := by omega
    simp only [pleatref00_EqInts.l0, h1, nonneg, if_true, wrap1 j (by omega)]
    exact ints_eq l hl m (j + 1) (by omega)
theorem lists_eq (l : List (List Int)) (hn : l.length ≤ 16384) (hl : ∀ x ∈ l, x.length ≤ 16384) : ∀ (m j : Nat), j + m = l.length → Evt (fun q => pleatlaw12_eq.l0 q l l (j : Int)) true
  | 0, j, h => by
    obtain rfl : j = l.length := by omega
    refine Evt.succ ?_
    simp only [pleatlaw12_eq.l0, Int.lt_irrefl, if_false]
    exact Evt.pure
  | m + 1, j, h => by
    refine Evt.succ ?_
    have hj : j < l.length := by omega
    have h1 : (j : Int) < (l.length : Int) := by omega
    have hlen : (l.getD j []).length ≤ 16384 := by rw [getD_eq [] hj]; exact hl _ (List.getElem_mem hj)
    simp only [pleatlaw12_eq.l0, h1, nonneg, if_true, wrap1 j (by omega), rd9]
    refine Evt.bind (v := true) ?_ ?_
    · simp only [pleatref00_EqInts.f, if_true]
      exact ints_eq _ hlen _ 0 (Nat.zero_add _)
    · simp only [if_true]
      exact lists_eq l hn hl m (j + 1) (by omega)
theorem eq_refl (l : List (List Int)) (hn : l.length ≤ 16384) (hl : ∀ x ∈ l, x.length ≤ 16384) : Evt (fun q => pleatlaw12_eq.f q l l) true := by
  simp only [pleatlaw12_eq.f, if_true]
  exact lists_eq l hn hl _ 0 (Nat.zero_add _)

end Go.Proofs.Ytfgdjpgdabjpmaa.Pure
