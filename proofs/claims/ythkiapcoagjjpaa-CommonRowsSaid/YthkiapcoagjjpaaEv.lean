/- What holds of a function of rounds for all numbers of rounds from some number on. -/
import Derived.Test.YthkiapcoagjjpaaWMore
namespace Go.Proofs.Ythkiapcoagjjpaa.Ev
open Go.RowKit Go.Proofs.YthkiapcoagjjpaaW.PrintWords Go.Proofs.YthkiapcoagjjpaaW.PrintLast
/-- With rounds enough the answer is r. -/
def Evt {α : Type} (g : Nat → Option α) (r : α) : Prop := ∃ K, ∀ k, K ≤ k → g k = some r
theorem Evt.pure {α : Type} {r : α} : Evt (fun _ => some r) r := ⟨0, fun _ _ => rfl⟩
theorem Evt.const {α : Type} {o : Option α} {r : α} (h : o = some r) : Evt (fun _ => o) r := ⟨0, fun _ _ => h⟩
theorem Evt.succ {α : Type} {g : Nat → Option α} {r : α} (h : Evt (fun k => g (k + 1)) r) : Evt g r := by
  obtain ⟨K, hK⟩ := h
  refine ⟨K + 1, fun k hk => ?_⟩
  obtain ⟨j, rfl⟩ : ∃ j, k = j + 1 := ⟨k - 1, by omega⟩
  exact hK j (by omega)
theorem Evt.bind {α β : Type} {a : Nat → Option α} {b : α → Nat → Option β} {v : α} {r : β} (ha : Evt a v) (hb : Evt (b v) r) : Evt (fun k => (a k).bind fun x => b x k) r := by
  obtain ⟨K, hK⟩ := ha
  obtain ⟨J, hJ⟩ := hb
  refine ⟨K + J, fun k hk => ?_⟩
  show (a k).bind _ = _
  rw [hK k (by omega)]
  exact hJ k (by omega)
theorem Evt.of_mono {α : Type} {g : Nat → Option α} {r : α} (hm : ∀ k, LeO (g k) (g (k + 1))) (K : Nat) (h : g K = some r) : Evt g r := by
  refine ⟨K, fun k hk => ?_⟩
  obtain ⟨d, rfl⟩ : ∃ d, k = K + d := ⟨k - K, by omega⟩
  clear hk
  induction d with
  | zero => exact h
  | succ d ih => exact hm _ _ ih
theorem Evt.out {α : Type} {g : Nat → Option α} {r : α} (h : Evt g r) : ∃ k, g k = some r := by
  obtain ⟨K, hK⟩ := h
  exact ⟨K, hK K (Nat.le_refl _)⟩
theorem wrap1 (i : Nat) (h : i < 9007199254740992) : wrap64 ((i : Int) + 1) = ((i + 1 : Nat) : Int) := by unfold wrap64; omega
theorem getD_eq {α : Type} {l : List α} {i : Nat} (d : α) (h : i < l.length) : l.getD i d = l[i] := by
  simp [List.getD_eq_getElem?_getD, List.getElem?_eq_getElem h]
theorem rd_nat (l : List Int) (i : Nat) : rd l (i : Int) = l.getD i 0 := by simp [rd]
theorem ext_getD {α : Type} {a b : List α} (d : α) (hl : a.length = b.length) (h : ∀ i, i < a.length → a.getD i d = b.getD i d) : a = b := by
  apply List.ext_getElem hl
  intro i h1 h2
  have := h i h1
  rwa [getD_eq d h1, getD_eq d h2] at this
theorem take_next {α : Type} {l : List α} {i : Nat} (d : α) (h : i < l.length) : l.take (i + 1) = l.take i ++ [l.getD i d] := by
  rw [List.take_succ_eq_append_getElem h, getD_eq d h]
theorem filter_next (p : Nat → Bool) (i : Nat) : (List.range (i + 1)).filter p = (List.range i).filter p ++ (if p i then [i] else []) := by
  rw [List.range_succ, List.filter_append]
  cases h : p i <;> simp [h]
theorem lset_same {α : Type} {l : List α} {i : Nat} {x : α} (d : α) (h : i < l.length) : (l.set i x).getD i d = x := by
  simp [List.getD_eq_getElem?_getD, List.getElem?_set_self h]
theorem lset_other {α : Type} {l : List α} {i j : Nat} {x : α} (d : α) (h : i ≠ j) : (l.set i x).getD j d = l.getD j d := by
  simp [List.getD_eq_getElem?_getD, List.getElem?_set_ne h]
/-- The natural numbers below n that a test lets by, as numbers. -/
def nats (p : Nat → Bool) (n : Nat) : List Int := ((List.range n).filter p).map fun x : Nat => (x : Int)
theorem nats_next (p : Nat → Bool) (i : Nat) : nats p (i + 1) = nats p i ++ (if p i then [(i : Int)] else []) := by
  unfold nats
  rw [filter_next, List.map_append]
  cases p i <;> simp
theorem nats_len (p : Nat → Bool) (i : Nat) : (nats p i).length ≤ i := by
  unfold nats
  rw [List.length_map]
  exact Nat.le_trans (List.length_filter_le _ _) (by simp)
theorem mem_nats {p : Nat → Bool} {n : Nat} {x : Int} : x ∈ nats p n ↔ ∃ m : Nat, x = (m : Int) ∧ m < n ∧ p m = true := by
  unfold nats
  rw [List.mem_map]
  constructor
  · rintro ⟨m, hm, rfl⟩
    rw [List.mem_filter, List.mem_range] at hm
    exact ⟨m, rfl, hm.1, hm.2⟩
  · rintro ⟨m, rfl, h1, h2⟩
    exact ⟨m, by rw [List.mem_filter, List.mem_range]; exact ⟨h1, h2⟩, rfl⟩
theorem nats_nodup (p : Nat → Bool) (n : Nat) : (nats p n).Nodup := by
  unfold nats
  rw [List.nodup_iff_pairwise_ne, List.pairwise_map]
  exact ((List.nodup_iff_pairwise_ne.1 List.nodup_range).filter p).imp fun h e => h (by omega)
end Go.Proofs.Ythkiapcoagjjpaa.Ev
