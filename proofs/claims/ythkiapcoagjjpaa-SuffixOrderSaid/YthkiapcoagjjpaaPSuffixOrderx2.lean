-- Written for this claim by a program of this session (wip/tools/pp.py, over the kit's print).
import Derived.Test.YthkiapcoagjjpaaPSuffixOrderx0
namespace Go.Proofs.Ythkiapcoagjjpaa.PSuffixOrder
open Go.RowKit Go.Proofs.YthkiapcoagjjpaaW.PrintWords Go.Proofs.YthkiapcoagjjpaaW.PrintLast Go.Proofs.YthkiapcoagjjpaaW.PrintMore
attribute [local go_sem] max2_int min2_int max_two min_two max_three min_three max_four min_four   -- for this text's walks alone
set_option linter.unusedVariables false
set_option linter.unusedSimpArgs false

/-! ### bits_Len: function 46, by hand -/
section
open Go.Proofs.Ythkiapcoagjjpaa.Suf
/-! ### the length of a number -/
def lenTab : ByteArray := ⟨#[0, 1, 2, 2, 3, 3, 3, 3, 4, 4, 4, 4, 4, 4, 4, 4, 5, 5, 5, 5, 5, 5, 5, 5, 5, 5, 5, 5, 5, 5, 5, 5, 6, 6, 6, 6, 6, 6, 6, 6, 6, 6, 6, 6, 6, 6, 6, 6, 6, 6, 6, 6, 6, 6, 6, 6, 6, 6, 6, 6, 6, 6, 6, 6, 7, 7, 7, 7, 7, 7, 7, 7, 7, 7, 7, 7, 7, 7, 7, 7, 7, 7, 7, 7, 7, 7, 7, 7, 7, 7, 7, 7, 7, 7, 7, 7, 7, 7, 7, 7, 7, 7, 7, 7, 7, 7, 7, 7, 7, 7, 7, 7, 7, 7, 7, 7, 7, 7, 7, 7, 7, 7, 7, 7, 7, 7, 7, 7, 8, 8, 8, 8, 8, 8, 8, 8, 8, 8, 8, 8, 8, 8, 8, 8, 8, 8, 8, 8, 8, 8, 8, 8, 8, 8, 8, 8, 8, 8, 8, 8, 8, 8, 8, 8, 8, 8, 8, 8, 8, 8, 8, 8, 8, 8, 8, 8, 8, 8, 8, 8, 8, 8, 8, 8, 8, 8, 8, 8, 8, 8, 8, 8, 8, 8, 8, 8, 8, 8, 8, 8, 8, 8, 8, 8, 8, 8, 8, 8, 8, 8, 8, 8, 8, 8, 8, 8, 8, 8, 8, 8, 8, 8, 8, 8, 8, 8, 8, 8, 8, 8, 8, 8, 8, 8, 8, 8, 8, 8, 8, 8, 8, 8, 8, 8, 8, 8, 8, 8, 8, 8, 8, 8, 8, 8, 8, 8]⟩
def blenF : Nat → Nat → Nat
  | 0, _ => 0
  | k + 1, n => if n = 0 then 0 else blenF k (n / 2) + 1
theorem blenF_eq : ∀ k n, n < 2 ^ k → blenF k n = Suf.bits n
  | 0, n, h => by obtain rfl : n = 0 := by omega
                  exact bits_zero.symm
  | k + 1, n, h => by
    unfold blenF
    by_cases c : n = 0
    · rw [if_pos c, c, bits_zero]
    · rw [if_neg c, bits_pos (by omega), blenF_eq k (n / 2) (by rw [Nat.pow_succ] at h; omega)]
set_option maxRecDepth 100000 in
theorem lenTab_all : ∀ n : Fin 256, ∀ h : n.val < lenTab.size, (lenTab[n.val]'h).toNat = blenF 8 n.val := by decide +kernel
set_option maxRecDepth 100000 in
theorem tab_eq (t : ByteArray) (ht : t = lenTab) (n : Nat) (h : n < t.size) : (t[n]'h).toNat = Suf.bits n := by
  subst ht
  have h2 : n < 256 := h
  rw [← blenF_eq 8 n h2, ← lenTab_all ⟨n, h2⟩ h]
theorem bits_small {n k : Nat} (h : n < 2 ^ k) : Suf.bits n ≤ k := by
  rw [← blenF_eq k n h]
  clear h
  induction k generalizing n with
  | zero => exact Nat.le_refl _
  | succ k ih => unfold blenF; split; omega; have := ih (n := n / 2); omega
theorem bits_256 {n : Nat} (h : 256 ≤ n) : Suf.bits n = Suf.bits (n / 256) + 8 := by
  rw [bits_pos (by omega), bits_pos (n := n / 2) (by omega), bits_pos (n := n / 2 / 2) (by omega), bits_pos (n := n / 2 / 2 / 2) (by omega), bits_pos (n := n / 2 / 2 / 2 / 2) (by omega), bits_pos (n := n / 2 / 2 / 2 / 2 / 2) (by omega), bits_pos (n := n / 2 / 2 / 2 / 2 / 2 / 2) (by omega), bits_pos (n := n / 2 / 2 / 2 / 2 / 2 / 2 / 2) (by omega)]
  have e : n / 2 / 2 / 2 / 2 / 2 / 2 / 2 / 2 = n / 256 := by omega
  rw [e]
theorem wrap_bits (x y : Nat) (h : x ≤ 100) (hy : y ≤ 100) : wrap64 (wrap64 ((x : Nat) : Int) + (y : Int)) = ((x + y : Nat) : Int) := by unfold wrap64; omega
theorem wrap_bits0 (x : Nat) (h : x ≤ 100) : wrap64 (wrap64 ((x : Nat) : Int)) = ((x : Nat) : Int) := by unfold wrap64; omega
theorem len_ret0 {x b : Nat} (hx : x = b) (hb : b ≤ 100) : Ending.returned (.int .i64 (wrap64 (wrap64 (x : Int)))) = Ending.returned (.int .i64 (b : Int)) := by subst hx; rw [wrap_bits0 _ hb]
theorem len_ret8 {x b n : Nat} (hx : x = b) (hn : n = b + 8) (hb : b ≤ 100) : Ending.returned (.int .i64 (wrap64 (8 + wrap64 (x : Int)))) = Ending.returned (.int .i64 (n : Int)) := by subst hx; subst hn; congr 2; unfold wrap64; omega
set_option maxRecDepth 100000 in
set_option maxHeartbeats 4000000 in
theorem len64_small (a : Int) (W : World) (h0 : 0 ≤ a) (h1 : a < 65536) :
    Calls Try.prog 51 #[.int .u64 a] W fun e W' => e = .returned (.int .i64 ((Suf.bits a.toNat : Nat) : Int)) ∧ Drawn0 W W' := by
  have d1 : decide (4294967296 ≤ a) = false := decide_eq_false (by omega)
  have d2 : decide (65536 ≤ a) = false := decide_eq_false (by omega)
  by_cases c : a < 256
  · have d3 : decide (256 ≤ a) = false := decide_eq_false (by omega)
    go_enter Try.func51, Try.ntmps51
    go_wp2
    go_ret
    exact ⟨len_ret0 (tab_eq _ rfl _ _) (Nat.le_trans (bits_small (k := 8) (by omega)) (by omega)), 0, rfl⟩
  · have d3 : decide (256 ≤ a) = true := decide_eq_true (by omega)
    go_enter Try.func51, Try.ntmps51
    go_wp2
    go_ret
    exact ⟨len_ret8 (tab_eq _ rfl _ _) (by rw [bits_256 (n := a.toNat) (by omega)]; congr 2; omega) (Nat.le_trans (bits_small (k := 8) (by omega)) (by omega)), 0, rfl⟩
theorem len_small (a : Int) (W : World) (h0 : 0 ≤ a) (h1 : a < 65536) :
    Calls Try.prog 46 #[.int .u64 a] W fun e W' => e = .returned (.int .i64 ((Suf.bits a.toNat : Nat) : Int)) ∧ Drawn0 W W' := by
  have H := Aside0.mk (len64_small a W h0 h1)
  go_enter Try.func46, Try.ntmps46
  go_wp2_with (go_at_call 51; refine H.out.mono ?_; rintro e w1 ⟨rfl, hd⟩)
  go_ret
  exact ⟨rfl, hd⟩
def bits_Len.f (a0 : Int) : Option Int := if 0 ≤ a0 ∧ a0 < 65536 then some ((blenF 16 a0.toNat : Nat) : Int) else none
theorem bits_Len.calls (a0 : Int) (r : Int) (w : World) (h : bits_Len.f a0 = some r) :
    Calls Try.prog 46 #[.int .u64 a0] w fun e w' => e = .returned (.int .i64 r) ∧ Drawn0 w w' := by
  unfold bits_Len.f at h
  by_cases hb : 0 ≤ a0 ∧ a0 < 65536
  · rw [if_pos hb] at h
    cases h
    rw [blenF_eq 16 a0.toNat (by omega)]
    exact len_small a0 w hb.1 hb.2
  · rw [if_neg hb] at h; cases h
end

/-! ### suffix_Most: function 26 -/
def suffix_Most.f (a0 : Int) : Option (Int) := if a0 < 1 then (some 0) else (if a0 > 16384 then (some 0) else ((bits_Len.f (IntKind.u64.wrap (a0))).bind fun t111 => (some (wrap64 ((wrap64 ((wrap64 (6 * a0)) * (wrap64 (t111 + 1)))) * (wrap64 (t111 + 1)))))))
set_option maxHeartbeats 8000000 in
set_option maxRecDepth 100000 in
theorem suffix_Most.calls (a0 : Int) (r : Int) (w : World) (h : suffix_Most.f a0 = some r) :
    Calls Try.prog 26 #[.int .i64 a0] w fun e w' => e = .returned (.int .i64 r) ∧ Drawn0 w w' := by
  have H := h
  clear h
  unfold suffix_Most.f at H
  by_cases c2 : a0 < 1
  · rw [if_pos c2] at H
    have c2b0 := decide_eq_true c2
    clear c2
    obtain rfl := Option.some.inj H
    go_enter Try.func26, Try.ntmps26
    go_wp2
    go_ret
    exact ⟨zF', zDr⟩
  · rw [if_neg c2] at H
    have c2b0 := decide_eq_false c2
    clear c2
    by_cases c3 : a0 > 16384
    · rw [if_pos c3] at H
      have c3b0 : decide (16384 < a0) = true := decide_eq_true c3
      clear c3
      obtain rfl := Option.some.inj H
      go_enter Try.func26, Try.ntmps26
      go_wp2
      go_ret
      exact ⟨zF', zDr⟩
    · rw [if_neg c3] at H
      have c3b0 : decide (16384 < a0) = false := decide_eq_false c3
      clear c3
      replace H := Option.bind_eq_some_iff.mp H
      obtain ⟨t111, A40, H⟩ := H
      (try dsimp only at H)
      have A4 := Aside0.mk A40
      clear A40
      obtain rfl := Option.some.inj H
      go_enter Try.func26, Try.ntmps26
      go_wp2_with (first | ((with_reducible refine gate_callee (f := 46) rfl ?_); refine zGo (N := (some 12)) Try.func46 #[.int .u64 (IntKind.u64.wrap (a0))] ?_; (with_reducible refine (bits_Len.calls (IntKind.u64.wrap (a0)) t111 _ A4.out).mono ?_); rintro e w' ⟨rfl, ⟨nd, rfl⟩⟩; refine ⟨_, rfl, ?_⟩))
      go_ret
      exact ⟨zF', zDr⟩

end Go.Proofs.Ythkiapcoagjjpaa.PSuffixOrder
