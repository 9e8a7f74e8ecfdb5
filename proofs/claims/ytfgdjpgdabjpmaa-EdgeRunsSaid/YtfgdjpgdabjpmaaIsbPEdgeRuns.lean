/- What the program's and the reference's instructions are, as plain arithmetic: both decode a word to the same fields. -/
import Derived.Test.YtfgdjpgdabjpmaaPEdgeRunsx
namespace Go.Proofs.Ytfgdjpgdabjpmaa.PEdgeRuns
open Go.RowKit Go.Proofs.YtfgdjpgdabjpmaaW.PrintWords Go.Proofs.YtfgdjpgdabjpmaaW.PrintLast
set_option linter.unusedVariables false
set_option linter.unusedSimpArgs false

def hv (op : Int) : Int := if op < 0 then 0 else isa_hasT.getD op.toNat 0
def bt1 (f m : Int) : Bool := f / m % 2 == 1
theorem has_eq (op : Int) : isa_has.f op = some (hv op) := rfl
theorem hv_cases (op : Int) : hv op = 0 ∨ hv op = 9 ∨ hv op = 3 ∨ hv op = 7 ∨ hv op = 11 ∨ hv op = 14 ∨ hv op = 1 ∨ hv op = 10 ∨ hv op = 24 ∨ hv op = 26 ∨ hv op = 2 ∨ hv op = 25 := by
  unfold hv
  split
  · exact .inl rfl
  · generalize op.toNat = n
    rcases Nat.lt_or_ge n 22 with h | h
    · have : ∀ n, n < 22 → (isa_hasT.getD n 0 = 0 ∨ isa_hasT.getD n 0 = 9 ∨ isa_hasT.getD n 0 = 3 ∨ isa_hasT.getD n 0 = 7 ∨ isa_hasT.getD n 0 = 11 ∨ isa_hasT.getD n 0 = 14 ∨ isa_hasT.getD n 0 = 1 ∨ isa_hasT.getD n 0 = 10 ∨ isa_hasT.getD n 0 = 24 ∨ isa_hasT.getD n 0 = 26 ∨ isa_hasT.getD n 0 = 2 ∨ isa_hasT.getD n 0 = 25) := by decide
      exact this n h
    · left
      rw [List.getD_eq_getElem?_getD, List.getElem?_eq_none (by simpa [isa_hasT] using h)]
      rfl
theorem bits_has (op : Int) : (Go.bits .and .i64 (hv op) 1 == 0) = !bt1 (hv op) 1 ∧ (Go.bits .and .i64 (hv op) 2 == 0) = !bt1 (hv op) 2 ∧ (Go.bits .and .i64 (hv op) 4 == 0) = !bt1 (hv op) 4 ∧ (Go.bits .and .i64 (hv op) 8 == 0) = !bt1 (hv op) 8 ∧ (Go.bits .and .i64 (hv op) 16 == 0) = !bt1 (hv op) 16 := by
  rcases hv_cases op with h | h | h | h | h | h | h | h | h | h | h | h <;> rw [h] <;> decide
/-- Are the fields right for an operation with the bits f? -/
def okF (f D A B N : Int) : Bool :=
  decide (0 ≤ D ∧ D < 16 ∧ (bt1 f 1 = true ∨ D = 0)) && decide (0 ≤ A ∧ A < 16 ∧ (bt1 f 2 = true ∨ A = 0)) && decide (0 ≤ B ∧ B < 16 ∧ (bt1 f 4 = true ∨ B = 0)) &&
    decide (if bt1 f 16 = true then 0 ≤ N ∧ N ≤ 16383 else if bt1 f 8 = true then -16384 ≤ N ∧ N ≤ 16383 else N = 0)
def encS (op D A B N : Int) : Int × Int := if op < 0 ∨ 22 ≤ op then (0, 10) else if okF (hv op) D A B N = true then (enc_pack op D A B N, 0) else (0, 11)
theorem enc_ok_iff (op r m : Int) (b : Bool) (h : (Go.bits .and .i64 (hv op) m == 0) = !b) : enc_ok (hv op) r m ↔ (0 ≤ r ∧ r < 16 ∧ (b = true ∨ r = 0)) := by
  unfold enc_ok
  rw [h]
  cases b <;> simp <;> omega
theorem isa_enc (op D A B N : Int) : isa_Encode.f op D A B N = some (encS op D A B N) := by
  unfold isa_Encode.f encS
  by_cases h : op < 0 ∨ 22 ≤ op
  · rw [if_pos h, if_pos h]
  · rw [if_neg h, if_neg h]
    have hf : isa_hasT.getD op.toNat 0 = hv op := by unfold hv; rw [if_neg (by omega)]
    rw [hf]
    obtain ⟨b1, b2, b4, b8, b16⟩ := bits_has op
    congr 1
    unfold encF
    have e1 := enc_ok_iff op D 1 _ b1
    have e2 := enc_ok_iff op A 2 _ b2
    have e4 := enc_ok_iff op B 4 _ b4
    have hlo : (N < enc_lo (hv op) ∨ enc_hi (hv op) < N) ↔ ¬ (if bt1 (hv op) 16 = true then 0 ≤ N ∧ N ≤ 16383 else if bt1 (hv op) 8 = true then -16384 ≤ N ∧ N ≤ 16383 else N = 0) := by
      have c16 : (Go.bits .and .i64 (hv op) 16 != 0) = bt1 (hv op) 16 := by show (!(_ == _)) = _; rw [b16]; cases bt1 (hv op) 16 <;> rfl
      have c8 : (Go.bits .and .i64 (hv op) 8 != 0) = bt1 (hv op) 8 := by show (!(_ == _)) = _; rw [b8]; cases bt1 (hv op) 8 <;> rfl
      unfold enc_lo enc_hi
      rw [c16, c8]
      cases bt1 (hv op) 16 <;> cases bt1 (hv op) 8 <;> simp <;> omega
    by_cases hok : okF (hv op) D A B N = true
    · rw [if_pos hok]
      simp only [okF, Bool.and_eq_true, decide_eq_true_eq] at hok
      obtain ⟨⟨⟨h1, h2⟩, h3⟩, h4⟩ := hok
      rw [if_pos ⟨e1.2 h1, e2.2 h2, e4.2 h3⟩, if_neg (fun h5 => hlo.1 h5 h4)]
    · rw [if_neg hok]
      simp only [okF, Bool.and_eq_true, decide_eq_true_eq] at hok
      split
      · rename_i h5
        split
        · rfl
        · rename_i h6
          exact absurd ⟨⟨⟨e1.1 h5.1, e2.1 h5.2.1⟩, e4.1 h5.2.2⟩, Classical.not_not.1 (fun h7 => h6 (hlo.2 h7))⟩ hok
      · rfl

/-! ### decoding -/
def opOf (w : Int) : Int := w / 134217728
def dOf (w : Int) : Int := w / 8388608 % 16
def aOf (w : Int) : Int := w / 524288 % 16
def bOf (w : Int) : Int := w / 32768 % 16
def nOf (w : Int) : Int := w % 32768
def nn (w : Int) : Int := if bt1 (hv (opOf w)) 8 = true ∧ bt1 (hv (opOf w)) 16 = false ∧ 16384 ≤ nOf w then nOf w - 32768 else nOf w
/-- A word's fields; (-1, 0, 0, 0, w) where it is no instruction. -/
def dec (w : Int) : Int × Int × Int × Int × Int := if opOf w < 22 ∧ okF (hv (opOf w)) (dOf w) (aOf w) (bOf w) (nn w) = true then (opOf w, dOf w, aOf w, bOf w, nn w) else (-1, 0, 0, 0, w)
def isW (w : Int) : Prop := 0 ≤ w ∧ w < 4294967296
theorem op_range {w : Int} (h : isW w) : 0 ≤ opOf w ∧ opOf w < 32 := by unfold isW at h; unfold opOf; omega
theorem wrap_i8' (n : Int) : IntKind.i8.wrap n = (n + 128) % 256 - 128 := by
  have h := IntKind.wrap_i32 n
  unfold IntKind.wrap at h ⊢
  simp [IntKind.bits, IntKind.signed] at h ⊢
  omega
theorem i8_op {w : Int} (h : isW w) : IntKind.i8.wrap (w / 134217728) = opOf w := by rw [wrap_i8']; unfold opOf; unfold isW at h; omega
theorem u32_15 {x : Int} (h0 : 0 ≤ x) (h1 : x < 2 ^ 32) : Go.bits .and .u32 x 15 = x % 16 := bits_mask .u32 32 (by decide) wraps_u32 4 (by decide) x h0 h1
theorem i8_16 (x : Int) : IntKind.i8.wrap (x % 16) = x % 16 := by rw [wrap_i8']; omega
theorem w_d {w : Int} (h : isW w) : IntKind.i8.wrap (Go.bits .and .u32 (w / 8388608) 15) = dOf w := by unfold isW at h; rw [u32_15 (by omega) (by omega), i8_16]; rfl
theorem w_a {w : Int} (h : isW w) : IntKind.i8.wrap (Go.bits .and .u32 (w / 524288) 15) = aOf w := by unfold isW at h; rw [u32_15 (by omega) (by omega), i8_16]; rfl
theorem w_b {w : Int} (h : isW w) : IntKind.i8.wrap (Go.bits .and .u32 (w / 32768) 15) = bOf w := by unfold isW at h; rw [u32_15 (by omega) (by omega), i8_16]; rfl
theorem w_n {w : Int} (h : isW w) : wrap64 (Go.bits .and .u32 w 32767) = nOf w := by unfold isW at h; rw [u32_and32767]; unfold wrap64 nOf; omega
theorem pack_back {w : Int} (h : isW w) (N : Int) (hN : N % 32768 = nOf w) : enc_pack (opOf w) (dOf w) (aOf w) (bOf w) N = w := by
  unfold enc_pack
  rw [hN]
  unfold isW at h
  unfold opOf dOf aOf bOf nOf
  omega
theorem enc_back {w N : Int} (h : isW w) (hN : N % 32768 = nOf w) :
    ((encS (opOf w) (dOf w) (aOf w) (bOf w) N).2 = 0 ∧ (encS (opOf w) (dOf w) (aOf w) (bOf w) N).1 = w) ↔ (opOf w < 22 ∧ okF (hv (opOf w)) (dOf w) (aOf w) (bOf w) N = true) := by
  have h0 := op_range h
  unfold encS
  by_cases h1 : opOf w < 0 ∨ 22 ≤ opOf w
  · rw [if_pos h1]; simp; omega
  · rw [if_neg h1]
    by_cases h2 : okF (hv (opOf w)) (dOf w) (aOf w) (bOf w) N = true
    · rw [if_pos h2]; simp [h2, pack_back h N hN]; omega
    · rw [if_neg h2]; simp [h2]
theorem dec_tail {w N : Int} (h : isW w) (hN : N % 32768 = nOf w) (hn : N = nn w) :
    (if (encS (opOf w) (dOf w) (aOf w) (bOf w) N).2 = 0 then (if (encS (opOf w) (dOf w) (aOf w) (bOf w) N).1 = w then (some (opOf w, dOf w, aOf w, bOf w, N)) else (some ((-1), 0, 0, 0, wrap64 w))) else (some ((-1), 0, 0, 0, wrap64 w))) = some (dec w) := by
  have hw : wrap64 w = w := by unfold isW at h; unfold wrap64; omega
  have hb := enc_back h hN
  unfold dec
  rw [← hn, hw]
  by_cases h1 : opOf w < 22 ∧ okF (hv (opOf w)) (dOf w) (aOf w) (bOf w) N = true
  · rw [if_pos h1, if_pos (hb.2 h1).1, if_pos (hb.2 h1).2]
  · rw [if_neg h1]
    split
    · rename_i h2
      rw [if_neg (fun h3 => h1 (hb.1 ⟨h2, h3⟩))]
    · rfl
theorem isa_dec {w : Int} (h : isW w) (k : Nat) (hk : 1 ≤ k) : isa_Decode.f k w = some (dec w) := by
  obtain ⟨k, rfl⟩ : ∃ m, k = m + 1 := ⟨k - 1, by omega⟩
  unfold isa_Decode.f
  rw [i8_op h, w_d h, w_a h, w_b h, w_n h, has_eq]
  obtain ⟨_, _, _, b8, b16⟩ := bits_has (opOf w)
  have hn : 0 ≤ nOf w ∧ nOf w < 32768 := by unfold nOf; omega
  simp only [Option.bind_some]
  by_cases c8 : Go.bits .and .i64 (hv (opOf w)) 8 = 0
  · rw [if_pos c8]
    have e8 : bt1 (hv (opOf w)) 8 = false := by rw [c8] at b8; simpa using b8
    simp only [isa_Decode.j0, Bool.false_eq_true, if_false, isa_enc, Option.bind_some]
    exact dec_tail h (by omega) (by unfold nn; rw [e8]; simp)
  · rw [if_neg c8]
    have e8 : bt1 (hv (opOf w)) 8 = true := by have : (Go.bits .and .i64 (hv (opOf w)) 8 == 0) = false := by simpa using c8
                                               rw [this] at b8; simpa using b8
    by_cases c16 : Go.bits .and .i64 (hv (opOf w)) 16 = 0
    · rw [if_pos c16]
      have e16 : bt1 (hv (opOf w)) 16 = false := by rw [c16] at b16; simpa using b16
      by_cases c : nOf w ≥ 16384
      · rw [decide_eq_true c]
        simp only [isa_Decode.j0, if_true, isa_enc, Option.bind_some]
        have hw : wrap64 (nOf w - 32768) = nOf w - 32768 := by unfold wrap64; omega
        rw [hw]
        exact dec_tail h (by omega) (by unfold nn; rw [e8, e16, if_pos ⟨rfl, rfl, c⟩])
      · rw [decide_eq_false c]
        simp only [isa_Decode.j0, Bool.false_eq_true, if_false, isa_enc, Option.bind_some]
        exact dec_tail h (by omega) (by unfold nn; rw [if_neg (fun hh => c hh.2.2)])
    · rw [if_neg c16]
      have e16 : bt1 (hv (opOf w)) 16 = true := by have : (Go.bits .and .i64 (hv (opOf w)) 16 == 0) = false := by simpa using c16
                                                   rw [this] at b16; simpa using b16
      simp only [isa_Decode.j0, Bool.false_eq_true, if_false, isa_enc, Option.bind_some]
      exact dec_tail h (by omega) (by unfold nn; rw [e16]; simp)
theorem isa_target {w : Int} (h : isW w) (k : Nat) (hk : 1 ≤ k) : isa_Target.f k w = some (if bt1 (hv (dec w).1) 16 = true then ((dec w).2.2.2.2, true) else (0, false)) := by
  unfold isa_Target.f
  rw [isa_dec h k hk]
  simp only [Option.bind_some, has_eq]
  obtain ⟨_, _, _, _, b16⟩ := bits_has (dec w).1
  by_cases c : Go.bits .and .i64 (hv (dec w).1) 16 = 0
  · rw [if_pos c]
    rw [c] at b16
    have e : bt1 (hv (dec w).1) 16 = false := by simpa using b16
    rw [e]; rfl
  · rw [if_neg c]
    have : (Go.bits .and .i64 (hv (dec w).1) 16 == 0) = false := by simpa using c
    rw [this] at b16
    have e : bt1 (hv (dec w).1) 16 = true := by simpa using b16
    rw [e]; rfl
/-! ### the reference -/
theorem hv_place (op : Int) : bt1 (hv op) 16 = true → bt1 (hv op) 8 = true := by
  rcases hv_cases op with h | h | h | h | h | h | h | h | h | h | h | h <;> rw [h] <;> decide
theorem dec_bad {w : Int} (h : ¬ opOf w < 22) : dec w = (-1, 0, 0, 0, w) := by unfold dec; rw [if_neg (fun hh => h hh.1)]
theorem hv_big (op : Int) (h : 22 ≤ op) : hv op = 0 := by
  unfold hv
  rw [if_neg (by omega), List.getD_eq_getElem?_getD, List.getElem?_eq_none (by simp [isa_hasT]; omega)]
  rfl
/-- A word's target, if it has one. -/
def tgt (w : Int) : Int × Bool := if bt1 (hv (dec w).1) 16 = true then ((dec w).2.2.2.2, true) else (0, false)
def allW (l : List Int) : Prop := ∀ x ∈ l, isW x
theorem rd_W {l : List Int} (h : allW l) (i : Nat) (hi : i < l.length) : isW (rd l (i : Int)) := by
  have h1 : rd l (i : Int) = l[i] := by simp [rd, List.getD_eq_getElem?_getD, List.getElem?_eq_getElem hi]
  rw [h1]
  exact h _ (List.getElem_mem hi)
/-- The first place from i on whose target lies behind the text; or how the last word ends. -/
def chkFrom (l : List Int) : Nat → Nat → Int × Int
  | 0, _ => if (dec (rd l ((l.length : Int) - 1))).1 = 0 ∨ (dec (rd l ((l.length : Int) - 1))).1 = 15 ∨ (dec (rd l ((l.length : Int) - 1))).1 = 19 ∨ (dec (rd l ((l.length : Int) - 1))).1 = 21 then (0, 0) else (50, (l.length : Int) - 1)
  | d + 1, i => if (tgt (rd l (i : Int))).2 = true ∧ (tgt (rd l (i : Int))).1 ≥ (l.length : Int) then (22, (i : Int)) else chkFrom l d (i + 1)
theorem chkFrom_succ (l : List Int) (d i : Nat) : chkFrom l (d + 1) i = if (tgt (rd l (i : Int))).2 = true ∧ (tgt (rd l (i : Int))).1 ≥ (l.length : Int) then (22, (i : Int)) else chkFrom l d (i + 1) := rfl
def chk (l : List Int) (e : Int) (m : List Int) : Int × Int :=
  if l.length = 0 then (50, 0) else if 16384 < l.length then (42, 16384) else if 4096 < m.length then (25, 4096) else if e < 0 ∨ (l.length : Int) ≤ e then (41, 0) else chkFrom l l.length 0
theorem last_ite (o : Int) (x : Int × Int) : (if o = 0 then (some ((0 : Int), (0 : Int))) else (if o = 15 then (some (0, 0)) else (if o = 19 then (some (0, 0)) else (if o = 21 then (some (0, 0)) else (some x))))) = some (if o = 0 ∨ o = 15 ∨ o = 19 ∨ o = 21 then (0, 0) else x) := by
  by_cases h0 : o = 0
  · simp [h0]
  · by_cases h1 : o = 15
    · simp [h1]
    · by_cases h2 : o = 19
      · simp [h2]
      · by_cases h3 : o = 21
        · simp [h3]
        · simp [h0, h1, h2, h3]
theorem isa_chk_loop (l m : List Int) (e : Int) (hW : allW l) (h0 : 0 < l.length) (hm : l.length ≤ 16384) : ∀ (d i : Nat) (k : Nat), i + d = l.length → d + 2 ≤ k → image_Check.l0 k (l.length : Int) l (l.length : Int) (i : Int) l e m = some (chkFrom l d i)
  | 0, i, k, hi, hk => by
    obtain ⟨k, rfl⟩ : ∃ q, k = q + 1 := ⟨k - 1, by omega⟩
    have hw : wrap64 ((l.length : Int) - 1) = (l.length : Int) - 1 := by unfold wrap64; omega
    simp only [image_Check.l0]
    rw [if_neg (by omega), hw, if_pos (by omega), if_pos (by omega)]
    have hr := rd_W hW (l.length - 1) (by omega)
    rw [show ((l.length - 1 : Nat) : Int) = (l.length : Int) - 1 by omega] at hr
    rw [isa_dec hr k (by omega)]
    simp only [Option.bind_some]
    rw [last_ite]
    rfl
  | d + 1, i, k, hi, hk => by
    obtain ⟨k, rfl⟩ : ∃ q, k = q + 1 := ⟨k - 1, by omega⟩
    have hw : wrap64 ((i : Int) + 1) = ((i + 1 : Nat) : Int) := by unfold wrap64; omega
    have ih := isa_chk_loop l m e hW h0 hm d (i + 1) k (by omega) (by omega)
    simp only [image_Check.l0]
    rw [if_pos (by omega), if_pos (by omega), if_pos (by omega), isa_target (rd_W hW i (by omega)) k (by omega)]
    simp only [Option.bind_some]
    rw [hw, ih, chkFrom_succ]
    show (if (tgt (rd l ↑i)).2 = true then (if (tgt (rd l ↑i)).1 ≥ (l.length : Int) then _ else _) else _) = _
    by_cases c : (tgt (rd l (i : Int))).2 = true
    · rw [if_pos c]
      by_cases c1 : (tgt (rd l (i : Int))).1 ≥ (l.length : Int)
      · rw [if_pos c1, if_pos ⟨c, c1⟩]
      · rw [if_neg c1, if_neg (fun hh => c1 hh.2)]
    · rw [if_neg c, if_neg (fun hh => c hh.1)]
theorem isa_chk (l m : List Int) (e : Int) (hW : allW l) (k : Nat) (hk : l.length + 2 ≤ k ∨ 16386 ≤ k) : image_Check.f k l e m = some (chk l e m) := by
  unfold image_Check.f chk
  by_cases h0 : l.length = 0
  · rw [if_pos (by omega), if_pos h0]
  · rw [if_neg (by omega), if_neg h0]
    by_cases h1 : 16384 < l.length
    · rw [if_pos (by omega), if_pos h1]
    · rw [if_neg (by omega), if_neg h1]
      by_cases h2 : 4096 < m.length
      · rw [if_pos (by omega), if_pos h2]
      · rw [if_neg (by omega), if_neg h2]
        by_cases h3 : e < 0
        · rw [if_pos h3, if_pos (.inl h3)]
        · rw [if_neg h3]
          by_cases h4 : e ≥ (l.length : Int)
          · rw [if_pos h4, if_pos (.inr h4)]
          · rw [if_neg h4, if_neg (by omega)]
            exact isa_chk_loop l m e hW (by omega) (by omega) l.length 0 k (by omega) (by omega)
end Go.Proofs.Ytfgdjpgdabjpmaa.PEdgeRuns
