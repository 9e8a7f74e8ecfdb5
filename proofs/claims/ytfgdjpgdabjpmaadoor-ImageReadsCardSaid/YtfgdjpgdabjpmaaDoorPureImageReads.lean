/- The law of an image's reading: the program's and the document's are the same, over lists of numbers. -/
import Derived.Test.YtfgdjpgdabjpmaaDoorStImageReads
import Derived.Test.YtfgdjpgdabjpmaaDoorPImageReadsx
import Derived.Test.YtfgdjpgdabjpmaaDoorEv
import Derived.Laws.BitsAllLaws
namespace Go.Proofs.YtfgdjpgdabjpmaaDoor.Pure
open Go.RowKit Go.Proofs.YtfgdjpgdabjpmaaDoorW.PrintWords Go.Proofs.YtfgdjpgdabjpmaaDoorW.PrintLast Go.Proofs.YtfgdjpgdabjpmaaDoorW.PrintMore Go.Proofs.YtfgdjpgdabjpmaaDoor.PImageReads Go.Proofs.YtfgdjpgdabjpmaaDoor.Ev
set_option linter.unusedVariables false
set_option linter.unusedSimpArgs false

def hv (op : Int) : Int := if op < 0 then 0 else isa_hasT.getD op.toNat 0
def bt1 (f m : Int) : Bool := f / m % 2 == 1
theorem has_eq (op : Int) : isa_has.f op = some (hv op) := rfl
theorem hv_cases (op : Int) : hv op = 0 ∨ hv op = 9 ∨ hv op = 3 ∨ hv op = 7 ∨ hv op = 11 ∨ hv op = 14 ∨ hv op = 1 ∨ hv op = 10 ∨ hv op = 24 ∨ hv op = 26 ∨ hv op = 2 ∨ hv op = 25 := by
  unfold hv
  split
  · exact .inl rfl
  · generalize op.toNat = n
    rcases Nat.lt_or_ge n 22 with h | h
    · have : ∀ n, n < 22 → (isa_hasT.getD n 0 = 0 ∨ isa_hasT.getD n 0 = 9 ∨ isa_hasT.getD n 0 = 3 ∨ isa_hasT.getD n 0 = 7 ∨ isa_hasT.getD n 0 = 11 ∨ isa_hasT.getD n 0 = 14 ∨ isa_hasT.getD n 0 = 1 ∨ isa_hasT.getD n 0 = 10 ∨ isa_hasT.getD n 0 = 24 ∨ isa_hasT.getD n 0 = 26 ∨ isa_hasT.getD n 0 = 2 ∨ isa_hasT.getD n 0 = 25) := by decide
      exact this n h
    · left
      rw [List.getD_eq_getElem?_getD, List.getElem?_eq_none (by simpa [isa_hasT] using h)]
      rfl
theorem bits_has (op : Int) : (Go.bits .and .i64 (hv op) 1 == 0) = !bt1 (hv op) 1 ∧ (Go.bits .and .i64 (hv op) 2 == 0) = !bt1 (hv op) 2 ∧ (Go.bits .and .i64 (hv op) 4 == 0) = !bt1 (hv op) 4 ∧ (Go.bits .and .i64 (hv op) 8 == 0) = !bt1 (hv op) 8 ∧ (Go.bits .and .i64 (hv op) 16 == 0) = !bt1 (hv op) 16 := by
  rcases hv_cases op with h | h | h | h | h | h | h | h | h | h | h | h <;> rw [h] <;> decide
/-- Are the fields right for an operation with the bits f? -/
def okF (f D A B N : Int) : Bool :=
  decide (0 ≤ D ∧ D < 16 ∧ (bt1 f 1 = true ∨ D = 0)) && decide (0 ≤ A ∧ A < 16 ∧ (bt1 f 2 = true ∨ A = 0)) && decide (0 ≤ B ∧ B < 16 ∧ (bt1 f 4 = true ∨ B = 0)) &&
    decide (if bt1 f 16 = true then 0 ≤ N ∧ N ≤ 16383 else if bt1 f 8 = true then -16384 ≤ N ∧ N ≤ 16383 else N = 0)
def encS (op D A B N : Int) : Int × Int := if op < 0 ∨ 22 ≤ op then (0, 10) else if okF (hv op) D A B N = true then (enc_pack op D A B N, 0) else (0, 11)
theorem enc_ok_iff (op r m : Int) (b : Bool) (h : (Go.bits .and .i64 (hv op) m == 0) = !b) : enc_ok (hv op) r m ↔ (0 ≤ r ∧ r < 16 ∧ (b = true ∨ r = 0)) := by
  unfold enc_ok
  rw [h]
  cases b <;> simp <;> omega
theorem isa_enc (op D A B N : Int) : isa_Encode.f op D A B N = some (encS op D A B N) := by
  unfold isa_Encode.f encS
  by_cases h : op < 0 ∨ 22 ≤ op
  · rw [if_pos h, if_pos h]
  · rw [if_neg h, if_neg h]
    have hf : isa_hasT.getD op.toNat 0 = hv op := by unfold hv; rw [if_neg (by omega)]
    rw [hf]
    obtain ⟨b1, b2, b4, b8, b16⟩ := bits_has op
    congr 1
    unfold encF
    have e1 := enc_ok_iff op D 1 _ b1
    have e2 := enc_ok_iff op A 2 _ b2
    have e4 := enc_ok_iff op B 4 _ b4
    have hlo : (N < enc_lo (hv op) ∨ enc_hi (hv op) < N) ↔ ¬ (if bt1 (hv op) 16 = true then 0 ≤ N ∧ N ≤ 16383 else if bt1 (hv op) 8 = true then -16384 ≤ N ∧ N ≤ 16383 else N = 0) := by
      have c16 : (Go.bits .and .i64 (hv op) 16 != 0) = bt1 (hv op) 16 := by show (!(_ == _)) = _; rw [b16]; cases bt1 (hv op) 16 <;> rfl
      have c8 : (Go.bits .and .i64 (hv op) 8 != 0) = bt1 (hv op) 8 := by show (!(_ == _)) = _; rw [b8]; cases bt1 (hv op) 8 <;> rfl
      unfold enc_lo enc_hi
      rw [c16, c8]
      cases bt1 (hv op) 16 <;> cases bt1 (hv op) 8 <;> simp <;> omega
    by_cases hok : okF (hv op) D A B N = true
    · rw [if_pos hok]
      simp only [okF, Bool.and_eq_true, decide_eq_true_eq] at hok
      obtain ⟨⟨⟨h1, h2⟩, h3⟩, h4⟩ := hok
      rw [if_pos ⟨e1.2 h1, e2.2 h2, e4.2 h3⟩, if_neg (fun h5 => hlo.1 h5 h4)]
    · rw [if_neg hok]
      simp only [okF, Bool.and_eq_true, decide_eq_true_eq] at hok
      split
      · rename_i h5
        split
        · rfl
        · rename_i h6
          exact absurd ⟨⟨⟨e1.1 h5.1, e2.1 h5.2.1⟩, e4.1 h5.2.2⟩, Classical.not_not.1 (fun h7 => h6 (hlo.2 h7))⟩ hok
      · rfl

/-! ### decoding -/
def opOf (w : Int) : Int := w / 134217728
def dOf (w : Int) : Int := w / 8388608 % 16
def aOf (w : Int) : Int := w / 524288 % 16
def bOf (w : Int) : Int := w / 32768 % 16
def nOf (w : Int) : Int := w % 32768
def nn (w : Int) : Int := if bt1 (hv (opOf w)) 8 = true ∧ bt1 (hv (opOf w)) 16 = false ∧ 16384 ≤ nOf w then nOf w - 32768 else nOf w
/-- A word's fields; (-1, 0, 0, 0, w) where it is no instruction. -/
def dec (w : Int) : Int × Int × Int × Int × Int := if opOf w < 22 ∧ okF (hv (opOf w)) (dOf w) (aOf w) (bOf w) (nn w) = true then (opOf w, dOf w, aOf w, bOf w, nn w) else (-1, 0, 0, 0, w)
def isW (w : Int) : Prop := 0 ≤ w ∧ w < 4294967296
theorem op_range {w : Int} (h : isW w) : 0 ≤ opOf w ∧ opOf w < 32 := by unfold isW at h; unfold opOf; omega
theorem wrap_i8' (n : Int) : IntKind.i8.wrap n = (n + 128) % 256 - 128 := by
  have h := IntKind.wrap_i32 n
  unfold IntKind.wrap at h ⊢
  simp [IntKind.bits, IntKind.signed] at h ⊢
  omega
theorem i8_op {w : Int} (h : isW w) : IntKind.i8.wrap (w / 134217728) = opOf w := by rw [wrap_i8']; unfold opOf; unfold isW at h; omega
theorem u32_15 {x : Int} (h0 : 0 ≤ x) (h1 : x < 2 ^ 32) : Go.bits .and .u32 x 15 = x % 16 := bits_mask .u32 32 (by decide) wraps_u32 4 (by decide) x h0 h1
theorem i8_16 (x : Int) : IntKind.i8.wrap (x % 16) = x % 16 := by rw [wrap_i8']; omega
theorem w_d {w : Int} (h : isW w) : IntKind.i8.wrap (Go.bits .and .u32 (w / 8388608) 15) = dOf w := by unfold isW at h; rw [u32_15 (by omega) (by omega), i8_16]; rfl
theorem w_a {w : Int} (h : isW w) : IntKind.i8.wrap (Go.bits .and .u32 (w / 524288) 15) = aOf w := by unfold isW at h; rw [u32_15 (by omega) (by omega), i8_16]; rfl
theorem w_b {w : Int} (h : isW w) : IntKind.i8.wrap (Go.bits .and .u32 (w / 32768) 15) = bOf w := by unfold isW at h; rw [u32_15 (by omega) (by omega), i8_16]; rfl
theorem w_n {w : Int} (h : isW w) : wrap64 (Go.bits .and .u32 w 32767) = nOf w := by unfold isW at h; rw [u32_and32767]; unfold wrap64 nOf; omega
theorem pack_back {w : Int} (h : isW w) (N : Int) (hN : N % 32768 = nOf w) : enc_pack (opOf w) (dOf w) (aOf w) (bOf w) N = w := by
  unfold enc_pack
  rw [hN]
  unfold isW at h
  unfold opOf dOf aOf bOf nOf
  omega
theorem enc_back {w N : Int} (h : isW w) (hN : N % 32768 = nOf w) :
    ((encS (opOf w) (dOf w) (aOf w) (bOf w) N).2 = 0 ∧ (encS (opOf w) (dOf w) (aOf w) (bOf w) N).1 = w) ↔ (opOf w < 22 ∧ okF (hv (opOf w)) (dOf w) (aOf w) (bOf w) N = true) := by
  have h0 := op_range h
  unfold encS
  by_cases h1 : opOf w < 0 ∨ 22 ≤ opOf w
  · rw [if_pos h1]; simp; omega
  · rw [if_neg h1]
    by_cases h2 : okF (hv (opOf w)) (dOf w) (aOf w) (bOf w) N = true
    · rw [if_pos h2]; simp [h2, pack_back h N hN]; omega
    · rw [if_neg h2]; simp [h2]
theorem dec_tail {w N : Int} (h : isW w) (hN : N % 32768 = nOf w) (hn : N = nn w) :
    (if (encS (opOf w) (dOf w) (aOf w) (bOf w) N).2 = 0 then (if (encS (opOf w) (dOf w) (aOf w) (bOf w) N).1 = w then (some (opOf w, dOf w, aOf w, bOf w, N)) else (some ((-1), 0, 0, 0, wrap64 w))) else (some ((-1), 0, 0, 0, wrap64 w))) = some (dec w) := by
  have hw : wrap64 w = w := by unfold isW at h; unfold wrap64; omega
  have hb := enc_back h hN
  unfold dec
  rw [← hn, hw]
  by_cases h1 : opOf w < 22 ∧ okF (hv (opOf w)) (dOf w) (aOf w) (bOf w) N = true
  · rw [if_pos h1, if_pos (hb.2 h1).1, if_pos (hb.2 h1).2]
  · rw [if_neg h1]
    split
    · rename_i h2
      rw [if_neg (fun h3 => h1 (hb.1 ⟨h2, h3⟩))]
    · rfl
theorem isa_dec {w : Int} (h : isW w) (k : Nat) (hk : 1 ≤ k) : isa_Decode.f k w = some (dec w) := by
  obtain ⟨k, rfl⟩ : ∃ m, k = m + 1 := ⟨k - 1, by omega⟩
  unfold isa_Decode.f
  rw [i8_op h, w_d h, w_a h, w_b h, w_n h, has_eq]
  obtain ⟨_, _, _, b8, b16⟩ := bits_has (opOf w)
  have hn : 0 ≤ nOf w ∧ nOf w < 32768 := by unfold nOf; omega
  simp only [Option.bind_some]
  by_cases c8 : Go.bits .and .i64 (hv (opOf w)) 8 = 0
  · rw [if_pos c8]
    have e8 : bt1 (hv (opOf w)) 8 = false := by rw [c8] at b8; simpa using b8
    simp only [isa_Decode.j0, Bool.false_eq_true, if_false, isa_enc, Option.bind_some]
    exact dec_tail h (by omega) (by unfold nn; rw [e8]; simp)
  · rw [if_neg c8]
    have e8 : bt1 (hv (opOf w)) 8 = true := by have : (Go.bits .and .i64 (hv (opOf w)) 8 == 0) = false := by simpa using c8
                                               rw [this] at b8; simpa using b8
    by_cases c16 : Go.bits .and .i64 (hv (opOf w)) 16 = 0
    · rw [if_pos c16]
      have e16 : bt1 (hv (opOf w)) 16 = false := by rw [c16] at b16; simpa using b16
      by_cases c : nOf w ≥ 16384
      · rw [decide_eq_true c]
        simp only [isa_Decode.j0, if_true, isa_enc, Option.bind_some]
        have hw : wrap64 (nOf w - 32768) = nOf w - 32768 := by unfold wrap64; omega
        rw [hw]
        exact dec_tail h (by omega) (by unfold nn; rw [e8, e16, if_pos ⟨rfl, rfl, c⟩])
      · rw [decide_eq_false c]
        simp only [isa_Decode.j0, Bool.false_eq_true, if_false, isa_enc, Option.bind_some]
        exact dec_tail h (by omega) (by unfold nn; rw [if_neg (fun hh => c hh.2.2)])
    · rw [if_neg c16]
      have e16 : bt1 (hv (opOf w)) 16 = true := by have : (Go.bits .and .i64 (hv (opOf w)) 16 == 0) = false := by simpa using c16
                                                   rw [this] at b16; simpa using b16
      simp only [isa_Decode.j0, Bool.false_eq_true, if_false, isa_enc, Option.bind_some]
      exact dec_tail h (by omega) (by unfold nn; rw [e16]; simp)
theorem isa_target {w : Int} (h : isW w) (k : Nat) (hk : 1 ≤ k) : isa_Target.f k w = some (if bt1 (hv (dec w).1) 16 = true then ((dec w).2.2.2.2, true) else (0, false)) := by
  unfold isa_Target.f
  rw [isa_dec h k hk]
  simp only [Option.bind_some, has_eq]
  obtain ⟨_, _, _, _, b16⟩ := bits_has (dec w).1
  by_cases c : Go.bits .and .i64 (hv (dec w).1) 16 = 0
  · rw [if_pos c]
    rw [c] at b16
    have e : bt1 (hv (dec w).1) 16 = false := by simpa using b16
    rw [e]; rfl
  · rw [if_neg c]
    have : (Go.bits .and .i64 (hv (dec w).1) 16 == 0) = false := by simpa using c
    rw [this] at b16
    have e : bt1 (hv (dec w).1) 16 = true := by simpa using b16
    rw [e]; rfl
/-! ### the reference -/
theorem ref_has (op : Int) (h : op < 22) (k : Nat) (hk : 3 ≤ k) : pleatref02_Has.f k op = some (bt1 (hv op) 1, bt1 (hv op) 2, bt1 (hv op) 4, bt1 (hv op) 8, bt1 (hv op) 16) := by
  obtain ⟨k, rfl⟩ : ∃ m, k = m + 3 := ⟨k - 3, by omega⟩
  by_cases h0 : op < 0
  · have : hv op = 0 := by unfold hv; rw [if_pos h0]
    rw [this]
    unfold pleatref02_Has.f
    iterate 9 rw [if_neg (show ¬ (op = _) by omega)]
    have e10 : (op == 10) = false := by simpa using (show op ≠ 10 by omega)
    have e17 : (op == 17) = false := by simpa using (show op ≠ 17 by omega)
    have e19 : (op == 19) = false := by simpa using (show op ≠ 19 by omega)
    simp only [pleatref02_Has.j0, e10, e17, e19, Bool.false_eq_true, if_false]
    iterate 5 rw [if_neg (show ¬ (op = _) by omega)]
    simp only [pleatref02_Has.j1, Bool.false_eq_true, if_false]
    iterate 2 rw [if_neg (show ¬ (op = _) by omega)]
    simp only [pleatref02_Has.j2, e19, Bool.false_eq_true, if_false]
    rw [if_neg (show ¬ (op = 20) by omega)]
    rfl
  · obtain ⟨n, rfl⟩ := Int.eq_ofNat_of_zero_le (Int.not_lt.1 h0)
    have hn : n < 22 := by omega
    clear h h0
    rcases n with _ | _ | _ | _ | _ | _ | _ | _ | _ | _ | _ | _ | _ | _ | _ | _ | _ | _ | _ | _ | _ | _ | n
    all_goals first | omega | rfl
theorem hv_place (op : Int) : bt1 (hv op) 16 = true → bt1 (hv op) 8 = true := by
  rcases hv_cases op with h | h | h | h | h | h | h | h | h | h | h | h <;> rw [h] <;> decide
theorem ref_reg (b : Bool) (r : Int) : pleatref02_register.f b r = some (decide (0 ≤ r ∧ r < 16 ∧ (b = true ∨ r = 0))) := by
  unfold pleatref02_register.f
  cases b
  · simp only [Bool.false_eq_true, if_false, false_or]
    congr 1
    by_cases h : r = 0
    · subst h; rfl
    · have h1 : (r == 0) = false := by simpa using h
      rw [h1, decide_eq_false (by omega)]
  · simp only [if_true, true_or, and_true]
    by_cases h : r ≥ 0
    · rw [if_pos h]; congr 1; by_cases h1 : r < 16
      · rw [decide_eq_true h1, decide_eq_true ⟨h, h1⟩]
      · rw [decide_eq_false h1, decide_eq_false (by omega)]
    · rw [if_neg h, decide_eq_false (by omega)]
theorem ref_num (f N : Int) (x y z bp : Bool) (h : bp = true → bt1 f 8 = true) : pleatref02_number.f x y z (bt1 f 8) bp N = some (decide (if bp = true then 0 ≤ N ∧ N ≤ 16383 else if bt1 f 8 = true then -16384 ≤ N ∧ N ≤ 16383 else N = 0)) := by
  unfold pleatref02_number.f
  generalize bt1 f 8 = b8 at h ⊢
  cases bp <;> cases b8 <;> simp only [if_true, if_false, Bool.false_eq_true, forall_const, false_implies] at h ⊢
  · rfl
  · by_cases c : N ≥ -16384
    · rw [if_pos c]
      congr 1
      by_cases c1 : N ≤ 16383
      · rw [decide_eq_true c1, decide_eq_true ⟨c, c1⟩]
      · rw [decide_eq_false c1, decide_eq_false (fun hh => c1 hh.2)]
    · rw [if_neg c, decide_eq_false (fun hh => c hh.1)]
  · by_cases c : N ≥ 0
    · rw [if_pos c]
      congr 1
      by_cases c1 : N < 16384
      · rw [decide_eq_true c1, decide_eq_true ⟨c, by omega⟩]
      · rw [decide_eq_false c1, decide_eq_false (fun hh => c1 (by omega))]
    · rw [if_neg c, decide_eq_false (fun hh => c hh.1)]
theorem ref_enc (op D A B N : Int) (hN : -16384 ≤ N ∧ N < 32768) (k : Nat) (hk : 5 ≤ k) : pleatref02_Encode.f k op D A B N = some (encS op D A B N) := by
  obtain ⟨k, rfl⟩ : ∃ m, k = m + 2 := ⟨k - 2, by omega⟩
  unfold pleatref02_Encode.f encS
  by_cases h0 : op < 0
  · rw [if_pos h0, if_pos (.inl h0)]; rfl
  · rw [if_neg h0]
    by_cases h1 : op > 21
    · rw [decide_eq_true h1, if_pos (.inr (by omega))]; rfl
    · rw [decide_eq_false h1, if_neg (by omega)]
      simp only [pleatref02_Encode.j0, Bool.false_eq_true, if_false]
      rw [ref_has op (by omega) (k + 1) (by omega)]
      simp only [Option.bind_some]
      have hpack : okF (hv op) D A B N = true → pleatref02_Encode.j1 (k + 1) false op D A B N = some (enc_pack op D A B N, 0) := by
        intro hok
        simp only [okF, Bool.and_eq_true, decide_eq_true_eq] at hok
        obtain ⟨⟨⟨h2, h3⟩, h4⟩, h5⟩ := hok
        simp only [pleatref02_Encode.j1, Bool.false_eq_true, if_false]
        have hw : wrap64 (N + 32768) = N + 32768 := by unfold wrap64; omega
        rw [hw]
        unfold enc_pack
        split
        · congr 2; omega
        · congr 2; omega
      have hp := hv_place op
      generalize hv op = f at hpack hp ⊢
      rw [ref_reg, ref_reg, ref_reg, ref_num _ _ _ _ _ _ hp]
      simp only [Option.bind_some]
      have hbad : pleatref02_Encode.j1 (k + 1) true op D A B N = some (0, 11) := by simp only [pleatref02_Encode.j1, if_true]
      unfold okF at hpack ⊢
      generalize decide (0 ≤ D ∧ D < 16 ∧ (bt1 f 1 = true ∨ D = 0)) = c1 at hpack ⊢
      generalize decide (0 ≤ A ∧ A < 16 ∧ (bt1 f 2 = true ∨ A = 0)) = c2 at hpack ⊢
      generalize decide (0 ≤ B ∧ B < 16 ∧ (bt1 f 4 = true ∨ B = 0)) = c3 at hpack ⊢
      generalize decide (if bt1 f 16 = true then 0 ≤ N ∧ N ≤ 16383 else if bt1 f 8 = true then -16384 ≤ N ∧ N ≤ 16383 else N = 0) = c4 at hpack ⊢
      cases c1 <;> cases c2 <;> cases c3 <;> cases c4 <;> simp_all
theorem dec_bad {w : Int} (h : ¬ opOf w < 22) : dec w = (-1, 0, 0, 0, w) := by unfold dec; rw [if_neg (fun hh => h hh.1)]
theorem ref_has_big (op : Int) (h : 22 ≤ op) (k : Nat) (hk : 3 ≤ k) : pleatref02_Has.f k op = some (false, false, false, false, false) := by
  obtain ⟨k, rfl⟩ : ∃ m, k = m + 3 := ⟨k - 3, by omega⟩
  unfold pleatref02_Has.f
  iterate 9 rw [if_neg (show ¬ (op = _) by omega)]
  have e10 : (op == 10) = false := by simpa using (show op ≠ 10 by omega)
  have e17 : (op == 17) = false := by simpa using (show op ≠ 17 by omega)
  have e19 : (op == 19) = false := by simpa using (show op ≠ 19 by omega)
  simp only [pleatref02_Has.j0, e10, e17, e19, Bool.false_eq_true, if_false]
  iterate 5 rw [if_neg (show ¬ (op = _) by omega)]
  simp only [pleatref02_Has.j1, Bool.false_eq_true, if_false]
  iterate 2 rw [if_neg (show ¬ (op = _) by omega)]
  simp only [pleatref02_Has.j2, e19, Bool.false_eq_true, if_false]
  rw [if_neg (show ¬ (op = 20) by omega)]
theorem hv_big (op : Int) (h : 22 ≤ op) : hv op = 0 := by
  unfold hv
  rw [if_neg (by omega), List.getD_eq_getElem?_getD, List.getElem?_eq_none (by simp [isa_hasT]; omega)]
  rfl
theorem ref_has' (op : Int) (k : Nat) (hk : 3 ≤ k) : pleatref02_Has.f k op = some (bt1 (hv op) 1, bt1 (hv op) 2, bt1 (hv op) 4, bt1 (hv op) 8, bt1 (hv op) 16) := by
  by_cases h : op < 22
  · exact ref_has op h k hk
  · rw [ref_has_big op (by omega) k hk, hv_big op (by omega)]
    rfl
theorem ref_dec {w : Int} (h : isW w) (k : Nat) (hk : 6 ≤ k) : pleatref02_Decode.f k w = some (dec w) := by
  obtain ⟨k, rfl⟩ : ∃ m, k = m + 1 := ⟨k - 1, by omega⟩
  unfold pleatref02_Decode.f
  rw [i8_op h, w_d h, w_a h, w_b h, w_n h, ref_has' _ _ (by omega)]
  have hn : 0 ≤ nOf w ∧ nOf w < 32768 := by unfold nOf; omega
  simp only [Option.bind_some]
  have hw : wrap64 (nOf w - 32768) = nOf w - 32768 := by unfold wrap64; omega
  cases e8 : bt1 (hv (opOf w)) 8 with
  | false =>
    simp only [Bool.false_eq_true, if_false, pleatref02_Decode.j0, ref_enc _ _ _ _ (nOf w) (by omega) k (by omega), Option.bind_some]
    exact dec_tail h (by omega) (by unfold nn; rw [e8]; simp)
  | true =>
    cases e16 : bt1 (hv (opOf w)) 16 with
    | true =>
      simp only [if_true, Bool.false_eq_true, if_false, pleatref02_Decode.j0, ref_enc _ _ _ _ (nOf w) (by omega) k (by omega), Option.bind_some]
      exact dec_tail h (by omega) (by unfold nn; rw [e16]; simp)
    | false =>
      by_cases c : nOf w ≥ 16384
      · rw [decide_eq_true c]
        simp only [Bool.false_eq_true, if_false, if_true, pleatref02_Decode.j0, hw, ref_enc _ _ _ _ (nOf w - 32768) (by omega) k (by omega), Option.bind_some]
        exact dec_tail h (by omega) (by unfold nn; rw [e8, e16, if_pos ⟨rfl, rfl, c⟩])
      · rw [decide_eq_false c]
        simp only [Bool.false_eq_true, if_false, if_true, pleatref02_Decode.j0, ref_enc _ _ _ _ (nOf w) (by omega) k (by omega), Option.bind_some]
        exact dec_tail h (by omega) (by unfold nn; rw [if_neg (fun hh => c hh.2.2)])
/-- A word's target, if it has one. -/
def tgt (w : Int) : Int × Bool := if bt1 (hv (dec w).1) 16 = true then ((dec w).2.2.2.2, true) else (0, false)
theorem ref_target {w : Int} (h : isW w) (k : Nat) (hk : 6 ≤ k) : pleatref02_Target.f k w = some (tgt w) := by
  unfold pleatref02_Target.f tgt
  rw [ref_dec h k hk]
  simp only [Option.bind_some]
  by_cases c : (dec w).1 < 0
  · rw [if_pos c]
    have : hv (dec w).1 = 0 := by unfold hv; rw [if_pos c]
    rw [this]; rfl
  · rw [if_neg c, ref_has' _ _ (by omega)]
    simp only [Option.bind_some]
    cases bt1 (hv (dec w).1) 16 <;> rfl
/-! ### which images may be -/
def allW (l : List Int) : Prop := ∀ x ∈ l, isW x
theorem rd_W {l : List Int} (h : allW l) (i : Nat) (hi : i < l.length) : isW (rd l (i : Int)) := by
  have h1 : rd l (i : Int) = l[i] := by simp [rd, List.getD_eq_getElem?_getD, List.getElem?_eq_getElem hi]
  rw [h1]
  exact h _ (List.getElem_mem hi)
/-- The first place from i on whose target lies behind the text; or how the last word ends. -/
def chkFrom (l : List Int) : Nat → Nat → Int × Int
  | 0, _ => if (dec (rd l ((l.length : Int) - 1))).1 = 0 ∨ (dec (rd l ((l.length : Int) - 1))).1 = 15 ∨ (dec (rd l ((l.length : Int) - 1))).1 = 19 ∨ (dec (rd l ((l.length : Int) - 1))).1 = 21 then (0, 0) else (50, (l.length : Int) - 1)
  | d + 1, i => if (tgt (rd l (i : Int))).2 = true ∧ (tgt (rd l (i : Int))).1 ≥ (l.length : Int) then (22, (i : Int)) else chkFrom l d (i + 1)
theorem chkFrom_succ (l : List Int) (d i : Nat) : chkFrom l (d + 1) i = if (tgt (rd l (i : Int))).2 = true ∧ (tgt (rd l (i : Int))).1 ≥ (l.length : Int) then (22, (i : Int)) else chkFrom l d (i + 1) := rfl
def chk (l : List Int) (e : Int) (m : List Int) : Int × Int :=
  if l.length = 0 then (50, 0) else if 16384 < l.length then (42, 16384) else if 4096 < m.length then (25, 4096) else if e < 0 ∨ (l.length : Int) ≤ e then (41, 0) else chkFrom l l.length 0
theorem last_ite (o : Int) (x : Int × Int) : (if o = 0 then (some ((0 : Int), (0 : Int))) else (if o = 15 then (some (0, 0)) else (if o = 19 then (some (0, 0)) else (if o = 21 then (some (0, 0)) else (some x))))) = some (if o = 0 ∨ o = 15 ∨ o = 19 ∨ o = 21 then (0, 0) else x) := by
  by_cases h0 : o = 0
  · simp [h0]
  · by_cases h1 : o = 15
    · simp [h1]
    · by_cases h2 : o = 19
      · simp [h2]
      · by_cases h3 : o = 21
        · simp [h3]
        · simp [h0, h1, h2, h3]
theorem isa_chk_loop (l m : List Int) (e : Int) (hW : allW l) (h0 : 0 < l.length) (hm : l.length ≤ 16384) : ∀ (d i : Nat) (k : Nat), i + d = l.length → d + 2 ≤ k → image_Check.l0 k (l.length : Int) l (l.length : Int) (i : Int) l e m = some (chkFrom l d i)
  | 0, i, k, hi, hk => by
    obtain ⟨k, rfl⟩ : ∃ q, k = q + 1 := ⟨k - 1, by omega⟩
    have hw : wrap64 ((l.length : Int) - 1) = (l.length : Int) - 1 := by unfold wrap64; omega
    simp only [image_Check.l0]
    rw [if_neg (by omega), hw, if_pos (by omega), if_pos (by omega)]
    have hr := rd_W hW (l.length - 1) (by omega)
    rw [show ((l.length - 1 : Nat) : Int) = (l.length : Int) - 1 by omega] at hr
    rw [isa_dec hr k (by omega)]
    simp only [Option.bind_some]
    rw [last_ite]
    rfl
  | d + 1, i, k, hi, hk => by
    obtain ⟨k, rfl⟩ : ∃ q, k = q + 1 := ⟨k - 1, by omega⟩
    have hw : wrap64 ((i : Int) + 1) = ((i + 1 : Nat) : Int) := by unfold wrap64; omega
    have ih := isa_chk_loop l m e hW h0 hm d (i + 1) k (by omega) (by omega)
    simp only [image_Check.l0]
    rw [if_pos (by omega), if_pos (by omega), if_pos (by omega), isa_target (rd_W hW i (by omega)) k (by omega)]
    simp only [Option.bind_some]
    rw [hw, ih, chkFrom_succ]
    show (if (tgt (rd l ↑i)).2 = true then (if (tgt (rd l ↑i)).1 ≥ (l.length : Int) then _ else _) else _) = _
    by_cases c : (tgt (rd l (i : Int))).2 = true
    · rw [if_pos c]
      by_cases c1 : (tgt (rd l (i : Int))).1 ≥ (l.length : Int)
      · rw [if_pos c1, if_pos ⟨c, c1⟩]
      · rw [if_neg c1, if_neg (fun hh => c1 hh.2)]
    · rw [if_neg c, if_neg (fun hh => c hh.1)]
theorem ref_chk_loop (l m : List Int) (e : Int) (hW : allW l) (h0 : 0 < l.length) (hm : l.length ≤ 16384) : ∀ (d i : Nat) (k : Nat), i + d = l.length → d + 7 ≤ k → pleatref07_Check.l0 k (l.length : Int) (i : Int) l e m = some (chkFrom l d i)
  | 0, i, k, hi, hk => by
    obtain ⟨k, rfl⟩ : ∃ q, k = q + 1 := ⟨k - 1, by omega⟩
    have hw : wrap64 ((l.length : Int) - 1) = (l.length : Int) - 1 := by unfold wrap64; omega
    simp only [pleatref07_Check.l0]
    rw [if_neg (by omega), hw, if_pos (by omega), if_pos (by omega)]
    have hr := rd_W hW (l.length - 1) (by omega)
    rw [show ((l.length - 1 : Nat) : Int) = (l.length : Int) - 1 by omega] at hr
    rw [ref_dec hr k (by omega)]
    simp only [Option.bind_some]
    rw [last_ite]
    rfl
  | d + 1, i, k, hi, hk => by
    obtain ⟨k, rfl⟩ : ∃ q, k = q + 1 := ⟨k - 1, by omega⟩
    have hw : wrap64 ((i : Int) + 1) = ((i + 1 : Nat) : Int) := by unfold wrap64; omega
    have ih := ref_chk_loop l m e hW h0 hm d (i + 1) k (by omega) (by omega)
    simp only [pleatref07_Check.l0]
    rw [if_pos (by omega), if_pos (by omega), if_pos (by omega), ref_target (rd_W hW i (by omega)) k (by omega)]
    simp only [Option.bind_some]
    rw [hw, ih, chkFrom_succ]
    by_cases c : (tgt (rd l (i : Int))).2 = true
    · rw [if_pos c]
      by_cases c1 : (tgt (rd l (i : Int))).1 ≥ (l.length : Int)
      · rw [if_pos c1, if_pos ⟨c, c1⟩]
      · rw [if_neg c1, if_neg (fun hh => c1 hh.2)]
    · rw [if_neg c, if_neg (fun hh => c hh.1)]
theorem isa_chk (l m : List Int) (e : Int) (hW : allW l) (k : Nat) (hk : l.length + 2 ≤ k ∨ 16386 ≤ k) : image_Check.f k l e m = some (chk l e m) := by
  unfold image_Check.f chk
  by_cases h0 : l.length = 0
  · rw [if_pos (by omega), if_pos h0]
  · rw [if_neg (by omega), if_neg h0]
    by_cases h1 : 16384 < l.length
    · rw [if_pos (by omega), if_pos h1]
    · rw [if_neg (by omega), if_neg h1]
      by_cases h2 : 4096 < m.length
      · rw [if_pos (by omega), if_pos h2]
      · rw [if_neg (by omega), if_neg h2]
        by_cases h3 : e < 0
        · rw [if_pos h3, if_pos (.inl h3)]
        · rw [if_neg h3]
          by_cases h4 : e ≥ (l.length : Int)
          · rw [if_pos h4, if_pos (.inr h4)]
          · rw [if_neg h4, if_neg (by omega)]
            exact isa_chk_loop l m e hW (by omega) (by omega) l.length 0 k (by omega) (by omega)
theorem ref_chk (l m : List Int) (e : Int) (hW : allW l) (k : Nat) (hk : l.length + 8 ≤ k ∨ 16392 ≤ k) : pleatref07_Check.f k l e m = some (chk l e m) := by
  unfold pleatref07_Check.f chk
  by_cases h0 : l.length = 0
  · rw [if_pos (by omega), if_pos h0]
  · rw [if_neg (by omega), if_neg h0]
    by_cases h1 : 16384 < l.length
    · rw [if_pos (by omega), if_pos h1]
    · rw [if_neg (by omega), if_neg h1]
      by_cases h2 : 4096 < m.length
      · rw [if_pos (by omega), if_pos h2]
      · rw [if_neg (by omega), if_neg h2]
        obtain ⟨k, rfl⟩ : ∃ q, k = q + 1 := ⟨k - 1, by omega⟩
        by_cases h3 : e < 0
        · rw [if_pos h3, if_pos (.inl h3)]
          simp only [pleatref07_Check.j0, if_true]
        · rw [if_neg h3]
          by_cases h4 : e ≥ (l.length : Int)
          · rw [decide_eq_true h4, if_pos (.inr h4)]
            simp only [pleatref07_Check.j0, if_true]
          · rw [decide_eq_false h4, if_neg (by omega)]
            simp only [pleatref07_Check.j0, Bool.false_eq_true, if_false]
            exact ref_chk_loop l m e hW (by omega) (by omega) l.length 0 k (by omega) (by omega)
theorem nonneg (i : Nat) : (0 : Int) ≤ (i : Int) := by omega
theorem chk_ev {l : List Int} (m : List Int) (e : Int) (hW : allW l) : Evt (fun k => image_Check.f k l e m) (chk l e m) := ⟨16386, fun k hk => isa_chk l m e hW k (.inr hk)⟩
theorem allW_of {l : List Int} (h : ∀ x ∈ l, (Lit.int .u32 x).wf = true) : allW l := fun x hx => by
  have := h x hx
  have hmin : IntKind.u32.min = 0 := rfl
  have hmax : IntKind.u32.max = 4294967295 := rfl
  simp only [Lit.wf, Bool.and_eq_true, decide_eq_true_eq] at this
  unfold isW
  omega
theorem words_loop (l : List Int) (hl : l.length ≤ 40000) : ∀ (d i : Nat), i + d = l.length → Evt (fun k => pleatref00_EqWords.l0 k l l (i : Int)) true
  | 0, i, h => by
    obtain rfl : i = l.length := by omega
    refine Evt.succ ?_
    simp only [pleatref00_EqWords.l0, Int.lt_irrefl, if_false]
    exact Evt.pure
  | d + 1, i, h => by
    refine Evt.succ ?_
    have h1 : (i : Int) < (l.length : Int) := by omega
    simp only [pleatref00_EqWords.l0, h1, nonneg, if_true, wrap1 i (by omega)]
    exact words_loop l hl d (i + 1) (by omega)
theorem longs_loop (l : List Int) (hl : l.length ≤ 40000) : ∀ (d i : Nat), i + d = l.length → Evt (fun k => pleatref00_EqLongs.l0 k l l (i : Int)) true
  | 0, i, h => by
    obtain rfl : i = l.length := by omega
    refine Evt.succ ?_
    simp only [pleatref00_EqLongs.l0, Int.lt_irrefl, if_false]
    exact Evt.pure
  | d + 1, i, h => by
    refine Evt.succ ?_
    have h1 : (i : Int) < (l.length : Int) := by omega
    simp only [pleatref00_EqLongs.l0, h1, nonneg, if_true, wrap1 i (by omega)]
    exact longs_loop l hl d (i + 1) (by omega)
theorem eqImage (l m : List Int) (e : Int) (hl : l.length ≤ 40000) (hm : m.length ≤ 40000) : Evt (fun k => pleatref00_EqImage.f k l e m l e m) true := by
  have h1 : Evt (fun k => pleatref00_EqWords.f k l l) true := by
    simp only [pleatref00_EqWords.f, if_true]
    exact words_loop l hl l.length 0 (by omega)
  have h2 : Evt (fun k => pleatref00_EqLongs.f k m m) true := by
    simp only [pleatref00_EqLongs.f, if_true]
    exact longs_loop m hm m.length 0 (by omega)
  simp only [pleatref00_EqImage.f, if_true]
  refine Evt.bind h1 ?_
  simp only [if_true]
  exact Evt.bind h2 Evt.pure
def sumF (l : List Int) (s : Int) : Int := l.foldl (fun s c => ((s * 31) % 4294967296 + c % 4294967296) % 4294967296) s
theorem sum_loop (l : List Int) (hl : l.length ≤ 4503599627370496) : ∀ (d i : Nat) (s : Int), i + d = l.length → Evt (fun k => image_Sum.l0 k s l (l.length : Int) (i : Int)) (sumF (l.drop i) s)
  | 0, i, s, h => by
    obtain rfl : i = l.length := by omega
    refine Evt.succ ?_
    simp only [image_Sum.l0, Int.lt_irrefl, if_false, List.drop_length]
    exact Evt.pure
  | d + 1, i, s, h => by
    refine Evt.succ ?_
    have h1 : (i : Int) < (l.length : Int) := by omega
    have ih := sum_loop l hl d (i + 1) (((s * 31) % 4294967296 + (rd l (i : Int)) % 4294967296) % 4294967296) (by omega)
    have hd : l.drop i = rd l (i : Int) :: l.drop (i + 1) := by
      rw [List.drop_eq_getElem_cons (by omega), rd_nat, getD_eq 0 (by omega)]
    simp only [image_Sum.l0, h1, nonneg, if_true, wrap1 i (by omega)]
    rw [hd]
    exact ih
theorem sum_ev (l : List Int) (hl : l.length ≤ 4503599627370496) : Evt (fun k => image_Sum.f k l) (sumF l 0) := by
  have h := sum_loop l hl l.length 0 0 (by omega)
  rw [List.drop_zero] at h
  exact h
theorem sum_range (l : List Int) : ∀ s, 0 ≤ s ∧ s < 4294967296 → 0 ≤ sumF l s ∧ sumF l s < 4294967296 := by
  induction l with
  | nil => intro s h; exact h
  | cons a t ih =>
    intro s h
    exact ih (((s * 31) % 4294967296 + a % 4294967296) % 4294967296) (by omega)
/-! ### numbers as bytes -/
def be : Nat → Int → List Int
  | 0, _ => []
  | n + 1, v => (v / 256 ^ n % 256) :: be n v
theorem be_length (n : Nat) (v : Int) : (be n v).length = n := by induction n with | zero => rfl | succ n ih => simp [be, ih]
theorem be_byte (n : Nat) (v : Int) : ∀ x ∈ be n v, 0 ≤ x ∧ x < 256 := by
  induction n with
  | zero => intro x hx; simp [be] at hx
  | succ n ih =>
    intro x hx
    rcases List.mem_cons.1 hx with rfl | hx
    · omega
    · exact ih x hx
theorem shr_eq (v : Int) (n : Nat) (hn : n < 8) : shr .u64 v (8 * (n : Int)) = v / 256 ^ n := by
  unfold shr
  have h1 : min (8 * (n : Int)).toNat IntKind.u64.bits = 8 * n := by
    have : IntKind.u64.bits = 64 := by decide
    rw [this]; omega
  rw [h1, Int.pow_mul]
  rfl
theorem put_loop (v : Int) : ∀ (n : Nat) (x : List Int), n ≤ 8 → x.length + n ≤ 1000000 → Evt (fun k => image_put.l0 k x v ((n : Int) - 1)) (x ++ be n v)
  | 0, x, hn, hx => by
    refine Evt.succ ?_
    simp only [image_put.l0, show ((((0 : Nat) : Int) - 1) ≥ 0) = False from eq_false (by omega), if_false, be, List.append_nil]
    exact Evt.pure
  | n + 1, x, hn, hx => by
    refine Evt.succ ?_
    have h1 : ((n + 1 : Nat) : Int) - 1 = (n : Int) := by omega
    have h2 : wrap64 (8 * (n : Int)) = 8 * (n : Int) := by unfold wrap64; omega
    have h3 : wrap64 ((n : Int) - 1) = (n : Int) - 1 := by unfold wrap64; omega
    simp only [image_put.l0, h1, h2, h3]
    simp only [show ((n : Int) ≥ 0) = True from eq_true (by omega), show ((0 : Int) ≤ 8 * (n : Int)) = True from eq_true (by omega), show (x.length < 140737488355328) = True from eq_true (by omega), if_true, shr_eq v n (by omega)]
    have h4 := put_loop v n (x ++ [v / 256 ^ n % 256]) (by omega) (by simp; omega)
    rw [List.append_assoc] at h4
    exact h4
theorem put_ev (v : Int) (n : Nat) (x : List Int) (hn : n ≤ 8) (hx : x.length ≤ 900000) : Evt (fun k => image_put.f k x v (n : Int)) (x ++ be n v) := by
  have h3 : wrap64 ((n : Int) - 1) = (n : Int) - 1 := by unfold wrap64; omega
  simp only [image_put.f, h3]
  exact put_loop v n x hn (by omega)
/-! ### Write -/
theorem flat_next {f : Int → List Int} (l : List Int) (i : Nat) (hi : i < l.length) : (l.drop i).flatMap f = f (rd l (i : Int)) ++ (l.drop (i + 1)).flatMap f := by
  rw [List.drop_eq_getElem_cons hi, List.flatMap_cons, rd_nat, getD_eq 0 hi]
def b4 (v : Int) : List Int := be 4 (IntKind.u64.wrap v)
def b8 (v : Int) : List Int := be 8 (IntKind.u64.wrap v)
theorem b4_length (v : Int) : (b4 v).length = 4 := be_length 4 _
theorem b8_length (v : Int) : (b8 v).length = 8 := be_length 8 _
/-- With the sum behind. -/
def sealed (y : List Int) : List Int := y ++ b4 (sumF y 0)
theorem write1 (m : List Int) (hm : m.length ≤ 4096) : ∀ (d i : Nat) (x : List Int), i + d = m.length → x.length + 8 * d ≤ 800000 → Evt (fun k => image_Write.l1 k x m (m.length : Int) (i : Int)) (sealed (x ++ (m.drop i).flatMap b8), 0)
  | 0, i, x, h, hx => by
    obtain rfl : i = m.length := by omega
    refine Evt.succ ?_
    simp only [image_Write.l1, Int.lt_irrefl, if_false, List.drop_length, List.flatMap_nil, List.append_nil]
    exact Evt.bind (sum_ev x (by omega)) (Evt.bind (put_ev _ 4 x (by omega) (by omega)) Evt.pure)
  | d + 1, i, x, h, hx => by
    refine Evt.succ ?_
    have h1 : (i : Int) < (m.length : Int) := by omega
    simp only [image_Write.l1, h1, nonneg, if_true, wrap1 i (by omega)]
    refine Evt.bind (put_ev (IntKind.u64.wrap (rd m (i : Int))) 8 x (by omega) (by omega)) ?_
    have ih := write1 m hm d (i + 1) (x ++ b8 (rd m (i : Int))) (by omega) (by simp [b8_length]; omega)
    rw [flat_next m i (by omega), ← List.append_assoc]
    exact ih
theorem write0 (l m : List Int) (e : Int) (hl : l.length ≤ 16384) (hm : m.length ≤ 4096) : ∀ (d i : Nat) (x : List Int), i + d = l.length → x.length + 4 * d ≤ 700000 →
    Evt (fun k => image_Write.l0 k x l (l.length : Int) (i : Int) l e m) (sealed (x ++ (l.drop i).flatMap b4 ++ b4 e ++ b4 (m.length : Int) ++ m.flatMap b8), 0)
  | 0, i, x, h, hx => by
    obtain rfl : i = l.length := by omega
    refine Evt.succ ?_
    simp only [image_Write.l0, Int.lt_irrefl, if_false, List.drop_length, List.flatMap_nil, List.append_nil]
    refine Evt.bind (put_ev (IntKind.u64.wrap e) 4 x (by omega) (by omega)) ?_
    refine Evt.bind (put_ev (IntKind.u64.wrap (m.length : Int)) 4 (x ++ b4 e) (by omega) (by simp [b4_length]; omega)) ?_
    have h := write1 m hm m.length 0 (x ++ b4 e ++ b4 (m.length : Int)) (by omega) (by simp [b4_length]; omega)
    rw [List.drop_zero] at h
    exact h
  | d + 1, i, x, h, hx => by
    refine Evt.succ ?_
    have h1 : (i : Int) < (l.length : Int) := by omega
    simp only [image_Write.l0, h1, nonneg, if_true, wrap1 i (by omega)]
    refine Evt.bind (put_ev (IntKind.u64.wrap (rd l (i : Int))) 4 x (by omega) (by omega)) ?_
    have ih := write0 l m e hl hm d (i + 1) (x ++ b4 (rd l (i : Int))) (by omega) (by simp [b4_length]; omega)
    rw [flat_next l i (by omega), ← List.append_assoc x]
    exact ih
def begun : List Int := [80, 76, 73, 49]
/-- The bytes before the sum. -/
def body (l : List Int) (e : Int) (m : List Int) : List Int := begun ++ b4 (l.length : Int) ++ l.flatMap b4 ++ b4 e ++ b4 (m.length : Int) ++ m.flatMap b8
theorem write_ok {l m : List Int} {e : Int} (hW : allW l) (hc : (chk l e m).1 = 0) (hl : l.length ≤ 16384) (hm : m.length ≤ 4096) : Evt (fun k => image_Write.f k l e m) (sealed (body l e m), 0) := by
  refine Evt.bind (chk_ev m e hW) ?_
  simp only [hc, if_true]
  refine Evt.bind (put_ev (IntKind.u64.wrap (l.length : Int)) 4 begun (by omega) (by decide)) ?_
  have h := write0 l m e hl hm l.length 0 (begun ++ b4 (l.length : Int)) (by omega) (by simp [b4_length, begun]; omega)
  rw [List.drop_zero] at h
  exact h
theorem write_no {l m : List Int} {e : Int} (hW : allW l) (hc : (chk l e m).1 ≠ 0) : Evt (fun k => image_Write.f k l e m) ([], (chk l e m).1) := by
  refine Evt.bind (chk_ev m e hW) ?_
  simp only [hc, if_false]
  exact Evt.pure
theorem flat_length {f : Int → List Int} {c : Nat} (hf : ∀ x, (f x).length = c) (l : List Int) : (l.flatMap f).length = c * l.length := by
  induction l with
  | nil => simp
  | cons a t ih => rw [List.flatMap_cons, List.length_append, ih, hf, List.length_cons, Nat.mul_add]; omega
theorem body_length (l m : List Int) (e : Int) : (body l e m).length = 16 + 4 * l.length + 8 * m.length := by
  simp only [body, List.length_append, b4_length, flat_length b4_length, flat_length b8_length, begun, List.length_cons, List.length_nil]
  omega
theorem tk_add (v c : Int) (hv : 0 ≤ v) (hv2 : v < 72057594037927936) (hc : 0 ≤ c) (hc2 : c < 256) : tk v c = v * 256 + c := by
  obtain ⟨a, rfl⟩ := Int.eq_ofNat_of_zero_le hv
  obtain ⟨b, rfl⟩ := Int.eq_ofNat_of_zero_le hc
  unfold tk
  have h1 : IntKind.u64.wrap ((a : Int) * 256) = ((a * 256 : Nat) : Int) := by rw [IntKind.wrap_u64]; omega
  have h2 : IntKind.u64.wrap (b : Int) = (b : Int) := by rw [IntKind.wrap_u64]; omega
  rw [h1, h2, u64_or_nat (a * 256) b (by omega) (by omega)]
  have h3 := Nat.shiftLeft_add_eq_or_of_lt (i := 8) (b := b) (by omega) a
  rw [Nat.shiftLeft_eq] at h3
  have h4 : a * 256 ||| b = a * 256 + b := h3.symm
  rw [h4]
  omega
/-! ### what is taken -/
def isB (l : List Int) : Prop := ∀ x ∈ l, 0 ≤ x ∧ x < 256
theorem rd_B {l : List Int} (h : isB l) (i : Nat) (hi : i < l.length) : 0 ≤ rd l (i : Int) ∧ rd l (i : Int) < 256 := by
  rw [rd_nat, getD_eq 0 hi]
  exact h _ (List.getElem_mem hi)
def q4 (l : List Int) (a : Nat) : Int := ((rd l (a : Int) * 256 + rd l ((a + 1 : Nat) : Int)) * 256 + rd l ((a + 2 : Nat) : Int)) * 256 + rd l ((a + 3 : Nat) : Int)
theorem drop_rd (l : List Int) (a : Nat) (h : a < l.length) : l.drop a = rd l (a : Int) :: l.drop (a + 1) := by
  rw [List.drop_eq_getElem_cons h, rd_nat, getD_eq 0 h]
theorem rdN4 {l : List Int} (hB : isB l) (a : Nat) (h : a + 4 ≤ l.length) : rdN l a 4 = q4 l a := by
  unfold rdN
  rw [drop_rd l a (by omega), drop_rd l (a + 1) (by omega), drop_rd l (a + 1 + 1) (by omega), drop_rd l (a + 1 + 1 + 1) (by omega)]
  have h0 := rd_B hB a (by omega); have h1 := rd_B hB (a + 1) (by omega); have h2 := rd_B hB (a + 2) (by omega); have h3 := rd_B hB (a + 3) (by omega)
  show tk (tk (tk (tk 0 _) _) _) _ = _
  rw [tk_add 0 _ (by omega) (by omega) h0.1 h0.2, tk_add _ _ (by omega) (by omega) h1.1 h1.2, tk_add _ _ (by omega) (by omega) h2.1 h2.2, tk_add _ _ (by omega) (by omega) h3.1 h3.2]
  unfold q4
  omega
theorem q4_range {l : List Int} (hB : isB l) (a : Nat) (h : a + 4 ≤ l.length) : 0 ≤ q4 l a ∧ q4 l a < 4294967296 := by
  have h0 := rd_B hB a (by omega); have h1 := rd_B hB (a + 1) (by omega); have h2 := rd_B hB (a + 2) (by omega); have h3 := rd_B hB (a + 3) (by omega)
  unfold q4
  omega
theorem tk_step (v c : Int) (hv : 0 ≤ v) (hv2 : v < 72057594037927936) (hc : 0 ≤ c ∧ c < 256) : tk v c = v * 256 + c := tk_add v c hv hv2 hc.1 hc.2
theorem rdN8 {l : List Int} (hB : isB l) (a : Nat) (h : a + 8 ≤ l.length) : rdN l a 8 = q4 l a * 4294967296 + q4 l (a + 4) := by
  unfold rdN
  rw [drop_rd l a (by omega), drop_rd l (a + 1) (by omega), drop_rd l (a + 1 + 1) (by omega), drop_rd l (a + 1 + 1 + 1) (by omega), drop_rd l (a + 1 + 1 + 1 + 1) (by omega), drop_rd l (a + 1 + 1 + 1 + 1 + 1) (by omega), drop_rd l (a + 1 + 1 + 1 + 1 + 1 + 1) (by omega), drop_rd l (a + 1 + 1 + 1 + 1 + 1 + 1 + 1) (by omega)]
  have h0 := rd_B hB a (by omega); have h1 := rd_B hB (a + 1) (by omega); have h2 := rd_B hB (a + 2) (by omega); have h3 := rd_B hB (a + 3) (by omega)
  have h4 := rd_B hB (a + 4) (by omega); have h5 := rd_B hB (a + 5) (by omega); have h6 := rd_B hB (a + 6) (by omega); have h7 := rd_B hB (a + 7) (by omega)
  show tk (tk (tk (tk (tk (tk (tk (tk 0 _) _) _) _) _) _) _) _ = _
  rw [tk_step 0 _ (by omega) (by omega) h0, tk_step _ _ (by omega) (by omega) h1, tk_step _ _ (by omega) (by omega) h2, tk_step _ _ (by omega) (by omega) h3, tk_step _ _ (by omega) (by omega) h4, tk_step _ _ (by omega) (by omega) h5, tk_step _ _ (by omega) (by omega) h6, tk_step _ _ (by omega) (by omega) h7]
  unfold q4
  show _ = _ * 4294967296 + (((rd l ((a + 4 : Nat) : Int) * 256 + rd l ((a + 5 : Nat) : Int)) * 256 + rd l ((a + 6 : Nat) : Int)) * 256 + rd l ((a + 7 : Nat) : Int))
  omega
theorem has_ok (l : List Int) (a n : Nat) (pl : Int) (hl : l.length ≤ 1000000) (h : a + n ≤ l.length) : pleatref07_Taker_Has.f l (a : Int) 0 pl (n : Int) = some (true, (a : Int), 0, pl) := by
  have h1 : wrap64 ((l.length : Int) - (a : Int)) = (l.length : Int) - (a : Int) := by unfold wrap64; omega
  unfold pleatref07_Taker_Has.f
  rw [if_pos rfl, h1, if_neg (by omega)]
  rfl
theorem has_no (l : List Int) (a n : Nat) (pl : Int) (hl : l.length ≤ 1000000) (ha : a ≤ l.length) (hn : n ≤ 100) (h : l.length < a + n) : pleatref07_Taker_Has.f l (a : Int) 0 pl (n : Int) = some (false, (a : Int), 27, (l.length : Int)) := by
  have h1 : wrap64 ((l.length : Int) - (a : Int)) = (l.length : Int) - (a : Int) := by unfold wrap64; omega
  unfold pleatref07_Taker_Has.f
  rw [if_pos rfl, h1, if_pos (by omega)]
  rfl
theorem has_bad (l : List Int) (a bad pl n : Int) (h : bad ≠ 0) : pleatref07_Taker_Has.f l a bad pl n = some (false, a, bad, pl) := by
  unfold pleatref07_Taker_Has.f
  rw [if_neg h]
  have e : (bad == 0) = false := by simpa using h
  rw [e]
theorem wrapAdd (a i : Nat) (h : a + i ≤ 2000000) : wrap64 ((a : Int) + (i : Int)) = ((a + i : Nat) : Int) := by unfold wrap64; omega
theorem sh256 (v c : Int) (hv : 0 ≤ v ∧ v < 16777216) (hc : 0 ≤ c ∧ c < 256) : (256 * v % 4294967296 + c % 4294967296) % 4294967296 = v * 256 + c := by omega
theorem up256 (v c m : Int) (hv : 0 ≤ v ∧ v < m) (hc : 0 ≤ c ∧ c < 256) : 0 ≤ v * 256 + c ∧ v * 256 + c < m * 256 := by omega
theorem four_next (l : List Int) (a i j : Nat) (v w pl : Int) (hi : i < 4) (hj : j = i + 1) (hl : l.length ≤ 1000000) (ha : a + i < l.length) (hc : 0 ≤ rd l ((a + i : Nat) : Int) ∧ rd l ((a + i : Nat) : Int) < 256) (hv : 0 ≤ v ∧ v < 16777216) (hw : w = v * 256 + rd l ((a + i : Nat) : Int)) {r : Int × Int × Int × Int}
    (hn : Evt (fun k => pleatref07_Taker_Four.l0 k w (j : Int) l (a : Int) 0 pl) r) : Evt (fun k => pleatref07_Taker_Four.l0 k v (i : Int) l (a : Int) 0 pl) r := by
  subst hj hw
  refine Evt.succ ?_
  have h1 : (i : Int) < 4 := by omega
  have h2 : ((a + i : Nat) : Int) < (l.length : Int) := by omega
  simp only [pleatref07_Taker_Four.l0, h1, if_true, wrapAdd a i (by omega), nonneg, h2, sh256 v _ hv hc, wrap1 i (by omega)]
  exact hn
theorem four_ok {l : List Int} (hB : isB l) (hl : l.length ≤ 1000000) (a : Nat) (pl : Int) (h : a + 4 ≤ l.length) : Evt (fun k => pleatref07_Taker_Four.f k l (a : Int) 0 pl) (q4 l a, ((a + 4 : Nat) : Int), 0, pl) := by
  have h0 := rd_B hB (a + 0) (by omega); have h1 := rd_B hB (a + 1) (by omega); have h2 := rd_B hB (a + 2) (by omega); have h3 := rd_B hB (a + 3) (by omega)
  have v1 := up256 0 _ 1 ⟨by decide, by decide⟩ h0
  have v2 := up256 _ _ _ v1 h1
  have v3 := up256 _ _ _ v2 h2
  have hlast : Evt (fun k => pleatref07_Taker_Four.l0 k (q4 l a) ((4 : Nat) : Int) l (a : Int) 0 pl) (q4 l a, ((a + 4 : Nat) : Int), 0, pl) := by
    refine Evt.succ ?_
    simp only [pleatref07_Taker_Four.l0, show ¬ (((4 : Nat) : Int) < 4) from by decide, if_false]
    rw [show (4 : Int) = ((4 : Nat) : Int) from rfl, wrapAdd a 4 (by omega)]
    exact Evt.pure
  unfold pleatref07_Taker_Four.f
  rw [show (4 : Int) = ((4 : Nat) : Int) from rfl, has_ok l a 4 pl hl h]
  simp only [Option.bind_some, if_true]
  refine four_next l a 0 1 0 _ pl (by decide) rfl hl (by omega) h0 ⟨by decide, by decide⟩ rfl ?_
  refine four_next l a 1 2 _ _ pl (by decide) rfl hl (by omega) h1 ⟨v1.1, Int.lt_of_lt_of_le v1.2 (by decide)⟩ rfl ?_
  refine four_next l a 2 3 _ _ pl (by decide) rfl hl (by omega) h2 ⟨v2.1, Int.lt_of_lt_of_le v2.2 (by decide)⟩ rfl ?_
  refine four_next l a 3 4 _ _ pl (by decide) rfl hl (by omega) h3 ⟨v3.1, Int.lt_of_lt_of_le v3.2 (by decide)⟩ rfl ?_
  have e : ((0 * 256 + rd l ((a + 0 : Nat) : Int)) * 256 + rd l ((a + 1 : Nat) : Int)) * 256 + rd l ((a + 2 : Nat) : Int) = (rd l (a : Int) * 256 + rd l ((a + 1 : Nat) : Int)) * 256 + rd l ((a + 2 : Nat) : Int) := by rw [Int.zero_mul, Int.zero_add]; rfl
  rw [e]
  exact hlast
theorem four_no (l : List Int) (hl : l.length ≤ 1000000) (a : Nat) (pl : Int) (ha : a ≤ l.length) (h : l.length < a + 4) : Evt (fun k => pleatref07_Taker_Four.f k l (a : Int) 0 pl) (0, (a : Int), 27, (l.length : Int)) := by
  unfold pleatref07_Taker_Four.f
  rw [show (4 : Int) = ((4 : Nat) : Int) from rfl, has_no l a 4 pl hl ha (by omega) h]
  simp only [Option.bind_some, Bool.false_eq_true, if_false]
  exact Evt.pure
theorem four_bad (l : List Int) (a bad pl : Int) (h : bad ≠ 0) : Evt (fun k => pleatref07_Taker_Four.f k l a bad pl) (0, a, bad, pl) := by
  unfold pleatref07_Taker_Four.f
  rw [has_bad l a bad pl 4 h]
  simp only [Option.bind_some, Bool.false_eq_true, if_false]
  exact Evt.pure
theorem eight_bad (l : List Int) (a bad pl : Int) (h : bad ≠ 0) : Evt (fun k => pleatref07_Taker_Eight.f k l a bad pl) (0, a, bad, pl) := by
  unfold pleatref07_Taker_Eight.f
  rw [has_bad l a bad pl 8 h]
  simp only [Option.bind_some, Bool.false_eq_true, if_false]
  exact Evt.pure
theorem eight_no (l : List Int) (hl : l.length ≤ 1000000) (a : Nat) (pl : Int) (ha : a ≤ l.length) (h : l.length < a + 8) : Evt (fun k => pleatref07_Taker_Eight.f k l (a : Int) 0 pl) (0, (a : Int), 27, (l.length : Int)) := by
  unfold pleatref07_Taker_Eight.f
  rw [show (8 : Int) = ((8 : Nat) : Int) from rfl, has_no l a 8 pl hl ha (by omega) h]
  simp only [Option.bind_some, Bool.false_eq_true, if_false]
  exact Evt.pure
theorem or_32 (h q : Int) (h0 : 0 ≤ h ∧ h < 4294967296) (q0 : 0 ≤ q ∧ q < 4294967296) : Go.bits .or .u64 (IntKind.u64.wrap (IntKind.u64.wrap h * 4294967296)) (IntKind.u64.wrap q) = h * 4294967296 + q := by
  obtain ⟨a, rfl⟩ := Int.eq_ofNat_of_zero_le h0.1
  obtain ⟨b, rfl⟩ := Int.eq_ofNat_of_zero_le q0.1
  have h1 : IntKind.u64.wrap (IntKind.u64.wrap (a : Int) * 4294967296) = ((a * 4294967296 : Nat) : Int) := by rw [IntKind.wrap_u64, IntKind.wrap_u64]; omega
  have h2 : IntKind.u64.wrap (b : Int) = (b : Int) := by rw [IntKind.wrap_u64]; omega
  rw [h1, h2, u64_or_nat (a * 4294967296) b (by omega) (by omega)]
  have h3 := Nat.shiftLeft_add_eq_or_of_lt (i := 32) (b := b) (by omega) a
  rw [Nat.shiftLeft_eq] at h3
  have h4 : a * 4294967296 ||| b = a * 4294967296 + b := h3.symm
  rw [h4]
  omega
theorem eight_ok {l : List Int} (hB : isB l) (hl : l.length ≤ 1000000) (a : Nat) (pl : Int) (h : a + 8 ≤ l.length) : Evt (fun k => pleatref07_Taker_Eight.f k l (a : Int) 0 pl) (wrap64 (rdN l a 8), ((a + 8 : Nat) : Int), 0, pl) := by
  unfold pleatref07_Taker_Eight.f
  rw [show (8 : Int) = ((8 : Nat) : Int) from rfl, has_ok l a 8 pl hl h]
  simp only [Option.bind_some, if_true]
  refine Evt.bind (four_ok hB hl a pl (by omega)) (Evt.bind (four_ok hB hl (a + 4) pl (by omega)) ?_)
  simp only [or_32 _ _ (q4_range hB a (by omega)) (q4_range hB (a + 4) (by omega)), ← rdN8 hB a h]
  exact Evt.pure
/-! ### the document's reading -/
theorem count_bad (l : List Int) (a bad pl most : Int) (h : bad ≠ 0) : Evt (fun k => pleatref07_Taker_Count.f k l a bad pl most) (0, a, bad, pl) := by
  refine Evt.bind (four_bad l a bad pl h) ?_
  simp only [h, if_false]
  refine Evt.succ ?_
  simp only [pleatref07_Taker_Count.j0, Bool.false_eq_true, if_false, h]
  exact Evt.pure
theorem count_no (l : List Int) (hl : l.length ≤ 1000000) (a : Nat) (pl most : Int) (ha : a ≤ l.length) (h : l.length < a + 4) : Evt (fun k => pleatref07_Taker_Count.f k l (a : Int) 0 pl most) (0, (a : Int), 27, (l.length : Int)) := by
  refine Evt.bind (four_no l hl a pl ha h) ?_
  simp only [show ¬ ((27 : Int) = 0) from by decide, if_false]
  refine Evt.succ ?_
  simp only [pleatref07_Taker_Count.j0, Bool.false_eq_true, if_false, show ¬ ((27 : Int) = 0) from by decide]
  exact Evt.pure
theorem wrap_q4 {l : List Int} (hB : isB l) (a : Nat) (h : a + 4 ≤ l.length) : wrap64 (rdN l a 4) = q4 l a ∧ wrap64 (q4 l a) = q4 l a ∧ rdN l a 4 % 4294967296 = q4 l a := by
  have := q4_range hB a h
  rw [rdN4 hB a h]
  refine ⟨?_, ?_, ?_⟩
  · unfold wrap64; omega
  · unfold wrap64; omega
  · omega
theorem count_big {l : List Int} (hB : isB l) (hl : l.length ≤ 1000000) (a : Nat) (pl most : Int) (h : a + 4 ≤ l.length) (hm : most < wrap64 (rdN l a 4)) : Evt (fun k => pleatref07_Taker_Count.f k l (a : Int) 0 pl most) (0, ((a + 4 : Nat) : Int), 27, (a : Int)) := by
  obtain ⟨w1, w2, _⟩ := wrap_q4 hB a h
  rw [w1] at hm
  refine Evt.bind (four_ok hB hl a pl h) ?_
  simp only [if_true, w2, decide_eq_true hm]
  refine Evt.succ ?_
  simp only [pleatref07_Taker_Count.j0, if_true, pleatref07_Taker_Wrong.f, Option.bind_some, show ¬ ((27 : Int) = 0) from by decide, if_false]
  exact Evt.pure
theorem count_ok {l : List Int} (hB : isB l) (hl : l.length ≤ 1000000) (a : Nat) (pl most : Int) (h : a + 4 ≤ l.length) (hm : ¬ most < wrap64 (rdN l a 4)) : Evt (fun k => pleatref07_Taker_Count.f k l (a : Int) 0 pl most) (wrap64 (rdN l a 4), ((a + 4 : Nat) : Int), 0, pl) := by
  obtain ⟨w1, w2, _⟩ := wrap_q4 hB a h
  rw [w1] at hm ⊢
  refine Evt.bind (four_ok hB hl a pl h) ?_
  simp only [if_true, w2, decide_eq_false hm]
  refine Evt.succ ?_
  simp only [pleatref07_Taker_Count.j0, Bool.false_eq_true, if_false, if_true, w2]
  exact Evt.pure
theorem words_bad (l : List Int) (n i : Int) (x : List Int) (a bad pl : Int) (h : bad ≠ 0) : Evt (fun k => ref_words k l n i x a bad pl) (x, a, bad, pl) := by
  refine Evt.succ ?_
  simp only [ref_words, h, and_false, if_false]
  exact Evt.pure
theorem longs_bad (l : List Int) (n i : Int) (x : List Int) (a bad pl : Int) (h : bad ≠ 0) : Evt (fun k => ref_longs k l n i x a bad pl) (x, a, bad, pl) := by
  refine Evt.succ ?_
  simp only [ref_longs, h, and_false, if_false]
  exact Evt.pure
theorem lives_true : Evt (fun q => pleatlaw07_lives.f q) true := Evt.of_mono pleatlaw07_lives.mono 100 (by decide +kernel)
theorem words_ok {l : List Int} (hB : isB l) (hl : l.length ≤ 1000000) (n : Nat) (pl : Int) (hn : 8 + 4 * n ≤ l.length) : ∀ (d i : Nat), i + d = n → Evt (fun k => ref_words k l (n : Int) (i : Int) (rdTexts l i) ((8 + 4 * i : Nat) : Int) 0 pl) (rdTexts l n, ((8 + 4 * n : Nat) : Int), 0, pl)
  | 0, i, h => by
    obtain rfl : i = n := by omega
    refine Evt.succ ?_
    simp only [ref_words, Int.lt_irrefl, false_and, if_false]
    exact Evt.pure
  | d + 1, i, h => by
    have ih := words_ok hB hl n pl hn d (i + 1) (by omega)
    rw [rdTexts_snoc, (wrap_q4 hB (8 + 4 * i) (by omega)).2.2, show 8 + 4 * (i + 1) = 8 + 4 * i + 4 from by omega] at ih
    refine Evt.succ ?_
    have h1 : (i : Int) < (n : Int) := by omega
    have h2 : (rdTexts l i).length < 1000000 := by rw [rdTexts_length]; omega
    simp only [ref_words, h1, true_and, if_true, h2]
    exact Evt.bind (four_ok hB hl (8 + 4 * i) pl (by omega)) ih
theorem words_no {l : List Int} (hB : isB l) (hl : l.length ≤ 1000000) (n : Nat) (pl : Int) (hn : l.length < 8 + 4 * n) : ∀ (d i : Nat), i + d = n → 8 + 4 * i ≤ l.length → ∃ x a, Evt (fun k => ref_words k l (n : Int) (i : Int) (rdTexts l i) ((8 + 4 * i : Nat) : Int) 0 pl) (x, a, 27, (l.length : Int))
  | 0, i, h, h8 => by omega
  | d + 1, i, h, h8 => by
    have h1 : (i : Int) < (n : Int) := by omega
    have h2 : (rdTexts l i).length < 1000000 := by rw [rdTexts_length]; omega
    by_cases h4 : 8 + 4 * i + 4 ≤ l.length
    · obtain ⟨x, a, ih⟩ := words_no hB hl n pl hn d (i + 1) (by omega) (by omega)
      rw [rdTexts_snoc, (wrap_q4 hB (8 + 4 * i) (by omega)).2.2, show 8 + 4 * (i + 1) = 8 + 4 * i + 4 from by omega] at ih
      refine ⟨x, a, Evt.succ ?_⟩
      simp only [ref_words, h1, true_and, if_true, h2]
      exact Evt.bind (four_ok hB hl (8 + 4 * i) pl h4) ih
    · refine ⟨rdTexts l i ++ [0], ((8 + 4 * i : Nat) : Int), Evt.succ ?_⟩
      simp only [ref_words, h1, true_and, if_true, h2]
      exact Evt.bind (four_no l hl (8 + 4 * i) pl h8 (by omega)) (words_bad l _ _ _ _ 27 _ (by decide))
theorem longs_ok {l : List Int} (hB : isB l) (hl : l.length ≤ 1000000) (h0 n : Nat) (pl : Int) (hn : h0 + 8 * n ≤ l.length) : ∀ (d i : Nat), i + d = n → Evt (fun k => ref_longs k l (n : Int) (i : Int) (rdMems l h0 i) ((h0 + 8 * i : Nat) : Int) 0 pl) (rdMems l h0 n, ((h0 + 8 * n : Nat) : Int), 0, pl)
  | 0, i, h => by
    obtain rfl : i = n := by omega
    refine Evt.succ ?_
    simp only [ref_longs, Int.lt_irrefl, false_and, if_false]
    exact Evt.pure
  | d + 1, i, h => by
    have ih := longs_ok hB hl h0 n pl hn d (i + 1) (by omega)
    rw [rdMems_snoc, show h0 + 8 * (i + 1) = h0 + 8 * i + 8 from by omega] at ih
    refine Evt.succ ?_
    have h1 : (i : Int) < (n : Int) := by omega
    have h2 : (rdMems l h0 i).length < 1000000 := by rw [rdMems_length]; omega
    simp only [ref_longs, h1, true_and, if_true, h2]
    exact Evt.bind (eight_ok hB hl (h0 + 8 * i) pl (by omega)) ih
theorem longs_no {l : List Int} (hB : isB l) (hl : l.length ≤ 1000000) (h0 n : Nat) (pl : Int) (hn : l.length < h0 + 8 * n) : ∀ (d i : Nat), i + d = n → h0 + 8 * i ≤ l.length → ∃ x a, Evt (fun k => ref_longs k l (n : Int) (i : Int) (rdMems l h0 i) ((h0 + 8 * i : Nat) : Int) 0 pl) (x, a, 27, (l.length : Int))
  | 0, i, h, h8 => by omega
  | d + 1, i, h, h8 => by
    have h1 : (i : Int) < (n : Int) := by omega
    have h2 : (rdMems l h0 i).length < 1000000 := by rw [rdMems_length]; omega
    by_cases h4 : h0 + 8 * i + 8 ≤ l.length
    · obtain ⟨x, a, ih⟩ := longs_no hB hl h0 n pl hn d (i + 1) (by omega) (by omega)
      rw [rdMems_snoc, show h0 + 8 * (i + 1) = h0 + 8 * i + 8 from by omega] at ih
      refine ⟨x, a, Evt.succ ?_⟩
      simp only [ref_longs, h1, true_and, if_true, h2]
      exact Evt.bind (eight_ok hB hl (h0 + 8 * i) pl h4) ih
    · refine ⟨rdMems l h0 i ++ [0], ((h0 + 8 * i : Nat) : Int), Evt.succ ?_⟩
      simp only [ref_longs, h1, true_and, if_true, h2]
      exact Evt.bind (eight_no l hl (h0 + 8 * i) pl h8 (by omega)) (longs_bad l _ _ _ _ 27 _ (by decide))
/-! ### the beginning -/
def pli : ByteArray := ⟨#[80, 76, 73, 49]⟩
theorem bt_pli (i : Nat) (hi : i < 4) : bt pli (i : Int) = rd [80, 76, 73, 49] (i : Int) := by
  have : i = 0 ∨ i = 1 ∨ i = 2 ∨ i = 3 := by omega
  rcases this with rfl | rfl | rfl | rfl <;> decide +kernel
theorem pli_size : (pli.size : Int) = 4 := by decide +kernel
theorem begin_bad (l : List Int) (i a bad pl : Int) (h : bad ≠ 0) : Evt (fun k => pleatref07_Taker_Begin.l0 k pli i l a bad pl) (4, bad, pl) := by
  have e : (bad == 0) = false := by simpa using h
  refine Evt.succ ?_
  simp only [pleatref07_Taker_Begin.l0, e, ite_self]
  refine Evt.succ ?_
  simp only [pleatref07_Taker_Begin.j1, Bool.false_eq_true, if_false, pli_size]
  exact Evt.pure
theorem begin_end (l : List Int) (a pl : Int) : Evt (fun k => pleatref07_Taker_Begin.l0 k pli 4 l a 0 pl) (4, 0, pl) := by
  refine Evt.succ ?_
  simp only [pleatref07_Taker_Begin.l0, pli_size, Int.lt_irrefl, if_false]
  refine Evt.succ ?_
  simp only [pleatref07_Taker_Begin.j1, Bool.false_eq_true, if_false, pli_size]
  exact Evt.pure
theorem begin_next (l : List Int) (i : Nat) (hi : i < 4) (a pl : Int) (h : ¬ rdBad l i) {r : Int × Int × Int} (hn : Evt (fun k => pleatref07_Taker_Begin.l0 k pli ((i + 1 : Nat) : Int) l a 0 pl) r) : Evt (fun k => pleatref07_Taker_Begin.l0 k pli (i : Int) l a 0 pl) r := by
  unfold rdBad at h
  have h1 : (i : Int) < 4 := by omega
  have h2 : ¬ ((i : Int) ≥ (l.length : Int)) := by omega
  have h3 : (i : Int) < (l.length : Int) := by omega
  have h4 : rd l (i : Int) = rd [80, 76, 73, 49] (i : Int) := by
    by_cases c : rd l (i : Int) = rd [80, 76, 73, 49] (i : Int)
    · exact c
    · exact absurd (Or.inr c) h
  refine Evt.succ ?_
  simp only [pleatref07_Taker_Begin.l0, pli_size, h1, if_true, beq_self_eq_true]
  refine Evt.succ ?_
  simp only [pleatref07_Taker_Begin.j1, if_true, h2, if_false, nonneg, h3, pli_size, h1, bt_pli i hi, h4, wrap1 i (by omega)]
  exact hn
theorem begin_stop (l : List Int) (i : Nat) (hi : i < 4) (a pl : Int) (h : rdBad l i) : Evt (fun k => pleatref07_Taker_Begin.l0 k pli (i : Int) l a 0 pl) (4, 27, (i : Int)) := by
  have h1 : (i : Int) < 4 := by omega
  refine Evt.succ ?_
  simp only [pleatref07_Taker_Begin.l0, pli_size, h1, if_true, beq_self_eq_true]
  refine Evt.succ ?_
  by_cases h2 : (i : Int) ≥ (l.length : Int)
  · simp only [pleatref07_Taker_Begin.j1, if_true, h2, pleatref07_Taker_Wrong.f, Option.bind_some]
    exact begin_bad l _ _ 27 _ (by decide)
  · have h3 : (i : Int) < (l.length : Int) := by omega
    have h4 : ¬ rd l (i : Int) = rd [80, 76, 73, 49] (i : Int) := by
      rcases h with h | h
      · omega
      · exact h
    simp only [pleatref07_Taker_Begin.j1, if_true, h2, if_false, nonneg, h3, pli_size, h1, bt_pli i hi, h4, pleatref07_Taker_Wrong.f, Option.bind_some]
    exact begin_bad l _ _ 27 _ (by decide)
/-! ### the document's reading, from the end -/
def R5 (k : Nat) (l t : List Int) (en : Int) (m : List Int) (a b p : Int) : Option RdR :=
  (pleatref07_Taker_End.f k l a b p).bind fun z =>
  if z.2.1 = 0 then (pleatref07_Check.f k t (wrap64 en) m).bind fun q => if q.1 = 0 then some (t, wrap64 en, m, 0, 0) else some ([], 0, [], q.1, q.2) else some ([], 0, [], z.2.1, z.2.2)
def R4 (k : Nat) (l t : List Int) (en : Int) (a b p : Int) : Option RdR :=
  (pleatref07_Taker_Count.f k l a b p 4096).bind fun m => if 9223372036854775800 < m.1 then none else
  (ref_longs k l m.1 0 [] m.2.1 m.2.2.1 m.2.2.2).bind fun u => R5 k l t en u.1 u.2.1 u.2.2.1 u.2.2.2
def R3 (k : Nat) (l t : List Int) (a b p : Int) : Option RdR :=
  (pleatref07_Taker_Four.f k l a b p).bind fun e => R4 k l t e.1 e.2.1 e.2.2.1 e.2.2.2
def R2 (k : Nat) (l : List Int) (a b p : Int) : Option RdR :=
  (pleatref07_Taker_Count.f k l a b p 16384).bind fun c => if 9223372036854775800 < c.1 then none else
  (ref_words k l c.1 0 [] c.2.1 c.2.2.1 c.2.2.2).bind fun t => R3 k l t.1 t.2.1 t.2.2.1 t.2.2.2
theorem ref_is (k : Nat) (l : List Int) : pleatref07_Read.f k l = (pleatref07_Taker_Begin.l0 k pli 0 l 0 0 0).bind fun s => R2 k l s.1 s.2.1 s.2.2 := rfl
theorem R5_bad (l t : List Int) (en : Int) (m : List Int) (a b p : Int) (h : b ≠ 0) : Evt (fun k => R5 k l t en m a b p) (rdErr b p) := by
  unfold R5 pleatref07_Taker_End.f
  refine Evt.bind (v := (a, b, p)) (Evt.bind (four_bad l a b p h) ?_) ?_
  · simp only [h, if_false]
    exact Evt.pure
  · simp only [h, if_false]
    exact Evt.pure
theorem R4_bad (l t : List Int) (en a b p : Int) (h : b ≠ 0) : Evt (fun k => R4 k l t en a b p) (rdErr b p) := by
  unfold R4
  refine Evt.bind (count_bad l a b p 4096 h) ?_
  simp only [show ¬ ((9223372036854775800 : Int) < 0) from by decide, if_false]
  exact Evt.bind (longs_bad l 0 0 [] a b p h) (R5_bad l t en _ _ b p h)
theorem R3_bad (l t : List Int) (a b p : Int) (h : b ≠ 0) : Evt (fun k => R3 k l t a b p) (rdErr b p) := by
  unfold R3
  exact Evt.bind (four_bad l a b p h) (R4_bad l t _ _ b p h)
theorem R2_bad (l : List Int) (a b p : Int) (h : b ≠ 0) : Evt (fun k => R2 k l a b p) (rdErr b p) := by
  unfold R2
  refine Evt.bind (count_bad l a b p 16384 h) ?_
  simp only [show ¬ ((9223372036854775800 : Int) < 0) from by decide, if_false]
  exact Evt.bind (words_bad l 0 0 [] a b p h) (R3_bad l _ _ b p h)
/-! ### both readings -/
/-- One answer of both, with short lists. -/
def Two (f g : Nat → Option RdR) : Prop := ∃ r : RdR, (r.1.length ≤ 40000 ∧ r.2.2.1.length ≤ 40000) ∧ Evt f r ∧ Evt g r
theorem Two.err {e p : Int} {g : Nat → Option RdR} (h : Evt g (rdErr e p)) : Two (fun _ => some (rdErr e p)) g := ⟨_, ⟨by simp [rdErr], by simp [rdErr]⟩, Evt.pure, h⟩
theorem ref_sum_loop (l : List Int) (hl : l.length ≤ 4503599627370496) : ∀ (d i : Nat) (s : Int), i + d = l.length → Evt (fun k => pleatref07_Sum.l0 k l s (i : Int)) (sumF (l.drop i) s)
  | 0, i, s, h => by
    obtain rfl : i = l.length := by omega
    refine Evt.succ ?_
    simp only [pleatref07_Sum.l0, Int.lt_irrefl, if_false, List.drop_length]
    exact Evt.pure
  | d + 1, i, s, h => by
    refine Evt.succ ?_
    have h1 : (i : Int) < (l.length : Int) := by omega
    have ih := ref_sum_loop l hl d (i + 1) (((31 * s) % 4294967296 + (rd l (i : Int)) % 4294967296) % 4294967296) (by omega)
    have hd : l.drop i = rd l (i : Int) :: l.drop (i + 1) := by
      rw [List.drop_eq_getElem_cons (by omega), rd_nat, getD_eq 0 (by omega)]
    simp only [pleatref07_Sum.l0, h1, nonneg, if_true, wrap1 i (by omega)]
    rw [hd]
    rw [show 31 * s = s * 31 from Int.mul_comm _ _] at ih ⊢
    exact ih
theorem ref_sum (l : List Int) (hl : l.length ≤ 4503599627370496) : Evt (fun k => pleatref07_Sum.f k l) (sumF l 0) := by
  have h := ref_sum_loop l hl l.length 0 0 (by omega)
  rw [List.drop_zero] at h
  exact h
theorem refchk_ev {l : List Int} (m : List Int) (e : Int) (hW : allW l) : Evt (fun k => pleatref07_Check.f k l e m) (chk l e m) := ⟨16392, fun k hk => ref_chk l m e hW k (.inr hk)⟩
theorem end_two {l t m : List Int} {en : Int} (hB : isB l) (hl : l.length ≤ 1000000) (hW : allW t) (ht : t.length ≤ 40000) (hm : m.length ≤ 40000) (hen : wrap64 en = en) (h : Nat) (hh : h ≤ l.length) (p : Int) : Two (fun k => rdEnd k l t m en h) (fun k => R5 k l t en m (h : Int) 0 p) := by
  unfold rdEnd R5 pleatref07_Taker_End.f
  by_cases c1 : l.length < h + 4
  · simp only [c1, if_true]
    refine Two.err (Evt.bind (v := ((h : Int), 27, (l.length : Int))) (Evt.bind (four_no l hl h p hh c1) ?_) ?_)
    · simp only [show ¬ ((27 : Int) = 0) from by decide, if_false]
      exact Evt.pure
    · simp only [show ¬ ((27 : Int) = 0) from by decide, if_false]
      exact Evt.pure
  simp only [c1, if_false]
  have c1' : h + 4 ≤ l.length := by omega
  have g0 : (0 : Int) ≤ (h : Int) := by omega
  have g1 : (h : Int) ≤ (l.length : Int) := by omega
  have gs : (l.take (h : Int).toNat) = l.take h := by rw [Int.toNat_natCast]
  have gt : (l.take h).length ≤ 4503599627370496 := by rw [List.length_take]; omega
  by_cases c2 : h + 4 < l.length
  · simp only [c2, if_true]
    refine Two.err (Evt.bind (v := (((h + 4 : Nat) : Int), 27, ((h + 4 : Nat) : Int))) (Evt.bind (four_ok hB hl h p c1') ?_) ?_)
    · have c2' : ((h + 4 : Nat) : Int) < (l.length : Int) := by omega
      simp only [if_true, c2', pleatref07_Taker_Wrong.f, Option.bind_some, g0, g1, and_self, gs, show ¬ ((27 : Int) = 0) from by decide, if_false, ite_self]
      exact Evt.bind (ref_sum _ gt) Evt.pure
    · simp only [show ¬ ((27 : Int) = 0) from by decide, if_false]
      exact Evt.pure
  simp only [c2, if_false]
  have c2' : ¬ (((h + 4 : Nat) : Int) < (l.length : Int)) := by omega
  have hq := (wrap_q4 hB h c1').2.2
  by_cases c3 : q4 l h = sumF (l.take h) 0
  · obtain ⟨r, hP, hr⟩ : ∃ r : RdR, (r.1.length ≤ 40000 ∧ r.2.2.1.length ≤ 40000) ∧ r = if (chk t en m).1 = 0 then (t, en, m, 0, 0) else rdErr (chk t en m).1 (chk t en m).2 := by
      refine ⟨_, ?_, rfl⟩
      by_cases c : (chk t en m).1 = 0
      · rw [if_pos c]; exact ⟨ht, hm⟩
      · rw [if_neg c]; exact ⟨by simp [rdErr], by simp [rdErr]⟩
    refine ⟨r, hP, ?_, ?_⟩
    · refine Evt.bind (sum_ev _ gt) ?_
      simp only [hq, c3, ne_eq, not_true_eq_false, if_false]
      refine Evt.bind (chk_ev m en hW) ?_
      rw [hr]
      by_cases c : (chk t en m).1 = 0
      · simp only [c, ne_eq, not_true_eq_false, if_false, if_true]; exact Evt.pure
      · simp only [c, ne_eq, not_false_eq_true, if_true, if_false]; exact Evt.pure
    · refine Evt.bind (v := (((h + 4 : Nat) : Int), 0, p)) (Evt.bind (four_ok hB hl h p c1') ?_) ?_
      · simp only [if_true, c2', if_false, Option.bind_some, g0, g1, and_self, gs]
        refine Evt.bind (ref_sum _ gt) ?_
        simp only [c3, if_true]
        exact Evt.pure
      · simp only [if_true, hen]
        refine Evt.bind (refchk_ev m en hW) ?_
        rw [hr]
        by_cases c : (chk t en m).1 = 0
        · simp only [c, if_true]; exact Evt.pure
        · simp only [c, if_false]; exact Evt.pure
  · refine ⟨rdErr 28 h, ⟨by simp [rdErr], by simp [rdErr]⟩, ?_, ?_⟩
    · refine Evt.bind (sum_ev _ gt) ?_
      simp only [hq, ne_eq, c3, not_false_eq_true, if_true]
      exact Evt.pure
    · refine Evt.bind (v := (((h + 4 : Nat) : Int), 28, (h : Int))) (Evt.bind (four_ok hB hl h p c1') ?_) ?_
      · simp only [if_true, c2', if_false, Option.bind_some, g0, g1, and_self, gs]
        refine Evt.bind (ref_sum _ gt) ?_
        simp only [c3, if_false, pleatref07_Taker_Wrong.f, if_true]
        exact Evt.pure
      · simp only [show ¬ ((28 : Int) = 0) from by decide, if_false]
        exact Evt.pure
theorem mem_two {l t : List Int} {en : Int} (hB : isB l) (hl : l.length ≤ 1000000) (hW : allW t) (ht : t.length ≤ 40000) (hen : wrap64 en = en) (h : Nat) (hh : h ≤ l.length) (p : Int) : Two (fun k => rdMem k l t en h) (fun k => R4 k l t en (h : Int) 0 p) := by
  unfold rdMem R4
  by_cases c1 : l.length < h + 4
  · simp only [c1, if_true]
    refine Two.err (Evt.bind (count_no l hl h p 4096 hh c1) ?_)
    simp only [show ¬ ((9223372036854775800 : Int) < 0) from by decide, if_false]
    exact Evt.bind (longs_bad l 0 0 [] _ 27 _ (by decide)) (R5_bad l t en _ _ 27 _ (by decide))
  simp only [c1, if_false]
  have c1' : h + 4 ≤ l.length := by omega
  have hq := (wrap_q4 hB h c1').1
  have hr := q4_range hB h c1'
  by_cases c2 : 4096 < wrap64 (rdN l h 4)
  · simp only [c2, if_true]
    refine Two.err (Evt.bind (count_big hB hl h p 4096 c1' c2) ?_)
    simp only [show ¬ ((9223372036854775800 : Int) < 0) from by decide, if_false]
    exact Evt.bind (longs_bad l 0 0 [] _ 27 _ (by decide)) (R5_bad l t en _ _ 27 _ (by decide))
  simp only [c2, if_false]
  have hc := count_ok hB hl h p 4096 c1' c2
  rw [hq] at c2 hc ⊢
  obtain ⟨n, hn⟩ := Int.eq_ofNat_of_zero_le hr.1
  rw [hn] at c2 hc ⊢
  rw [Int.toNat_natCast]
  have hcn : ¬ ((9223372036854775800 : Int) < (n : Int)) := by omega
  have hn2 : n ≤ 4096 := by omega
  by_cases c3 : l.length < h + 4 + 8 * n
  · simp only [c3, if_true]
    refine Two.err (Evt.bind hc ?_)
    simp only [hcn, if_false]
    obtain ⟨x, a, hx⟩ := longs_no hB hl (h + 4) n p c3 n 0 (by omega) (by omega)
    exact Evt.bind hx (R5_bad l t en _ _ 27 _ (by decide))
  simp only [c3, if_false]
  obtain ⟨r, hP, h1, h2⟩ := end_two hB hl hW ht (m := rdMems l (h + 4) n) (by rw [rdMems_length]; omega) hen (h + 4 + 8 * n) (by omega) p
  refine ⟨r, hP, h1, Evt.bind hc ?_⟩
  simp only [hcn, if_false]
  exact Evt.bind (longs_ok hB hl (h + 4) n p (by omega) n 0 (by omega)) h2
theorem texts_W (l : List Int) (n : Nat) : allW (rdTexts l n) := by
  intro x hx
  obtain ⟨i, _, rfl⟩ := List.mem_map.1 hx
  show 0 ≤ _ ∧ _ < _
  omega
theorem text_two {l : List Int} (hB : isB l) (hl : l.length ≤ 1000000) (h4 : 4 ≤ l.length) (p : Int) : Two (fun k => rdText k l) (fun k => R2 k l 4 0 p) := by
  unfold rdText R2
  by_cases c1 : l.length < 8
  · simp only [c1, if_true]
    refine Two.err (Evt.bind (count_no l hl 4 p 16384 h4 c1) ?_)
    simp only [show ¬ ((9223372036854775800 : Int) < 0) from by decide, if_false]
    exact Evt.bind (words_bad l 0 0 [] _ 27 _ (by decide)) (R3_bad l _ _ 27 _ (by decide))
  simp only [c1, if_false]
  have c1' : 4 + 4 ≤ l.length := by omega
  have hq := (wrap_q4 hB 4 c1').1
  have hr := q4_range hB 4 c1'
  by_cases c2 : 16384 < wrap64 (rdN l 4 4)
  · simp only [c2, if_true]
    refine Two.err (Evt.bind (count_big hB hl 4 p 16384 c1' c2) ?_)
    simp only [show ¬ ((9223372036854775800 : Int) < 0) from by decide, if_false]
    exact Evt.bind (words_bad l 0 0 [] _ 27 _ (by decide)) (R3_bad l _ _ 27 _ (by decide))
  simp only [c2, if_false]
  have hc := count_ok hB hl 4 p 16384 c1' c2
  rw [hq] at c2 hc ⊢
  obtain ⟨n, hn⟩ := Int.eq_ofNat_of_zero_le hr.1
  rw [hn] at c2 hc ⊢
  rw [Int.toNat_natCast]
  have hcn : ¬ ((9223372036854775800 : Int) < (n : Int)) := by omega
  have hn2 : n ≤ 16384 := by omega
  by_cases c3 : l.length < 8 + 4 * n
  · simp only [show l.length < 8 + 4 * n + 4 from by omega, if_true]
    refine Two.err (Evt.bind hc ?_)
    simp only [hcn, if_false]
    obtain ⟨x, a, hx⟩ := words_no hB hl n p c3 n 0 (by omega) (by omega)
    exact Evt.bind hx (R3_bad l _ _ 27 _ (by decide))
  have hw := words_ok hB hl n p (by omega) n 0 (by omega)
  by_cases c4 : l.length < 8 + 4 * n + 4
  · simp only [c4, if_true]
    refine Two.err (Evt.bind hc ?_)
    simp only [hcn, if_false]
    exact Evt.bind hw (Evt.bind (four_no l hl (8 + 4 * n) p (by omega) c4) (R4_bad l _ _ _ 27 _ (by decide)))
  simp only [c4, if_false]
  have c4' : 8 + 4 * n + 4 ≤ l.length := by omega
  obtain ⟨w1, w2, _⟩ := wrap_q4 hB (8 + 4 * n) c4'
  rw [w1]
  obtain ⟨r, hP, h1, h2⟩ := mem_two hB hl (texts_W l n) (by rw [rdTexts_length]; omega) w2 (8 + 4 * n + 4) (by omega) p
  refine ⟨r, hP, h1, Evt.bind hc ?_⟩
  simp only [hcn, if_false]
  exact Evt.bind hw (Evt.bind (four_ok hB hl (8 + 4 * n) p c4') h2)
theorem read_two {l : List Int} (hB : isB l) (hl : l.length ≤ 1000000) : Two (fun k => image_Read.f k l) (fun k => pleatref07_Read.f k l) := by
  unfold image_Read.f rdF
  simp only [ref_is]
  by_cases b0 : rdBad l 0
  · simp only [b0, if_true]
    exact Two.err (Evt.bind (begin_stop l 0 (by omega) 0 0 b0) (R2_bad l _ 27 _ (by decide)))
  simp only [b0, if_false]
  by_cases b1 : rdBad l 1
  · simp only [b1, if_true]
    exact Two.err (Evt.bind (begin_next l 0 (by omega) 0 0 b0 (begin_stop l 1 (by omega) 0 0 b1)) (R2_bad l _ 27 _ (by decide)))
  simp only [b1, if_false]
  by_cases b2 : rdBad l 2
  · simp only [b2, if_true]
    exact Two.err (Evt.bind (begin_next l 0 (by omega) 0 0 b0 (begin_next l 1 (by omega) 0 0 b1 (begin_stop l 2 (by omega) 0 0 b2))) (R2_bad l _ 27 _ (by decide)))
  simp only [b2, if_false]
  by_cases b3 : rdBad l 3
  · simp only [b3, if_true]
    exact Two.err (Evt.bind (begin_next l 0 (by omega) 0 0 b0 (begin_next l 1 (by omega) 0 0 b1 (begin_next l 2 (by omega) 0 0 b2 (begin_stop l 3 (by omega) 0 0 b3)))) (R2_bad l _ 27 _ (by decide)))
  simp only [b3, if_false]
  have h4 : 4 ≤ l.length := by
    by_cases c : l.length ≤ 3
    · exact absurd (Or.inl c) b3
    · omega
  obtain ⟨r, hP, h1, h2⟩ := text_two hB hl h4 0
  exact ⟨r, hP, h1, Evt.bind (begin_next l 0 (by omega) 0 0 b0 (begin_next l 1 (by omega) 0 0 b1 (begin_next l 2 (by omega) 0 0 b2 (begin_next l 3 (by omega) 0 0 b3 (begin_end l 0 0))))) h2⟩
theorem eqBytes_loop (l : List Int) (hl : l.length ≤ 1000000) : ∀ (d i : Nat), i + d = l.length → Evt (fun k => pleatref00_EqBytes.l0 k l l (i : Int)) true
  | 0, i, h => by
    obtain rfl : i = l.length := by omega
    refine Evt.succ ?_
    simp only [pleatref00_EqBytes.l0, Int.lt_irrefl, if_false]
    exact Evt.pure
  | d + 1, i, h => by
    refine Evt.succ ?_
    have h1 : (i : Int) < (l.length : Int) := by omega
    simp only [pleatref00_EqBytes.l0, h1, nonneg, if_true, wrap1 i (by omega)]
    exact eqBytes_loop l hl d (i + 1) (by omega)
theorem eqBytes (l : List Int) (hl : l.length ≤ 1000000) : Evt (fun k => pleatref00_EqBytes.f k l l) true := by
  simp only [pleatref00_EqBytes.f, if_true]
  exact eqBytes_loop l hl l.length 0 (by omega)
theorem byte_of {x : Int} (h : (Lit.int .u8 x).wf = true) : 0 ≤ x ∧ x < 256 := by
  simp [Lit.wf, IntKind.min, IntKind.max, IntKind.bits, IntKind.signed] at h
  omega
theorem all_eq (l : List Int) (hl : l.length ≤ 1000000) (r : RdR) (hP : r.1.length ≤ 40000 ∧ r.2.2.1.length ≤ 40000) (h1 : Evt (fun k => image_Read.f k l) r) (h2 : Evt (fun k => pleatref07_Read.f k l) r) :
    Evt (fun k => (image_Read.f k l).bind fun x => (pleatref07_Read.f k l).bind fun v => (pleatref00_EqImage.f k x.1 x.2.1 x.2.2.1 v.1 v.2.1 v.2.2.1).bind fun p => (image_Sum.f k l).bind fun s => (pleatref07_Sum.f k l).bind fun t => (pleatref00_EqBytes.f k l l).bind fun q =>
      if x.2.2.2.1 = v.2.2.2.1 ∧ x.2.2.2.2 = v.2.2.2.2 ∧ p = true ∧ s = t ∧ q = true ∧ x.1.length ≤ 1000000 ∧ x.2.2.1.length ≤ 1000000 then pleatlaw07_lives.f k else none) true := by
  refine Evt.bind h1 (Evt.bind h2 (Evt.bind (eqImage r.1 r.2.2.1 r.2.1 hP.1 hP.2) (Evt.bind (sum_ev l (by omega)) (Evt.bind (ref_sum l (by omega)) (Evt.bind (eqBytes l hl) ?_)))))
  have hc : r.2.2.2.1 = r.2.2.2.1 ∧ r.2.2.2.2 = r.2.2.2.2 ∧ true = true ∧ sumF l 0 = sumF l 0 ∧ true = true ∧ r.1.length ≤ 1000000 ∧ r.2.2.1.length ≤ 1000000 := ⟨rfl, rfl, rfl, rfl, rfl, by omega, by omega⟩
  simp only [hc, if_true]
  exact lives_true
theorem ImageReads : St.ImageReads := by
  intro l hl
  refine Evt.out (g := fun k => pleatlaw07_ImageReads.f k l) ?_
  unfold pleatlaw07_ImageReads.f
  by_cases c1 : 262144 < l.length
  · simp only [c1, if_true]
    exact lives_true
  · simp only [c1, if_false]
    have hB : isB l := fun x hx => byte_of (hl.2 x hx)
    obtain ⟨r, hP, h1, h2⟩ := read_two hB (by omega)
    exact all_eq l (by omega) r hP h1 h2
end Go.Proofs.YtfgdjpgdabjpmaaDoor.Pure
