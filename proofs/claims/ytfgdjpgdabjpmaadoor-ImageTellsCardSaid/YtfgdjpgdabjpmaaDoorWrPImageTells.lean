/- What image.Write computes, and that an image is equal to itself: over numbers and lists. -/
import Derived.Test.YtfgdjpgdabjpmaaDoorIsaPImageTells
import Derived.Test.YtfgdjpgdabjpmaaDoorEv
import Derived.Laws.BitsAllLaws
namespace Go.Proofs.YtfgdjpgdabjpmaaDoor.Pure
open Go.RowKit Go.Proofs.YtfgdjpgdabjpmaaDoorW.PrintWords Go.Proofs.YtfgdjpgdabjpmaaDoorW.PrintLast Go.Proofs.YtfgdjpgdabjpmaaDoorW.PrintMore Go.Proofs.YtfgdjpgdabjpmaaDoor.PImageTells Go.Proofs.YtfgdjpgdabjpmaaDoor.Ev
set_option linter.unusedVariables false
set_option linter.unusedSimpArgs false
theorem nonneg (i : Nat) : (0 : Int) ≤ (i : Int) := by omega
def sumF (l : List Int) (s : Int) : Int := l.foldl (fun s c => ((s * 31) % 4294967296 + c % 4294967296) % 4294967296) s
theorem sum_loop (l : List Int) (hl : l.length ≤ 4503599627370496) : ∀ (d i : Nat) (s : Int), i + d = l.length → Evt (fun k => image_Sum.l0 k s l (l.length : Int) (i : Int)) (sumF (l.drop i) s)
  | 0, i, s, h => by
    obtain rfl : i = l.length := by omega
    refine Evt.succ ?_
    simp only [image_Sum.l0, Int.lt_irrefl, if_false, List.drop_length]
    exact Evt.pure
  | d + 1, i, s, h => by
    refine Evt.succ ?_
    have h1 : (i : Int) < (l.length : Int) := by omega
    have ih := sum_loop l hl d (i + 1) (((s * 31) % 4294967296 + (rd l (i : Int)) % 4294967296) % 4294967296) (by omega)
    have hd : l.drop i = rd l (i : Int) :: l.drop (i + 1) := by
      rw [List.drop_eq_getElem_cons (by omega), rd_nat, getD_eq 0 (by omega)]
    simp only [image_Sum.l0, h1, nonneg, if_true, wrap1 i (by omega)]
    rw [hd]
    exact ih
theorem sum_ev (l : List Int) (hl : l.length ≤ 4503599627370496) : Evt (fun k => image_Sum.f k l) (sumF l 0) := by
  have h := sum_loop l hl l.length 0 0 (by omega)
  rw [List.drop_zero] at h
  exact h
theorem sum_range (l : List Int) : ∀ s, 0 ≤ s ∧ s < 4294967296 → 0 ≤ sumF l s ∧ sumF l s < 4294967296 := by
  induction l with
  | nil => intro s h; exact h
  | cons a t ih =>
    intro s h
    exact ih (((s * 31) % 4294967296 + a % 4294967296) % 4294967296) (by omega)
/-! ### numbers as bytes -/
def be : Nat → Int → List Int
  | 0, _ => []
  | n + 1, v => (v / 256 ^ n % 256) :: be n v
theorem be_length (n : Nat) (v : Int) : (be n v).length = n := by induction n with | zero => rfl | succ n ih => simp [be, ih]
theorem be_byte (n : Nat) (v : Int) : ∀ x ∈ be n v, 0 ≤ x ∧ x < 256 := by
  induction n with
  | zero => intro x hx; simp [be] at hx
  | succ n ih =>
    intro x hx
    rcases List.mem_cons.1 hx with rfl | hx
    · omega
    · exact ih x hx
theorem shr_eq (v : Int) (n : Nat) (hn : n < 8) : shr .u64 v (8 * (n : Int)) = v / 256 ^ n := by
  unfold shr
  have h1 : min (8 * (n : Int)).toNat IntKind.u64.bits = 8 * n := by
    have : IntKind.u64.bits = 64 := by decide
    rw [this]; omega
  rw [h1, Int.pow_mul]
  rfl
theorem put_loop (v : Int) : ∀ (n : Nat) (x : List Int), n ≤ 8 → x.length + n ≤ 1000000 → Evt (fun k => image_put.l0 k x v ((n : Int) - 1)) (x ++ be n v)
  | 0, x, hn, hx => by
    refine Evt.succ ?_
    simp only [image_put.l0, show ((((0 : Nat) : Int) - 1) ≥ 0) = False from eq_false (by omega), if_false, be, List.append_nil]
    exact Evt.pure
  | n + 1, x, hn, hx => by
    refine Evt.succ ?_
    have h1 : ((n + 1 : Nat) : Int) - 1 = (n : Int) := by omega
    have h2 : wrap64 (8 * (n : Int)) = 8 * (n : Int) := by unfold wrap64; omega
    have h3 : wrap64 ((n : Int) - 1) = (n : Int) - 1 := by unfold wrap64; omega
    simp only [image_put.l0, h1, h2, h3]
    simp only [show ((n : Int) ≥ 0) = True from eq_true (by omega), show ((0 : Int) ≤ 8 * (n : Int)) = True from eq_true (by omega), show (x.length < 140737488355328) = True from eq_true (by omega), if_true, shr_eq v n (by omega)]
    have h4 := put_loop v n (x ++ [v / 256 ^ n % 256]) (by omega) (by simp; omega)
    rw [List.append_assoc] at h4
    exact h4
theorem put_ev (v : Int) (n : Nat) (x : List Int) (hn : n ≤ 8) (hx : x.length ≤ 900000) : Evt (fun k => image_put.f k x v (n : Int)) (x ++ be n v) := by
  have h3 : wrap64 ((n : Int) - 1) = (n : Int) - 1 := by unfold wrap64; omega
  simp only [image_put.f, h3]
  exact put_loop v n x hn (by omega)
/-! ### Write -/
theorem flat_next {f : Int → List Int} (l : List Int) (i : Nat) (hi : i < l.length) : (l.drop i).flatMap f = f (rd l (i : Int)) ++ (l.drop (i + 1)).flatMap f := by
  rw [List.drop_eq_getElem_cons hi, List.flatMap_cons, rd_nat, getD_eq 0 hi]
def b4 (v : Int) : List Int := be 4 (IntKind.u64.wrap v)
def b8 (v : Int) : List Int := be 8 (IntKind.u64.wrap v)
theorem b4_length (v : Int) : (b4 v).length = 4 := be_length 4 _
theorem b8_length (v : Int) : (b8 v).length = 8 := be_length 8 _
/-- With the sum behind. -/
def sealed (y : List Int) : List Int := y ++ b4 (sumF y 0)
theorem write1 (m : List Int) (hm : m.length ≤ 4096) : ∀ (d i : Nat) (x : List Int), i + d = m.length → x.length + 8 * d ≤ 800000 → Evt (fun k => image_Write.l1 k x m (m.length : Int) (i : Int)) (sealed (x ++ (m.drop i).flatMap b8), 0)
  | 0, i, x, h, hx => by
    obtain rfl : i = m.length := by omega
    refine Evt.succ ?_
    simp only [image_Write.l1, Int.lt_irrefl, if_false, List.drop_length, List.flatMap_nil, List.append_nil]
    exact Evt.bind (sum_ev x (by omega)) (Evt.bind (put_ev _ 4 x (by omega) (by omega)) Evt.pure)
  | d + 1, i, x, h, hx => by
    refine Evt.succ ?_
    have h1 : (i : Int) < (m.length : Int) := by omega
    simp only [image_Write.l1, h1, nonneg, if_true, wrap1 i (by omega)]
    refine Evt.bind (put_ev (IntKind.u64.wrap (rd m (i : Int))) 8 x (by omega) (by omega)) ?_
    have ih := write1 m hm d (i + 1) (x ++ b8 (rd m (i : Int))) (by omega) (by simp [b8_length]; omega)
    rw [flat_next m i (by omega), ← List.append_assoc]
    exact ih
theorem write0 (l m : List Int) (e : Int) (hl : l.length ≤ 16384) (hm : m.length ≤ 4096) : ∀ (d i : Nat) (x : List Int), i + d = l.length → x.length + 4 * d ≤ 700000 →
    Evt (fun k => image_Write.l0 k x l (l.length : Int) (i : Int) l e m) (sealed (x ++ (l.drop i).flatMap b4 ++ b4 e ++ b4 (m.length : Int) ++ m.flatMap b8), 0)
  | 0, i, x, h, hx => by
    obtain rfl : i = l.length := by omega
    refine Evt.succ ?_
    simp only [image_Write.l0, Int.lt_irrefl, if_false, List.drop_length, List.flatMap_nil, List.append_nil]
    refine Evt.bind (put_ev (IntKind.u64.wrap e) 4 x (by omega) (by omega)) ?_
    refine Evt.bind (put_ev (IntKind.u64.wrap (m.length : Int)) 4 (x ++ b4 e) (by omega) (by simp [b4_length]; omega)) ?_
    have h := write1 m hm m.length 0 (x ++ b4 e ++ b4 (m.length : Int)) (by omega) (by simp [b4_length]; omega)
    rw [List.drop_zero] at h
    exact h
  | d + 1, i, x, h, hx => by
    refine Evt.succ ?_
    have h1 : (i : Int) < (l.length : Int) := by omega
    simp only [image_Write.l0, h1, nonneg, if_true, wrap1 i (by omega)]
    refine Evt.bind (put_ev (IntKind.u64.wrap (rd l (i : Int))) 4 x (by omega) (by omega)) ?_
    have ih := write0 l m e hl hm d (i + 1) (x ++ b4 (rd l (i : Int))) (by omega) (by simp [b4_length]; omega)
    rw [flat_next l i (by omega), ← List.append_assoc x]
    exact ih
def begun : List Int := [80, 76, 73, 49]
/-- The bytes before the sum. -/
def body (l : List Int) (e : Int) (m : List Int) : List Int := begun ++ b4 (l.length : Int) ++ l.flatMap b4 ++ b4 e ++ b4 (m.length : Int) ++ m.flatMap b8
theorem chk_ev {l : List Int} (m : List Int) (e : Int) (hW : allW l) : Evt (fun k => image_Check.f k l e m) (chk l e m) := ⟨16386, fun k hk => isa_chk l m e hW k (.inr hk)⟩
theorem write_ok {l m : List Int} {e : Int} (hW : allW l) (hc : (chk l e m).1 = 0) (hl : l.length ≤ 16384) (hm : m.length ≤ 4096) : Evt (fun k => image_Write.f k l e m) (sealed (body l e m), 0) := by
  refine Evt.bind (chk_ev m e hW) ?_
  simp only [hc, if_true]
  refine Evt.bind (put_ev (IntKind.u64.wrap (l.length : Int)) 4 begun (by omega) (by decide)) ?_
  have h := write0 l m e hl hm l.length 0 (begun ++ b4 (l.length : Int)) (by omega) (by simp [b4_length, begun]; omega)
  rw [List.drop_zero] at h
  exact h
theorem write_no {l m : List Int} {e : Int} (hW : allW l) (hc : (chk l e m).1 ≠ 0) : Evt (fun k => image_Write.f k l e m) ([], (chk l e m).1) := by
  refine Evt.bind (chk_ev m e hW) ?_
  simp only [hc, if_false]
  exact Evt.pure
theorem flat_length {f : Int → List Int} {c : Nat} (hf : ∀ x, (f x).length = c) (l : List Int) : (l.flatMap f).length = c * l.length := by
  induction l with
  | nil => simp
  | cons a t ih => rw [List.flatMap_cons, List.length_append, ih, hf, List.length_cons, Nat.mul_add]; omega
theorem body_length (l m : List Int) (e : Int) : (body l e m).length = 16 + 4 * l.length + 8 * m.length := by
  simp only [body, List.length_append, b4_length, flat_length b4_length, flat_length b8_length, begun, List.length_cons, List.length_nil]
  omega
theorem allW_of {l : List Int} (h : ∀ x ∈ l, (Lit.int .u32 x).wf = true) : allW l := fun x hx => by
  have := h x hx
  have hmin : IntKind.u32.min = 0 := rfl
  have hmax : IntKind.u32.max = 4294967295 := rfl
  simp only [Lit.wf, Bool.and_eq_true, decide_eq_true_eq] at this
  unfold isW
  omega
theorem words_loop (l : List Int) (hl : l.length ≤ 40000) : ∀ (d i : Nat), i + d = l.length → Evt (fun k => pleatref00_EqWords.l0 k l l (i : Int)) true
  | 0, i, h => by
    obtain rfl : i = l.length := by omega
    refine Evt.succ ?_
    simp only [pleatref00_EqWords.l0, Int.lt_irrefl, if_false]
    exact Evt.pure
  | d + 1, i, h => by
    refine Evt.succ ?_
    have h1 : (i : Int) < (l.length : Int) := by omega
    simp only [pleatref00_EqWords.l0, h1, nonneg, if_true, wrap1 i (by omega)]
    exact words_loop l hl d (i + 1) (by omega)
theorem longs_loop (l : List Int) (hl : l.length ≤ 40000) : ∀ (d i : Nat), i + d = l.length → Evt (fun k => pleatref00_EqLongs.l0 k l l (i : Int)) true
  | 0, i, h => by
    obtain rfl : i = l.length := by omega
    refine Evt.succ ?_
    simp only [pleatref00_EqLongs.l0, Int.lt_irrefl, if_false]
    exact Evt.pure
  | d + 1, i, h => by
    refine Evt.succ ?_
    have h1 : (i : Int) < (l.length : Int) := by omega
    simp only [pleatref00_EqLongs.l0, h1, nonneg, if_true, wrap1 i (by omega)]
    exact longs_loop l hl d (i + 1) (by omega)
theorem eqImage (l m : List Int) (e : Int) (hl : l.length ≤ 40000) (hm : m.length ≤ 40000) : Evt (fun k => pleatref00_EqImage.f k l e m l e m) true := by
  have h1 : Evt (fun k => pleatref00_EqWords.f k l l) true := by
    simp only [pleatref00_EqWords.f, if_true]
    exact words_loop l hl l.length 0 (by omega)
  have h2 : Evt (fun k => pleatref00_EqLongs.f k m m) true := by
    simp only [pleatref00_EqLongs.f, if_true]
    exact longs_loop m hm m.length 0 (by omega)
  simp only [pleatref00_EqImage.f, if_true]
  refine Evt.bind h1 ?_
  simp only [if_true]
  exact Evt.bind h2 Evt.pure
end Go.Proofs.YtfgdjpgdabjpmaaDoor.Pure
