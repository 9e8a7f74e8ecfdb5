/- The law of an image's bytes, as a statement over lists of numbers: what is written is read back, and a byte changed is told. -/
import Derived.Test.YtfgdjpgdabjpmaaStImageRound
import Derived.Test.YtfgdjpgdabjpmaaIsbPImageRound
import Derived.Test.YtfgdjpgdabjpmaaEv
import Derived.Laws.BitsAllLaws
namespace Go.Proofs.Ytfgdjpgdabjpmaa.Pure
open Go.RowKit Go.Proofs.YtfgdjpgdabjpmaaW.PrintWords Go.Proofs.YtfgdjpgdabjpmaaW.PrintLast Go.Proofs.YtfgdjpgdabjpmaaW.PrintMore Go.Proofs.Ytfgdjpgdabjpmaa.PImageRound Go.Proofs.Ytfgdjpgdabjpmaa.Ev
set_option linter.unusedVariables false
set_option linter.unusedSimpArgs false

theorem lives_true : Evt (fun q => pleatlaw07_lives.f q) true := Evt.of_mono pleatlaw07_lives.mono 100 (by decide +kernel)
theorem nonneg (i : Nat) : (0 : Int) ≤ (i : Int) := by omega
/-! ### the sum -/
def sumF (l : List Int) (s : Int) : Int := l.foldl (fun s c => ((s * 31) % 4294967296 + c % 4294967296) % 4294967296) s
theorem sum_loop (l : List Int) (hl : l.length ≤ 4503599627370496) : ∀ (d i : Nat) (s : Int), i + d = l.length → Evt (fun k => image_Sum.l0 k s l (l.length : Int) (i : Int)) (sumF (l.drop i) s)
  | 0, i, s, h => by
    obtain rfl : i = l.length := by omega
    refine Evt.succ ?_
    simp only [image_Sum.l0, Int.lt_irrefl, if_false, List.drop_length]
    exact Evt.pure
  | d + 1, i, s, h => by
    refine Evt.succ ?_
    have h1 : (i : Int) < (l.length : Int) := by omega
    have ih := sum_loop l hl d (i + 1) (((s * 31) % 4294967296 + (rd l (i : Int)) % 4294967296) % 4294967296) (by omega)
    have hd : l.drop i = rd l (i : Int) :: l.drop (i + 1) := by
      rw [List.drop_eq_getElem_cons (by omega), rd_nat, getD_eq 0 (by omega)]
    simp only [image_Sum.l0, h1, nonneg, if_true, wrap1 i (by omega)]
    rw [hd]
    exact ih
theorem sum_ev (l : List Int) (hl : l.length ≤ 4503599627370496) : Evt (fun k => image_Sum.f k l) (sumF l 0) := by
  have h := sum_loop l hl l.length 0 0 (by omega)
  rw [List.drop_zero] at h
  exact h
theorem sum_range (l : List Int) : ∀ s, 0 ≤ s ∧ s < 4294967296 → 0 ≤ sumF l s ∧ sumF l s < 4294967296 := by
  induction l with
  | nil => intro s h; exact h
  | cons a t ih =>
    intro s h
    exact ih (((s * 31) % 4294967296 + a % 4294967296) % 4294967296) (by omega)
theorem sum_inj (l : List Int) : ∀ s t, 0 ≤ s ∧ s < 4294967296 → 0 ≤ t ∧ t < 4294967296 → sumF l s = sumF l t → s = t := by
  induction l with
  | nil => intro s t _ _ h; exact h
  | cons a l ih =>
    intro s t hs ht h
    have := ih (((s * 31) % 4294967296 + a % 4294967296) % 4294967296) (((t * 31) % 4294967296 + a % 4294967296) % 4294967296) (by omega) (by omega) h
    omega
theorem sum_set : ∀ (l : List Int) (i : Nat) (v s : Int), i < l.length → 0 ≤ s ∧ s < 4294967296 → 0 ≤ v ∧ v < 256 → 0 ≤ l.getD i 0 ∧ l.getD i 0 < 256 → l.getD i 0 ≠ v → sumF (l.set i v) s ≠ sumF l s
  | [], i, v, s, hi, _, _, _, _ => by simp at hi
  | a :: l, 0, v, s, hi, hs, hv, ha, hne => by
    intro h
    simp only [List.getD_cons_zero] at ha hne
    have := sum_inj l (((s * 31) % 4294967296 + v % 4294967296) % 4294967296) (((s * 31) % 4294967296 + a % 4294967296) % 4294967296) (by omega) (by omega) h
    omega
  | a :: l, i + 1, v, s, hi, hs, hv, ha, hne => by
    simp only [List.getD_cons_succ] at ha hne
    exact sum_set l i v (((s * 31) % 4294967296 + a % 4294967296) % 4294967296) (by simpa using hi) (by omega) hv ha hne
/-! ### numbers as bytes -/
def be : Nat → Int → List Int
  | 0, _ => []
  | n + 1, v => (v / 256 ^ n % 256) :: be n v
theorem be_length (n : Nat) (v : Int) : (be n v).length = n := by induction n with | zero => rfl | succ n ih => simp [be, ih]
theorem be_byte (n : Nat) (v : Int) : ∀ x ∈ be n v, 0 ≤ x ∧ x < 256 := by
  induction n with
  | zero => intro x hx; simp [be] at hx
  | succ n ih =>
    intro x hx
    rcases List.mem_cons.1 hx with rfl | hx
    · omega
    · exact ih x hx
theorem tk_add (v c : Int) (hv : 0 ≤ v) (hv2 : v < 72057594037927936) (hc : 0 ≤ c) (hc2 : c < 256) : tk v c = v * 256 + c := by
  obtain ⟨a, rfl⟩ := Int.eq_ofNat_of_zero_le hv
  obtain ⟨b, rfl⟩ := Int.eq_ofNat_of_zero_le hc
  unfold tk
  have h1 : IntKind.u64.wrap ((a : Int) * 256) = ((a * 256 : Nat) : Int) := by rw [IntKind.wrap_u64]; omega
  have h2 : IntKind.u64.wrap (b : Int) = (b : Int) := by rw [IntKind.wrap_u64]; omega
  rw [h1, h2, u64_or_nat (a * 256) b (by omega) (by omega)]
  have h3 := Nat.shiftLeft_add_eq_or_of_lt (i := 8) (b := b) (by omega) a
  rw [Nat.shiftLeft_eq] at h3
  have h4 : a * 256 ||| b = a * 256 + b := h3.symm
  rw [h4]
  omega
theorem fold_be : ∀ (n : Nat) (v : Int), n ≤ 8 → 0 ≤ v → v < 18446744073709551616 → (be n v).foldl tk (v / 256 ^ n) = v
  | 0, v, _, _, _ => by simp [be]
  | n + 1, v, hn, h0, h1 => by
    have hp : (0 : Int) < 256 ^ n := Int.pow_pos (by decide)
    have hq : 0 ≤ v / 256 ^ n := Int.ediv_nonneg h0 (by omega)
    have hq2 : v / 256 ^ n < 18446744073709551616 := Int.lt_of_le_of_lt (Int.ediv_le_self _ h0) h1
    have he : v / 256 ^ (n + 1) = v / 256 ^ n / 256 := by rw [Int.pow_succ]; first | exact (Int.ediv_ediv (by omega)).symm | exact (Int.ediv_ediv_of_nonneg (by omega)).symm | exact (Int.ediv_ediv_eq_ediv_mul _ (by omega)).symm
    rw [be, List.foldl_cons, he, tk_add _ _ (by omega) (by omega) (by omega) (by omega)]
    have h3 : v / 256 ^ n / 256 * 256 + v / 256 ^ n % 256 = v / 256 ^ n := by omega
    rw [h3]
    exact fold_be n v (by omega) h0 h1
theorem tv_be4 (v : Int) (h0 : 0 ≤ v) (h1 : v < 4294967296) : tv (be 4 v) = v := by
  have h := fold_be 4 v (by omega) h0 (by omega)
  have : v / 256 ^ 4 = 0 := Int.ediv_eq_zero_of_lt h0 (by simpa using h1)
  rw [this] at h
  exact h
theorem tv_be8 (v : Int) (h0 : 0 ≤ v) (h1 : v < 18446744073709551616) : tv (be 8 v) = v := by
  have h := fold_be 8 v (by omega) h0 (by omega)
  have : v / 256 ^ 8 = 0 := Int.ediv_eq_zero_of_lt h0 (by simpa using h1)
  rw [this] at h
  exact h
theorem shr_eq (v : Int) (n : Nat) (hn : n < 8) : shr .u64 v (8 * (n : Int)) = v / 256 ^ n := by
  unfold shr
  have h1 : min (8 * (n : Int)).toNat IntKind.u64.bits = 8 * n := by
    have : IntKind.u64.bits = 64 := by decide
    rw [this]; omega
  rw [h1, Int.pow_mul]
  rfl
theorem put_loop (v : Int) : ∀ (n : Nat) (x : List Int), n ≤ 8 → x.length + n ≤ 1000000 → Evt (fun k => image_put.l0 k x v ((n : Int) - 1)) (x ++ be n v)
  | 0, x, hn, hx => by
    refine Evt.succ ?_
    simp only [image_put.l0, show ((((0 : Nat) : Int) - 1) ≥ 0) = False from eq_false (by omega), if_false, be, List.append_nil]
    exact Evt.pure
  | n + 1, x, hn, hx => by
    refine Evt.succ ?_
    have h1 : ((n + 1 : Nat) : Int) - 1 = (n : Int) := by omega
    have h2 : wrap64 (8 * (n : Int)) = 8 * (n : Int) := by unfold wrap64; omega
    have h3 : wrap64 ((n : Int) - 1) = (n : Int) - 1 := by unfold wrap64; omega
    simp only [image_put.l0, h1, h2, h3]
    simp only [show ((n : Int) ≥ 0) = True from eq_true (by omega), show ((0 : Int) ≤ 8 * (n : Int)) = True from eq_true (by omega), show (x.length < 140737488355328) = True from eq_true (by omega), if_true, shr_eq v n (by omega)]
    have h4 := put_loop v n (x ++ [v / 256 ^ n % 256]) (by omega) (by simp; omega)
    rw [List.append_assoc] at h4
    exact h4
theorem put_ev (v : Int) (n : Nat) (x : List Int) (hn : n ≤ 8) (hx : x.length ≤ 900000) : Evt (fun k => image_put.f k x v (n : Int)) (x ++ be n v) := by
  have h3 : wrap64 ((n : Int) - 1) = (n : Int) - 1 := by unfold wrap64; omega
  simp only [image_put.f, h3]
  exact put_loop v n x hn (by omega)
/-! ### Write -/
theorem flat_next {f : Int → List Int} (l : List Int) (i : Nat) (hi : i < l.length) : (l.drop i).flatMap f = f (rd l (i : Int)) ++ (l.drop (i + 1)).flatMap f := by
  rw [List.drop_eq_getElem_cons hi, List.flatMap_cons, rd_nat, getD_eq 0 hi]
def b4 (v : Int) : List Int := be 4 (IntKind.u64.wrap v)
def b8 (v : Int) : List Int := be 8 (IntKind.u64.wrap v)
theorem b4_length (v : Int) : (b4 v).length = 4 := be_length 4 _
theorem b8_length (v : Int) : (b8 v).length = 8 := be_length 8 _
/-- With the sum behind. -/
def sealed (y : List Int) : List Int := y ++ b4 (sumF y 0)
theorem write1 (m : List Int) (hm : m.length ≤ 4096) : ∀ (d i : Nat) (x : List Int), i + d = m.length → x.length + 8 * d ≤ 800000 → Evt (fun k => image_Write.l1 k x m (m.length : Int) (i : Int)) (sealed (x ++ (m.drop i).flatMap b8), 0)
  | 0, i, x, h, hx => by
    obtain rfl : i = m.length := by omega
    refine Evt.succ ?_
    simp only [image_Write.l1, Int.lt_irrefl, if_false, List.drop_length, List.flatMap_nil, List.append_nil]
    exact Evt.bind (sum_ev x (by omega)) (Evt.bind (put_ev _ 4 x (by omega) (by omega)) Evt.pure)
  | d + 1, i, x, h, hx => by
    refine Evt.succ ?_
    have h1 : (i : Int) < (m.length : Int) := by omega
    simp only [image_Write.l1, h1, nonneg, if_true, wrap1 i (by omega)]
    refine Evt.bind (put_ev (IntKind.u64.wrap (rd m (i : Int))) 8 x (by omega) (by omega)) ?_
    have ih := write1 m hm d (i + 1) (x ++ b8 (rd m (i : Int))) (by omega) (by simp [b8_length]; omega)
    rw [flat_next m i (by omega), ← List.append_assoc]
    exact ih
theorem write0 (l m : List Int) (e : Int) (hl : l.length ≤ 16384) (hm : m.length ≤ 4096) : ∀ (d i : Nat) (x : List Int), i + d = l.length → x.length + 4 * d ≤ 700000 →
    Evt (fun k => image_Write.l0 k x l (l.length : Int) (i : Int) l e m) (sealed (x ++ (l.drop i).flatMap b4 ++ b4 e ++ b4 (m.length : Int) ++ m.flatMap b8), 0)
  | 0, i, x, h, hx => by
    obtain rfl : i = l.length := by omega
    refine Evt.succ ?_
    simp only [image_Write.l0, Int.lt_irrefl, if_false, List.drop_length, List.flatMap_nil, List.append_nil]
    refine Evt.bind (put_ev (IntKind.u64.wrap e) 4 x (by omega) (by omega)) ?_
    refine Evt.bind (put_ev (IntKind.u64.wrap (m.length : Int)) 4 (x ++ b4 e) (by omega) (by simp [b4_length]; omega)) ?_
    have h := write1 m hm m.length 0 (x ++ b4 e ++ b4 (m.length : Int)) (by omega) (by simp [b4_length]; omega)
    rw [List.drop_zero] at h
    exact h
  | d + 1, i, x, h, hx => by
    refine Evt.succ ?_
    have h1 : (i : Int) < (l.length : Int) := by omega
    simp only [image_Write.l0, h1, nonneg, if_true, wrap1 i (by omega)]
    refine Evt.bind (put_ev (IntKind.u64.wrap (rd l (i : Int))) 4 x (by omega) (by omega)) ?_
    have ih := write0 l m e hl hm d (i + 1) (x ++ b4 (rd l (i : Int))) (by omega) (by simp [b4_length]; omega)
    rw [flat_next l i (by omega), ← List.append_assoc x]
    exact ih
def begun : List Int := [80, 76, 73, 49]
/-- The bytes before the sum. -/
def body (l : List Int) (e : Int) (m : List Int) : List Int := begun ++ b4 (l.length : Int) ++ l.flatMap b4 ++ b4 e ++ b4 (m.length : Int) ++ m.flatMap b8
theorem chk_ev {l : List Int} (m : List Int) (e : Int) (hW : allW l) : Evt (fun k => image_Check.f k l e m) (chk l e m) := ⟨16386, fun k hk => isa_chk l m e hW k (.inr hk)⟩
theorem write_ok {l m : List Int} {e : Int} (hW : allW l) (hc : (chk l e m).1 = 0) (hl : l.length ≤ 16384) (hm : m.length ≤ 4096) : Evt (fun k => image_Write.f k l e m) (sealed (body l e m), 0) := by
  refine Evt.bind (chk_ev m e hW) ?_
  simp only [hc, if_true]
  refine Evt.bind (put_ev (IntKind.u64.wrap (l.length : Int)) 4 begun (by omega) (by decide)) ?_
  have h := write0 l m e hl hm l.length 0 (begun ++ b4 (l.length : Int)) (by omega) (by simp [b4_length, begun]; omega)
  rw [List.drop_zero] at h
  exact h
theorem write_no {l m : List Int} {e : Int} (hW : allW l) (hc : (chk l e m).1 ≠ 0) : Evt (fun k => image_Write.f k l e m) ([], (chk l e m).1) := by
  refine Evt.bind (chk_ev m e hW) ?_
  simp only [hc, if_false]
  exact Evt.pure
/-! ### Read -/
theorem flat_length {f : Int → List Int} {c : Nat} (hf : ∀ x, (f x).length = c) (l : List Int) : (l.flatMap f).length = c * l.length := by
  induction l with
  | nil => simp
  | cons a t ih => rw [List.flatMap_cons, List.length_append, ih, hf, List.length_cons, Nat.mul_add]; omega
theorem rdN_at {B a x c : List Int} {h n : Nat} (hB : B = a ++ (x ++ c)) (ha : a.length = h) (hx : x.length = n) : rdN B h n = tv x := by
  subst hB ha hx
  unfold rdN
  rw [List.drop_left, List.take_left]
theorem flat_at {f : Int → List Int} (l : List Int) (i : Nat) (hi : i < l.length) : l.flatMap f = (l.take i).flatMap f ++ (f (l.getD i 0) ++ (l.drop (i + 1)).flatMap f) := by
  have h := flat_next (f := f) l i hi
  rw [rd_nat] at h
  rw [← h, ← List.flatMap_append, List.take_append_drop]
theorem tv_b4 {v : Int} (h : isW v) : tv (b4 v) = v := by
  unfold isW at h
  have : IntKind.u64.wrap v = v := by rw [IntKind.wrap_u64]; omega
  rw [b4, this, tv_be4 v h.1 h.2]
theorem texts_back (l p c : List Int) (hp : p.length = 8) (hW : allW l) : rdTexts (p ++ (l.flatMap b4 ++ c)) l.length = l := by
  apply List.ext_getElem (by simp [rdTexts])
  intro i h1 h2
  have h3 : rdN (p ++ (l.flatMap b4 ++ c)) (8 + 4 * i) 4 = tv (b4 (l.getD i 0)) := by
    refine rdN_at (a := p ++ (l.take i).flatMap b4) (c := (l.drop (i + 1)).flatMap b4 ++ c) ?_ ?_ (b4_length _)
    · rw [flat_at l i h2]; simp only [List.append_assoc]
    · rw [List.length_append, hp, flat_length b4_length, List.length_take]; omega
  have hw := rd_W hW i h2
  rw [rd_nat, getD_eq 0 h2] at hw
  simp only [rdTexts, List.getElem_map, List.getElem_range, h3, getD_eq 0 h2, tv_b4 hw]
  unfold isW at hw
  omega
def isL (v : Int) : Prop := -9223372036854775808 ≤ v ∧ v < 9223372036854775808
theorem wrap_b8 {v : Int} (h : isL v) : wrap64 (tv (b8 v)) = v := by
  unfold isL at h
  rw [b8, IntKind.wrap_u64, tv_be8 _ (by omega) (by omega)]
  unfold wrap64
  omega
theorem mems_back (m p c : List Int) (h : Nat) (hp : p.length = h) (hL : ∀ x ∈ m, isL x) : rdMems (p ++ (m.flatMap b8 ++ c)) h m.length = m := by
  apply List.ext_getElem (by simp [rdMems])
  intro i h1 h2
  have h3 : rdN (p ++ (m.flatMap b8 ++ c)) (h + 8 * i) 8 = tv (b8 (m.getD i 0)) := by
    refine rdN_at (a := p ++ (m.take i).flatMap b8) (c := (m.drop (i + 1)).flatMap b8 ++ c) ?_ ?_ (b8_length _)
    · rw [flat_at m i h2]; simp only [List.append_assoc]
    · rw [List.length_append, hp, flat_length b8_length, List.length_take]; omega
  have hw := hL _ (List.getElem_mem h2)
  simp only [rdMems, List.getElem_map, List.getElem_range, h3, getD_eq 0 h2, wrap_b8 hw]
theorem tv_len {n : Nat} (h : n < 1000000) : wrap64 (tv (b4 (n : Int))) = (n : Int) := by
  rw [tv_b4 (by unfold isW; omega)]
  unfold wrap64
  omega
theorem body_length (l m : List Int) (e : Int) : (body l e m).length = 16 + 4 * l.length + 8 * m.length := by
  simp only [body, List.length_append, b4_length, flat_length b4_length, flat_length b8_length, begun, List.length_cons, List.length_nil]
  omega
theorem not_bad (c : List Int) (i : Nat) (hi : i < 4) : ¬ rdBad (begun ++ c) i := by
  unfold rdBad begun
  have : i = 0 ∨ i = 1 ∨ i = 2 ∨ i = 3 := by omega
  rcases this with rfl | rfl | rfl | rfl <;> simp [rd]
theorem sealed_parts (l m : List Int) (e : Int) : ∃ s, sealed (body l e m) = body l e m ++ b4 s ∧ s = sumF (body l e m) 0 := ⟨_, rfl, rfl⟩
theorem read_head (k : Nat) {l m : List Int} {e : Int} (hW : allW l) (hL : ∀ x ∈ m, isL x) (hl : l.length ≤ 16384) (hm : m.length ≤ 4096) (he : 0 ≤ e ∧ e < 16384) :
    rdF k (sealed (body l e m)) = rdEnd k (sealed (body l e m)) l m e (16 + 4 * l.length + 8 * m.length) := by
  obtain ⟨s, hs, _⟩ := sealed_parts l m e
  have hB : sealed (body l e m) = begun ++ (b4 (l.length : Int) ++ (l.flatMap b4 ++ (b4 e ++ (b4 (m.length : Int) ++ (m.flatMap b8 ++ b4 s))))) := by
    rw [hs, body]; simp only [List.append_assoc]
  have hLn : (sealed (body l e m)).length = 20 + 4 * l.length + 8 * m.length := by rw [hs, List.length_append, body_length, b4_length]; omega
  have n1 : wrap64 (rdN (sealed (body l e m)) 4 4) = (l.length : Int) := by
    rw [rdN_at (h := 4) (a := begun) (x := b4 (l.length : Int)) hB rfl (b4_length _), tv_len (by omega)]
  have t1 : rdTexts (sealed (body l e m)) l.length = l := by
    rw [hB, ← List.append_assoc begun]
    exact texts_back l _ _ (by simp [begun, b4_length]) hW
  have n2 : wrap64 (rdN (sealed (body l e m)) (8 + 4 * l.length) 4) = e := by
    rw [rdN_at (a := begun ++ b4 (l.length : Int) ++ l.flatMap b4) (x := b4 e) (c := b4 (m.length : Int) ++ (m.flatMap b8 ++ b4 s)) (by rw [hB]; simp only [List.append_assoc]) (by simp only [List.length_append, b4_length, flat_length b4_length, begun, List.length_cons, List.length_nil]) (b4_length _), tv_b4 (by unfold isW; omega)]
    unfold wrap64; omega
  have n3 : wrap64 (rdN (sealed (body l e m)) (8 + 4 * l.length + 4) 4) = (m.length : Int) := by
    rw [rdN_at (a := begun ++ b4 (l.length : Int) ++ l.flatMap b4 ++ b4 e) (x := b4 (m.length : Int)) (c := m.flatMap b8 ++ b4 s) (by rw [hB]; simp only [List.append_assoc]) (by simp only [List.length_append, b4_length, flat_length b4_length, begun, List.length_cons, List.length_nil]) (b4_length _), tv_len (by omega)]
  have t2 : rdMems (sealed (body l e m)) (8 + 4 * l.length + 4 + 4) m.length = m := by
    have := mems_back m (begun ++ b4 (l.length : Int) ++ l.flatMap b4 ++ b4 e ++ b4 (m.length : Int)) (b4 s) (8 + 4 * l.length + 4 + 4) (by simp only [List.length_append, b4_length, flat_length b4_length, begun, List.length_cons, List.length_nil]) hL
    rw [hB]
    simpa only [List.append_assoc] using this
  have hb : ∀ i, i < 4 → ¬ rdBad (sealed (body l e m)) i := fun i hi => by rw [hB]; exact not_bad _ i hi
  rw [rdF, if_neg (hb 0 (by omega)), if_neg (hb 1 (by omega)), if_neg (hb 2 (by omega)), if_neg (hb 3 (by omega)), rdText, n1, Int.toNat_natCast, n2, t1, if_neg (by omega), if_neg (by omega), if_neg (by omega)]
  rw [rdMem, n3, Int.toNat_natCast, t2, if_neg (by omega), if_neg (by omega), if_neg (by omega)]
  congr 1
  omega
theorem seal_back {l m : List Int} {e : Int} : ∃ s, sealed (body l e m) = body l e m ++ be 4 s ∧ s = sumF (body l e m) 0 ∧ 0 ≤ s ∧ s < 4294967296 := by
  have h := sum_range (body l e m) 0 (by omega)
  refine ⟨_, ?_, rfl, h⟩
  unfold sealed b4
  rw [show IntKind.u64.wrap (sumF (body l e m) 0) = sumF (body l e m) 0 by rw [IntKind.wrap_u64]; omega]
theorem read_ok {l m : List Int} {e : Int} (hW : allW l) (hL : ∀ x ∈ m, isL x) (hl : l.length ≤ 16384) (hm : m.length ≤ 4096) (he : 0 ≤ e ∧ e < 16384) (hc : (chk l e m).1 = 0) :
    Evt (fun k => image_Read.f k (sealed (body l e m))) (l, e, m, 0, 0) := by
  obtain ⟨s, hs, hsum, h0, h1⟩ := seal_back (l := l) (m := m) (e := e)
  have hbl := body_length l m e
  have hLn : (sealed (body l e m)).length = 20 + 4 * l.length + 8 * m.length := by rw [hs, List.length_append, hbl, be_length]; omega
  have ht : (sealed (body l e m)).take (16 + 4 * l.length + 8 * m.length) = body l e m := by rw [hs, ← hbl, List.take_left]
  have hr : rdN (sealed (body l e m)) (16 + 4 * l.length + 8 * m.length) 4 = s := by
    rw [rdN_at (a := body l e m) (x := be 4 s) (c := []) (by rw [hs, List.append_nil]) hbl (be_length 4 s), tv_be4 s h0 h1]
  have hm4 : s % 4294967296 = s := by omega
  have he2 : (fun k => image_Read.f k (sealed (body l e m))) = fun k => (image_Sum.f k (body l e m)).bind fun s2 => if s ≠ s2 then some (rdErr 28 (16 + 4 * l.length + 8 * m.length : Nat)) else (image_Check.f k l e m).bind fun e1 => if e1.1 ≠ 0 then some (rdErr e1.1 e1.2) else some (l, e, m, 0, 0) := by
    funext k
    show rdF k _ = _
    rw [read_head k hW hL hl hm he, rdEnd, if_neg (by omega), if_neg (by omega), ht, hr, hm4]
  rw [he2]
  refine Evt.bind (sum_ev _ (by omega)) ?_
  rw [← hsum]
  simp only [ne_eq, not_true_eq_false, if_false]
  refine Evt.bind (chk_ev m e hW) ?_
  simp only [hc, ne_eq, not_true_eq_false, if_false]
  exact Evt.pure
theorem texts_W (l : List Int) (n : Nat) : allW (rdTexts l n) := by
  intro x hx
  unfold rdTexts at hx
  obtain ⟨i, _, rfl⟩ := List.mem_map.1 hx
  unfold isW
  omega
theorem ite_ex {α : Type} {c : Prop} [Decidable c] {a b : Nat → Option α} (ha : ∃ r, Evt a r) (hb : ∃ r, Evt b r) : ∃ r, Evt (fun k => if c then a k else b k) r := by
  by_cases h : c
  · simpa only [h, if_true] using ha
  · simpa only [h, if_false] using hb
theorem bind_ex {α β : Type} {a : Nat → Option α} {b : α → Nat → Option β} {v : α} (ha : Evt a v) (hb : ∃ r, Evt (b v) r) : ∃ r, Evt (fun k => (a k).bind fun x => b x k) r := by
  obtain ⟨r, hr⟩ := hb
  exact ⟨r, Evt.bind ha hr⟩
theorem some_ex {α : Type} (r : α) : ∃ r' : α, Evt (fun _ : Nat => some r) r' := ⟨r, Evt.pure⟩
theorem end_total (l t m : List Int) (en : Int) (h : Nat) (hl : l.length ≤ 1000000) (hW : allW t) : ∃ r, Evt (fun k => rdEnd k l t m en h) r :=
  ite_ex (some_ex _) (ite_ex (some_ex _) (bind_ex (b := fun s k => if rdN l h 4 % 4294967296 ≠ s then some (rdErr 28 h) else (image_Check.f k t en m).bind fun e => if e.1 ≠ 0 then some (rdErr e.1 e.2) else some (t, en, m, 0, 0)) (sum_ev (l.take h) (by rw [List.length_take]; omega))
    (ite_ex (some_ex _) (bind_ex (b := fun e _ => if e.1 ≠ 0 then some (rdErr e.1 e.2) else some (t, en, m, 0, 0)) (chk_ev m en hW) (ite_ex (some_ex _) (some_ex _))))))
theorem read_total (l : List Int) (hl : l.length ≤ 1000000) : ∃ r, Evt (fun k => image_Read.f k l) r :=
  ite_ex (some_ex _) (ite_ex (some_ex _) (ite_ex (some_ex _) (ite_ex (some_ex _) (ite_ex (some_ex _) (ite_ex (some_ex _) (ite_ex (some_ex _) (ite_ex (some_ex _) (ite_ex (some_ex _) (ite_ex (some_ex _) (end_total _ _ _ _ _ hl (texts_W _ _)))))))))))
theorem ends_ok {k : Nat} {l : List Int} {r : RdR} (h : image_Read.f k l = some r) (h0 : r.2.2.2.1 = 0) : ∃ z, l.length = z + 4 ∧ image_Sum.f k (l.take z) = some (rdN l z 4 % 4294967296) := by
  have ne : ∀ {e at_ : Int}, e ≠ 0 → some (rdErr e at_) = some r → ∃ z, l.length = z + 4 ∧ image_Sum.f k (l.take z) = some (rdN l z 4 % 4294967296) := by
    intro e at_ he hr
    obtain rfl := Option.some.inj hr
    exact absurd h0 he
  have hend : ∀ (t m : List Int) (en : Int) (z : Nat), rdEnd k l t m en z = some r → ∃ z, l.length = z + 4 ∧ image_Sum.f k (l.take z) = some (rdN l z 4 % 4294967296) := by
    intro t m en z h
    unfold rdEnd at h
    split at h
    · exact ne (by omega) h
    · split at h
      · exact ne (by omega) h
      · obtain ⟨s, hs, h⟩ := Option.bind_eq_some_iff.1 h
        split at h
        · exact ne (by omega) h
        · rename_i h1 h2 h3
          refine ⟨z, by omega, ?_⟩
          rw [hs, Classical.not_not.1 h3]
  unfold image_Read.f rdF rdText rdMem at h
  repeat' split at h
  all_goals first | exact ne (by omega) h | exact hend _ _ _ _ h
theorem evt_unique {α : Type} {g : Nat → Option α} {a b : α} (ha : Evt g a) (hb : Evt g b) : a = b := by
  obtain ⟨K, hK⟩ := ha
  obtain ⟨J, hJ⟩ := hb
  exact Option.some.inj ((hK (K + J) (by omega)).symm.trans (hJ (K + J) (by omega)))
theorem ends_sum {l : List Int} {r : RdR} (hl : l.length ≤ 1000000) (h : Evt (fun k => image_Read.f k l) r) (h0 : r.2.2.2.1 = 0) : ∃ z, l.length = z + 4 ∧ sumF (l.take z) 0 = rdN l z 4 % 4294967296 := by
  obtain ⟨K, hK⟩ := h
  obtain ⟨z, hz, hs⟩ := ends_ok (hK K (Nat.le_refl _)) h0
  refine ⟨z, hz, evt_unique (sum_ev (l.take z) (by rw [List.length_take]; omega)) (Evt.of_mono (fun k => image_Sum.mono _ k) K hs)⟩
/-! ### a byte changed -/
theorem tv4 (a b c d : Int) (ha : 0 ≤ a ∧ a < 256) (hb : 0 ≤ b ∧ b < 256) (hc : 0 ≤ c ∧ c < 256) (hd : 0 ≤ d ∧ d < 256) : tv [a, b, c, d] = ((a * 256 + b) * 256 + c) * 256 + d := by
  show tk (tk (tk (tk 0 a) b) c) d = _
  rw [tk_add 0 a (by omega) (by omega) ha.1 ha.2, tk_add _ b (by omega) (by omega) hb.1 hb.2, tk_add _ c (by omega) (by omega) hc.1 hc.2, tk_add _ d (by omega) (by omega) hd.1 hd.2]
  omega
theorem tv4_set (x : List Int) (hx : x.length = 4) (hb : ∀ y ∈ x, 0 ≤ y ∧ y < 256) (j : Nat) (hj : j < 4) (v : Int) (hv : 0 ≤ v ∧ v < 256) (hne : x.getD j 0 ≠ v) : tv (x.set j v) % 4294967296 ≠ tv x := by
  match x, hx with
  | [a, b, c, d], _ =>
    have ha := hb a (by simp)
    have hb' := hb b (by simp)
    have hc := hb c (by simp)
    have hd := hb d (by simp)
    have hj2 : j = 0 ∨ j = 1 ∨ j = 2 ∨ j = 3 := by omega
    rw [tv4 a b c d ha hb' hc hd]
    rcases hj2 with rfl | rfl | rfl | rfl
    · show tv [v, b, c, d] % _ ≠ _
      have : a ≠ v := hne
      rw [tv4 v b c d hv hb' hc hd]; omega
    · show tv [a, v, c, d] % _ ≠ _
      have : b ≠ v := hne
      rw [tv4 a v c d ha hv hc hd]; omega
    · show tv [a, b, v, d] % _ ≠ _
      have : c ≠ v := hne
      rw [tv4 a b v d ha hb' hv hd]; omega
    · show tv [a, b, c, v] % _ ≠ _
      have : d ≠ v := hne
      rw [tv4 a b c v ha hb' hc hv]; omega
theorem changed {y : List Int} {s : Int} (hy : y.length ≤ 900000) (hyb : ∀ x ∈ y, 0 ≤ x ∧ x < 256) (hs : s = sumF y 0) (j : Nat) (v : Int) (hj : j < y.length + 4) (hv : 0 ≤ v ∧ v < 256) (hne : (y ++ be 4 s).getD j 0 ≠ v) {r : RdR}
    (h : Evt (fun k => image_Read.f k ((y ++ be 4 s).set j v)) r) : r.2.2.2.1 ≠ 0 := by
  intro h0
  have hsr := sum_range y 0 (by omega)
  rw [← hs] at hsr
  obtain ⟨z, hz, hq⟩ := ends_sum (by simp [be_length]; omega) h h0
  have hz2 : z = y.length := by simp [be_length] at hz; omega
  subst hz2
  by_cases hjl : j < y.length
  · have h1 : ((y ++ be 4 s).set j v).take y.length = y.set j v := by
      rw [List.set_append_left _ _ hjl, List.take_append_of_le_length (by simp), List.take_of_length_le (by simp)]
    have h2 : rdN ((y ++ be 4 s).set j v) y.length 4 = s := by
      rw [rdN_at (a := y.set j v) (x := be 4 s) (c := []) (by rw [List.set_append_left _ _ hjl, List.append_nil]) (by simp) (be_length 4 s), tv_be4 s hsr.1 hsr.2]
    rw [h1, h2] at hq
    have hg : (y ++ be 4 s).getD j 0 = y.getD j 0 := by
      rw [List.getD_eq_getElem?_getD, List.getElem?_append_left hjl, ← List.getD_eq_getElem?_getD]
    rw [hg] at hne
    refine sum_set y j v 0 hjl (by omega) hv ?_ hne ?_
    · rw [getD_eq 0 hjl]; exact hyb _ (List.getElem_mem hjl)
    · rw [hq, ← hs]; omega
  · have h1 : ((y ++ be 4 s).set j v).take y.length = y := by
      rw [List.set_append_right _ _ (by omega), List.take_left]
    have h2 : rdN ((y ++ be 4 s).set j v) y.length 4 = tv ((be 4 s).set (j - y.length) v) := by
      exact rdN_at (a := y) (x := (be 4 s).set (j - y.length) v) (c := []) (by rw [List.set_append_right _ _ (by omega), List.append_nil]) rfl (by simp [be_length])
    rw [h1, h2, ← hs] at hq
    have hg : (y ++ be 4 s).getD j 0 = (be 4 s).getD (j - y.length) 0 := by
      rw [List.getD_eq_getElem?_getD, List.getElem?_append_right (by omega), ← List.getD_eq_getElem?_getD]
    rw [hg] at hne
    refine tv4_set (be 4 s) (be_length 4 s) (be_byte 4 s) (j - y.length) (by omega) v hv hne ?_
    rw [← hq, tv_be4 s hsr.1 hsr.2]
/-! ### what an accepted image is -/
theorem from_ok {l : List Int} : ∀ (d i : Nat), i + d = l.length → (chkFrom l d i).1 = 0 → (∀ j, i ≤ j → j < l.length → ¬ ((tgt (rd l (j : Int))).2 = true ∧ (tgt (rd l (j : Int))).1 ≥ (l.length : Int))) ∧
    ((dec (rd l ((l.length : Int) - 1))).1 = 0 ∨ (dec (rd l ((l.length : Int) - 1))).1 = 15 ∨ (dec (rd l ((l.length : Int) - 1))).1 = 19 ∨ (dec (rd l ((l.length : Int) - 1))).1 = 21)
  | 0, i, h, h0 => by
    refine ⟨fun j h1 h2 => by omega, ?_⟩
    unfold chkFrom at h0
    split at h0
    · assumption
    · exact absurd h0 (by simp)
  | d + 1, i, h, h0 => by
    rw [chkFrom_succ] at h0
    split at h0
    · exact absurd h0 (by simp)
    · rename_i hn
      obtain ⟨h1, h2⟩ := from_ok d (i + 1) (by omega) h0
      refine ⟨fun j hj hj2 => ?_, h2⟩
      by_cases e : j = i
      · subst e; exact hn
      · exact h1 j (by omega) hj2
theorem chk_ok {l m : List Int} {e : Int} (h : (chk l e m).1 = 0) : 0 < l.length ∧ l.length ≤ 16384 ∧ m.length ≤ 4096 ∧ 0 ≤ e ∧ e < (l.length : Int) ∧ (chkFrom l l.length 0).1 = 0 := by
  unfold chk at h
  split at h
  · exact absurd h (by decide)
  · split at h
    · exact absurd h (by decide)
    · split at h
      · exact absurd h (by decide)
      · split at h
        · exact absurd h (by decide)
        · exact ⟨by omega, by omega, by omega, by omega, by omega, h⟩
theorem tgt_pos {w : Int} (h : isW w) (ht : (tgt w).2 = true) : 0 ≤ (tgt w).1 := by
  unfold tgt at ht ⊢
  split at ht
  · rename_i hb
    rw [if_pos hb]
    unfold dec at hb ⊢
    split at hb
    · rename_i hc
      rw [if_pos hc]
      show 0 ≤ nn w
      unfold nn
      rw [if_neg (by intro hh; rw [hb] at hh; exact absurd hh.2.1 (by decide))]
      unfold nOf; omega
    · exact absurd hb (by show ¬ (bt1 (hv (-1)) 16 = true); decide)
  · exact absurd ht (by decide)
theorem target_ev {w : Int} (h : isW w) : Evt (fun k => isa_Target.f k w) (tgt w) := ⟨1, fun k hk => isa_target h k hk⟩
theorem dec_ev {w : Int} (h : isW w) : Evt (fun k => isa_Decode.f k w) (dec w) := ⟨1, fun k hk => isa_dec h k hk⟩
theorem falls_ev {w : Int} (h : isW w) (ho : (dec w).1 = 0 ∨ (dec w).1 = 15 ∨ (dec w).1 = 19 ∨ (dec w).1 = 21) : Evt (fun k => isa_Falls.f k w) false := by
  have he : Evt (fun k => isa_Ends.f k w) true := by
    refine Evt.bind (dec_ev h) ?_
    rcases ho with e | e | e | e <;> simp only [e] <;> exact Evt.pure
  refine Evt.bind he ?_
  simp only [if_true]
  refine Evt.bind (dec_ev h) ?_
  rcases ho with e | e | e | e <;> simp only [e] <;> exact Evt.pure
/-! ### the law -/
theorem body_byte (l m : List Int) (e : Int) : ∀ x ∈ body l e m, 0 ≤ x ∧ x < 256 := by
  intro x hx
  simp only [body, List.mem_append, List.mem_flatMap] at hx
  rcases hx with ((((hx | hx) | ⟨y, _, hx⟩) | hx) | hx) | ⟨y, _, hx⟩
  · simp [begun] at hx; omega
  · exact be_byte _ _ _ hx
  · exact be_byte _ _ _ hx
  · exact be_byte _ _ _ hx
  · exact be_byte _ _ _ hx
  · exact be_byte _ _ _ hx
theorem copyBytes (x : List Int) (h : x.length ≤ 1000000) : pleatref00_CopyBytes.f x = some x := by
  unfold pleatref00_CopyBytes.f
  rw [if_pos (by simp; omega)]
  rfl
theorem copyImage (l m : List Int) (e : Int) (hl : l.length ≤ 40000) (hm : m.length ≤ 40000) : pleatref00_CopyImage.f l e m = some (l, e, m) := by
  unfold pleatref00_CopyImage.f pleatref00_CopyWords.f pleatref00_CopyLongs.f
  have h1 : ([] : List Int).length + l.length < 35184372088832 := by simp; omega
  have h2 : ([] : List Int).length + m.length < 17592186044416 := by simp; omega
  rw [if_pos h1, if_pos h2]
  rfl
theorem words_loop (l : List Int) (hl : l.length ≤ 40000) : ∀ (d i : Nat), i + d = l.length → Evt (fun k => pleatref00_EqWords.l0 k l l (i : Int)) true
  | 0, i, h => by
    obtain rfl : i = l.length := by omega
    refine Evt.succ ?_
    simp only [pleatref00_EqWords.l0, Int.lt_irrefl, if_false]
    exact Evt.pure
  | d + 1, i, h => by
    refine Evt.succ ?_
    have h1 : (i : Int) < (l.length : Int) := by omega
    simp only [pleatref00_EqWords.l0, h1, nonneg, if_true, wrap1 i (by omega)]
    exact words_loop l hl d (i + 1) (by omega)
theorem longs_loop (l : List Int) (hl : l.length ≤ 40000) : ∀ (d i : Nat), i + d = l.length → Evt (fun k => pleatref00_EqLongs.l0 k l l (i : Int)) true
  | 0, i, h => by
    obtain rfl : i = l.length := by omega
    refine Evt.succ ?_
    simp only [pleatref00_EqLongs.l0, Int.lt_irrefl, if_false]
    exact Evt.pure
  | d + 1, i, h => by
    refine Evt.succ ?_
    have h1 : (i : Int) < (l.length : Int) := by omega
    simp only [pleatref00_EqLongs.l0, h1, nonneg, if_true, wrap1 i (by omega)]
    exact longs_loop l hl d (i + 1) (by omega)
theorem eqImage (l m : List Int) (e : Int) (hl : l.length ≤ 40000) (hm : m.length ≤ 40000) : Evt (fun k => pleatref00_EqImage.f k l e m l e m) true := by
  have h1 : Evt (fun k => pleatref00_EqWords.f k l l) true := by
    simp only [pleatref00_EqWords.f, if_true]
    exact words_loop l hl l.length 0 (by omega)
  have h2 : Evt (fun k => pleatref00_EqLongs.f k m m) true := by
    simp only [pleatref00_EqLongs.f, if_true]
    exact longs_loop m hm m.length 0 (by omega)
  simp only [pleatref00_EqImage.f, if_true]
  refine Evt.bind h1 ?_
  simp only [if_true]
  exact Evt.bind h2 Evt.pure
theorem last_part {l m : List Int} {e : Int} (hl : l.length ≤ 16384) (hm : m.length ≤ 4096) (at_ tu : Int) (hto : 0 ≤ tu ∧ tu < 256) (b : Bool) (hb : b = false → 0 ≤ at_ ∧ at_ < ((sealed (body l e m)).length : Int) ∧ rd (sealed (body l e m)) at_ ≠ tu) :
    Evt (fun k => pleatlaw07_ImageRound.j3 k at_ tu (sealed (body l e m)) b) true := by
  have hlen : (sealed (body l e m)).length ≤ 900000 := by
    unfold sealed; rw [List.length_append, body_length, b4_length]; omega
  refine Evt.succ ?_
  cases b
  · obtain ⟨h0, h1, hne⟩ := hb rfl
    obtain ⟨j, rfl⟩ := Int.eq_ofNat_of_zero_le h0
    simp only [pleatlaw07_ImageRound.j3, if_false, Bool.false_eq_true, copyBytes _ (show (sealed (body l e m)).length ≤ 1000000 by omega), Option.bind_some, h0, h1, if_true, Int.toNat_natCast]
    obtain ⟨r, hr⟩ := read_total ((sealed (body l e m)).set j tu) (by rw [List.length_set]; omega)
    have hq : r.2.2.2.1 ≠ 0 := by
      obtain ⟨s, hs, hsum, _⟩ := seal_back (l := l) (m := m) (e := e)
      rw [hs] at hr
      rw [hs, rd_nat] at hne
      rw [hs, List.length_append, be_length] at h1
      exact changed (by rw [body_length]; omega) (body_byte l m e) hsum j tu (by omega) hto hne hr
    refine Evt.bind hr ?_
    simp only [hq, if_false]
    exact Evt.bind lives_true Evt.pure
  · simp only [pleatlaw07_ImageRound.j3, if_true]
    exact Evt.bind lives_true Evt.pure
theorem law_loop {l m : List Int} {e : Int} (hW : allW l) (hl0 : 0 < l.length) (hl : l.length ≤ 16384) (hm : m.length ≤ 4096) (at_ tu : Int) (hto : 0 ≤ tu ∧ tu < 256)
    (hT : ∀ j, 0 ≤ j → j < l.length → ¬ ((tgt (rd l (j : Int))).2 = true ∧ (tgt (rd l (j : Int))).1 ≥ (l.length : Int)))
    (hO : (dec (rd l ((l.length : Int) - 1))).1 = 0 ∨ (dec (rd l ((l.length : Int) - 1))).1 = 15 ∨ (dec (rd l ((l.length : Int) - 1))).1 = 19 ∨ (dec (rd l ((l.length : Int) - 1))).1 = 21) :
    ∀ (d i : Nat), i + d = l.length → Evt (fun k => pleatlaw07_ImageRound.l0 k at_ tu (sealed (body l e m)) (i : Int) l e m) true
  | 0, i, h => by
    obtain rfl : i = l.length := by omega
    refine Evt.succ ?_
    simp only [pleatlaw07_ImageRound.l0, Int.lt_irrefl, if_false]
    by_cases c1 : at_ < 0
    · simp only [c1, if_true]
      exact last_part hl hm at_ tu hto true (fun h => by cases h)
    · by_cases c2 : at_ ≥ ((sealed (body l e m)).length : Int)
      · simp only [c1, c2, if_true, if_false]
        exact last_part hl hm at_ tu hto true (fun h => by cases h)
      · have c3 : 0 ≤ at_ := by omega
        have c4 : at_ < ((sealed (body l e m)).length : Int) := by omega
        simp only [c1, c2, c3, c4, if_true, if_false]
        refine last_part hl hm at_ tu hto _ (fun h => ⟨c3, c4, fun hh => ?_⟩)
        rw [hh, beq_self_eq_true] at h
        cases h
  | d + 1, i, h => by
    have h1 : (i : Int) < (l.length : Int) := by omega
    have hw := rd_W hW i (by omega)
    have ih := law_loop (e := e) hW hl0 hl hm at_ tu hto hT hO d (i + 1) (by omega)
    have hlast : ((i + 1 : Nat) : Int) = (l.length : Int) → ((dec (rd l (i : Int))).1 = 0 ∨ (dec (rd l (i : Int))).1 = 15 ∨ (dec (rd l (i : Int))).1 = 19 ∨ (dec (rd l (i : Int))).1 = 21) := by
      intro hh
      rw [show (i : Int) = (l.length : Int) - 1 by omega]
      exact hO
    have j2 : Evt (fun k => pleatlaw07_ImageRound.j2 k at_ tu (sealed (body l e m)) (i : Int) (((i + 1 : Nat) : Int) == (l.length : Int)) false l e m) true := by
      refine Evt.succ ?_
      simp only [pleatlaw07_ImageRound.j2, Bool.false_eq_true, if_false, h1, nonneg, if_true, wrap1 i (by omega)]
      refine Evt.bind (dec_ev hw) ?_
      by_cases c : ((i + 1 : Nat) : Int) = (l.length : Int)
      · have hq := hlast c
        have n1 : ¬ (dec (rd l (i : Int))).1 = 17 := by omega
        have n2 : ¬ (dec (rd l (i : Int))).1 = 18 := by omega
        simp only [n1, n2, if_false, ite_self]
        exact ih
      · have hf : (((i + 1 : Nat) : Int) == (l.length : Int)) = false := beq_eq_false_iff_ne.mpr c
        simp only [hf, Bool.false_eq_true, if_false]
        exact ih
    refine Evt.succ ?_
    simp only [pleatlaw07_ImageRound.l0, h1, nonneg, if_true, wrap1 i (by omega)]
    refine Evt.bind (target_ev hw) ?_
    have hTi := hT i (by omega) (by omega)
    by_cases c1 : (tgt (rd l (i : Int))).2 = true
    · have c2 : ¬ (tgt (rd l (i : Int))).1 < 0 := by have := tgt_pos hw c1; omega
      have c3 : ¬ (tgt (rd l (i : Int))).1 ≥ (l.length : Int) := fun hh => hTi ⟨c1, hh⟩
      simp only [c1, c2, c3, if_true, if_false]
      by_cases c4 : ((i + 1 : Nat) : Int) = (l.length : Int)
      · simp only [if_pos c4]
        exact Evt.bind (falls_ev hw (hlast c4)) j2
      · simp only [if_neg c4]
        exact j2
    · simp only [c1, if_false]
      by_cases c4 : ((i + 1 : Nat) : Int) = (l.length : Int)
      · simp only [if_pos c4]
        exact Evt.bind (falls_ev hw (hlast c4)) j2
      · simp only [if_neg c4]
        exact j2
theorem allW_of {l : List Int} (h : ∀ x ∈ l, (Lit.int .u32 x).wf = true) : allW l := fun x hx => by
  have := h x hx
  have hmin : IntKind.u32.min = 0 := rfl
  have hmax : IntKind.u32.max = 4294967295 := rfl
  simp only [Lit.wf, Bool.and_eq_true, decide_eq_true_eq] at this
  unfold isW
  omega
theorem isL_of {x : Int} (h : (Lit.int .i64 x).wf = true) : isL x := by
  simp [Lit.wf, IntKind.min, IntKind.max, IntKind.bits, IntKind.signed] at h
  unfold isL
  omega
theorem byte_of {x : Int} (h : (Lit.int .u8 x).wf = true) : 0 ≤ x ∧ x < 256 := by
  simp [Lit.wf, IntKind.min, IntKind.max, IntKind.bits, IntKind.signed] at h
  omega
theorem after_read {l m : List Int} {e : Int} (hW : allW l) (hL : ∀ x ∈ m, isL x) (k1 : 0 < l.length) (k2 : l.length ≤ 16384) (k3 : m.length ≤ 4096) (at_ tu : Int) (hto : 0 ≤ tu ∧ tu < 256) (k4 : 0 ≤ e) (k5 : e < (l.length : Int)) (hc : (chk l e m).1 = 0)
    (hT : ∀ j, 0 ≤ j → j < l.length → ¬ ((tgt (rd l (j : Int))).2 = true ∧ (tgt (rd l (j : Int))).1 ≥ (l.length : Int)))
    (hO : (dec (rd l ((l.length : Int) - 1))).1 = 0 ∨ (dec (rd l ((l.length : Int) - 1))).1 = 15 ∨ (dec (rd l ((l.length : Int) - 1))).1 = 19 ∨ (dec (rd l ((l.length : Int) - 1))).1 = 21) :
    Evt (fun k => pleatlaw07_ImageRound.j0 k at_ tu (sealed (body l e m)) false l e m) true := by
  refine Evt.succ ?_
  simp only [pleatlaw07_ImageRound.j0, Bool.false_eq_true, if_false]
  have h := law_loop (e := e) hW k1 k2 k3 at_ tu hto hT hO l.length 0 (by omega)
  simpa only [Int.natCast_zero] using h
theorem after_eq {l m y : List Int} {e : Int} (at_ tu : Int) (k2 : l.length ≤ 16384) (k3 : m.length ≤ 4096) (k4 : 0 ≤ e) (k5 : e < (l.length : Int)) (h0 : Evt (fun k => pleatlaw07_ImageRound.j0 k at_ tu y false l e m) true) :
    Evt (fun k => if (0 : Int) = 0 then ((pleatref00_EqImage.f k l e m l e m).bind fun t253 => if t253 = true then if e < 0 then pleatlaw07_ImageRound.j0 k at_ tu y true l e m else pleatlaw07_ImageRound.j0 k at_ tu y (decide (e ≥ (l.length : Int))) l e m else pleatlaw07_ImageRound.j0 k at_ tu y true l e m) else pleatlaw07_ImageRound.j0 k at_ tu y true l e m) true := by
  simp only [if_true]
  refine Evt.bind (eqImage l m e (by omega) (by omega)) ?_
  have d1 : ¬ e < 0 := by omega
  have d2 : decide (e ≥ (l.length : Int)) = false := decide_eq_false (by omega)
  simp only [if_true, d1, if_false, d2]
  exact h0
theorem after_write {l m y : List Int} {e : Int} (at_ tu : Int) (k2 : l.length ≤ 16384) (k3 : m.length ≤ 4096) (k4 : 0 ≤ e) (k5 : e < (l.length : Int)) (hy : y.length ≤ 1000000) (hr : Evt (fun k => image_Read.f k y) (l, e, m, 0, 0)) (h0 : Evt (fun k => pleatlaw07_ImageRound.j0 k at_ tu y false l e m) true)
    {z : Nat → Option Bool} : Evt (fun k => if (0 : Int) = 0 then ((pleatref00_CopyBytes.f y).bind fun t240 => ((image_Read.f k t240).bind fun bt243 => (if bt243.2.2.2.1 = 0 then ((pleatref00_EqImage.f k bt243.1 bt243.2.1 bt243.2.2.1 l e m).bind fun t253 => if t253 = true then if e < 0 then pleatlaw07_ImageRound.j0 k at_ tu y true l e m else pleatlaw07_ImageRound.j0 k at_ tu y (decide (e ≥ (l.length : Int))) l e m else pleatlaw07_ImageRound.j0 k at_ tu y true l e m) else pleatlaw07_ImageRound.j0 k at_ tu y true l e m))) else z k) true := by
  simp only [if_true, copyBytes y hy, Option.bind_some]
  exact Evt.bind hr (after_eq at_ tu k2 k3 k4 k5 h0)
theorem ImageRound : St.ImageRound := by
  intro l e m at_ tu hl he hm hat hto
  have hW : allW l := allW_of hl.2
  have hL : ∀ x ∈ m, isL x := fun x hx => isL_of (hm.2 x hx)
  refine Evt.out (g := fun k => pleatlaw07_ImageRound.f k l e m at_ tu) ?_
  unfold pleatlaw07_ImageRound.f pleatlaw07_heavy.f
  by_cases c1 : (l.length : Int) > 32768
  · simp only [c1, if_true, Option.bind_some]
    exact Evt.bind lives_true Evt.pure
  · by_cases c2 : (m.length : Int) > 8192
    · simp only [c1, c2, if_true, if_false, Option.bind_some, decide_true]
      exact Evt.bind lives_true Evt.pure
    · simp only [c1, c2, if_false, Option.bind_some, decide_false, Bool.false_eq_true, copyImage l m e (by omega) (by omega)]
      by_cases hc : (chk l e m).1 = 0
      · obtain ⟨k1, k2, k3, k4, k5, k6⟩ := chk_ok hc
        obtain ⟨hT, hO⟩ := from_ok l.length 0 (by omega) k6
        have hlen : (sealed (body l e m)).length ≤ 1000000 := by unfold sealed; rw [List.length_append, body_length, b4_length]; omega
        exact Evt.bind (write_ok hW hc k2 k3) (after_write at_ tu k2 k3 k4 k5 hlen (read_ok hW hL k2 k3 ⟨k4, by omega⟩ hc) (after_read hW hL k1 k2 k3 at_ tu (byte_of hto) k4 k5 hc hT hO))
      · refine Evt.bind (write_no hW hc) ?_
        simp only [hc, if_false]
        refine Evt.bind (chk_ev m e hW) ?_
        simp only [if_true, List.length_nil, show ((0 : Nat) : Int) = 0 from rfl]
        exact Evt.bind lives_true Evt.pure
end Go.Proofs.Ytfgdjpgdabjpmaa.Pure
