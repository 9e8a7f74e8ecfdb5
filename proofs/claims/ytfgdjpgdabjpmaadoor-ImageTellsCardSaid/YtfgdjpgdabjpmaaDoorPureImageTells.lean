/- The law of what an image is told as: the program's answers and the document's are the same, over numbers and lists. -/
import Derived.Test.YtfgdjpgdabjpmaaDoorStImageTells
import Derived.Test.YtfgdjpgdabjpmaaDoorWrPImageTells
namespace Go.Proofs.YtfgdjpgdabjpmaaDoor.Pure
open Go.RowKit Go.Proofs.YtfgdjpgdabjpmaaDoorW.PrintWords Go.Proofs.YtfgdjpgdabjpmaaDoorW.PrintLast Go.Proofs.YtfgdjpgdabjpmaaDoorW.PrintMore Go.Proofs.YtfgdjpgdabjpmaaDoor.PImageTells Go.Proofs.YtfgdjpgdabjpmaaDoor.Ev
set_option linter.unusedVariables false
set_option linter.unusedSimpArgs false
theorem lives_true : Evt (fun q => pleatlaw07_lives.f q) true := Evt.of_mono pleatlaw07_lives.mono 100 (by decide +kernel)
/-! ### the document's bytes -/
theorem four_eq (v : Int) (h : isW v) : pleatref07_four.f v = some (b4 v) := by
  have hw : IntKind.u64.wrap v = v := by
    unfold isW at h
    show v % 18446744073709551616 = v
    omega
  unfold pleatref07_four.f b4 be be be be be
  rw [hw]
  simp
theorem ref_sum_loop (l : List Int) (hl : l.length ≤ 4503599627370496) : ∀ (d i : Nat) (s : Int), i + d = l.length → Evt (fun k => pleatref07_Sum.l0 k l s (i : Int)) (sumF (l.drop i) s)
  | 0, i, s, h => by
    obtain rfl : i = l.length := by omega
    refine Evt.succ ?_
    simp only [pleatref07_Sum.l0, Int.lt_irrefl, if_false, List.drop_length]
    exact Evt.pure
  | d + 1, i, s, h => by
    refine Evt.succ ?_
    have h1 : (i : Int) < (l.length : Int) := by omega
    have ih := ref_sum_loop l hl d (i + 1) (((31 * s) % 4294967296 + (rd l (i : Int)) % 4294967296) % 4294967296) (by omega)
    have hd : l.drop i = rd l (i : Int) :: l.drop (i + 1) := by
      rw [List.drop_eq_getElem_cons (by omega), rd_nat, getD_eq 0 (by omega)]
    simp only [pleatref07_Sum.l0, h1, nonneg, if_true, wrap1 i (by omega)]
    rw [hd]
    rw [show 31 * s = s * 31 from Int.mul_comm _ _] at ih ⊢
    exact ih
theorem ref_sum (l : List Int) (hl : l.length ≤ 4503599627370496) : Evt (fun k => pleatref07_Sum.f k l) (sumF l 0) := by
  have h := ref_sum_loop l hl l.length 0 0 (by omega)
  rw [List.drop_zero] at h
  exact h
theorem eight_eq (v : Int) : pleatref07_eight.f v = some (b8 v) := by
  have hr : 0 ≤ IntKind.u64.wrap v ∧ IntKind.u64.wrap v < 18446744073709551616 := by
    show 0 ≤ v % 18446744073709551616 ∧ v % 18446744073709551616 < 18446744073709551616
    omega
  generalize hu : IntKind.u64.wrap v = u at hr
  unfold pleatref07_eight.f
  rw [hu, four_eq _ (by unfold isW; omega), four_eq _ (by unfold isW; omega)]
  simp only [Option.bind_some]
  rw [if_pos (by rw [b4_length, b4_length]; omega)]
  have hw1 : IntKind.u64.wrap (u / 4294967296 % 4294967296) = u / 4294967296 % 4294967296 := by
    show u / 4294967296 % 4294967296 % 18446744073709551616 = _
    omega
  have hw2 : IntKind.u64.wrap (u % 4294967296) = u % 4294967296 := by
    show u % 4294967296 % 18446744073709551616 = _
    omega
  unfold b4 b8
  rw [hw1, hw2, hu]
  simp only [be, List.cons_append, List.nil_append]
  refine congrArg some ?_
  simp only [List.cons.injEq, and_true]
  refine ⟨?_, ?_, ?_, ?_, ?_, ?_, ?_, ?_⟩ <;> omega
theorem ref_l1 (l m : List Int) (e : Int) (hm : m.length ≤ 4096) : ∀ (d i : Nat) (x : List Int), i + d = m.length → x.length + 8 * d ≤ 800000 → Evt (fun k => pleatref07_Bytes.l1 k x (i : Int) l e m) (sealed (x ++ (m.drop i).flatMap b8))
  | 0, i, x, h, hx => by
    obtain rfl : i = m.length := by omega
    refine Evt.succ ?_
    simp only [pleatref07_Bytes.l1, Int.lt_irrefl, if_false, List.drop_length, List.flatMap_nil, List.append_nil]
    refine Evt.bind (ref_sum x (by omega)) ?_
    have hs := sum_range x 0 (by omega)
    simp only [four_eq _ hs, Option.bind_some, show x.length + (b4 (sumF x 0)).length < 140737488355328 from by rw [b4_length]; omega, if_true]
    exact Evt.pure
  | d + 1, i, x, h, hx => by
    refine Evt.succ ?_
    have h1 : (i : Int) < (m.length : Int) := by omega
    simp only [pleatref07_Bytes.l1, h1, nonneg, if_true, wrap1 i (by omega), eight_eq, Option.bind_some]
    simp only [show x.length + (b8 (rd m (i : Int))).length < 140737488355328 from by rw [b8_length]; omega, if_true]
    have ih := ref_l1 l m e hm d (i + 1) (x ++ b8 (rd m (i : Int))) (by omega) (by simp [b8_length]; omega)
    rw [flat_next m i (by omega), ← List.append_assoc]
    exact ih
theorem ref_l0 (l m : List Int) (e : Int) (hW : allW l) (he : isW e) (hl : l.length ≤ 16384) (hm : m.length ≤ 4096) : ∀ (d i : Nat) (x : List Int), i + d = l.length → x.length + 4 * d ≤ 700000 →
    Evt (fun k => pleatref07_Bytes.l0 k x (i : Int) l e m) (sealed (x ++ (l.drop i).flatMap b4 ++ b4 e ++ b4 (m.length : Int) ++ m.flatMap b8))
  | 0, i, x, h, hx => by
    obtain rfl : i = l.length := by omega
    refine Evt.succ ?_
    have h1 : e % 4294967296 = e := by unfold isW at he; omega
    have h2 : (m.length : Int) % 4294967296 = (m.length : Int) := by omega
    simp only [pleatref07_Bytes.l0, Int.lt_irrefl, if_false, List.drop_length, List.flatMap_nil, List.append_nil, h1, h2, four_eq e he, four_eq (m.length : Int) (by unfold isW; omega), Option.bind_some]
    simp only [show x.length + (b4 e).length < 140737488355328 from by rw [b4_length]; omega, show (x ++ b4 e).length + (b4 (m.length : Int)).length < 140737488355328 from by rw [List.length_append, b4_length, b4_length]; omega, if_true]
    have h := ref_l1 l m e hm m.length 0 (x ++ b4 e ++ b4 (m.length : Int)) (by omega) (by simp [b4_length]; omega)
    rw [List.drop_zero] at h
    exact h
  | d + 1, i, x, h, hx => by
    refine Evt.succ ?_
    have h1 : (i : Int) < (l.length : Int) := by omega
    simp only [pleatref07_Bytes.l0, h1, nonneg, if_true, wrap1 i (by omega), four_eq _ (rd_W hW i (by omega)), Option.bind_some]
    simp only [show x.length + (b4 (rd l (i : Int))).length < 140737488355328 from by rw [b4_length]; omega, if_true]
    have ih := ref_l0 l m e hW he hl hm d (i + 1) (x ++ b4 (rd l (i : Int))) (by omega) (by simp [b4_length]; omega)
    rw [flat_next l i (by omega), ← List.append_assoc x]
    exact ih
theorem ref_bytes (l m : List Int) (e : Int) (hW : allW l) (he : isW e) (hl : l.length ≤ 16384) (hm : m.length ≤ 4096) : Evt (fun k => pleatref07_Bytes.f k l e m) (sealed (body l e m)) := by
  unfold pleatref07_Bytes.f
  have h2 : (l.length : Int) % 4294967296 = (l.length : Int) := by omega
  simp only [Option.bind_some, h2, four_eq (l.length : Int) (by unfold isW; omega)]
  simp only [show ([80, 76, 73, 49] : List Int).length + (b4 (l.length : Int)).length < 140737488355328 from by rw [b4_length]; simp, if_true]
  have h := ref_l0 l m e hW he hl hm l.length 0 (begun ++ b4 (l.length : Int)) (by omega) (by simp [b4_length, begun]; omega)
  rw [List.drop_zero] at h
  exact h
theorem refchk_ev {l : List Int} (m : List Int) (e : Int) (hW : allW l) : Evt (fun k => pleatref07_Check.f k l e m) (chk l e m) := ⟨16392, fun k hk => ref_chk l m e hW k (.inr hk)⟩
theorem chk_ok {l m : List Int} {e : Int} (h : (chk l e m).1 = 0) : 0 < l.length ∧ l.length ≤ 16384 ∧ m.length ≤ 4096 ∧ 0 ≤ e ∧ e < (l.length : Int) := by
  unfold chk at h
  repeat' split at h
  all_goals first | (simp at h; done) | omega
theorem eqBytes_loop (l : List Int) (hl : l.length ≤ 1000000) : ∀ (d i : Nat), i + d = l.length → Evt (fun k => pleatref00_EqBytes.l0 k l l (i : Int)) true
  | 0, i, h => by
    obtain rfl : i = l.length := by omega
    refine Evt.succ ?_
    simp only [pleatref00_EqBytes.l0, Int.lt_irrefl, if_false]
    exact Evt.pure
  | d + 1, i, h => by
    refine Evt.succ ?_
    have h1 : (i : Int) < (l.length : Int) := by omega
    simp only [pleatref00_EqBytes.l0, h1, nonneg, if_true, wrap1 i (by omega)]
    exact eqBytes_loop l hl d (i + 1) (by omega)
theorem eqBytes (l : List Int) (hl : l.length ≤ 1000000) : Evt (fun k => pleatref00_EqBytes.f k l l) true := by
  simp only [pleatref00_EqBytes.f, if_true]
  exact eqBytes_loop l hl l.length 0 (by omega)
theorem all_eq (l m b : List Int) (e f : Int) (hW : allW l) (hl : l.length ≤ 40000) (hm : m.length ≤ 40000) (hb : b.length ≤ 1000000) (h1 : Evt (fun k => image_Write.f k l e m) (b, f)) (h2 : Evt (fun k => pleatref07_Write.f k l e m) (b, f)) :
    Evt (fun k => (image_Check.f k l e m).bind fun c => (pleatref07_Check.f k l e m).bind fun d => (image_Write.f k l e m).bind fun b => (pleatref07_Write.f k l e m).bind fun v =>
      (pleatref00_EqBytes.f k b.1 v.1).bind fun q => (pleatref00_EqImage.f k l e m l e m).bind fun p =>
      if (l.length ≤ 1000000 ∧ m.length ≤ 1000000) ∧ c = d ∧ b.2 = v.2 ∧ q = true ∧ p = true ∧ b.1.length ≤ 1000000 then pleatlaw07_lives.f k else none) true := by
  refine Evt.bind (chk_ev m e hW) (Evt.bind (refchk_ev m e hW) (Evt.bind h1 (Evt.bind h2 (Evt.bind (eqBytes b hb) (Evt.bind (eqImage l m e hl hm) ?_)))))
  have hc : (l.length ≤ 1000000 ∧ m.length ≤ 1000000) ∧ chk l e m = chk l e m ∧ f = f ∧ true = true ∧ true = true ∧ b.length ≤ 1000000 := ⟨⟨by omega, by omega⟩, rfl, rfl, rfl, rfl, hb⟩
  simp only [hc, if_true]
  exact lives_true
theorem ImageTells : St.ImageTells := by
  intro l e m hl he hm
  have hW : allW l := allW_of hl.2
  refine Evt.out (g := fun k => pleatlaw07_ImageTells.f k l e m) ?_
  unfold pleatlaw07_ImageTells.f pleatlaw07_heavy.f
  by_cases c1 : (l.length : Int) > 32768
  · simp only [c1, if_true, Option.bind_some]
    exact lives_true
  · by_cases c2 : (m.length : Int) > 8192
    · simp only [c1, c2, if_true, if_false, Option.bind_some, decide_true]
      exact lives_true
    · simp only [c1, c2, if_false, Option.bind_some, decide_false, Bool.false_eq_true]
      by_cases hc : (chk l e m).1 = 0
      · obtain ⟨k1, k2, k3, k4, k5⟩ := chk_ok hc
        have hlen : (sealed (body l e m)).length ≤ 1000000 := by unfold sealed; rw [List.length_append, body_length, b4_length]; omega
        refine all_eq l m _ e 0 hW (by omega) (by omega) hlen (write_ok hW hc k2 k3) ?_
        refine Evt.bind (refchk_ev m e hW) ?_
        simp only [hc, if_true]
        exact Evt.bind (ref_bytes l m e hW ⟨k4, by omega⟩ k2 k3) Evt.pure
      · refine all_eq l m [] e _ hW (by omega) (by omega) (by simp) (write_no hW hc) ?_
        refine Evt.bind (refchk_ev m e hW) ?_
        simp only [hc, if_false]
        exact Evt.pure
end Go.Proofs.YtfgdjpgdabjpmaaDoor.Pure
