-- Written for this claim by a program of this session (wip/tools/pp.py, over the kit's print).
import Derived.Test.YtfgdjpgdabjpmaaDoorPNumberOfx0
import Derived.Test.YtfgdjpgdabjpmaaDoorPNumberOfx3
import Derived.Test.YtfgdjpgdabjpmaaDoorPNumberOfx4
import Derived.Test.YtfgdjpgdabjpmaaDoorPNumberOfx10
import Derived.Test.YtfgdjpgdabjpmaaDoorPNumberOfx11
import Derived.Test.YtfgdjpgdabjpmaaDoorPNumberOfx12
namespace Go.Proofs.YtfgdjpgdabjpmaaDoor.PNumberOf
open Go.RowKit Go.Proofs.YtfgdjpgdabjpmaaDoorW.PrintWords Go.Proofs.YtfgdjpgdabjpmaaDoorW.PrintLast Go.Proofs.YtfgdjpgdabjpmaaDoorW.PrintMore
attribute [local go_sem] max2_int min2_int max_two min_two max_three min_three max_four min_four   -- for this text's walks alone
set_option linter.unusedVariables false
set_option linter.unusedSimpArgs false

/-! ### pleatlaw15_NumberOf: function 3, by hand -/
section
open Go.Proofs.YtfgdjpgdabjpmaaDoor.Bag
def numberHeavy (l m s : List Int) : Bool := decide ((2048 < l.length ∧ l.length ≤ 16384) ∨ 32768 < l.length ∨ 8192 < m.length ∨ 2048 < s.length)
def pleatlaw15_NumberOf.f (k : Nat) (l0_0 : List Int) (a0_1 : Int) (l0_2 : List Int) (a1 : Int) (a2 : Int) (l3 : List Int) : Option Bool :=
  if numberHeavy l0_0 l0_2 l3 = true then pleatlaw15_lives.f k else
  (number_Of.f k l0_0 a0_1 l0_2).bind fun b => (pleatref15_Of.f k l0_0 a0_1 l0_2).bind fun v => (pleatref00_EqInts.f k b.1 v.1).bind fun q => (pleatref00_EqInts.f k l3 l3).bind fun q3 => (pleatref00_EqImage.f k l0_0 a0_1 l0_2 l0_0 a0_1 l0_2).bind fun p =>
  (number_Same.f k a1 a2).bind fun s1 => (pleatref15_Same.f k a1 a2).bind fun s2 => (number_Same.f k a1 a1).bind fun s3 => (pleatref15_Same.f k a1 a1).bind fun s4 => (number_Count.f l3).bind fun n1 => (pleatref15_Count.f k l3).bind fun n2 =>
  if b.2 = v.2 ∧ q = true ∧ q3 = true ∧ p = true ∧ s1 = s2 ∧ s3 = s4 ∧ n1 = n2 ∧ b.1.length ≤ 1000000 then pleatlaw15_lives.f k else none
set_option maxHeartbeats 8000000 in
set_option maxRecDepth 100000 in
theorem pleatlaw15_NumberOf.calls (k : Nat) (A0_0 : Option Addr) (c0_0 : Nat) (l0_0 : List Int) (a0_1 : Int) (A0_2 : Option Addr) (c0_2 : Nat) (l0_2 : List Int) (a1 : Int) (a2 : Int) (A3 : Option Addr) (c3 : Nat) (l3 : List Int) (r : Bool) (w : World) (hr0_0 : Kd.C (Kd.int .u32) w A0_0 l0_0.length l0_0) (hc0_0 : l0_0.length ≤ c0_0) (hr0_2 : Kd.C (Kd.int .i64) w A0_2 l0_2.length l0_2) (hc0_2 : l0_2.length ≤ c0_2) (hr3 : Kd.C (Kd.int .i64) w A3 l3.length l3) (hc3 : l3.length ≤ c3) (h : pleatlaw15_NumberOf.f k l0_0 a0_1 l0_2 a1 a2 l3 = some r) :
    Calls Tryd.prog 3 #[.agg #[.slice A0_0 l0_0.length c0_0, .int .i64 a0_1, .slice A0_2 l0_2.length c0_2], .int .u32 a1, .int .u32 a2, .slice A3 l3.length c3] w fun e w' => e = .returned (.bool r) ∧ Below w.heap.size w w' := by
  have hu := Tryd.underlying25
  have hu2 := Tryd.underlying59
  have HC0 := Aside0.mk hr0_0; have HC2 := Aside0.mk hr0_2; have HL0 := Aside0.mk hc0_0; have HL2 := Aside0.mk hc0_2; have HC3 := Aside0.mk hr3; have HL3 := Aside0.mk hc3
  unfold pleatlaw15_NumberOf.f at h
  have HB := Aside0.mk (below_alloc (Below.refl w.heap.size w) (.cells #[.slice A0_0 l0_0.length c0_0, .int .i64 a0_1, .slice A0_2 l0_2.length c0_2] 25))
  have BX := Aside0.mk (blk_new w (.cells #[.slice A0_0 l0_0.length c0_0, .int .i64 a0_1, .slice A0_2 l0_2.length c0_2] 25))
  clear hr0_0 hc0_0 hr0_2 hc0_2 hr3 hc3
  by_cases hv : numberHeavy l0_0 l0_2 l3 = true
  · rw [if_pos hv] at h
    have HH := Lib.hid h
    have hv2 := of_decide_eq_true hv
    clear h hv
    obtain ⟨n0, h0⟩ : ∃ n : Nat, n = l0_0.length := ⟨_, rfl⟩
    obtain ⟨n2, h2⟩ : ∃ n : Nat, n = l0_2.length := ⟨_, rfl⟩
    obtain ⟨n3, h3⟩ : ∃ n : Nat, n = l3.length := ⟨_, rfl⟩
    rw [← h0, ← h2, ← h3] at hv2
    rw [← h0, ← h2, ← h3]
    clear h0 h2 h3 HC0 HC2 HC3 HL0 HL2 HL3 BX HB
    have HB := Aside0.mk (below_alloc (Below.refl w.heap.size w) (.cells #[.slice A0_0 n0 c0_0, .int .i64 a0_1, .slice A0_2 n2 c0_2] 25))
    have HV := Lib.hid hv2
    clear hv2
    go_enter Tryd.func3, Tryd.ntmps3
    go_wp2_with (go_at_call 6; refine (pleatlaw15_lives.calls k _ _ HH.out).mono ?_; rintro e w1 ⟨rfl, hb⟩; replace HB := Aside0.mk (below_then HB.out HB.out.size hb); clear hb)
    all_goals first | (go_ret; exact ⟨rfl, HB.out⟩) | (exfalso; have := HV.out; omega)
  · rw [if_neg hv] at h
    have hv2 : ¬ ((2048 < l0_0.length ∧ l0_0.length ≤ 16384) ∨ 32768 < l0_0.length ∨ 8192 < l0_2.length ∨ 2048 < l3.length) := fun hh => hv (decide_eq_true hh)
    clear hv
    obtain ⟨b, hw, h1⟩ := Option.bind_eq_some_iff.1 h
    clear h
    obtain ⟨v, hv, h2⟩ := Option.bind_eq_some_iff.1 h1
    clear h1
    obtain ⟨q, hq, h3⟩ := Option.bind_eq_some_iff.1 h2
    clear h2
    obtain ⟨q3, hq3, h4⟩ := Option.bind_eq_some_iff.1 h3
    clear h3
    obtain ⟨p, hp, h5⟩ := Option.bind_eq_some_iff.1 h4
    clear h4
    obtain ⟨s1, hs1, h6⟩ := Option.bind_eq_some_iff.1 h5
    clear h5
    obtain ⟨s2, hs2, h7⟩ := Option.bind_eq_some_iff.1 h6
    clear h6
    obtain ⟨s3, hs3, h8⟩ := Option.bind_eq_some_iff.1 h7
    clear h7
    obtain ⟨s4, hs4, h9⟩ := Option.bind_eq_some_iff.1 h8
    clear h8
    obtain ⟨n1, hn1, h10⟩ := Option.bind_eq_some_iff.1 h9
    clear h9
    obtain ⟨n2, hn2, h11⟩ := Option.bind_eq_some_iff.1 h10
    clear h10
    by_cases hg : b.2 = v.2 ∧ q = true ∧ q3 = true ∧ p = true ∧ s1 = s2 ∧ s3 = s4 ∧ n1 = n2 ∧ b.1.length ≤ 1000000
    · rw [if_pos hg] at h11
      obtain ⟨hbv, rfl, rfl, rfl, rfl, rfl, rfl, hbl⟩ := hg
      obtain ⟨b1, b2⟩ := b
      obtain ⟨v1, v2⟩ := v
      dsimp only at hbv hbl hq
      subst hbv
      have HH := Lib.hid h11; have HW := Lib.hid hw; have HV := Lib.hid hv; have HQ := Lib.hid hq; have HP := Lib.hid hp; have HP3 := Lib.hid hq3; have HS1 := Lib.hid (And.intro hs1 hs2); have HS2 := Lib.hid (And.intro hs3 hs4); have HK := Lib.hid (And.intro hn1 hn2); have HN3 := Lib.hid hbl
      have HN := Lib.hid (show l0_0.length ≤ 1000000 ∧ l0_2.length ≤ 1000000 ∧ l3.length ≤ 1000000 from by omega)
      clear h11 hw hv hq hp hq3 hs1 hs2 hs3 hs4 hn1 hn2 hbl
      have e2 : (b2 != b2) = false := by simp
      have e3 : (s1 != s1) = false := by simp
      have e4 : (s3 != s3) = false := by simp
      have e5 : (n1 != n1) = false := by simp
      have d2 : decide ((8192 : Int) < (l0_2.length : Int)) = false := decide_eq_false (by omega)
      have d3 : decide ((2048 : Int) < (l3.length : Int)) = false := decide_eq_false (by omega)
      have d4 : decide ((32768 : Int) < (l0_0.length : Int)) = false := decide_eq_false (by omega)
      have tok0 : True := trivial
      have tok1 : True := trivial
      have tok2 : True := trivial
      have tok3 : True := trivial
      have tok4 : True := trivial
      have tok5 : True := trivial
      have tok6 : True := trivial
      have tok7 : True := trivial
      have tok8 : True := trivial
      have tok9 : True := trivial
      have tok10 : True := trivial
      have tok11 : True := trivial
      have tok12 : True := trivial
      have tok13 : True := trivial
      have tok14 : True := trivial
      have tok15 : True := trivial
      have tok16 : True := trivial
      have tka0 : True := trivial
      have tka1 : True := trivial
      by_cases hb : 2048 < l0_0.length
      all_goals
        first | (have d5 : decide ((2048 : Int) < (l0_0.length : Int)) = true := decide_eq_true (by omega); have d6 : decide ((l0_0.length : Int) ≤ 16384) = false := decide_eq_false (by omega)) | (have d5 : decide ((2048 : Int) < (l0_0.length : Int)) = false := decide_eq_false (by omega))
        clear hv2 hb
        go_enter Tryd.func3, Tryd.ntmps3
        have hc_BX := blk_cell BX.out; have hf_BX := blk_frozen BX.out
        go_wp2_with (first | (go_at_call 7; have _ := tok0; refine (wideImage_made _ _ l0_0 a0_1 _ _ l0_2 _ (Kd.C_below HC0.out HB.out) HL0.out (Kd.C_below HC2.out HB.out) HL2.out HN.out.1 HN.out.2.1).mono ?_; rintro e w1 ⟨g, h, rfl, hg, hh, hgl, hhl, hb⟩; clear tok0; replace BX := Aside0.mk (blk_below BX.out hb); replace HB := Aside0.mk (below_then HB.out HB.out.size hb); have BG := Aside0.mk (hg); have BH := Aside0.mk (hh); have HT := Aside0.mk (Todo.nil w w1); clear hg hh hgl hhl; clear hb; have hb2 := below_alloc (Below.refl w1.heap.size w1) (.cells #[.slice (some ⟨g, 0, none⟩) l0_0.length (l0_0.length + 64), .int .i64 a0_1, .slice (some ⟨h, 0, none⟩) l0_2.length (l0_2.length + 64)] 25); replace BX := Aside0.mk (blk_below BX.out hb2); replace BG := Aside0.mk (blk_below BG.out hb2); replace BH := Aside0.mk (blk_below BH.out hb2); replace HT := Aside0.mk (HT.out.next hb2); replace HB := Aside0.mk (below_then HB.out HB.out.size hb2); have BI := Aside0.mk (blk_new w1 (.cells #[.slice (some ⟨g, 0, none⟩) l0_0.length (l0_0.length + 64), .int .i64 a0_1, .slice (some ⟨h, 0, none⟩) l0_2.length (l0_2.length + 64)] 25)); clear hb2; (try clear hc_BX hf_BX); (try clear hc_BI hf_BI); have hc_BX := blk_cell BX.out; have hf_BX := blk_frozen BX.out; have hc_BI := blk_cell BI.out; have hf_BI := blk_frozen BI.out) | (go_at_call 8; have _ := tok1; refine (wideInts_made _ _ l3 _ (Kd.C_below HC3.out HB.out) HL3.out HN.out.2.2).mono ?_; rintro e w1 ⟨y, rfl, hyl, hy, hb⟩; clear tok1; replace BX := Aside0.mk (blk_below BX.out hb); replace BG := Aside0.mk (blk_below BG.out hb); replace BH := Aside0.mk (blk_below BH.out hb); replace HT := Aside0.mk (HT.out.next hb); replace BI := Aside0.mk (blk_below BI.out hb); replace HB := Aside0.mk (below_then HB.out HB.out.size hb); have BY := Aside0.mk (hy); clear hy hyl; clear hb; (try clear hc_BX hf_BX); (try clear hc_BI hf_BI); have hc_BX := blk_cell BX.out; have hf_BX := blk_frozen BX.out; have hc_BI := blk_cell BI.out; have hf_BI := blk_frozen BI.out) | (go_at_call 9; have _ := tok2; refine (number_Of.calls k _ _ l0_0 a0_1 _ _ l0_2 b1 b2 _ (wide_reads HN.out.1 BG.out) (Nat.le_add_right _ _) (wide_reads HN.out.2.1 BH.out) (Nat.le_add_right _ _) HW.out).mono ?_; rintro e w1 ⟨vb, rfl, hR, hb⟩; clear tok2; obtain ⟨Ab, cb, rfl, hlb, hC⟩ := Kd.R_reads hR; obtain ⟨ys, hO⟩ := Kd.R_own hR; replace HT := Aside0.mk (HT.out.snoc (j := 1) HB.out.size hb HN3.out hO); have HC_b := Aside0.mk hC; have HLb := Aside0.mk hlb; clear hC hO hR hlb; replace BX := Aside0.mk (blk_below BX.out hb); replace BG := Aside0.mk (blk_below BG.out hb); replace BH := Aside0.mk (blk_below BH.out hb); replace BI := Aside0.mk (blk_below BI.out hb); replace BY := Aside0.mk (blk_below BY.out hb); replace HB := Aside0.mk (below_then HB.out HB.out.size hb); clear hb; (try clear hc_BX hf_BX); (try clear hc_BI hf_BI); have hc_BX := blk_cell BX.out; have hf_BX := blk_frozen BX.out; have hc_BI := blk_cell BI.out; have hf_BI := blk_frozen BI.out) | (go_at_call 9; have _ := tok3; refine (number_Of.calls k _ _ l0_0 a0_1 _ _ l0_2 b1 b2 _ (wide_reads HN.out.1 BG.out) (Nat.le_add_right _ _) (wide_reads HN.out.2.1 BH.out) (Nat.le_add_right _ _) HW.out).mono ?_; rintro e w1 ⟨vc, rfl, hR, hb⟩; clear tok3; obtain ⟨Ac, cc, rfl, hlb, hC⟩ := Kd.R_reads hR; obtain ⟨ys, hO⟩ := Kd.R_own hR; replace HT := Aside0.mk (HT.out.snoc (j := 1) HB.out.size hb HN3.out hO); have HC_c := Aside0.mk hC; have HLc := Aside0.mk hlb; clear hC hO hR hlb; replace BX := Aside0.mk (blk_below BX.out hb); replace BG := Aside0.mk (blk_below BG.out hb); replace BH := Aside0.mk (blk_below BH.out hb); replace BI := Aside0.mk (blk_below BI.out hb); replace BY := Aside0.mk (blk_below BY.out hb); replace HC_b := Aside0.mk (Kd.C_below HC_b.out hb); replace HB := Aside0.mk (below_then HB.out HB.out.size hb); clear hb; (try clear hc_BX hf_BX); (try clear hc_BI hf_BI); have hc_BX := blk_cell BX.out; have hf_BX := blk_frozen BX.out; have hc_BI := blk_cell BI.out; have hf_BI := blk_frozen BI.out) | (go_at_call 10; have _ := tok4; refine (pleatref15_Of.calls k _ _ l0_0 a0_1 _ _ l0_2 v1 b2 _ (Kd.C_below HC0.out HB.out) HL0.out (Kd.C_below HC2.out HB.out) HL2.out HV.out).mono ?_; rintro e w1 ⟨vv, rfl, hR, hb⟩; clear tok4; obtain ⟨Av, cv, rfl, hlv, hC⟩ := Kd.R_reads hR; have HC_v := Aside0.mk hC; have HLv := Aside0.mk hlv; clear hC hR hlv; replace BX := Aside0.mk (blk_below BX.out hb); replace BG := Aside0.mk (blk_below BG.out hb); replace BH := Aside0.mk (blk_below BH.out hb); replace BI := Aside0.mk (blk_below BI.out hb); replace BY := Aside0.mk (blk_below BY.out hb); replace HC_b := Aside0.mk (Kd.C_below HC_b.out hb); replace HT := Aside0.mk (HT.out.next hb); replace HC_c := Aside0.mk (Kd.C_below HC_c.out hb); replace HB := Aside0.mk (below_then HB.out HB.out.size hb); clear hb; (try clear hc_BX hf_BX); (try clear hc_BI hf_BI); have hc_BX := blk_cell BX.out; have hf_BX := blk_frozen BX.out; have hc_BI := blk_cell BI.out; have hf_BI := blk_frozen BI.out) | (go_at_call 11; have _ := tok5; refine (pleatref00_EqInts.calls k Ab cb b1 Av cv v1 true _ HC_b.out HLb.out HC_v.out HLv.out HQ.out).mono ?_; rintro e w1 ⟨rfl, hd⟩; have hb := hd.below; clear hd; clear tok5; replace BX := Aside0.mk (blk_below BX.out hb); replace BG := Aside0.mk (blk_below BG.out hb); replace BH := Aside0.mk (blk_below BH.out hb); replace BI := Aside0.mk (blk_below BI.out hb); replace BY := Aside0.mk (blk_below BY.out hb); replace HC_b := Aside0.mk (Kd.C_below HC_b.out hb); replace HT := Aside0.mk (HT.out.next hb); replace HC_c := Aside0.mk (Kd.C_below HC_c.out hb); replace HC_v := Aside0.mk (Kd.C_below HC_v.out hb); replace HB := Aside0.mk (below_then HB.out HB.out.size hb); clear hb; (try clear hc_BX hf_BX); (try clear hc_BI hf_BI); have hc_BX := blk_cell BX.out; have hf_BX := blk_frozen BX.out; have hc_BI := blk_cell BI.out; have hf_BI := blk_frozen BI.out) | (go_at_call 11; have _ := tok6; refine (pleatref00_EqInts.calls k Ac cc b1 Av cv v1 true _ HC_c.out HLc.out HC_v.out HLv.out HQ.out).mono ?_; rintro e w1 ⟨rfl, hd⟩; have hb := hd.below; clear hd; clear tok6; replace BX := Aside0.mk (blk_below BX.out hb); replace BG := Aside0.mk (blk_below BG.out hb); replace BH := Aside0.mk (blk_below BH.out hb); replace BI := Aside0.mk (blk_below BI.out hb); replace BY := Aside0.mk (blk_below BY.out hb); replace HC_b := Aside0.mk (Kd.C_below HC_b.out hb); replace HT := Aside0.mk (HT.out.next hb); replace HC_c := Aside0.mk (Kd.C_below HC_c.out hb); replace HC_v := Aside0.mk (Kd.C_below HC_v.out hb); replace HB := Aside0.mk (below_then HB.out HB.out.size hb); clear hb; (try clear hc_BX hf_BX); (try clear hc_BI hf_BI); have hc_BX := blk_cell BX.out; have hf_BX := blk_frozen BX.out; have hc_BI := blk_cell BI.out; have hf_BI := blk_frozen BI.out) | (go_at_call 12; have _ := tok7; refine (number_Same.calls k a1 a2 _ _ HS1.out.1).mono ?_; rintro e w1 ⟨rfl, hb⟩; clear tok7; replace BX := Aside0.mk (blk_below BX.out hb); replace BG := Aside0.mk (blk_below BG.out hb); replace BH := Aside0.mk (blk_below BH.out hb); replace BI := Aside0.mk (blk_below BI.out hb); replace BY := Aside0.mk (blk_below BY.out hb); replace HC_b := Aside0.mk (Kd.C_below HC_b.out hb); replace HT := Aside0.mk (HT.out.next hb); replace HC_c := Aside0.mk (Kd.C_below HC_c.out hb); replace HC_v := Aside0.mk (Kd.C_below HC_v.out hb); replace HB := Aside0.mk (below_then HB.out HB.out.size hb); clear hb; (try clear hc_BX hf_BX); (try clear hc_BI hf_BI); have hc_BX := blk_cell BX.out; have hf_BX := blk_frozen BX.out; have hc_BI := blk_cell BI.out; have hf_BI := blk_frozen BI.out) | (go_at_call 13; have _ := tok8; refine (pleatref15_Same.calls k a1 a2 _ _ HS1.out.2).mono ?_; rintro e w1 ⟨rfl, hb⟩; clear tok8; replace BX := Aside0.mk (blk_below BX.out hb); replace BG := Aside0.mk (blk_below BG.out hb); replace BH := Aside0.mk (blk_below BH.out hb); replace BI := Aside0.mk (blk_below BI.out hb); replace BY := Aside0.mk (blk_below BY.out hb); replace HC_b := Aside0.mk (Kd.C_below HC_b.out hb); replace HT := Aside0.mk (HT.out.next hb); replace HC_c := Aside0.mk (Kd.C_below HC_c.out hb); replace HC_v := Aside0.mk (Kd.C_below HC_v.out hb); replace HB := Aside0.mk (below_then HB.out HB.out.size hb); clear hb; (try clear hc_BX hf_BX); (try clear hc_BI hf_BI); have hc_BX := blk_cell BX.out; have hf_BX := blk_frozen BX.out; have hc_BI := blk_cell BI.out; have hf_BI := blk_frozen BI.out) | (go_at_call 12; have _ := tok9; refine (number_Same.calls k a1 a1 _ _ HS2.out.1).mono ?_; rintro e w1 ⟨rfl, hb⟩; clear tok9; replace BX := Aside0.mk (blk_below BX.out hb); replace BG := Aside0.mk (blk_below BG.out hb); replace BH := Aside0.mk (blk_below BH.out hb); replace BI := Aside0.mk (blk_below BI.out hb); replace BY := Aside0.mk (blk_below BY.out hb); replace HC_b := Aside0.mk (Kd.C_below HC_b.out hb); replace HT := Aside0.mk (HT.out.next hb); replace HC_c := Aside0.mk (Kd.C_below HC_c.out hb); replace HC_v := Aside0.mk (Kd.C_below HC_v.out hb); replace HB := Aside0.mk (below_then HB.out HB.out.size hb); clear hb; (try clear hc_BX hf_BX); (try clear hc_BI hf_BI); have hc_BX := blk_cell BX.out; have hf_BX := blk_frozen BX.out; have hc_BI := blk_cell BI.out; have hf_BI := blk_frozen BI.out) | (go_at_call 13; have _ := tok10; refine (pleatref15_Same.calls k a1 a1 _ _ HS2.out.2).mono ?_; rintro e w1 ⟨rfl, hb⟩; clear tok10; replace BX := Aside0.mk (blk_below BX.out hb); replace BG := Aside0.mk (blk_below BG.out hb); replace BH := Aside0.mk (blk_below BH.out hb); replace BI := Aside0.mk (blk_below BI.out hb); replace BY := Aside0.mk (blk_below BY.out hb); replace HC_b := Aside0.mk (Kd.C_below HC_b.out hb); replace HT := Aside0.mk (HT.out.next hb); replace HC_c := Aside0.mk (Kd.C_below HC_c.out hb); replace HC_v := Aside0.mk (Kd.C_below HC_v.out hb); replace HB := Aside0.mk (below_then HB.out HB.out.size hb); clear hb; (try clear hc_BX hf_BX); (try clear hc_BI hf_BI); have hc_BX := blk_cell BX.out; have hf_BX := blk_frozen BX.out; have hc_BI := blk_cell BI.out; have hf_BI := blk_frozen BI.out) | (go_at_call 14; have _ := tok11; refine (number_Count.calls _ _ l3 _ _ (wide_reads HN.out.2.2 BY.out) (Nat.le_add_right _ _) HK.out.1).mono ?_; rintro e w1 ⟨rfl, hb⟩; clear tok11; replace BX := Aside0.mk (blk_below BX.out hb); replace BG := Aside0.mk (blk_below BG.out hb); replace BH := Aside0.mk (blk_below BH.out hb); replace BI := Aside0.mk (blk_below BI.out hb); replace BY := Aside0.mk (blk_below BY.out hb); replace HC_b := Aside0.mk (Kd.C_below HC_b.out hb); replace HT := Aside0.mk (HT.out.next hb); replace HC_c := Aside0.mk (Kd.C_below HC_c.out hb); replace HC_v := Aside0.mk (Kd.C_below HC_v.out hb); replace HB := Aside0.mk (below_then HB.out HB.out.size hb); clear hb; (try clear hc_BX hf_BX); (try clear hc_BI hf_BI); have hc_BX := blk_cell BX.out; have hf_BX := blk_frozen BX.out; have hc_BI := blk_cell BI.out; have hf_BI := blk_frozen BI.out) | (go_at_call 15; have _ := tok12; refine (pleatref15_Count.calls k _ _ l3 _ _ (Kd.C_below HC3.out HB.out) HL3.out HK.out.2).mono ?_; rintro e w1 ⟨rfl, hd⟩; have hb := hd.below; clear hd; clear tok12; replace BX := Aside0.mk (blk_below BX.out hb); replace BG := Aside0.mk (blk_below BG.out hb); replace BH := Aside0.mk (blk_below BH.out hb); replace BI := Aside0.mk (blk_below BI.out hb); replace BY := Aside0.mk (blk_below BY.out hb); replace HC_b := Aside0.mk (Kd.C_below HC_b.out hb); replace HT := Aside0.mk (HT.out.next hb); replace HC_c := Aside0.mk (Kd.C_below HC_c.out hb); replace HC_v := Aside0.mk (Kd.C_below HC_v.out hb); replace HB := Aside0.mk (below_then HB.out HB.out.size hb); clear hb; (try clear hc_BX hf_BX); (try clear hc_BI hf_BI); have hc_BX := blk_cell BX.out; have hf_BX := blk_frozen BX.out; have hc_BI := blk_cell BI.out; have hf_BI := blk_frozen BI.out) | (go_at_call 16; have _ := tok13; refine (pleatref00_EqImage.calls k _ _ l0_0 a0_1 _ _ l0_2 _ _ l0_0 a0_1 _ _ l0_2 true _ (wide_reads HN.out.1 BG.out) (Nat.le_add_right _ _) (wide_reads HN.out.2.1 BH.out) (Nat.le_add_right _ _) (Kd.C_below HC0.out HB.out) HL0.out (Kd.C_below HC2.out HB.out) HL2.out HP.out).mono ?_; rintro e w1 ⟨rfl, hb⟩; clear tok13; replace BX := Aside0.mk (blk_below BX.out hb); replace BG := Aside0.mk (blk_below BG.out hb); replace BH := Aside0.mk (blk_below BH.out hb); replace BI := Aside0.mk (blk_below BI.out hb); replace BY := Aside0.mk (blk_below BY.out hb); replace HC_b := Aside0.mk (Kd.C_below HC_b.out hb); replace HT := Aside0.mk (HT.out.next hb); replace HC_c := Aside0.mk (Kd.C_below HC_c.out hb); replace HC_v := Aside0.mk (Kd.C_below HC_v.out hb); replace HB := Aside0.mk (below_then HB.out HB.out.size hb); clear hb; (try clear hc_BX hf_BX); (try clear hc_BI hf_BI); have hc_BX := blk_cell BX.out; have hf_BX := blk_frozen BX.out; have hc_BI := blk_cell BI.out; have hf_BI := blk_frozen BI.out) | (go_at_call 17; have _ := tok14; refine (spareImage_true _ _ 0 0 l0_0 l0_2 a0_1 _ BG.out BH.out HN.out.1 HN.out.2.1).mono ?_; rintro e w1 ⟨rfl, hb⟩; clear tok14; replace BX := Aside0.mk (blk_below BX.out hb); replace BG := Aside0.mk (blk_below BG.out hb); replace BH := Aside0.mk (blk_below BH.out hb); replace BI := Aside0.mk (blk_below BI.out hb); replace BY := Aside0.mk (blk_below BY.out hb); replace HC_b := Aside0.mk (Kd.C_below HC_b.out hb); replace HT := Aside0.mk (HT.out.next hb); replace HC_c := Aside0.mk (Kd.C_below HC_c.out hb); replace HC_v := Aside0.mk (Kd.C_below HC_v.out hb); replace HB := Aside0.mk (below_then HB.out HB.out.size hb); clear hb; (try clear hc_BX hf_BX); (try clear hc_BI hf_BI); have hc_BX := blk_cell BX.out; have hf_BX := blk_frozen BX.out; have hc_BI := blk_cell BI.out; have hf_BI := blk_frozen BI.out) | (go_at_call 11; have _ := tok15; refine (pleatref00_EqInts.calls k _ _ l3 _ _ l3 true _ (wide_reads HN.out.2.2 BY.out) (Nat.le_add_right _ _) (Kd.C_below HC3.out HB.out) HL3.out HP3.out).mono ?_; rintro e w1 ⟨rfl, hd⟩; have hb := hd.below; clear hd; clear tok15; replace BX := Aside0.mk (blk_below BX.out hb); replace BG := Aside0.mk (blk_below BG.out hb); replace BH := Aside0.mk (blk_below BH.out hb); replace BI := Aside0.mk (blk_below BI.out hb); replace BY := Aside0.mk (blk_below BY.out hb); replace HC_b := Aside0.mk (Kd.C_below HC_b.out hb); replace HT := Aside0.mk (HT.out.next hb); replace HC_c := Aside0.mk (Kd.C_below HC_c.out hb); replace HC_v := Aside0.mk (Kd.C_below HC_v.out hb); replace HB := Aside0.mk (below_then HB.out HB.out.size hb); clear hb; (try clear hc_BX hf_BX); (try clear hc_BI hf_BI); have hc_BX := blk_cell BX.out; have hf_BX := blk_frozen BX.out; have hc_BI := blk_cell BI.out; have hf_BI := blk_frozen BI.out) | (go_at_call 18; have _ := tok16; refine (spareInts_true _ l3.length _ _ BY.out HN.out.2.2 (fun i h1 h2 => wcs_mark _ _ _ _ h1 h2)).mono ?_; rintro e w1 ⟨rfl, hw⟩; clear tok16; subst hw; have hb := Below.refl w1.heap.size w1; replace BX := Aside0.mk (blk_below BX.out hb); replace BG := Aside0.mk (blk_below BG.out hb); replace BH := Aside0.mk (blk_below BH.out hb); replace BI := Aside0.mk (blk_below BI.out hb); replace BY := Aside0.mk (blk_below BY.out hb); replace HC_b := Aside0.mk (Kd.C_below HC_b.out hb); replace HT := Aside0.mk (HT.out.next hb); replace HC_c := Aside0.mk (Kd.C_below HC_c.out hb); replace HC_v := Aside0.mk (Kd.C_below HC_v.out hb); replace HB := Aside0.mk (below_then HB.out HB.out.size hb); clear hb; (try clear hc_BX hf_BX); (try clear hc_BI hf_BI); have hc_BX := blk_cell BX.out; have hf_BX := blk_frozen BX.out; have hc_BI := blk_cell BI.out; have hf_BI := blk_frozen BI.out; have HS := Aside0.mk (BagS.start (K := []) HB.out HT.out (fun p hp => (by cases hp)) (fun x hx p hp => (by cases hp)) #[.slice none 0 0, .slice none 0 0, .slice none 0 0, .slice none 0 0, .slice none 0 0, .slice none 0 0, .slice none 0 0, .slice none 0 0, .slice none 0 0, .slice none 0 0, .slice none 0 0, .slice none 0 0, .slice none 0 0, .slice none 0 0, .slice none 0 0, .slice none 0 0, .slice none 0 0] rfl (fun j hj => (by (repeat (rcases j with _ | j; first | rfl)); omega))); clear HT HC_b HC_c HC_v BX BI BG BH BY HB; (try clear hc_BX hf_BX hc_BI hf_BI)) | (go_at_call 19; have _ := tka0; refine (bagS_AddInts (w0 := w) HS.out (by omega)).mono ?_; rintro e w1 ⟨rfl, hs⟩; clear tka0 HS; have HS := Aside0.mk hs; clear hs) | (go_at_call 19; have _ := tka1; refine (bagS_AddInts (w0 := w) HS.out (by omega)).mono ?_; rintro e w1 ⟨rfl, hs⟩; clear tka1 HS; have HS := Aside0.mk hs; clear hs) | (go_at_call 20; refine (bagS_Apart (w0 := w) HS.out).mono ?_; rintro e w1 ⟨rfl, hb, _⟩; have HB := Aside0.mk hb; clear hb) | (go_at_call 6; refine (pleatlaw15_lives.calls k _ _ HH.out).mono ?_; rintro e w1 ⟨rfl, hb⟩; replace HB := Aside0.mk (below_then HB.out HB.out.size hb); clear hb))
        go_ret
        exact ⟨rfl, HB.out⟩
    · rw [if_neg hg] at h11; cases h11
end

end Go.Proofs.YtfgdjpgdabjpmaaDoor.PNumberOf
