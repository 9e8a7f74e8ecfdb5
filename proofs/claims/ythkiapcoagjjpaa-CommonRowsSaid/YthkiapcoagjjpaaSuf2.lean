-- The stable sort, walked. Own text.
import Derived.Test.YthkiapcoagjjpaaSuf1
namespace Go.Proofs.Ythkiapcoagjjpaa.Suf
open Go.RowKit Go.Proofs.YthkiapcoagjjpaaW.PrintWords Go.Proofs.YthkiapcoagjjpaaW.PrintLast Go.Proofs.YthkiapcoagjjpaaW.PrintMore
set_option linter.unusedVariables false
set_option linter.unusedSimpArgs false
section
variable {F : Nat} {caps : Array Value} {b : Nat} {key : Int → Int} {V : Int → Prop} {J : Nat → World → Prop} {D : List Int} {o : Nat}
set_option maxRecDepth 100000 in
set_option maxHeartbeats 4000000 in
theorem symM_mid (hC : Cmp F caps b key V J) (k : Nat) (IH0 : SymOk F caps b key V J D o k) (a m t : Nat) (d : List Int) (z cap : Nat) (W : World) (h : St b V J D o W d z) (h1 : a < m) (h2 : m < t) (h3 : t ≤ d.length) (hk : t - a ≤ k + 1) (hl : d.length ≤ 1000000) (c1 : ¬ m - a = 1) (c2 : ¬ t - m = 1) :
    Calls Try.prog 53 #[.slice (some ⟨b, o, none⟩) d.length cap, .int .i64 (a : Int), .int .i64 (m : Int), .int .i64 (t : Int), .func (.func F) #[] caps] W fun en W' => en = .returned (.tuple #[]) ∧ St b V J D o W' (symM key (k + 1) a m t d).1 (z + (symM key (k + 1) a m t d).2) := by
      have IH := Aside0.mk IH0
      clear IH0
      have HS := Aside0.mk h
      clear h
      have d0 : ((m : Int) - (a : Int) == 1) = false := by simp; omega
      have d1 : ((t : Int) - (m : Int) == 1) = false := by simp; omega
      · skip
        skip
        obtain ⟨mid, hmid⟩ : ∃ mid, mid = (a + t) / 2 := ⟨_, rfl⟩
        have hm1 : a < mid ∧ mid < t := by omega
        have HM := Aside0.mk (show ((a : Int) + (t : Int)) / 2 = (mid : Int) by omega)
        obtain ⟨P, hP⟩ : ∃ P : Nat → Bool, P = fun c => decide (¬ key (gt d (mid + m - 1 - c)) < key (gt d c)) := ⟨_, rfl⟩
        obtain ⟨st, hst⟩ : ∃ st, st = sFst a m t := ⟨_, rfl⟩
        obtain ⟨lt, hlt⟩ : ∃ lt, lt = sLst a m t := ⟨_, rfl⟩
        obtain ⟨pn, hpn⟩ : ∃ pn, pn = mid + m - 1 := ⟨_, rfl⟩
        obtain ⟨r, hr⟩ : ∃ r, r = bsr P (lt - st) st lt := ⟨_, rfl⟩
        have hrc : r = sCut key a m t d := by rw [hr, hst, hlt, hP, hmid]; rfl
        have hb1 : a ≤ st ∧ st ≤ lt ∧ lt ≤ m ∧ lt ≤ mid ∧ mid + m ≤ t + st := by
          rw [hst, hlt]; unfold sFst sLst
          by_cases hm : (a + t) / 2 < m
          · rw [if_pos hm, if_pos hm]; omega
          · rw [if_neg hm, if_neg hm]; omega
        have HV := Aside0.mk (symM_mid_eq (k := k) c1 c2 hrc hmid)
        have HSL : Aside0 (st = (if mid < m then mid + m - t else a) ∧ lt = (if mid < m then mid else m) ∧ (mid < m → t ≤ mid + m)) := ⟨⟨by rw [hst, hmid]; rfl, by rw [hlt, hmid]; rfl, by omega⟩⟩
        have HR := Aside0.mk hr; have HP := Aside0.mk hP; have HPN : Aside0 ((mid : Int) + (m : Int) - 1 = (pn : Int) ∧ pn = mid + m - 1) := ⟨by omega, hpn⟩
        clear hrc hr hst hlt hP hmid hpn
        go_enter Try.func53, Try.ntmps53
        go_upto_if 140 with fail
        simp only [HM.out]
        go_cut [20, 21] (fun v20 v21 wc => v20 = .int .i64 (st : Int) ∧ v21 = .int .i64 (lt : Int) ∧ wc = W)
        case first =>
          by_cases hm : mid < m
          · have d2 : decide ((mid : Int) < (m : Int)) = true := decide_eq_true (by omega)
            go_wp2
            go_meet
            have h9 := HSL.out
            rw [if_pos hm, if_pos hm] at h9
            have h8 := h9.2.2 hm
            exact ⟨(by first | rfl | (congr 1; omega)), (by first | rfl | (congr 1; omega)), rfl⟩
          · have d2 : decide ((mid : Int) < (m : Int)) = false := decide_eq_false (by omega)
            go_wp2
            go_meet
            have h9 := HSL.out
            rw [if_neg hm, if_neg hm] at h9
            exact ⟨(by first | rfl | (congr 1; omega)), (by first | rfl | (congr 1; omega)), rfl⟩
        case rest =>
          obtain ⟨rfl, rfl, rfl⟩ := hcut
          clear HSL
          go_wp2
          simp only [HPN.out.1]
          go_loopg [20, 21] (lt - st) (fun g v20 v21 wr => ∃ (i j z1 : Nat), v20 = .int .i64 i ∧ v21 = .int .i64 j ∧ st ≤ i ∧ i ≤ j ∧ j ≤ lt ∧ j - i ≤ g ∧ Aside0 ((bsr (P) g i j).1 = r.1 ∧ z1 + (bsr (P) g i j).2 = z + r.2) ∧ Aside0 (St b V J D o wr d z1))
          case atStart => exact ⟨st, lt, z, (by first | rfl | (congr 1; omega)), (by first | rfl | (congr 1; omega)), by omega, by omega, by omega, by omega, ⟨by rw [HR.out], by rw [HR.out]⟩, HS⟩
          case round =>
            clear HS
            obtain ⟨i, j, z1, rfl, rfl, hi1, hi2, hi3, hg, HF, HS⟩ := hrel
            by_cases c2 : i < j
            · obtain ⟨g, rfl⟩ : ∃ g, gk = g + 1 := ⟨gk - 1, by omega⟩
              have d2 : decide ((i : Int) < (j : Int)) = true := decide_eq_true (by omega)
              obtain ⟨hh, hhe⟩ : ∃ hh : Nat, hh = (i + j) / 2 := ⟨_, rfl⟩
              have hb1 : i ≤ hh ∧ hh < j := by omega
              have HHE := Aside0.mk hhe
              have HW := Aside0.mk (show ((i : Int) + (j : Int)) / 2 = (hh : Int) by omega)
              clear hhe
              obtain ⟨xn, hxn⟩ : ∃ xn, xn = pn - hh := ⟨_, rfl⟩
              have hxb : m ≤ xn ∧ xn < t := by have := HPN.out.2; omega
              have HX2 : (pn : Int) - (hh : Int) = (xn : Int) := by have := HPN.out.2; omega
              have HXN := Aside0.mk (show mid + m - 1 - hh = xn by have := HPN.out.2; omega)
              have w9 : IntKind.i64.wrap (xn : Int) = (xn : Int) := by rw [i64_w]; unfold wrap64; omega
              clear hxn
              have k1 : wr.cell? ⟨b, o + (xn), none⟩ = some (.int .i64 (gt d (xn))) := HS.out.dd.cell _ (by omega)
              have k2 : wr.cell? ⟨b, o + (hh), none⟩ = some (.int .i64 (gt d (hh))) := HS.out.dd.cell _ (by omega)
              have l1 : ((xn : Nat) : Int) < (d.length : Int) := by omega
              have l2 : ((hh : Nat) : Int) < (d.length : Int) := by omega
              have hu := hC.enters
              go_wp2
              simp only [HW.out]
              go_still_tail 11, (by kernel_rfl)
              go_wp2
              refine (hC.call z1 _ _ _ (hC.drew _ _ HS.out.j) (HS.out.all (xn) (by omega)) (HS.out.all (hh) (by omega))).mono ?_
              rintro en w3 ⟨rfl, hJ3, hk3⟩
              have HS3 : Aside0 (St b V J D o w3 d (z1 + 1)) := ⟨⟨HS.out.dd.drew.same hk3, HS.out.all, hJ3⟩⟩
              clear HS k1 k2 hJ3 hk3
              have hlt := cmp3_lt (key (gt d (xn))) (key (gt d (hh)))
              generalize cmp3 (key (gt d (xn))) (key (gt d (hh))) = cv at hlt ⊢
              by_cases c4 : key (gt d (xn)) < key (gt d (hh))
              · have d3 : decide (cv < 0) = true := by rw [hlt]; exact decide_eq_true c4
                have e3 := bsr_f (p := P) (k := g) c2 HHE.out (by rw [HP.out]; (try simp only [HXN.out]); simp; omega)
                have E3 := Aside0.mk e3
                clear hlt c4 e3
                go_wp2
                go_roundg g
                case measure => omega
                case rel => exact ⟨i, hh, z1 + 1, rfl, (by first | rfl | (congr 1; omega)), by omega, by omega, by omega, by omega, ⟨⟨by have h9 := HF.out.1; rw [E3.out] at h9; exact h9, by have h9 := HF.out.2; rw [E3.out] at h9; dsimp only at h9; omega⟩⟩, HS3⟩
              · have d3 : decide (cv < 0) = false := by rw [hlt]; exact decide_eq_false c4
                have e3 := bsr_t (p := P) (k := g) c2 HHE.out (by rw [HP.out]; (try simp only [HXN.out]); simp; omega)
                have E3 := Aside0.mk e3
                clear hlt c4 e3
                go_wp2
                go_roundg g
                case measure => omega
                case rel => exact ⟨hh + 1, j, z1 + 1, (by first | rfl | (congr 1; omega)), rfl, by omega, by omega, by omega, by omega, ⟨⟨by have h9 := HF.out.1; rw [E3.out] at h9; exact h9, by have h9 := HF.out.2; rw [E3.out] at h9; dsimp only at h9; omega⟩⟩, HS3⟩
            · have e3 : bsr (P) gk i j = (i, 0) := by
                cases gk with
                | zero => rfl
                | succ g => exact if_neg c2
              have d2 : decide ((i : Int) < (j : Int)) = false := decide_eq_false (by omega)
              have HI : Aside0 (i = r.1 ∧ z1 = z + r.2) := ⟨by have h9 := HF.out; rw [e3] at h9; exact h9⟩
              obtain rfl : i = j := by omega
              clear e3 c2 HF d2
              obtain ⟨en, hen⟩ : ∃ en, en = mid + m - i := ⟨_, rfl⟩
              have hb2 : m ≤ en ∧ en ≤ t ∧ i ≤ m ∧ i ≤ mid ∧ a ≤ i := by omega
              have HE := Aside0.mk (show (mid : Int) + (m : Int) - (i : Int) = (en : Int) by omega)
              have HEN := Aside0.mk hen
              clear hen hi1 hi2 hi3 hg
              go_upto_region 39 with fail
              simp only [HE.out]
              go_cut [185] (fun v wc => v = .bool (decide (i < m ∧ m < en)) ∧ wc = wr)
              case first =>
                as_aux_lemma =>
                  by_cases g1 : i < m
                  · have e1 : decide ((i : Int) < (m : Int)) = true := decide_eq_true (by omega)
                    by_cases g2 : m < en
                    · have e2 : decide ((m : Int) < (en : Int)) = true := decide_eq_true (by omega)
                      go_wp2
                      go_meet
                      exact ⟨by simp [g1, g2], rfl⟩
                    · obtain rfl : en = m := by omega
                      go_wp2
                      go_meet
                      exact ⟨by simp, rfl⟩
                  · obtain rfl : i = m := by omega
                    go_wp2
                    go_meet
                    exact ⟨by simp, rfl⟩
              case rest =>
              obtain ⟨rfl, rfl⟩ := hcut
              have hd1 := symR_len mid m i d
              obtain ⟨d1, hd1e⟩ : ∃ d1, d1 = symR mid m i d := ⟨_, rfl⟩
              rw [← hd1e] at hd1
              have HD1 := Aside0.mk hd1e
              clear hd1e
              go_upto_if 185 with fail
              go_cut [] (fun wc => Aside0 (St b V J D o wc d1 z1))
              case first =>
                as_aux_lemma =>
                  by_cases g1 : i < m ∧ m < en
                  · have e1 : decide (i < m ∧ m < en) = true := decide_eq_true g1
                    have hv : symR mid m i d = rtF (en - i) m (m - i) (en - m) d := by unfold symR; rw [← HEN.out, if_pos g1]
                    go_wp2_with (go_at_call 55; refine (rotate_calls hC i m en d z1 cap _ HS.out g1.1 g1.2 (by omega) (by omega) _ _ _ rfl rfl rfl _ rfl).mono ?_; rintro e2 w2 ⟨rfl, h2⟩; rw [← hv, ← HD1.out] at h2; have H2 := Aside0.mk h2; clear h2)
                    go_meet
                    exact H2
                  · have e1 : decide (i < m ∧ m < en) = false := decide_eq_false g1
                    have hv : d1 = d := by rw [HD1.out]; unfold symR; rw [← HEN.out, if_neg g1]
                    go_wp2
                    go_meet
                    rw [hv]; exact HS
              case rest =>
              have HS1 := hcut
              clear hcut HS
              go_upto_region 41 with fail
              go_cut [199] (fun v wx => v = .bool (decide (a < i ∧ i < mid)) ∧ wx = wc)
              case first =>
                as_aux_lemma =>
                  by_cases g1 : a < i
                  · have e1 : decide ((a : Int) < (i : Int)) = true := decide_eq_true (by omega)
                    by_cases g2 : i < mid
                    · have e2 : decide ((i : Int) < (mid : Int)) = true := decide_eq_true (by omega)
                      go_wp2
                      go_meet
                      exact ⟨by simp [g1, g2], rfl⟩
                    · obtain rfl : i = mid := by omega
                      go_wp2
                      go_meet
                      exact ⟨by simp, rfl⟩
                  · obtain rfl : a = i := by omega
                    go_wp2
                    go_meet
                    exact ⟨by simp, rfl⟩
              case rest =>
              obtain ⟨rfl, rfl⟩ := hcut
              obtain ⟨q1, hq1⟩ : ∃ q1, q1 = symQ key k a i mid d1 := ⟨_, rfl⟩
              have hq1l : q1.1.length = d.length := by rw [hq1, symQ_len, hd1]
              have HQ1 := Aside0.mk hq1
              clear hq1
              go_upto_if 199 with fail
              go_cut [] (fun wc => Aside0 (St b V J D o wc q1.1 (z1 + q1.2)))
              case first =>
                as_aux_lemma =>
                  by_cases g1 : a < i ∧ i < mid
                  · have e1 : decide (a < i ∧ i < mid) = true := decide_eq_true g1
                    have hv : q1 = symM key k a i mid d1 := HQ1.out.trans (if_pos g1)
                    go_wp2_with (go_at_call 53; refine (IH.out a i mid d1 z1 cap _ HS1.out g1.1 g1.2 (by omega) (by omega) (by omega) _ _ _ rfl rfl rfl _ hd1.symm).mono ?_; rintro e2 w2 ⟨rfl, h2⟩; rw [← hv] at h2; have H2 := Aside0.mk h2; clear h2)
                    go_meet
                    exact H2
                  · have e1 : decide (a < i ∧ i < mid) = false := decide_eq_false g1
                    have hv : q1 = (d1, 0) := HQ1.out.trans (if_neg g1)
                    go_wp2
                    go_meet
                    rw [hv]; exact HS1
              case rest =>
              have HS2 := hcut
              clear hcut HS1
              go_upto_region 43 with fail
              go_cut [213] (fun v wx => v = .bool (decide (mid < en ∧ en < t)) ∧ wx = wc)
              case first =>
                as_aux_lemma =>
                  by_cases g1 : mid < en
                  · have e1 : decide ((mid : Int) < (en : Int)) = true := decide_eq_true (by omega)
                    by_cases g2 : en < t
                    · have e2 : decide ((en : Int) < (t : Int)) = true := decide_eq_true (by omega)
                      go_wp2
                      go_meet
                      exact ⟨by simp [g1, g2], rfl⟩
                    · obtain rfl : en = t := by omega
                      go_wp2
                      go_meet
                      exact ⟨by simp, rfl⟩
                  · have hme : mid = en := by have := HEN.out; omega
                    have e1 : decide ((mid : Int) < (en : Int)) = false := decide_eq_false (by omega)
                    clear hme
                    go_wp2
                    go_meet
                    exact ⟨by simp [g1], rfl⟩
              case rest =>
              obtain ⟨rfl, rfl⟩ := hcut
              obtain ⟨q2, hq2⟩ : ∃ q2, q2 = symQ key k mid en t q1.1 := ⟨_, rfl⟩
              have HF2 : Aside0 (symM key (k + 1) a m t d = (q2.1, r.2 + q1.2 + q2.2)) := ⟨by
                rw [HV.out, ← HI.out.1, ← HEN.out, ← HD1.out, ← HQ1.out, ← hq2]⟩
              have HQ2 := Aside0.mk hq2
              clear hq2
              by_cases g1 : mid < en ∧ en < t
              · have e1 : decide (mid < en ∧ en < t) = true := decide_eq_true g1
                have hv : q2 = symM key k mid en t q1.1 := HQ2.out.trans (if_pos g1)
                go_wp2_with (go_at_call 53; refine (IH.out mid en t q1.1 (z1 + q1.2) cap _ HS2.out g1.1 g1.2 (by omega) (by omega) (by omega) _ _ _ rfl rfl rfl _ hq1l.symm).mono ?_; rintro e2 w2 ⟨rfl, h2⟩; rw [← hv] at h2; have H2 := Aside0.mk h2; clear h2)
                refine bodyPost_end (v := .tuple #[]) (by simp [results, Try.results53, go_sem]) rfl ?_
                rw [HF2.out]
                have h9 := H2.out
                rw [HI.out.2, Nat.add_assoc, Nat.add_assoc, ← Nat.add_assoc r.2] at h9
                exact ⟨rfl, h9⟩
              · have e1 : decide (mid < en ∧ en < t) = false := decide_eq_false g1
                have hv : q2 = (q1.1, 0) := HQ2.out.trans (if_neg g1)
                go_wp2
                refine bodyPost_end (v := .tuple #[]) (by simp [results, Try.results53, go_sem]) rfl ?_
                rw [HF2.out, hv]
                have h9 := HS2.out
                rw [HI.out.2, Nat.add_assoc] at h9
                exact ⟨rfl, h9⟩
theorem symM_step (hC : Cmp F caps b key V J) (k : Nat) (IH : SymOk F caps b key V J D o k) : SymOk F caps b key V J D o (k + 1) := by
  intro a m t d z cap W h h1 h2 h3 hk hl Ai Mi Ti ea em et n hn
  subst hn ea em et
  by_cases c1 : m - a = 1
  · exact symM_left hC k a m t d z cap W h h1 h2 h3 hk hl c1
  · by_cases c2 : t - m = 1
    · exact symM_right hC k a m t d z cap W h h1 h2 h3 hk hl c1 c2
    · exact symM_mid hC k IH a m t d z cap W h h1 h2 h3 hk hl c1 c2
theorem symM_calls (hC : Cmp F caps b key V J) : ∀ k, SymOk F caps b key V J D o k
  | 0 => fun a m t d z cap W h h1 h2 h3 hk hl Ai Mi Ti ea em et n hn => by omega
  | k + 1 => symM_step hC k (symM_calls hC k)
end
section
variable {F : Nat} {caps : Array Value} {b : Nat} {key : Int → Int} {V : Int → Prop} {J : Nat → World → Prop} {D : List Int} {o : Nat}
set_option maxRecDepth 100000 in
set_option maxHeartbeats 4000000 in
theorem stable_calls (hC : Cmp F caps b key V J) (d : List Int) (z cap : Nat) (W : World) (h : St b V J D o W d z) (hl : d.length ≤ 1000000) (n : Nat) (hn : n = d.length) (ni : Int) (hni : ni = (n : Int)) :
    Calls Try.prog 48 #[.slice (some ⟨b, o, none⟩) n cap, .int .i64 ni, .func (.func F) #[] caps] W fun en W' => en = .returned (.tuple #[]) ∧ St b V J D o W' (stab key d).1 (z + (stab key d).2) := by
  subst hn hni
  have HS := Aside0.mk h
  clear h
  obtain ⟨B, hB⟩ : ∃ B, B = blkF key (d.length + 1) 0 d.length d := ⟨_, rfl⟩
  have hBl : B.1.length = d.length := by rw [hB, blkF_len]
  have HB := Aside0.mk hB
  clear hB
  go_enter Try.func48, Try.ntmps48
  go_wp2
  go_loopg [7, 8] (d.length + 1) (fun g v7 v8 wr => ∃ (a z1 : Nat) (d1 : List Int), v7 = .int .i64 a ∧ v8 = .int .i64 ((a : Int) + 20) ∧ a ≤ d.length ∧ d.length < a + g * 20 ∧ d1.length = d.length ∧ Aside0 ((blkF key g a d.length d1).1 = B.1 ∧ z1 + (blkF key g a d.length d1).2 = z + B.2) ∧ Aside0 (St b V J D o wr d1 z1))
  case atStart => exact ⟨0, z, d, rfl, rfl, by omega, by omega, rfl, ⟨by rw [HB.out], by rw [HB.out]⟩, HS⟩
  case round =>
    clear HS
    obtain ⟨a, z1, d1, rfl, rfl, ha, hg, hl1, HF, HS⟩ := hrel
    obtain ⟨g, rfl⟩ : ∃ g, gk = g + 1 := ⟨gk - 1, by omega⟩
    by_cases c1 : a + 20 ≤ d.length
    · have d0 : decide ((a : Int) + 20 ≤ (d.length : Int)) = true := decide_eq_true (by omega)
      have e3 : blkF key (g + 1) a d.length d1 = ((blkF key g (a + 20) d.length (insSort key a (a + 20) d1).1).1, (insSort key a (a + 20) d1).2 + (blkF key g (a + 20) d.length (insSort key a (a + 20) d1).1).2) := by rw [blkF, if_pos c1]
      have hil := insSort_len key a (a + 20) d1
      have E3 := Aside0.mk e3
      clear e3
      go_wp2_with (go_at_call 52; refine (ins_calls hC a (a + 20) d1 z1 cap _ HS.out (by omega) (by omega) (by omega) _ _ rfl (by omega) _ hl1.symm).mono ?_; rintro e2 w2 ⟨rfl, h2⟩; have H2 := Aside0.mk h2; clear h2)
      go_roundg g
      case measure => omega
      case rel => exact ⟨a + 20, z1 + (insSort key a (a + 20) d1).2, (insSort key a (a + 20) d1).1, (by first | rfl | (congr 1; omega)), (by first | rfl | (congr 1; omega)), by omega, by omega, by omega, ⟨by have h9 := HF.out.1; rw [E3.out] at h9; exact h9, by have h9 := HF.out.2; rw [E3.out] at h9; dsimp only at h9; omega⟩, H2⟩
    · have d0 : decide ((a : Int) + 20 ≤ (d.length : Int)) = false := decide_eq_false (by omega)
      have e3 : blkF key (g + 1) a d.length d1 = insSort key a d.length d1 := by rw [blkF, if_neg c1]
      have E3 : Aside0 ((insSort key a d.length d1).1 = B.1 ∧ z1 + (insSort key a d.length d1).2 = z + B.2) := ⟨by have h9 := HF.out; rw [e3] at h9; exact h9⟩
      clear e3 HF
      go_wp2_with (go_at_call 52; refine (ins_calls hC a d.length d1 z1 cap _ HS.out (by omega) (by omega) (by omega) _ _ rfl rfl _ hl1.symm).mono ?_; rintro e2 w2 ⟨rfl, h2⟩; rw [E3.out.1, E3.out.2] at h2; have H2 := Aside0.mk h2; clear h2)
      clear HS c1 d0
      obtain ⟨R, hR⟩ : ∃ R, R = lvF key d.length d.length 20 B.1 := ⟨_, rfl⟩
      have HV : Aside0 (stab key d = (R.1, B.2 + R.2)) := ⟨by rw [hR, HB.out]; rfl⟩
      have HR := Aside0.mk hR
      clear hR
      go_loopg [6, 7, 8, 9] d.length (fun g v6 v7 v8 v9 wr => ∃ (y z1 : Nat) (d1 : List Int), v6 = .int .i64 y ∧ 0 < y ∧ y ≤ 2000000 ∧ d.length ≤ y + g ∧ d1.length = d.length ∧ Aside0 ((lvF key d.length g y d1).1 = R.1 ∧ z1 + (lvF key d.length g y d1).2 = z + B.2 + R.2) ∧ Aside0 (St b V J D o wr d1 z1))
      case atStart => exact ⟨20, z + B.2, B.1, rfl, by omega, by omega, by omega, hBl, ⟨by rw [HR.out], by rw [HR.out]⟩, H2⟩
      case round =>
        clear H2 HB
        obtain ⟨y, z1, d2, rfl, hy, hy2, hg2, hl2, HF, HS⟩ := hrel
        by_cases c2 : y < d.length
        · obtain ⟨g2, rfl⟩ : ∃ g2, gk = g2 + 1 := ⟨gk - 1, by omega⟩
          have d0 : decide ((y : Int) < (d.length : Int)) = true := decide_eq_true (by omega)
          obtain ⟨G, hG⟩ : ∃ G, G = mgF key y (d.length + 1) 0 d.length d2 := ⟨_, rfl⟩
          have hGl : G.1.length = d.length := by rw [hG, mgF_len, hl2]
          have e3 : lvF key d.length (g2 + 1) y d2 = ((lvF key d.length g2 (2 * y) G.1).1, G.2 + (lvF key d.length g2 (2 * y) G.1).2) := by rw [lvF, if_pos c2, hG]
          have E3 := Aside0.mk e3
          have HG := Aside0.mk hG
          clear e3 hG
          have hp : d.length < (d.length + 1) * (2 * y) := by have := Nat.le_mul_of_pos_right (d.length + 1) (m := 2 * y) (by omega); omega
          have HP := Aside0.mk hp
          clear hp
          go_wp2
          go_loopg [7, 8] (d.length + 1) (fun g v7 v8 wr => ∃ (a z2 : Nat) (d3 : List Int), v7 = .int .i64 a ∧ v8 = .int .i64 ((a : Int) + 2 * (y : Int)) ∧ a ≤ d.length ∧ Aside0 (d.length < a + g * (2 * y)) ∧ d3.length = d.length ∧ Aside0 ((mgF key y g a d.length d3).1 = G.1 ∧ z2 + (mgF key y g a d.length d3).2 = z1 + G.2) ∧ Aside0 (St b V J D o wr d3 z2))
          case atStart => exact ⟨0, z1, d2, rfl, (by first | rfl | (congr 1; omega)), by omega, ⟨by have := HP.out; omega⟩, hl2, ⟨by rw [HG.out], by rw [HG.out]⟩, HS⟩
          case round =>
            clear HS HG HP
            obtain ⟨a, z2, d3, rfl, rfl, ha, HGG, hl3, HF3, HS⟩ := hrel
            cases gk with
            | zero => exact absurd HGG.out (by omega)
            | succ g3 =>
              have HG4 : Aside0 (d.length < a + 2 * y + g3 * (2 * y)) := ⟨by have h9 := HGG.out; rw [Nat.succ_mul] at h9; omega⟩
              clear HGG
              by_cases c3 : a + 2 * y ≤ d.length
              · have d1 : decide ((a : Int) + 2 * (y : Int) ≤ (d.length : Int)) = true := decide_eq_true (by omega)
                have e4 : mgF key y (g3 + 1) a d.length d3 = ((mgF key y g3 (a + 2 * y) d.length (symM key (2 * y) a (a + y) (a + 2 * y) d3).1).1, (symM key (2 * y) a (a + y) (a + 2 * y) d3).2 + (mgF key y g3 (a + 2 * y) d.length (symM key (2 * y) a (a + y) (a + 2 * y) d3).1).2) := by rw [mgF, if_pos c3]
                have hsl := symM_len key (2 * y) a (a + y) (a + 2 * y) d3
                have E4 := Aside0.mk e4
                clear e4
                go_wp2_with (go_at_call 53; refine (symM_calls hC (2 * y) a (a + y) (a + 2 * y) d3 z2 cap _ HS.out (by omega) (by omega) (by omega) (by omega) (by omega) _ _ _ rfl (by omega) (by omega) _ hl3.symm).mono ?_; rintro e2 w2 ⟨rfl, h2⟩; have H2 := Aside0.mk h2; clear h2)
                go_roundg g3
                case measure => omega
                case rel => exact ⟨a + 2 * y, z2 + (symM key (2 * y) a (a + y) (a + 2 * y) d3).2, (symM key (2 * y) a (a + y) (a + 2 * y) d3).1, (by first | rfl | (congr 1; omega)), (by first | rfl | (congr 1; omega)), by omega, HG4, by omega, ⟨by have h9 := HF3.out.1; rw [E4.out] at h9; exact h9, by have h9 := HF3.out.2; rw [E4.out] at h9; dsimp only at h9; omega⟩, H2⟩
              · have d1 : decide ((a : Int) + 2 * (y : Int) ≤ (d.length : Int)) = false := decide_eq_false (by omega)
                by_cases c4 : a + y < d.length
                · have d2' : decide ((a : Int) + (y : Int) < (d.length : Int)) = true := decide_eq_true (by omega)
                  have e4 : mgF key y (g3 + 1) a d.length d3 = symM key (d.length - a) a (a + y) d.length d3 := by rw [mgF, if_neg c3, if_pos c4]
                  have E4 : Aside0 ((symM key (d.length - a) a (a + y) d.length d3).1 = G.1 ∧ z2 + (symM key (d.length - a) a (a + y) d.length d3).2 = z1 + G.2) := ⟨by have h9 := HF3.out; rw [e4] at h9; exact h9⟩
                  clear e4 HF3
                  go_wp2_with (go_at_call 53; refine (symM_calls hC (d.length - a) a (a + y) d.length d3 z2 cap _ HS.out (by omega) (by omega) (by omega) (by omega) (by omega) _ _ _ rfl (by omega) rfl _ hl3.symm).mono ?_; rintro e2 w2 ⟨rfl, h2⟩; rw [E4.out.1, E4.out.2] at h2; have H2 := Aside0.mk h2; clear h2)
                  go_roundg g2
                  case measure => omega
                  case rel => exact ⟨2 * y, z1 + G.2, G.1, (by first | rfl | (congr 1; omega)), by omega, by omega, by omega, hGl, ⟨by have h9 := HF.out.1; rw [E3.out] at h9; exact h9, by have h9 := HF.out.2; rw [E3.out] at h9; dsimp only at h9; omega⟩, H2⟩
                · have d2' : decide ((a : Int) + (y : Int) < (d.length : Int)) = false := decide_eq_false (by omega)
                  have e4 : mgF key y (g3 + 1) a d.length d3 = (d3, 0) := by rw [mgF, if_neg c3, if_neg c4]
                  have E4 : Aside0 (d3 = G.1 ∧ z2 = z1 + G.2) := ⟨by have h9 := HF3.out; rw [e4] at h9; exact h9⟩
                  clear e4 HF3
                  go_wp2
                  go_roundg g2
                  case measure => omega
                  case rel => exact ⟨2 * y, z1 + G.2, G.1, (by first | rfl | (congr 1; omega)), by omega, by omega, by omega, hGl, ⟨by have h9 := HF.out.1; rw [E3.out] at h9; exact h9, by have h9 := HF.out.2; rw [E3.out] at h9; dsimp only at h9; omega⟩, by rw [← E4.out.1, ← E4.out.2]; exact HS⟩
        · have d0 : decide ((y : Int) < (d.length : Int)) = false := decide_eq_false (by omega)
          have e3 : lvF key d.length gk y d2 = (d2, 0) := by
            cases gk with
            | zero => rfl
            | succ g2 => exact if_neg c2
          have E3 : Aside0 (d2 = R.1 ∧ z1 = z + B.2 + R.2) := ⟨by have h9 := HF.out; rw [e3] at h9; exact h9⟩
          clear e3 HF
          go_wp2
          refine bodyPost_end (v := .tuple #[]) (by simp [results, Try.results48, go_sem]) rfl ?_
          rw [HV.out]
          have h9 := HS.out
          rw [E3.out.1, E3.out.2, Nat.add_assoc] at h9
          exact ⟨rfl, h9⟩
set_option maxRecDepth 100000 in
set_option maxHeartbeats 4000000 in
theorem sortStable_calls (hC : Cmp F caps b key V J) (d : List Int) (z cap : Nat) (W : World) (h : St b V J D o W d z) (hl : d.length ≤ 1000000) (n : Nat) (hn : n = d.length) :
    Calls Try.prog 35 #[.slice (some ⟨b, o, none⟩) n cap, .func (.func F) #[] caps] W fun en W' => en = .returned (.tuple #[]) ∧ St b V J D o W' (stab key d).1 (z + (stab key d).2) := by
  subst hn
  have HS := Aside0.mk h
  clear h
  go_enter Try.func35, Try.ntmps35
  go_wp2_with (go_at_call 48; refine (stable_calls hC d z cap _ HS.out hl _ rfl _ rfl).mono ?_; rintro e2 w2 ⟨rfl, h2⟩; have H2 := Aside0.mk h2; clear h2)
  refine bodyPost_end (v := .tuple #[]) (by simp [results, Try.results35, go_sem]) rfl ?_
  exact ⟨rfl, H2.out⟩
end
end Go.Proofs.Ythkiapcoagjjpaa.Suf
