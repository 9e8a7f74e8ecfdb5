-- The bag of lists: Longs. Own text.
import Derived.Test.YtfgdjpgdabjpmaaDoorBag1
namespace Go.Proofs.YtfgdjpgdabjpmaaDoor.Bag
open Go.RowKit Go.Proofs.YtfgdjpgdabjpmaaDoorW.PrintWords Go.Proofs.YtfgdjpgdabjpmaaDoorW.PrintLast Go.Proofs.YtfgdjpgdabjpmaaDoorW.PrintMore
set_option linter.unusedVariables false
set_option linter.unusedSimpArgs false
theorem infoB23 : (Tryd.prog.info? 23).map (fun i => (i.zero, i.size, i.bytes)) = some (some (.slice none 0 0), 1, 24) := by kernel_rfl
theorem infoB2 : (Tryd.prog.info? 2).map (fun i => (i.zero, i.size, i.bytes)) = some (some (.int .i64 0), 1, 8) := by kernel_rfl
set_option maxHeartbeats 4000000 in
set_option maxRecDepth 100000 in
theorem bagSome_apartLongs (gb rg m rc : Nat) (vs : Nat → Value) (ns : Nat → Nat) (xs : Nat → List Value) (w : World) (hB : BagAt 2 gb 4 rg m rc vs ns xs w) (hd : ∀ j k, j < m → k < m → j ≠ k → ∀ b, (vs k).ownBlock = some b → (vs j).ownBlock ≠ some b)
    (HQ : gb ≠ rg) (hgb : ∀ k, k < m → (vs k).ownBlock ≠ some gb) (hrg : ∀ k, k < m → (vs k).ownBlock ≠ some rg) (hm : m ≤ 300) (hns : ∀ k, k < m → ns k ≤ 1000000) :
    Calls Tryd.prog 51 #[.pointer (some ⟨gb, 0, none⟩)] w fun e w' => e = .returned (.bool true) ∧ FrmV vs m w w' := by
  have hu := Tryd.underlying59
  have HD := Lib.hid hd; have HG := Lib.hid hgb; have HR := Lib.hid hrg; have HN := Lib.hid hns; have HB := Aside0.mk (And.intro hB (FrmV.refl vs m w))
  clear hd hgb hrg hns hB
  go_enter Tryd.func51, Tryd.ntmps51
  go_wp2
  go_loopw [3] (fun v3 wr => ∃ (k : Nat) (cs : Nat → List Value), v3 = .int .i64 k ∧ k ≤ m ∧ Aside0 (BagAt 2 gb 4 rg m rc vs ns cs wr ∧ FrmV vs m w wr) ∧ Aside0 (∀ j, j < k → cs j = mks (fun i => [.int .i64 (mkI j i)]) (ns j))) (fun v3 _ => m - (intOf v3).toNat)
  case atStart => exact ⟨0, xs, rfl, by omega, HB, ⟨fun j hj => by omega⟩⟩
  case round =>
    clear HB
    obtain ⟨k, cs, rfl, hk, HB, HM⟩ := hrel
    have hc1 := HB.out.1.cell
    by_cases hlt : k < m
    · have hl1 : decide ((k : Int) < (m : Int)) = true := decide_eq_true (by omega)
      go_wp2
      go_loopw [4] (fun v4 wr => ∃ (i : Nat) (cs : Nat → List Value), v4 = .int .i64 i ∧ i ≤ ns k ∧ Aside0 (BagAt 2 gb 4 rg m rc vs ns cs wr ∧ FrmV vs m w wr) ∧ Aside0 (∀ j, j < k → cs j = mks (fun i => [.int .i64 (mkI j i)]) (ns j)) ∧ Aside0 (∀ i', i' < i → (cs k)[i']? = some (.int .i64 (mkI k i')))) (fun v4 _ => ns k - (intOf v4).toNat)
      case atStart => exact ⟨0, cs, rfl, by omega, HB, HM, ⟨fun i' hi => by omega⟩⟩
      case round =>
        clear HB HM hc1
        obtain ⟨i, cs, rfl, hi, HB, HM, HI⟩ := hrel
        have hc1 := HB.out.1.cell
        have hc2 := HB.out.1.at_ k hlt
        obtain ⟨n, hn⟩ : ∃ n : Nat, n = ns k := ⟨_, rfl⟩
        have hlm : decide (k < m) = true := decide_eq_true hlt
        by_cases hil : i < ns k
        · obtain ⟨g, cap, cur, evk, hbb, hcur, hncap⟩ : ∃ g cap cur, vs k = .slice (some ⟨g, 0, none⟩) (ns k) cap ∧ wr.heap[g]? = some (.cells cur 2 (0, 0)) ∧ cur.size = cap * 1 ∧ ns k ≤ cap := by
            rcases (HB.out.1.own k hlt).2 with ⟨_, q⟩ | ⟨b, cp, cur, q, _, hbb, q1, _, q2, _⟩
            · omega
            · exact ⟨b, cp, cur, q, hbb, q2, q1⟩
          have HS := Aside0.mk (And.intro (HB.out.1.drew.set (k := k) (i := i) hlt hil evk (fun hh => HG.out k hlt (by rw [evk, hh]; rfl)) (fun hh => HR.out k hlt (by rw [evk, hh]; rfl)) (fun j hj hjk => HD.out j k hj hlt hjk g (by rw [evk]; rfl)) (.int .i64 (mkI k i))) (FrmV.set HB.out.2.drew hlt evk i (.int .i64 (mkI k i))))
          have hlen := (HB.out.1.own k hlt).1
          rw [evk, ← hn] at hc2
          have hnn := Lib.hid hn
          rw [← hn] at hil hncap
          have hl2 : decide ((i : Int) < (n : Int)) = true := decide_eq_true (by omega)
          have hc3 := blk_cell hbb; have hf3 := blk_frozen hbb
          have hci : cur[i]? = some cur[i]! := by
            rw [Array.getElem!_eq_getD, Array.getD_eq_getD_getElem?, Array.getElem?_eq_getElem (by omega)]; rfl
          clear hn
          have hnk := HN.out k hlt
          have hi6 : i ≤ 1000000 := by omega
          have hk3 : k ≤ 300 := by omega
          have hnu := num_at k i hk3 (by omega)
          have Hwi := Lib.hid (wrapS i (by omega))
          have hli : i < (cs k).length := lt_len hlen hnn.out hil
          have hidx : (0 : Int) ≤ (i : Int) := by omega
          clear hnk hi6 hk3
          go_wp2
          refine wp_region_still_tail 12 (by kernel_rfl) (by kernel_rfl) ?_
          simp only [List.take_succ_cons, List.take_zero, List.drop_succ_cons, List.drop_zero]
          repeat still_step
          still_call (hnu _)
          repeat still_step
          refine wpStill_nil ?_
          clear hnu
          go_wp2
          (try rw [Hwi.out])
          refine ⟨⟨i + 1, _, rfl, by have := hnn.out; omega, HS, ⟨fun j hj => ?_⟩, ⟨fun i' hi' => ?_⟩⟩, by have := hnn.out; simp [intOf]; omega⟩
          · rw [if_neg (by omega)]; exact HM.out j hj
          · rw [if_pos rfl]
            by_cases e : i' = i
            · subst e; rw [List.getElem?_set_self hli]
            · rw [List.getElem?_set_ne (fun hh => e hh.symm)]; exact HI.out i' (by omega)
        · have hl2 : decide ((i : Int) < (ns k : Int)) = false := decide_eq_false (by omega)
          obtain ⟨Ak, ck, ek, hkc⟩ := own_form (HB.out.1.own k hlt)
          rw [ek, ← hn] at hc2
          rw [← hn] at hl2 hil
          have hii := Lib.hid (show i = ns k from by omega)
          clear hn hi
          go_wp2
          refine ⟨⟨k + 1, cs, rfl, by omega, HB, ⟨fun j hj => ?_⟩⟩, by simp [intOf]; omega⟩
          by_cases e : j = k
          · subst e
            have h1 := (HB.out.1.own j hlt).1
            apply List.ext_getElem (by rw [mks_one]; simp [h1])
            intro q h2 h3
            have h4 := HI.out q (by have := hii.out; omega)
            rw [List.getElem?_eq_getElem h2] at h4
            have h5 := Option.some.inj h4
            rw [h5]; simp [mks_one]
          · exact HM.out j (by omega)
    · have hl1 : decide ((k : Int) < (m : Int)) = false := decide_eq_false (by omega)
      go_wp2
      obtain ⟨ow, hS0⟩ := HB.out.1.start HB.out.2 HD.out HG.out HR.out HQ (mk := (fun k i => [.int .i64 (mkI k i)])) (E := 23) (fun j hj => HM.out j (by omega))
      have HS := Aside0.mk hS0
      clear hS0 HB HM hc1 hl1 hlt
      go_loopw [5, 6, 7] (fun v5 v6 v7 wr => ∃ (k : Nat) (os ms : Nat → Value) (ow : Nat → Nat) (A5 A6 : Option Addr) (c5 c6 : Nat), v7 = .int .i64 k ∧ v5 = .slice A5 k c5 ∧ v6 = .slice A6 k c6 ∧ k ≤ m ∧ Aside0 (ApS 2 23 1 (fun k i => [.int .i64 (mkI k i)]) gb 4 rg m rc vs ns k k (.slice A5 k c5) (.slice A6 k c6) os ms ow w wr)) (fun _ _ v7 _ => m - (intOf v7).toNat)
      case atStart => exact ⟨0, _, _, ow, none, none, 0, 0, rfl, rfl, rfl, by omega, HS⟩
      case round =>
        clear HS
        obtain ⟨k, os, ms, ow, A5, A6, c5, c6, rfl, rfl, rfl, hk, HS⟩ := hrel
        have hc1 := HS.out.bag.1
        by_cases hlt : k < m
        · have hl1 : decide ((k : Int) < (m : Int)) = true := decide_eq_true (by omega)
          have hc2 := (HS.out.row k hlt).1
          obtain ⟨Ak, ck, ek, hkc⟩ := own_form (HS.out.own k hlt).1
          obtain ⟨n, hn⟩ : ∃ n : Nat, n = ns k := ⟨_, rfl⟩
          have hlm : decide (k < m) = true := decide_eq_true hlt
          have hnk : n ≤ 1000000 := by rw [hn]; exact HN.out k hlt
          obtain ⟨c, hc⟩ : ∃ c : Nat, c = n + 70 := ⟨_, rfl⟩
          have hc70 : (n : Int) + 70 = (c : Int) := by omega
          have hcn := Lib.hid hc
          have hcm : c ≤ 9223372036854775807 := by omega
          have hby2 : (k + 1) * 24 ≤ 140737488355328 := by omega
          have HO := Aside0.mk (HS.out.own k hlt)
          rw [ek, ← hn] at HO
          rw [ek, ← hn] at hc2
          have Hn := Lib.hid hn; have He := Lib.hid ek
          clear hn ek hc
          go_wp2
          go_loopw [5, 8, 9] (fun v5 v8 v9 wr => ∃ (i k1 : Nat) (os : Nat → Value) (ow : Nat → Nat) (A8 A5 : Option Addr) (c8 c5 : Nat), v9 = .int .i64 i ∧ v8 = .slice A8 i c8 ∧ v5 = .slice A5 k1 c5 ∧ n ≤ i ∧ i ≤ c ∧ Aside0 (ApS 2 23 1 (fun k i => [.int .i64 (mkI k i)]) gb 4 rg m rc vs ns k1 k (.slice A5 k1 c5) (.slice A6 k c6) os ms ow w wr) ∧ Aside0 (Own ow (5 + k) 2 1 wr (.slice A8 i c8) i (mks (fun i => [.int .i64 (mkI k i)]) i)) ∧ Aside0 ((k1 = k ∧ i = ns k) ∨ (k1 = k + 1 ∧ ns k + 1 ≤ i))) (fun _ _ v9 _ => c - (intOf v9).toNat)
          case atStart => exact ⟨n, k, os, ow, _, _, _, _, rfl, rfl, rfl, by omega, by have := hcn.out; omega, HS, HO, ⟨.inl ⟨rfl, Hn.out⟩⟩⟩
          case round =>
            clear HS HO hc1 hc2
            obtain ⟨i, k1, os, ow, A8, A5, c8, c5, rfl, rfl, rfl, hni, hic, HS, HO, HK⟩ := hrel
            have hc1 := HS.out.bag.1
            have hc2 := (HS.out.row k hlt).1
            rw [He.out, ← Hn.out] at hc2
            by_cases hil : i < c
            · have hl2 : decide ((i : Int) < (c : Int)) = true := decide_eq_true (by omega)
              have Hk3 : k ≤ 300 := by omega
              have Hwi := Lib.hid (wrapS i (by have := hcn.out; omega))
              have hby : (i + 1) * 8 ≤ 140737488355328 := by omega
              have hni6 := Lib.hid (show ns k ≤ i from by have := Hn.out; omega)
              by_cases hin : i = n
              · have Hk1 := Lib.hid (show k1 = k from by have := HK.out; have := Hn.out; omega)
                have Hin := Lib.hid hin
                have hl3 : ((i : Int) == (n : Int)) = true := by simp [hin]
                have hby2 : (k1 + 1) * 24 ≤ 140737488355328 := by have := Hk1.out; omega
                clear hin
                go_wp2_with (first | (go_at_call 38; refine (num_at k i (by omega) (by omega) _).mono ?_; rintro e w' ⟨rfl, hw'⟩; obtain rfl := hw'.symm) | (at_builtin; refine keep_many rfl _ _ 23 2 (.int .i64 0) 1 8 rfl Tryd.underlying23 infoB2 rfl (by decide) (.slice A8 i c8) i _ [.int .i64 (mkI k i)] rfl (by simp [Value.oneCell']) rfl rfl ow (5 + k) HO.out (by decide) hby ?_; intro ow1 g1 cap1 w1 hs1 ho1 hr1; obtain ⟨HS1, HO1⟩ := app_next HS.out HO.out (fun _ _ => rfl) hs1 ho1 hr1 hni6.out HK.out; clear hs1 ho1 hr1 HS HO; have HS := Aside0.mk HS1; have HO := Aside0.mk HO1; clear HS1 HO1 hc1 hc2; have hc1 := HS.out.bag.1; have hc2 := (HS.out.row k hlt).1; rw [He.out, ← Hn.out] at hc2) | (at_builtin; refine keep_many rfl _ _ 45 23 (.slice none 0 0) 1 24 rfl Tryd.underlying45 infoB23 rfl (by decide) (.slice A5 k1 c5) k1 _ [.slice (some ⟨g1, 0, none⟩) (i + 1) cap1] rfl (by simp [Value.oneCell']) rfl rfl ow1 3 HS.out.one (by decide) hby2 ?_; intro ow2 g2 cap2 w2 hs2 ho2 hr2; obtain ⟨HS1, HO1⟩ := one_next HS.out HO.out Hk1.out (Hin.out.trans Hn.out) hs2 ho2; clear hs2 ho2 hr2 HS HO; have HS := Aside0.mk HS1; have HO := Aside0.mk HO1; clear HS1 HO1 hc1 hc2))
                exact ⟨⟨i + 1, k1 + 1, _, ow2, _, _, _, _, by go_num, rfl, rfl, by omega, by omega, HS, HO, ⟨.inr ⟨by rw [Hk1.out], by rw [Hin.out, Hn.out]; exact Nat.le_refl _⟩⟩⟩, ms_lt hil⟩
              · have hl3 : ((i : Int) == (n : Int)) = false := by simp; omega
                have HK2 := Lib.hid (rest_of HK.out (fun hh => hin (hh.trans Hn.out.symm)))
                clear HK; have HK := Aside0.mk (Or.inr HK2.out : (k1 = k ∧ i = ns k) ∨ (k1 = k + 1 ∧ ns k + 1 ≤ i))
                go_wp2_with (first | (go_at_call 38; refine (num_at k i (by omega) (by omega) _).mono ?_; rintro e w' ⟨rfl, hw'⟩; obtain rfl := hw'.symm) | (at_builtin; refine keep_many rfl _ _ 23 2 (.int .i64 0) 1 8 rfl Tryd.underlying23 infoB2 rfl (by decide) (.slice A8 i c8) i _ [.int .i64 (mkI k i)] rfl (by simp [Value.oneCell']) rfl rfl ow (5 + k) HO.out (by decide) hby ?_; intro ow1 g1 cap1 w1 hs1 ho1 hr1; obtain ⟨HS1, HO1⟩ := app_next HS.out HO.out (fun _ _ => rfl) hs1 ho1 hr1 hni6.out HK.out; clear hs1 ho1 hr1 HS HO; have HS := Aside0.mk HS1; have HO := Aside0.mk HO1; clear HS1 HO1 hc1 hc2; have hc1 := HS.out.bag.1; have hc2 := (HS.out.row k hlt).1; rw [He.out, ← Hn.out] at hc2))
                exact ⟨⟨i + 1, k1, os, ow1, _, _, _, _, by go_num, rfl, rfl, by omega, by omega, HS, HO, ⟨.inr ⟨HK2.out.1, Nat.le_succ_of_le HK2.out.2⟩⟩⟩, ms_lt hil⟩
            · have hl2 : decide ((i : Int) < (c : Int)) = false := decide_eq_false (by omega)
              have Hic := Lib.hid (show i = n + 70 from by have := hcn.out; omega)
              obtain rfl : k1 = k + 1 := (rest_of HK.out (by rw [Hic.out, Hn.out]; omega)).1
              go_wp2_with (at_builtin; refine keep_many rfl _ _ 45 23 (.slice none 0 0) 1 24 rfl Tryd.underlying45 infoB23 rfl (by decide) (.slice A6 k c6) k _ [.slice A8 i c8] rfl (by simp [Value.oneCell']) rfl rfl ow 4 HS.out.more (by decide) hby2 ?_; intro ow2 g2 cap2 w2 hs2 ho2 hr2; have HS1 := more_next HS.out HO.out (Hic.out.trans (by rw [← Hn.out])) hs2 ho2; clear hs2 ho2 hr2 HS HO; have HS := Aside0.mk HS1; clear HS1 hc1 hc2)
              exact ⟨⟨k + 1, os, _, ow2, _, _, _, _, by go_num, rfl, rfl, by omega, HS⟩, ms_lt hlt⟩
        · have hl1 : decide ((k : Int) < (m : Int)) = false := decide_eq_false (by omega)
          obtain rfl : m = k := by omega
          clear hlt hl1 hk
          have HW : Aside0 (wr = wr) := ⟨rfl⟩
          go_wp2_with (first | (go_at_call 38; refine (num_at k i (by omega) (by omega) _).mono ?_; rintro e w' ⟨rfl, hw'⟩; obtain rfl := hw'.symm))
          go_loopw [10] (fun v10 w2 => ∃ k : Nat, v10 = .int .i64 k ∧ k ≤ m ∧ w2 = wr) (fun v10 _ => m - (intOf v10).toNat)
          case atStart => exact ⟨0, rfl, by omega, rfl⟩
          case round =>
            obtain ⟨k, rfl, hk, rfl⟩ := hrel
            by_cases hlt : k < m
            · have hl1 : decide ((k : Int) < (m : Int)) = true := decide_eq_true (by omega)
              have hlm : decide (k < m) = true := decide_eq_true hlt
              have hc2 := (HS.out.row k hlt).1
              obtain ⟨Ak, ck, ek, hkc⟩ := own_form (HS.out.own k hlt).1
              obtain ⟨n, hn⟩ : ∃ n : Nat, n = ns k := ⟨_, rfl⟩
              have hnk : n ≤ 1000000 := by rw [hn]; exact HN.out k hlt
              have hc1 := HS.out.bag.1
              obtain ⟨g5, k5, e5, _, HC5⟩ := HS.out.one.at_ (by omega)
              injection e5 with e51 e52 e53
              subst e51; subst e53
              obtain ⟨g6, k6, e6, _, HC6⟩ := HS.out.more.at_ (by omega)
              injection e6 with e61 e62 e63
              subst e61; subst e63
              obtain ⟨go, co, eo, hoc, HCo⟩ := (HS.out.ones k hlt).at_ (by omega)
              obtain ⟨gm, cm, em, hmc, HCm⟩ := (HS.out.mores k hlt).at_ (by omega)
              have hc5 := HC5 k (os k) (by simp [hlt])
              have hc6 := HC6 k (ms k) (by simp [hlt])
              have HO := Aside0.mk (HS.out.own k hlt)
              rw [ek, ← hn] at HO
              rw [ek, ← hn] at hc2
              rw [eo, ← hn] at hc5
              rw [em, ← hn] at hc6
              have HXo := Aside0.mk HCo; have HXm := Aside0.mk HCm
              rw [← hn] at HXo HXm hoc hmc
              obtain ⟨c, hc⟩ : ∃ c : Nat, c = n + 70 := ⟨_, rfl⟩
              rw [← hc] at hc6 HXm hmc
              obtain ⟨d, hd⟩ : ∃ d : Nat, d = n + 1 := ⟨_, rfl⟩
              rw [← hd] at hc5 HXo hoc
              have Hcn := Lib.hid hc; have Hdn := Lib.hid hd
              have hnd : n < d := by omega
              have hcm : c ≤ 1000070 := by omega
              clear ek eo em hn hc hd HCo HCm HC5 HC6 e52 e62
              go_wp2_with (first | (go_at_call 38; refine (num_at k i (by omega) (by omega) _).mono ?_; rintro e w' ⟨rfl, hw'⟩; obtain rfl := hw'.symm))
              go_loopw [11] (fun v11 w3 => ∃ i : Nat, v11 = .int .i64 i ∧ i ≤ c ∧ w3 = wr) (fun v11 _ => c - (intOf v11).toNat)
              case atStart => exact ⟨0, rfl, by omega, rfl⟩
              case round =>
                obtain ⟨i, rfl, hi, rfl⟩ := hrel
                by_cases hil : i < c
                · have hl2 : decide ((i : Int) < (c : Int)) = true := decide_eq_true (by omega)
                  have hl2n : decide (i < c) = true := decide_eq_true hil
                  have hxm := HXm.out i _ (mks_get _ hil)
                  rcases Nat.lt_trichotomy i n with hin | hin | hin
                  · have hl3 : decide ((i : Int) < (n : Int)) = true := decide_eq_true (by omega)
                    have hl3n : decide (i < n) = true := decide_eq_true hin
                    have hl4 : ((i : Int) == (n : Int)) = false := by simp; omega
                    obtain ⟨gk, ck', ekk, hck, HCk⟩ := HO.out.at_ (by omega)
                    injection ekk with e1 e2 e3
                    subst e1; subst e3
                    have hxk := HCk i _ (mks_get _ hin)
                    clear HCk e2
                    go_wp2_with (first | (go_at_call 38; refine (num_at k i (by omega) (by omega) _).mono ?_; rintro e w' ⟨rfl, hw'⟩; obtain rfl := hw'.symm))
                    exact ⟨⟨i + 1, by go_num, by omega, trivial⟩, ms_lt hil⟩
                  · subst hin
                    have hl3 : decide ((i : Int) < (i : Int)) = false := decide_eq_false (by omega)
                    have hl4 : ((i : Int) == (i : Int)) = true := by simp
                    have hxo := HXo.out i _ (mks_get _ (by omega))
                    have hid : decide (i < d) = true := decide_eq_true (by omega)
                    have hid2 : decide ((i : Int) < (d : Int)) = true := decide_eq_true (by omega)
                    have hid3 : i < d := by omega
                    go_wp2_with (first | (go_at_call 38; refine (num_at k i (by omega) (by omega) _).mono ?_; rintro e w' ⟨rfl, hw'⟩; obtain rfl := hw'.symm))
                    exact ⟨⟨i + 1, by go_num, by omega, trivial⟩, ms_lt hil⟩
                  · have hl3 : decide ((i : Int) < (n : Int)) = false := decide_eq_false (by omega)
                    have hl4 : ((i : Int) == (n : Int)) = false := by simp; omega
                    go_wp2_with (first | (go_at_call 38; refine (num_at k i (by omega) (by omega) _).mono ?_; rintro e w' ⟨rfl, hw'⟩; obtain rfl := hw'.symm))
                    exact ⟨⟨i + 1, by go_num, by omega, trivial⟩, ms_lt hil⟩
                · have hl2 : decide ((i : Int) < (c : Int)) = false := decide_eq_false (by omega)
                  go_wp2_with (first | (go_at_call 38; refine (num_at k i (by omega) (by omega) _).mono ?_; rintro e w' ⟨rfl, hw'⟩; obtain rfl := hw'.symm))
                  exact ⟨⟨k + 1, by go_num, by omega, trivial⟩, ms_lt hlt⟩
            · have hl1 : decide ((k : Int) < (m : Int)) = false := decide_eq_false (by omega)
              go_wp2_with (first | (go_at_call 38; refine (num_at k i (by omega) (by omega) _).mono ?_; rintro e w' ⟨rfl, hw'⟩; obtain rfl := hw'.symm))
              go_ret
              exact ⟨rfl, HS.out.frm.1⟩
end Go.Proofs.YtfgdjpgdabjpmaaDoor.Bag
