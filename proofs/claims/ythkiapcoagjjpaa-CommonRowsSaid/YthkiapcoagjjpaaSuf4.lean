-- The suffix array, walked. Own text.
import Derived.Test.YthkiapcoagjjpaaSuf2
import Derived.Test.YthkiapcoagjjpaaSuf3
namespace Go.Proofs.Ythkiapcoagjjpaa.Suf
open Go.RowKit Go.Proofs.YthkiapcoagjjpaaW.PrintWords Go.Proofs.YthkiapcoagjjpaaW.PrintLast Go.Proofs.YthkiapcoagjjpaaW.PrintMore
set_option linter.unusedVariables false
set_option linter.unusedSimpArgs false
/-! ### the suffix array -/
theorem infoSuf : (Try.prog.info? 3).map (fun i => (i.zero, i.size, i.bytes)) = some (some (.int .i64 0), 1, 8) := by kernel_rfl
theorem made_ints (n : Nat) : madeCells (#[.int .i64 0] : Array Value) n = (nums .i64 (List.replicate n 0)).toArray := by
  apply Array.ext
  · simp [madeCells, nums]
  · intro i h1 h2
    simp only [madeCells, nums, Array.getElem_map, List.getElem_toArray, List.getElem_map, List.getElem_replicate]
    simp [Nat.mod_one]
theorem make_ints (n : Nat) (hn : n ≤ 1000000) (W : World) : (Instr.makeSlice 31 (.int .i64 (n : Int)) (.int .i64 (n : Int))).run Try.prog W = .ok (.slice (some ⟨W.heap.size, 0, none⟩) n n) (W.alloc (.cells (nums .i64 (List.replicate n 0)).toArray 3)) := by
  obtain ⟨i, hi, hz, hs, hb⟩ : ∃ i, Try.prog.info? 3 = some i ∧ i.zero = some (.int .i64 0) ∧ i.size = 1 ∧ i.bytes = 8 := by
    have h := infoSuf
    cases hh : Try.prog.info? 3 with
    | none => rw [hh] at h; cases h
    | some i => rw [hh] at h; simp at h; exact ⟨i, rfl, h.1, h.2.1, h.2.2⟩
  have hr := run_make (P := Try.prog) W 31 3 i (.int .i64 0) Try.underlying31 hi hz .i64 .i64 (n : Int) (n : Int) (by omega) (Int.le_refl _) (by rw [hb]; omega) (by omega)
  rw [hs, Int.toNat_natCast, Nat.mul_one] at hr
  rw [hr, ← made_ints]
  rfl
theorem lay5 (W : World) (o1 o2 o3 o4 o5 : Obj) : (((((W.alloc o1).alloc o2).alloc o3).alloc o4).alloc o5).heap.size = W.heap.size + 1 + 1 + 1 + 1 + 1 ∧ (((((W.alloc o1).alloc o2).alloc o3).alloc o4).alloc o5).heap[W.heap.size]? = some o1 ∧ (((((W.alloc o1).alloc o2).alloc o3).alloc o4).alloc o5).heap[W.heap.size + 1]? = some o2 ∧
    (((((W.alloc o1).alloc o2).alloc o3).alloc o4).alloc o5).heap[W.heap.size + 1 + 1]? = some o3 ∧ (((((W.alloc o1).alloc o2).alloc o3).alloc o4).alloc o5).heap[W.heap.size + 1 + 1 + 1]? = some o4 ∧ (((((W.alloc o1).alloc o2).alloc o3).alloc o4).alloc o5).heap[W.heap.size + 1 + 1 + 1 + 1]? = some o5 ∧ Below W.heap.size W (((((W.alloc o1).alloc o2).alloc o3).alloc o4).alloc o5) := by
  have s1 : (W.alloc o1).heap.size = W.heap.size + 1 := by simp
  have s2 : ((W.alloc o1).alloc o2).heap.size = W.heap.size + 1 + 1 := by simp
  have s3 : (((W.alloc o1).alloc o2).alloc o3).heap.size = W.heap.size + 1 + 1 + 1 := by simp
  have s4 : ((((W.alloc o1).alloc o2).alloc o3).alloc o4).heap.size = W.heap.size + 1 + 1 + 1 + 1 := by simp
  refine ⟨by simp, blk_alloc (blk_alloc (blk_alloc (blk_alloc (blk_new W o1) o2) o3) o4) o5, ?_, ?_, ?_, ?_, ?_⟩
  · have := blk_alloc (blk_alloc (blk_alloc (blk_new (W.alloc o1) o2) o3) o4) o5
    rwa [s1] at this
  · have := blk_alloc (blk_alloc (blk_new ((W.alloc o1).alloc o2) o3) o4) o5
    rwa [s2] at this
  · have := blk_alloc (blk_new (((W.alloc o1).alloc o2).alloc o3) o4) o5
    rwa [s3] at this
  · have := blk_new ((((W.alloc o1).alloc o2).alloc o3).alloc o4) o5
    rwa [s4] at this
  · exact (((((Below.refl _ W).alloc (Nat.le_refl _) o1).alloc (by omega) o2).alloc (by omega) o3).alloc (by omega) o4).alloc (by omega) o5
theorem own_lt {b gr n : Nat} (h : b < gr) : some b ≠ (Value.slice (some ⟨gr, 0, none⟩) n n).ownBlock := fun e => by
  have e2 : some b = some gr := e
  cases e2
  omega
theorem own_gt {b gr n : Nat} (h : b < gr) : some gr ≠ (Value.slice (some ⟨b, 0, none⟩) n n).ownBlock := fun e => by
  have e2 : some gr = some b := e
  cases e2
  omega
def fillI (i n : Nat) : List Int := iota i ++ List.replicate (n - i) 0
theorem fillI_len {i n : Nat} (h : i ≤ n) : (fillI i n).length = n := by unfold fillI; rw [List.length_append, iota_len, List.length_replicate]; omega
theorem iota_succ (i : Nat) : iota (i + 1) = iota i ++ [(i : Int)] := by simp [iota, List.range_succ]
theorem fillI_set {i n : Nat} (h : i < n) : (fillI i n).set i (i : Int) = fillI (i + 1) n := by
  unfold fillI
  rw [iota_succ, List.set_append_right _ _ (by rw [iota_len]; exact Nat.le_refl _), iota_len, Nat.sub_self]
  obtain ⟨m, hm⟩ : ∃ m, n - i = m + 1 := ⟨n - i - 1, by omega⟩
  have hm2 : n - (i + 1) = m := by omega
  rw [hm, hm2, List.replicate_succ, List.set_cons_zero, List.append_assoc]
  rfl
theorem fillI_all (n : Nat) : fillI n n = iota n := by unfold fillI; simp
set_option maxRecDepth 100000 in
set_option maxHeartbeats 4000000 in
theorem suffix_Of.walk (A : Option Addr) (c : Nat) (l : List Int) (W : World) (hl : Kd.C (Kd.int .i64) W A l.length l) (hc : l.length ≤ c) (hn : l.length ≤ 1000000) (ra rk : List Int) (z : Nat) (h : ofF l = some (ra, rk, z)) :
    Calls Try.prog 19 #[.slice A l.length c] W fun e W' => ∃ v1 v2 : Value, e = .returned (.agg #[v1, v2, .int .i64 (wrap64 (z : Int))]) ∧ Kd.R (Kd.int .i64) 3 W' W.heap.size (fun k_ => some k_ ≠ (v2 : Value).ownBlock) v1 ra ∧ Kd.R (Kd.int .i64) 3 W' W.heap.size (fun k_ => some k_ ≠ (v1 : Value).ownBlock) v2 rk ∧ Below W.heap.size W W' := by
  have HL := Aside0.mk hl; have H := Aside0.mk h
  have hmk := make_ints l.length hn
  have hmf : ∀ (fn : Fn) (first cap : Array Value) (w : World), (Instr.makeFunc fn first cap).run Try.prog w = .ok (.func fn first cap) w := fun _ _ _ _ => rfl
  have hu42 := Try.underlying42
  have hu59 := Try.underlying59
  clear hl h
  go_enter Try.func19, Try.ntmps19
  go_wp2
  go_step3
  go_wp2
  have k := lay5 W (.cells #[.slice A l.length c] 31) (.cells #[.slice none 0 0, .slice none 0 0, .int .i64 0] 42) (.cells #[.int .i64 (l.length : Int)] 3) (.cells (nums .i64 (List.replicate l.length 0)).toArray 3) (.cells #[.slice (some ⟨W.heap.size + 1 + 1 + 1, 0, none⟩) l.length l.length, .slice none 0 0, .int .i64 0] 42)
  revert k
  generalize (((((W.alloc (.cells #[.slice A l.length c] 31)).alloc (.cells #[.slice none 0 0, .slice none 0 0, .int .i64 0] 42)).alloc (.cells #[.int .i64 (l.length : Int)] 3)).alloc (.cells (nums .i64 (List.replicate l.length 0)).toArray 3)).alloc (.cells #[.slice (some ⟨W.heap.size + 1 + 1 + 1, 0, none⟩) l.length l.length, .slice none 0 0, .int .i64 0] 42)) = W5
  intro k
  obtain ⟨ksz, k1, k2, k3, k4, k5, hB⟩ := k
  obtain ⟨n, hnn⟩ : ∃ n, n = l.length := ⟨_, rfl⟩
  rw [← hnn] at k1 k3 k4 k5 hmk hn hc
  generalize hgs : W.heap.size + 1 + 1 + 1 + 1 = gs at *
  generalize hb : W.heap.size + 1 + 1 + 1 = b at *
  generalize hg3 : W.heap.size + 1 + 1 = g3 at *
  generalize hg2 : W.heap.size + 1 = g2 at *
  rw [← hnn]
  have hB0 := Aside0.mk hB
  have K1 := Aside0.mk k1; have K3 := Aside0.mk k3; have K2 := Aside0.mk k2
  have e0 : wrap64 ((0 : Nat) : Int) = 0 := by unfold wrap64; omega
  have K5 : Aside0 (CntV W5 gs b n (.slice none 0 0) 0) := ⟨by unfold CntV; rw [e0]; exact k5⟩
  clear e0
  have K4 : Aside0 (Arr W5 b (fillI 0 n)) := ⟨by unfold fillI iota; simpa [Arr] using k4⟩
  have HORD : Aside0 (g2 = W.heap.size + 1 ∧ g3 = g2 + 1 ∧ b = g3 + 1 ∧ gs = b + 1 ∧ W5.heap.size = gs + 1) := ⟨by omega⟩
  clear hB k1 k2 k3 k4 k5 hgs hb hg3 hg2 ksz
  have HNN := Aside0.mk hnn
  clear hnn
  go_loopg [27] n (fun g v27 wr => ∃ i : Nat, v27 = .int .i64 i ∧ i + g = n ∧ Aside0 (Arr wr b (fillI i n)) ∧ Aside0 (Kept W5 wr (fun k => k = b)) ∧ Aside0 (Below W.heap.size W wr))
  case atStart => exact ⟨0, rfl, by omega, K4, ⟨Kept.refl _ _⟩, hB0⟩
  case round =>
    clear K4 hB0
    obtain ⟨i, rfl, hi, HA, HK, HB⟩ := hrel
    have hgs := blk_kept K5.out HK.out (by have := HORD.out; omega)
    have cs0 := (blk_three hgs).1
    cases gk with
    | succ g =>
      have hin : i < n := by omega
      have hin2 : (i : Int) < (n : Int) := by omega
      have d0 : decide ((i : Int) < (n : Int)) = true := decide_eq_true hin2
      have f6 := blk_frozen HA.out i
      have c6 := HA.out.cell i (by rw [fillI_len (by omega)]; exact hin)
      clear hgs
      go_wp2
      go_roundg g
      case measure => omega
      case rel => exact ⟨i + 1, (by first | rfl | (congr 1; omega)), by omega, ⟨by have h9 := HA.out.set i (i : Int); rw [fillI_set hin] at h9; exact h9⟩, ⟨HK.out.setCell (p := ⟨b, i, none⟩) (.inl rfl) _⟩, ⟨HB.out.setCell (p := ⟨b, i, none⟩) (by have := HORD.out; show W.heap.size ≤ b; omega) _⟩⟩
    | zero =>
      obtain rfl : n = i := by omega
      have HA2 : Aside0 (Arr wr b (iota n)) := ⟨by rw [← fillI_all]; exact HA.out⟩
      have HGS : Aside0 (CntV wr gs b n (.slice none 0 0) 0) := ⟨hgs⟩
      have HG1 := Aside0.mk (blk_kept K1.out HK.out (by have := HORD.out; omega))
      have HG2 := Aside0.mk (blk_kept K2.out HK.out (by have := HORD.out; omega))
      have HG3 := Aside0.mk (blk_kept K3.out HK.out (by have := HORD.out; omega))
      clear HA hgs K1 K2 K3 K5
      have hsz : gs < wr.heap.size := by have := HK.out.1; have := HORD.out; omega
      have HSZ := Aside0.mk hsz
      clear hsz
      go_upto_region 9 with fail
      obtain rfl := HNN.out
      have W7A := blk_alloc HA2.out (.cells #[.func (.func 34) #[] #[.pointer (some ⟨gs, 0, none⟩)]] 55)
      have W7S := blk_alloc HGS.out (.cells #[.func (.func 34) #[] #[.pointer (some ⟨gs, 0, none⟩)]] 55)
      have W71 := blk_alloc HG1.out (.cells #[.func (.func 34) #[] #[.pointer (some ⟨gs, 0, none⟩)]] 55)
      have W72 := blk_alloc HG2.out (.cells #[.func (.func 34) #[] #[.pointer (some ⟨gs, 0, none⟩)]] 55)
      have W73 := blk_alloc HG3.out (.cells #[.func (.func 34) #[] #[.pointer (some ⟨gs, 0, none⟩)]] 55)
      have W7C : IsCmp (wr.alloc (.cells #[.func (.func 34) #[] #[.pointer (some ⟨gs, 0, none⟩)]] 55)) wr.heap.size gs := blk_new wr _
      have W7B := HB.out.alloc HB.out.size (.cells #[.func (.func 34) #[] #[.pointer (some ⟨gs, 0, none⟩)]] 55)
      have W7Z : (wr.alloc (.cells #[.func (.func 34) #[] #[.pointer (some ⟨gs, 0, none⟩)]] 55)).heap.size = wr.heap.size + 1 := by simp
      have hszr := HSZ.out
      revert W7A W7S W71 W72 W73 W7C W7B W7Z hszr
      generalize (wr.alloc (.cells #[.func (.func 34) #[] #[.pointer (some ⟨gs, 0, none⟩)]] 55)) = W7
      generalize wr.heap.size = gc
      intro W7A W7S W71 W72 W73 W7C W7B W7Z hszr
      have HOR : Aside0 (g2 = W.heap.size + 1 ∧ g3 = g2 + 1 ∧ b = g3 + 1 ∧ gs = b + 1 ∧ gs < gc ∧ W7.heap.size = gc + 1) := ⟨by have := HORD.out; omega⟩
      have hE : Env W W7 (fun k => k = b) gs gc W.heap.size A c l := ⟨W71, hc, HL.out, W7B, W7C, by have := HOR.out; rintro k (rfl | rfl) <;> omega, by have := HOR.out; omega, by have := HOR.out; omega⟩
      have HE := Aside0.mk hE
      have hS7 : St b (InR l.length) (JJ W W7 (fun k => k = b) gs b l.length (.slice none 0 0)) (iota l.length) 0 W7 (iota l.length) 0 := ⟨Arr.dd W7A, allV_iota _, Kept.refl _ _, W7B, W7S⟩
      have HS7 := Aside0.mk hS7
      have HW71 := Aside0.mk W71; have HW72 := Aside0.mk W72; have HW73 := Aside0.mk W73; have HW7C := Aside0.mk W7C
      clear hE hS7 W7A W7S W71 W72 W73 W7C W7B W7Z hszr HSZ HORD HA2 HGS HG1 HG2 HG3 HB HK cs0 hi HNN
      obtain ⟨s1, hs1⟩ : ∃ s1, s1 = stab (keyL l) (iota l.length) := ⟨_, rfl⟩
      have hs1l : s1.1.length = l.length := by rw [hs1, stab_len, iota_len]
      have HS1 := Aside0.mk hs1
      have cs7 := (blk_three HS7.out.j.2.2).1
      clear hs1
      go_wp2_with (go_at_call 35; refine (sortStable_calls (cmpL_Cmp HE.out (by have := HOR.out; omega)) (iota l.length) 0 l.length _ HS7.out (by rw [iota_len]; exact hn) _ (iota_len _).symm).mono ?_; rintro e w8 ⟨rfl, h8⟩; rw [← HS1.out, Nat.zero_add] at h8; have H8 := Aside0.mk h8; clear h8)
      have H83 := Aside0.mk (blk_kept HW73.out H8.out.j.1 (by have := HOR.out; omega))
      have c83 := blk_one H83.out
      go_cut [7] (fun v7 wx => ∃ gq r0 r1 : Nat, v7 = .pointer (some ⟨gq, 0, none⟩) ∧ Aside0 (wx.heap[gq]? = some (.cells #[.slice (some ⟨r0, 0, none⟩) l.length l.length, .slice (some ⟨r1, 0, none⟩) l.length l.length] 59 (0, 0)) ∧ Arr wx r0 (List.replicate l.length 0) ∧ Arr wx r1 (List.replicate l.length 0) ∧ Below w8.heap.size w8 wx ∧ w8.heap.size ≤ r0 ∧ w8.heap.size ≤ r1 ∧ w8.heap.size ≤ gq ∧ r0 ≠ r1 ∧ r0 ≠ gq ∧ r1 ≠ gq ∧ r0 < w8.heap.size + 3 ∧ r1 < w8.heap.size + 3 ∧ gq < w8.heap.size + 3 ∧ wx.heap.size = w8.heap.size + 3))
      case first =>
        have hlt8 : g3 < w8.heap.size := World.block_lt_of_cell? w8 _ c83
        have c83a : ∀ o : Obj, (w8.alloc o).cell? ⟨g3, 0, none⟩ = some (.int .i64 (l.length : Int)) := fun o => by rw [World.cell?_of_block (heap_alloc_old w8 o hlt8)]; exact c83
        have c83b : ∀ o o' : Obj, ((w8.alloc o).alloc o').cell? ⟨g3, 0, none⟩ = some (.int .i64 (l.length : Int)) := fun o o' => by rw [World.cell?_of_block (heap_alloc_old (w8.alloc o) o' (by simp; omega))]; exact c83a o
        have a1 := alloc3_1 w8
        have a2 := alloc3_2 w8
        have a3 := alloc3_3 w8
        have a4 := alloc3_b w8
        have A1 := Aside0.mk a1; have A2 := Aside0.mk a2; have A3 := Aside0.mk a3; have A4 := Aside0.mk a4
        clear a1 a2 a3 a4
        go_region
        all_goals
          go_wp2_with fail
          go_meet
          first | exact ⟨w8.heap.size, w8.heap.size + 1, w8.heap.size + 1 + 1, rfl, ⟨A1.out _ _ _, A2.out _ _ _, A3.out _ _ _, A4.out _ _ _, by omega, by omega, by omega, by omega, by omega, by omega, by omega, by omega, by omega, by simp⟩⟩ | exact ⟨w8.heap.size, w8.heap.size + 1 + 1, w8.heap.size + 1, rfl, ⟨A1.out _ _ _, A3.out _ _ _, A2.out _ _ _, A4.out _ _ _, by omega, by omega, by omega, by omega, by omega, by omega, by omega, by omega, by omega, by simp⟩⟩ | exact ⟨w8.heap.size + 1, w8.heap.size, w8.heap.size + 1 + 1, rfl, ⟨A2.out _ _ _, A1.out _ _ _, A3.out _ _ _, A4.out _ _ _, by omega, by omega, by omega, by omega, by omega, by omega, by omega, by omega, by omega, by simp⟩⟩ | exact ⟨w8.heap.size + 1, w8.heap.size + 1 + 1, w8.heap.size, rfl, ⟨A2.out _ _ _, A3.out _ _ _, A1.out _ _ _, A4.out _ _ _, by omega, by omega, by omega, by omega, by omega, by omega, by omega, by omega, by omega, by simp⟩⟩ | exact ⟨w8.heap.size + 1 + 1, w8.heap.size, w8.heap.size + 1, rfl, ⟨A3.out _ _ _, A1.out _ _ _, A2.out _ _ _, A4.out _ _ _, by omega, by omega, by omega, by omega, by omega, by omega, by omega, by omega, by omega, by simp⟩⟩ | exact ⟨w8.heap.size + 1 + 1, w8.heap.size + 1, w8.heap.size, rfl, ⟨A3.out _ _ _, A2.out _ _ _, A1.out _ _ _, A4.out _ _ _, by omega, by omega, by omega, by omega, by omega, by omega, by omega, by omega, by omega, by simp⟩⟩
      case rest =>
        obtain ⟨gq, r0, r1, rfl, HC7⟩ := hcut
        clear c83
        go_upto_region 13 with fail
        obtain ⟨q1, q2, q3, q4, q5, q6, q7, q8, q9, q10, q11, q12, q13, q14⟩ := HC7.out
        have hJ8 := H8.out.j
        have W9A := blk_alloc (blk_below ((H8.out.dd.arr0 (hs1l.trans (iota_len _).symm))) q4) (.cells #[.int .i64 0] 3)
        have W9S := blk_alloc (blk_below hJ8.2.2 q4) (.cells #[.int .i64 0] 3)
        have W91 := blk_alloc (blk_below (blk_kept HW71.out hJ8.1 (by have := HOR.out; omega)) q4) (.cells #[.int .i64 0] 3)
        have W92 := blk_alloc (blk_below (blk_kept HW72.out hJ8.1 (by have := HOR.out; omega)) q4) (.cells #[.int .i64 0] 3)
        have W93 := blk_alloc (blk_below H83.out q4) (.cells #[.int .i64 0] 3)
        have W9C := blk_alloc (blk_below (blk_kept HW7C.out hJ8.1 (by have := HOR.out; omega)) q4) (.cells #[.int .i64 0] 3)
        have W9K := blk_alloc q1 (.cells #[.int .i64 0] 3)
        have W90 := blk_alloc q2 (.cells #[.int .i64 0] 3)
        have W9R := blk_alloc q3 (.cells #[.int .i64 0] 3)
        have W9N : IsNum (wc.alloc (.cells #[.int .i64 0] 3)) wc.heap.size 0 := blk_new wc _
        have W9B := (hJ8.2.1.trans (q4.mono hJ8.2.1.size)).alloc (hJ8.2.1.trans (q4.mono hJ8.2.1.size)).size (.cells #[.int .i64 0] 3)
        have W9Z : (wc.alloc (.cells #[.int .i64 0] 3)).heap.size = wc.heap.size + 1 := by simp
        have hk78 := hJ8.1.1
        revert W9A W9S W91 W92 W93 W9C W9K W90 W9R W9N W9B W9Z
        generalize (wc.alloc (.cells #[.int .i64 0] 3)) = W9
        obtain ⟨gn, hgn⟩ : ∃ gn, gn = wc.heap.size := ⟨_, rfl⟩
        rw [← hgn] at q14 ⊢
        intro W9A W9S W91 W92 W93 W9C W9K W90 W9R W9N W9B W9Z
        have HO9 : Aside0 (g2 = W.heap.size + 1 ∧ g3 = g2 + 1 ∧ b = g3 + 1 ∧ gs = b + 1 ∧ gs < gc ∧ gc < r0 ∧ gc < r1 ∧ gc < gq ∧ r0 ≠ r1 ∧ r0 ≠ gq ∧ r1 ≠ gq ∧ r0 < gn ∧ r1 < gn ∧ gq < gn ∧ W9.heap.size = gn + 1) := ⟨by have := HOR.out; omega⟩
        have hE9 : Env W W9 (fun k => k = r1) gs gc W.heap.size A c l := ⟨W91, hc, HL.out, W9B, W9C, by have := HO9.out; rintro k (rfl | rfl) <;> omega, by have := HO9.out; omega, by have := HO9.out; omega⟩
        have hJ9 : JJ W W9 (fun k => k = r1) gs b l.length (.slice none 0 0) s1.2 W9 := ⟨Kept.refl _ _, W9B, W9S⟩
        have hN9 := name_calls (cr := l.length) (sameL_Same (u := .slice none 0 0) (b := b) hE9 (by have := HO9.out; omega)) s1.1 (List.replicate l.length 0) s1.2 W9 hJ9 W9A hs1l (fun x hx => by have := H8.out.all x (by omega); exact this) W9R (by simp) hn W9K (.inl ⟨rfl, rfl⟩) W9N (by have := HO9.out; omega)
        have HN9 := Aside0.mk hN9
        obtain ⟨m1, hm1⟩ : ∃ m1, m1 = nmAll (fun i k => decide (keyL l i = keyL l k)) (fun _ _ => 1) s1.1 (List.replicate l.length 0) s1.2 := ⟨_, rfl⟩
        have HM1 := Aside0.mk hm1
        have V9A := Aside0.mk W9A; have V91 := Aside0.mk W91; have V92 := Aside0.mk W92; have V93 := Aside0.mk W93; have V9C := Aside0.mk W9C; have V9K := Aside0.mk W9K; have V90 := Aside0.mk W90; have V9N := Aside0.mk W9N
        have HAL := Aside0.mk H8.out.all
        clear hE9 hJ9 hN9 hm1 W9A W9S W91 W92 W93 W9C W9K W90 W9R W9N W9B W9Z hJ8 q1 q2 q3 q4 q5 q6 q7 q8 q9 q10 q11 q12 q13 q14 hk78 hgn HC7 H8 HW71 HW72 HW73 HW7C H83 HE HS7 HOR cs7
        go_wp2_with (go_at_call 37; refine HN9.out.mono ?_; rintro e w10 ⟨rfl, W1, rfl, hJ10, hR10, hK10⟩; rw [← HM1.out] at hJ10 hR10)
        rw [← HM1.out]
        have hDI : DI W (W1.setCell ⟨gn, 0, none⟩ (.int .i64 1)) W.heap.size g2 g3 gs gc gq gn b r0 r1 A c l.length s1.1 m1.1 (List.replicate l.length 0) r1 r0 1 m1.2.2 := by
          have o := HO9.out
          have hm1l : m1.1.length = l.length := by rw [HM1.out]; unfold nmAll; rw [nmF_len]; simp
          have hbn : (W1.setCell ⟨gn, 0, none⟩ (.int .i64 1)).heap.size = W1.heap.size := by simp [World.setCell]
          refine ⟨blk_far (blk_kept V91.out hK10 (by omega)) (by show W.heap.size ≠ gn; omega) _, blk_far (blk_kept V93.out hK10 (by omega)) (by show g3 ≠ gn; omega) _, blk_far (blk_kept V9C.out hK10 (by omega)) (by show gc ≠ gn; omega) _, blk_far (blk_kept V9K.out hK10 (by omega)) (by show gq ≠ gn; omega) _,
            blk_put (blk_kept V9N.out hK10 (by omega)) 0 _ rfl, blk_far (blk_kept V9A.out hK10 (by omega)) (by show b ≠ gn; omega) _, blk_far hR10 (by show r1 ≠ gn; omega) _, blk_far (blk_kept V90.out hK10 (by omega)) (by show r0 ≠ gn; omega) _, blk_far hJ10.2.2 (by show gs ≠ gn; omega) _, hJ10.2.1.setCell (by show W.heap.size ≤ gn; omega) _, HAL.out, hs1l, hm1l, by simp, .inr ⟨rfl, rfl, rfl⟩, by have := hK10.1; omega, blk_far (blk_kept V92.out hK10 (by omega)) (by show g2 ≠ gn; omega) _⟩
        have HDI := Aside0.mk hDI
        have hT := ofF_parts H.out
        rw [← HS1.out, ← HM1.out] at hT
        have HT := Aside0.mk hT
        have HO := Aside0.mk (show g2 = W.heap.size + 1 ∧ g3 = g2 + 1 ∧ b = g3 + 1 ∧ gs = b + 1 ∧ gs < gc ∧ gc < r0 ∧ gc < r1 ∧ gc < gq ∧ r0 ≠ r1 ∧ r0 ≠ gq ∧ r1 ≠ gq ∧ r0 < gn ∧ r1 < gn ∧ gq < gn by have := HO9.out; omega)
        clear hDI hT hJ10 hR10 hK10 HN9 V9A V91 V92 V93 V9C V9K V90 V9N HO9 HAL hs1l
        go_step3
        go_upto_block 2 with fail
        go_cut [] (fun wx => Aside0 (Arr wx b ra ∧ CntV wx gs b l.length (.slice none 0 0) z ∧ IsNum wx g3 (l.length : Int) ∧ Below W.heap.size W wx ∧ ra.length = l.length ∧ AllV (InR l.length) ra ∧ gn < wx.heap.size ∧ wx.heap[g2]? = some (.cells #[.slice none 0 0, .slice none 0 0, .int .i64 0] 42 (0, 0))))
        case first =>
         as_aux_lemma =>
          have hDI := HDI.out.alloc (.cells #[.int .i64 1] 3)
          have hsz1 : (W1.setCell ⟨gn, 0, none⟩ (.int .i64 1)).heap.size = W1.heap.size := by simp [World.setCell]
          have hST : IsNum ((W1.setCell ⟨gn, 0, none⟩ (.int .i64 1)).alloc (.cells #[.int .i64 1] 3)) W1.heap.size 1 := by have h9 := blk_new (W1.setCell ⟨gn, 0, none⟩ (.int .i64 1)) (.cells #[.int .i64 1] 3); rwa [hsz1] at h9
          have hgnl : gn < W1.heap.size := by have := HDI.out.sz; omega
          revert hDI hST hgnl
          generalize ((W1.setCell ⟨gn, 0, none⟩ (.int .i64 1)).alloc (.cells #[.int .i64 1] 3)) = wf
          generalize W1.heap.size = gst0
          intro hDI hST hgnl
          have HDI0 := Aside0.mk hDI; have HST0 := Aside0.mk hST; have HGN0 := Aside0.mk hgnl
          clear hDI hST hgnl hsz1 HDI
          go_wp2_with fail
          go_loopg [10, 11] l.length (fun k v10 v11 wr => ∃ (st : Nat) (A1 R1 O1 : List Int) (rR rO : Nat) (nw : Nat) (c1 : Int) (z1 gst : Nat), v10 = .int .i64 c1 ∧ v11 = .pointer (some ⟨gst, 0, none⟩) ∧ Aside0 (gn < gst) ∧ nw < 2 ∧ Aside0 (IsNum wr gst (st : Int)) ∧ Aside0 (DI W wr W.heap.size g2 g3 gs gc gq gn b r0 r1 A c l.length A1 R1 O1 rR rO (nw : Int) z1) ∧ Aside0 (dbT l.length k st A1 R1 O1 c1 z1 = some (ra, z)))
          case atStart => exact ⟨1, s1.1, m1.1, List.replicate l.length 0, r1, r0, 1, m1.2.1, m1.2.2, gst0, rfl, rfl, HGN0, by omega, HST0, HDI0, ⟨HT.out.1⟩⟩
          case round =>
            clear HDI0 HST0 HGN0
            obtain ⟨st, A1, R1, O1, rR, rO, nw, c1, z1, gst, rfl, rfl, HGN, hnw, HST, HDI, HTT⟩ := hrel
            have n3 := blk_one HDI.out.num
            by_cases hn0 : l.length = 0
            · have HE12 := Aside0.mk (dbT_zero HTT.out hn0)
              clear HTT
              obtain rfl : l = [] := List.length_eq_zero_iff.1 hn0
              have n3' : wr.cell? ⟨g3, 0, none⟩ = some (.int .i64 0) := n3
              clear n3 hn0
              go_wp2
              go_meet
              obtain ⟨e1, e2⟩ := HE12.out
              rw [← e1, ← e2]
              exact ⟨HDI.out.arr, HDI.out.cnt, HDI.out.num, HDI.out.bel, HDI.out.l1, HDI.out.all, HDI.out.sz, HDI.out.res⟩
            · have d0 : decide ((l.length : Int) > 0) = true := decide_eq_true (by omega)
              by_cases hc1 : c1 = (l.length : Int)
              · obtain ⟨e1, e2⟩ := dbT_end HTT.out hn0 hc1
                have HE12 := Aside0.mk (And.intro e1 e2)
                have d1 : (c1 == (l.length : Int)) = true := by simpa using hc1
                clear hc1 e1 e2
                go_wp2
                go_meet
                rw [← HE12.out.1, ← HE12.out.2]
                exact ⟨HDI.out.arr, HDI.out.cnt, HDI.out.num, HDI.out.bel, HDI.out.l1, HDI.out.all, HDI.out.sz, HDI.out.res⟩
              · obtain ⟨k', hk', hst, hstep⟩ := dbT_step HTT.out hn0 hc1
                subst hk'
                have HSTEP := Aside0.mk hstep; have HST6 := Aside0.mk hst
                have d1 : (c1 == (l.length : Int)) = false := by simpa using hc1
                have HN0 := Aside0.mk hn0
                have d1' : decide (c1 = (l.length : Int)) = false := decide_eq_false hc1
                clear hstep hst HTT hn0
                have hpos : 0 < l.length := by have := HN0.out; omega
                have hposb : decide (0 < l.length) = true := decide_eq_true hpos
                go_upto_region 18 with fail
                clear d1' hc1 d1 d0 hpos hposb
                have n8 := blk_one HDI.out.nw
                have nk : wr.cell? ⟨gq, nw, none⟩ = some (.slice (some ⟨rR, 0, none⟩) l.length l.length) := by
                  rcases HDI.out.sd with ⟨h0, h1, h2⟩ | ⟨h0, h1, h2⟩
                  · obtain rfl : nw = 0 := by omega
                    rw [h1]; exact (blk_cell HDI.out.rks 0).trans rfl
                  · obtain rfl : nw = 1 := by omega
                    rw [h1]; exact (blk_cell HDI.out.rks 1).trans rfl
                have hnw2 : (nw : Int) < 2 := by omega
                go_upto_region 21 with fail
                have k3 := lay3 wr (.cells #[.slice (some ⟨rR, 0, none⟩) l.length l.length] 31) (.cells #[.func (.func 39) #[] #[.pointer (some ⟨gst, 0, none⟩), .pointer (some ⟨g3, 0, none⟩), .pointer (some ⟨wr.heap.size, 0, none⟩)]] 46) (.cells #[.func (.func 40) #[] #[.pointer (some ⟨gc, 0, none⟩), .pointer (some ⟨wr.heap.size, 0, none⟩), .pointer (some ⟨wr.heap.size + 1, 0, none⟩)]] 55)
                have hD3 := ((HDI.out.alloc (.cells #[.slice (some ⟨rR, 0, none⟩) l.length l.length] 31)).alloc (.cells #[.func (.func 39) #[] #[.pointer (some ⟨gst, 0, none⟩), .pointer (some ⟨g3, 0, none⟩), .pointer (some ⟨wr.heap.size, 0, none⟩)]] 46)).alloc (.cells #[.func (.func 40) #[] #[.pointer (some ⟨gc, 0, none⟩), .pointer (some ⟨wr.heap.size, 0, none⟩), .pointer (some ⟨wr.heap.size + 1, 0, none⟩)]] 55)
                have hS3 := blk_alloc (blk_alloc (blk_alloc HST.out (.cells #[.slice (some ⟨rR, 0, none⟩) l.length l.length] 31)) (.cells #[.func (.func 39) #[] #[.pointer (some ⟨gst, 0, none⟩), .pointer (some ⟨g3, 0, none⟩), .pointer (some ⟨wr.heap.size, 0, none⟩)]] 46)) (.cells #[.func (.func 40) #[] #[.pointer (some ⟨gc, 0, none⟩), .pointer (some ⟨wr.heap.size, 0, none⟩), .pointer (some ⟨wr.heap.size + 1, 0, none⟩)]] 55)
                have hgstl : gst < wr.heap.size := blk_lt HST.out
                revert k3 hD3 hS3
                generalize (((wr.alloc (.cells #[.slice (some ⟨rR, 0, none⟩) l.length l.length] 31)).alloc (.cells #[.func (.func 39) #[] #[.pointer (some ⟨gst, 0, none⟩), .pointer (some ⟨g3, 0, none⟩), .pointer (some ⟨wr.heap.size, 0, none⟩)]] 46)).alloc (.cells #[.func (.func 40) #[] #[.pointer (some ⟨gc, 0, none⟩), .pointer (some ⟨wr.heap.size, 0, none⟩), .pointer (some ⟨wr.heap.size + 1, 0, none⟩)]] 55)) = w3
                generalize wr.heap.size = g12 at *
                intro k3 hD3 hS3
                generalize hg13 : g12 + 1 = g13 at *
                generalize hg14 : g13 + 1 = g14 at *
                have hrr : rR ≠ rO ∧ gc < rR ∧ gc < rO ∧ rR < gn ∧ rO < gn ∧ rR ≠ gq ∧ rO ≠ gq := by
                  have := HO.out
                  rcases hD3.sd with ⟨h0, h1, h2⟩ | ⟨h0, h1, h2⟩ <;> omega
                have HB := Aside0.mk (show g2 = W.heap.size + 1 ∧ g3 = g2 + 1 ∧ b = g3 + 1 ∧ gs = b + 1 ∧ gs < gc ∧ gc < gq ∧ rR ≠ rO ∧ gc < rR ∧ gc < rO ∧ rR < gn ∧ rO < gn ∧ rR ≠ gq ∧ rO ≠ gq ∧ gq < gn ∧ gn < gst ∧ gst < g12 ∧ g12 + 1 = g13 ∧ g13 + 1 = g14 by have := HO.out; have := HGN.out; omega)
                have hE2 : Env2 W w3 (fun k => k = b) gs gc g13 gst g3 g12 rR g14 R1 l.length st := ⟨hD3.cmp, k3.2.2.1, k3.2.2.2, hS3, hD3.num, k3.2.1, hD3.aR, hD3.l2, by have := HST6.out; omega, hn, hD3.bel, by have := HB.out; rintro k (rfl | rfl) <;> omega, by have := HB.out; omega, by have := HB.out; omega, by have := HB.out; omega, by have := HB.out; omega, by have := HB.out; omega, by have := HB.out; omega, by have := HB.out; omega⟩
                obtain ⟨r, hr⟩ : ∃ r, r = rwF R1 (bhd R1 l.length st) (l.length + 1) 0 A1 z1 := ⟨_, rfl⟩
                have HR := Aside0.mk hr; have HE2 := Aside0.mk hE2; have HD3 := Aside0.mk hD3; have HS3 := Aside0.mk hS3; have HK3 := Aside0.mk k3
                clear hr hE2 hD3 hS3 k3 hrr hg13 hg14 hgstl hnw2 nk n8 n3
                go_wp2
                go_loopg [15, 16] (l.length + 1) (fun g v15 v16 w4 => ∃ (fr : Nat) (A2 : List Int) (z2 : Nat), v15 = .int .i64 fr ∧ fr ≤ l.length ∧ l.length < fr + g ∧ A2.length = l.length ∧ Aside0 (rwF R1 (bhd R1 l.length st) g fr A2 z2 = r) ∧ Aside0 (Arr w4 b A2 ∧ AllV (InR l.length) A2 ∧ JJ W w3 (fun k => k = b) gs b l.length (.slice none 0 0) z2 w4))
                case atStart => exact ⟨0, A1, z1, rfl, by omega, by omega, HD3.out.l1, ⟨by rw [HR.out]⟩, ⟨HD3.out.arr, HD3.out.all, Kept.refl _ _, HD3.out.bel, HD3.out.cnt⟩⟩
                case round =>
                  obtain ⟨fr, A2, z2, rfl, hfr, hfg, hA2, HRW, HJ⟩ := hrel
                  obtain ⟨gR, rfl⟩ : ∃ gR, gk = gR + 1 := ⟨gk - 1, by omega⟩
                  have n4 := blk_one (blk_kept HD3.out.num HJ.out.2.2.1 (by have := HB.out; omega))
                  by_cases hf : fr < l.length
                  · have hf2 : (fr : Int) < (l.length : Int) := by omega
                    have d2 : decide ((fr : Int) < (l.length : Int)) = true := decide_eq_true hf2
                    obtain ⟨te, hte⟩ : ∃ te, te = rEnd R1 A2 fr A2.length (fr + 1) := ⟨_, rfl⟩
                    have HTE := Aside0.mk hte
                    clear hte
                    go_wp2
                    go_loopg [16] A2.length (fun gh v16 w5 => ∃ t : Nat, v16 = .int .i64 t ∧ fr < t ∧ t ≤ l.length ∧ l.length ≤ t + gh ∧ Aside0 (rEnd R1 A2 fr gh t = te) ∧ Aside0 (Arr w5 b A2 ∧ JJ W w3 (fun k => k = b) gs b l.length (.slice none 0 0) z2 w5))
                    case atStart => exact ⟨fr + 1, (by first | rfl | (congr 1; omega)), by omega, by omega, by omega, ⟨by rw [HTE.out]⟩, ⟨HJ.out.1, HJ.out.2.2⟩⟩
                    case round =>
                      obtain ⟨t, rfl, ht1, ht2, ht3, HTR, HJ5⟩ := hrel
                      have x5 := (blk_three HJ5.out.2.2.2).1
                      have n5 := blk_one (blk_kept HD3.out.num HJ5.out.2.1 (by have := HB.out; omega))
                      have m5 := blk_one (blk_kept HK3.out.2.1 HJ5.out.2.1 (by have := HB.out; omega))
                      have cf := HJ5.out.1.cell fr (by omega)
                      have hvf := HJ.out.2.1 fr (by omega)
                      obtain ⟨xf, hxf⟩ : ∃ xf : Nat, gt A2 fr = (xf : Int) := ⟨(gt A2 fr).toNat, by have := hvf.1; omega⟩
                      rw [hxf] at cf hvf
                      have hxf2 : (xf : Int) < (l.length : Int) := hvf.2
                      have hRk := HD3.out.aR.kept HJ5.out.2.1 (by have := HB.out; omega)
                      have cRf := hRk.cell xf (by have := HD3.out.l2; omega)
                      by_cases htn : t < l.length
                      · obtain ⟨gh, rfl⟩ : ∃ gh, gk = gh + 1 := ⟨gk - 1, by omega⟩
                        have htn2 : (t : Int) < (l.length : Int) := by omega
                        have d3 : decide ((t : Int) < (l.length : Int)) = true := decide_eq_true htn2
                        have ct := HJ5.out.1.cell t (by omega)
                        have hvt := HJ.out.2.1 t (by omega)
                        obtain ⟨xt, hxt⟩ : ∃ xt : Nat, gt A2 t = (xt : Int) := ⟨(gt A2 t).toNat, by have := hvt.1; omega⟩
                        rw [hxt] at ct hvt
                        have hxt2 : (xt : Int) < (l.length : Int) := hvt.2
                        have cRt := hRk.cell xt (by have := HD3.out.l2; omega)
                        by_cases heq : gt R1 xt = gt R1 xf
                        · have hre : rEnd R1 A2 fr (gh + 1) t = rEnd R1 A2 fr gh (t + 1) := by rw [rEnd, hxt, hxf, Int.toNat_natCast, Int.toNat_natCast, if_pos ⟨by omega, heq⟩]
                          have HTR2 : Aside0 (rEnd R1 A2 fr gh (t + 1) = te) := ⟨by rw [← hre]; exact HTR.out⟩
                          have d4 : (gt R1 xt == gt R1 xf) = true := by simpa using heq
                          clear hre heq HTR hxt hxf hvf hvt hRk
                          go_wp2
                          go_region
                          go_wp2
                          go_roundg gh
                          case measure => omega
                          case rel => exact ⟨t + 1, (by first | rfl | (congr 1; omega)), by omega, by omega, by omega, HTR2, ⟨HJ5.out.1, HJ5.out.2.drew⟩⟩
                        · have hre : rEnd R1 A2 fr (gh + 1) t = t := by rw [rEnd, hxt, hxf, Int.toNat_natCast, Int.toNat_natCast, if_neg (fun hh => heq hh.2)]
                          have HTR2 : Aside0 (t = te) := ⟨by rw [← hre]; exact HTR.out⟩
                          have d4 : (gt R1 xt == gt R1 xf) = false := by simpa using heq
                          clear hre heq HTR hxt hxf hvf hvt hRk
                          go_wp2
                          go_region
                          have htl : t ≤ A2.length := by omega
                          obtain ⟨D2, hD2⟩ : ∃ D2, D2 = cutL A2 fr t := ⟨_, rfl⟩
                          have hD2l : D2.length = t - fr := by rw [hD2]; exact cutL_len htl
                          obtain ⟨sr, hsr⟩ : ∃ sr, sr = stab (bhd R1 l.length st) D2 := ⟨_, rfl⟩
                          have hsrl : sr.1.length = t - fr := by rw [hsr, stab_len, hD2l]
                          have HS6 : Aside0 (St b (InR l.length) (JJ W w3 (fun k => k = b) gs b l.length (.slice none 0 0)) A2 fr wr.drew D2 z2) := ⟨by rw [hD2]; exact ⟨HJ5.out.1.cutDD (by omega) htl, allV_cut HJ.out.2.1 (by omega) htl, HJ5.out.2.drew⟩⟩
                          have HRW2 : Aside0 (rwF R1 (bhd R1 l.length st) gR t (spl A2 fr t sr.1) (z2 + sr.2 + (t - fr)) = r) := ⟨by rw [hsr, hD2, ← rwF_step (by omega) (HTR2.out.trans HTE.out)]; exact HRW.out⟩
                          have HSR := Aside0.mk hsr
                          have hw1 : wrap64 (wrap64 ((z2 + sr.2 : Nat) : Int) + ((t : Int) - (fr : Int))) = wrap64 ((z2 + sr.2 + (t - fr) : Nat) : Int) := wrap_add (z2 + sr.2) t fr (by omega)
                          have hw2 : IntKind.i64.wrap (wrap64 ((z2 + sr.2 : Nat) : Int) + ((t : Int) - (fr : Int))) = wrap64 ((z2 + sr.2 + (t - fr) : Nat) : Int) := by rw [i64_w]; exact hw1
                          obtain ⟨zA, hzA⟩ : ∃ zA, zA = wrap64 ((z2 + sr.2 : Nat) : Int) := ⟨_, rfl⟩
                          obtain ⟨zB, hzB⟩ : ∃ zB, zB = wrap64 ((z2 + sr.2 + (t - fr) : Nat) : Int) := ⟨_, rfl⟩
                          rw [← hzA, ← hzB] at hw1 hw2
                          have HZA := Aside0.mk hzA; have HZB := Aside0.mk hzB
                          clear hzA hzB hD2 hsr n5 m5 cf cRf n4
                          go_wp2_with (go_at_call 35; refine (sortStable_calls (cmpB_Cmp HE2.out (by have := HB.out; omega)) D2 z2 (l.length - fr) _ HS6.out (by omega) _ hD2l.symm).mono ?_; rintro e w6 ⟨rfl, h6⟩; rw [← HSR.out] at h6; have H6 := Aside0.mk h6; have hc6 : w6.heap[gs]? = some (.cells #[.slice (some ⟨b, 0, none⟩) l.length l.length, .slice none 0 0, .int .i64 zA] 42 (0, 0)) := (by rw [HZA.out]; exact h6.j.2.2); have y6 := (blk_three hc6).2.2; have f6 := blk_frozen hc6 2; clear h6 hc6)
                          go_roundg gR
                          case measure => omega
                          case rel =>
                            have hlow := HB.out
                            have hcz : CntV (w6.setCell ⟨gs, 2, none⟩ (.int .i64 zB)) gs b l.length (.slice none 0 0) (z2 + sr.2 + (t - fr)) := by rw [HZB.out]; exact blk_put H6.out.j.2.2 2 _ rfl
                            exact ⟨t, spl A2 fr t sr.1, z2 + sr.2 + (t - fr), rfl, by omega, by omega, by rw [spl_len (by omega) htl (by omega)]; exact hA2, HRW2, ⟨blk_far (H6.out.dd.spl (by omega) hsrl) (by show b ≠ gs; omega) _, allV_spl HJ.out.2.1 H6.out.all (by omega) htl hsrl, H6.out.j.1.setCell (p := ⟨gs, 2, none⟩) (.inl (.inr rfl)) _, H6.out.j.2.1.setCell (by show W.heap.size ≤ gs; omega) _, hcz⟩⟩
                      · have htn2 : ¬ (t : Int) < (l.length : Int) := by omega
                        have htl0 : t = l.length := by omega
                        have hre : rEnd R1 A2 fr gk t = t := by
                          cases gk with
                          | zero => rfl
                          | succ g => rw [rEnd, if_neg (by omega)]
                        have HTR2 : Aside0 (t = te) := ⟨by rw [← hre]; exact HTR.out⟩
                        have d3 : decide ((t : Int) < (l.length : Int)) = false := decide_eq_false htn2
                        have n5' : wr.cell? ⟨g3, 0, none⟩ = some (.int .i64 (t : Int)) := by rw [show (t : Int) = (l.length : Int) by omega]; exact n5
                        clear hre HTR hxf hvf hRk htn htl0 htn2 n5 d3
                        go_wp2
                        go_region
                        have htl : t ≤ A2.length := by omega
                        obtain ⟨D2, hD2⟩ : ∃ D2, D2 = cutL A2 fr t := ⟨_, rfl⟩
                        have hD2l : D2.length = t - fr := by rw [hD2]; exact cutL_len htl
                        obtain ⟨sr, hsr⟩ : ∃ sr, sr = stab (bhd R1 l.length st) D2 := ⟨_, rfl⟩
                        have hsrl : sr.1.length = t - fr := by rw [hsr, stab_len, hD2l]
                        have HS6 : Aside0 (St b (InR l.length) (JJ W w3 (fun k => k = b) gs b l.length (.slice none 0 0)) A2 fr wr.drew D2 z2) := ⟨by rw [hD2]; exact ⟨HJ5.out.1.cutDD (by omega) htl, allV_cut HJ.out.2.1 (by omega) htl, HJ5.out.2.drew⟩⟩
                        have HRW2 : Aside0 (rwF R1 (bhd R1 l.length st) gR t (spl A2 fr t sr.1) (z2 + sr.2 + (t - fr)) = r) := ⟨by rw [hsr, hD2, ← rwF_step (by omega) (HTR2.out.trans HTE.out)]; exact HRW.out⟩
                        have HSR := Aside0.mk hsr
                        have hw1 : wrap64 (wrap64 ((z2 + sr.2 : Nat) : Int) + ((t : Int) - (fr : Int))) = wrap64 ((z2 + sr.2 + (t - fr) : Nat) : Int) := wrap_add (z2 + sr.2) t fr (by omega)
                        have hw2 : IntKind.i64.wrap (wrap64 ((z2 + sr.2 : Nat) : Int) + ((t : Int) - (fr : Int))) = wrap64 ((z2 + sr.2 + (t - fr) : Nat) : Int) := by rw [i64_w]; exact hw1
                        obtain ⟨zA, hzA⟩ : ∃ zA, zA = wrap64 ((z2 + sr.2 : Nat) : Int) := ⟨_, rfl⟩
                        obtain ⟨zB, hzB⟩ : ∃ zB, zB = wrap64 ((z2 + sr.2 + (t - fr) : Nat) : Int) := ⟨_, rfl⟩
                        rw [← hzA, ← hzB] at hw1 hw2
                        have HZA := Aside0.mk hzA; have HZB := Aside0.mk hzB
                        clear hzA hzB hD2 hsr n5' m5 cf cRf n4
                        go_wp2_with (go_at_call 35; refine (sortStable_calls (cmpB_Cmp HE2.out (by have := HB.out; omega)) D2 z2 (l.length - fr) _ HS6.out (by omega) _ hD2l.symm).mono ?_; rintro e w6 ⟨rfl, h6⟩; rw [← HSR.out] at h6; have H6 := Aside0.mk h6; have hc6 : w6.heap[gs]? = some (.cells #[.slice (some ⟨b, 0, none⟩) l.length l.length, .slice none 0 0, .int .i64 zA] 42 (0, 0)) := (by rw [HZA.out]; exact h6.j.2.2); have y6 := (blk_three hc6).2.2; have f6 := blk_frozen hc6 2; clear h6 hc6)
                        go_roundg gR
                        case measure => omega
                        case rel =>
                          have hlow := HB.out
                          have hcz : CntV (w6.setCell ⟨gs, 2, none⟩ (.int .i64 zB)) gs b l.length (.slice none 0 0) (z2 + sr.2 + (t - fr)) := by rw [HZB.out]; exact blk_put H6.out.j.2.2 2 _ rfl
                          exact ⟨t, spl A2 fr t sr.1, z2 + sr.2 + (t - fr), rfl, by omega, by omega, by rw [spl_len (by omega) htl (by omega)]; exact hA2, HRW2, ⟨blk_far (H6.out.dd.spl (by omega) hsrl) (by show b ≠ gs; omega) _, allV_spl HJ.out.2.1 H6.out.all (by omega) htl hsrl, H6.out.j.1.setCell (p := ⟨gs, 2, none⟩) (.inl (.inr rfl)) _, H6.out.j.2.1.setCell (by show W.heap.size ≤ gs; omega) _, hcz⟩⟩
                  · have d2 : decide ((fr : Int) < (l.length : Int)) = false := decide_eq_false (by omega)
                    have hre : r = (A2, z2) := by rw [← HRW.out]; exact rwF_end (by omega)
                    have hk := HJ.out.2.2.1
                    have hsd := HD3.out.sd
                    have hE3 : Env2 W wr (fun k => k = rO) gs gc g13 gst g3 g12 rR g14 R1 l.length st := by
                      have o := HB.out
                      have E := HE2.out
                      exact ⟨blk_kept E.cmp hk (by omega), blk_kept E.beh hk (by omega), blk_kept E.two hk (by omega), blk_kept E.nst hk (by omega), blk_kept E.num hk (by omega), blk_kept E.row hk (by omega), E.arr.kept hk (by omega), E.len, E.st9, E.n6, HJ.out.2.2.2.1, by rintro k (rfl | rfl) <;> omega, by omega, by omega, by omega, by omega, by omega, by omega, by omega⟩
                    have hJ3 : JJ W wr (fun k => k = rO) gs b l.length (.slice none 0 0) z2 wr := ⟨Kept.refl _ _, HJ.out.2.2.2.1, HJ.out.2.2.2.2⟩
                    have hN := name_calls (cr := l.length) (same2_Same (u := .slice none 0 0) (b := b) hE3 (by have := HB.out; omega)) A2 O1 z2 wr hJ3 HJ.out.1 hA2 (fun x hx => HJ.out.2.1 x (by omega)) (HD3.out.aO.kept hk (by have := HB.out; omega)) HD3.out.l3 hn (blk_kept HD3.out.rks hk (by have := HB.out; omega))
                      (now := (nw : Int)) (by rcases hsd with ⟨h0, h1, h2⟩ | ⟨h0, h1, h2⟩; exact .inl ⟨h0, by rw [h2]⟩; exact .inr ⟨h0, by rw [h2]⟩) (blk_kept HD3.out.nw hk (by have := HB.out; omega)) (by have := HB.out; omega)
                    obtain ⟨m, hm⟩ : ∃ m, m = nmAll (sm2 R1 l.length st) (cs2 R1) A2 O1 z2 := ⟨_, rfl⟩
                    rw [← hm] at hN
                    have hml : m.1.length = l.length := by rw [hm]; unfold nmAll; rw [nmF_len]; exact HD3.out.l3
                    have hdb := HSTEP.out r m HR.out (by rw [hre]; exact hm)
                    rw [hre] at hdb
                    have HN := Aside0.mk hN; have HDB := Aside0.mk hdb; have HML := Aside0.mk hml; have HSD := Aside0.mk hsd; have HKK := Aside0.mk hk
                    clear hre hk hsd hE3 hJ3 hN hm hml hdb HRW hfg
                    go_wp2_with (go_at_call 37; refine HN.out.mono ?_; rintro e w10 ⟨rfl, W1, rfl, hJ10, hR10, hK10⟩; have cst : (W1.setCell ⟨gn, 0, none⟩ (.int .i64 (1 - (nw : Int)))).cell? ⟨gst, 0, none⟩ = some (.int .i64 (st : Int)) := blk_one (blk_far (blk_kept (blk_kept HS3.out HKK.out (by have := HB.out; omega)) hK10 (by have := HB.out; omega)) (by have := HB.out; show gst ≠ gn; omega) _); have HJA := Aside0.mk hJ10; have HRA := Aside0.mk hR10; have HKA := Aside0.mk hK10; clear hJ10 hR10 hK10)
                    go_roundg k'
                    case measure => omega
                    case rel =>
                      have hgw : gn < W1.heap.size := by have h1 := HD3.out.sz; have h2 := HKK.out.1; have h3 := HKA.out.1; omega
                      exact ⟨2 * st, A2, m.1, R1, rO, rR, 1 - nw, m.2.1, m.2.2, W1.heap.size, rfl, rfl, ⟨hgw⟩, by omega, ⟨num_next HST6.out⟩, ⟨(DI.next HD3.out HKK.out HKA.out HJ.out.1 HJ.out.2.1 hA2 HRA.out HML.out HJA.out hnw HB.out).alloc _⟩, HDB⟩
        case rest =>
         as_aux_lemma =>
          have HC := hcut
          clear hcut HDI
          obtain ⟨c1, c2, c3, c4, c5, c6, c7, c8⟩ := HC.out
          have n3 := blk_one c3
          have e1 := (blk_three c2)
          have f1 := blk_frozen c2
          obtain ⟨x1, x2, x3⟩ := e1
          have hg3l : g3 < wc.heap.size := blk_lt c3
          have hgsl : gs < wc.heap.size := blk_lt c2
          have x2' : ∀ o : Obj, (wc.alloc o).cell? ⟨gs, 1, none⟩ = some (.slice none 0 0) := fun o => by rw [World.cell?_of_block (heap_alloc_old wc o hgsl)]; exact x2
          have f1' : ∀ o : Obj, (wc.alloc o).frozen? ⟨gs, 1, none⟩ = false := fun o => blk_frozen (blk_alloc c2 o) 1
          have n3' : ∀ o : Obj, (wc.alloc o).cell? ⟨g3, 0, none⟩ = some (.int .i64 (l.length : Int)) := fun o => by rw [World.cell?_of_block (heap_alloc_old wc o hg3l)]; exact n3
          clear c1 c2 c3 c4 c5 c6 c7 c8 x1 x2 x3 f1
          go_upto_region 33 with fail
          obtain ⟨c1, c2, c3, c4, c5, c6, c7, c8⟩ := HC.out
          have hlow := HO.out
          have T1 : (Arr ((wc.setCell ⟨gs, 1, none⟩ (.slice (some ⟨wc.heap.size, 0, none⟩) l.length l.length)).alloc (.cells (nums .i64 (List.replicate l.length 0)).toArray 3)) b ra) := blk_alloc (blk_far c1 (by show b ≠ gs; omega) _) _
          have T2 : CntV ((wc.setCell ⟨gs, 1, none⟩ (.slice (some ⟨wc.heap.size, 0, none⟩) l.length l.length)).alloc (.cells (nums .i64 (List.replicate l.length 0)).toArray 3)) gs b l.length (.slice (some ⟨wc.heap.size, 0, none⟩) l.length l.length) z := blk_alloc (blk_put c2 1 _ rfl) _
          have T3 : Arr ((wc.setCell ⟨gs, 1, none⟩ (.slice (some ⟨wc.heap.size, 0, none⟩) l.length l.length)).alloc (.cells (nums .i64 (List.replicate l.length 0)).toArray 3)) wc.heap.size (List.replicate l.length 0) := by have h9 := blk_new (wc.setCell ⟨gs, 1, none⟩ (.slice (some ⟨wc.heap.size, 0, none⟩) l.length l.length)) (.cells (nums .i64 (List.replicate l.length 0)).toArray 3); rwa [show (wc.setCell ⟨gs, 1, none⟩ (.slice (some ⟨wc.heap.size, 0, none⟩) l.length l.length)).heap.size = wc.heap.size by simp [World.setCell]] at h9
          have T4 : Below W.heap.size W ((wc.setCell ⟨gs, 1, none⟩ (.slice (some ⟨wc.heap.size, 0, none⟩) l.length l.length)).alloc (.cells (nums .i64 (List.replicate l.length 0)).toArray 3)) := (c4.setCell (by show W.heap.size ≤ gs; omega) _).alloc (by have := c4.size; simpa [World.setCell] using this) _
          have T8 : ((wc.setCell ⟨gs, 1, none⟩ (.slice (some ⟨wc.heap.size, 0, none⟩) l.length l.length)).alloc (.cells (nums .i64 (List.replicate l.length 0)).toArray 3)).heap[g2]? = _ := blk_alloc (blk_far c8 (by show g2 ≠ gs; omega) _) _
          revert T1 T2 T3 T4 T8
          generalize ((wc.setCell ⟨gs, 1, none⟩ (.slice (some ⟨wc.heap.size, 0, none⟩) l.length l.length)).alloc (.cells (nums .i64 (List.replicate l.length 0)).toArray 3)) = wt
          obtain ⟨gr, hgr⟩ : ∃ gr, gr = wc.heap.size := ⟨_, rfl⟩
          rw [← hgr] at c7 ⊢
          intro T1 T2 T3 T4 T8
          have TT := Aside0.mk (And.intro T1 (And.intro T2 (And.intro T3 (And.intro T4 T8))))
          have HRA : Aside0 (ra.length = l.length ∧ AllV (InR l.length) ra ∧ gn < gr) := ⟨⟨c5, c6, c7⟩⟩
          have xa := (blk_three T2).1
          clear T1 T2 T3 T4 T8 c1 c2 c3 c4 c5 c6 c7 c8 HC hgr hg3l hgsl x2' f1' n3' hlow n3
          go_wp2
          go_loopg [116] l.length (fun g v116 wr => ∃ (i : Nat) (R1 : List Int), v116 = .int .i64 i ∧ i + g = l.length ∧ R1.length = l.length ∧ Aside0 (rkF ra g i R1 = rk) ∧ Aside0 (Arr wr b ra ∧ CntV wr gs b l.length (.slice (some ⟨gr, 0, none⟩) l.length l.length) z ∧ Arr wr gr R1 ∧ Below W.heap.size W wr ∧ wr.heap[g2]? = some (.cells #[.slice none 0 0, .slice none 0 0, .int .i64 0] 42 (0, 0))))
          case atStart => exact ⟨0, List.replicate l.length 0, rfl, by omega, by simp, ⟨HT.out.2.symm⟩, TT⟩
          case round =>
            clear TT xa
            obtain ⟨i, R1, rfl, hi, hR1, HRK, HTT⟩ := hrel
            have xa := (blk_three HTT.out.2.1).1
            have xb := (blk_three HTT.out.2.1).2.1
            have xc := (blk_three HTT.out.2.1).2.2
            cases gk with
            | succ g =>
              have hin : i < l.length := by omega
              have hin2 : (i : Int) < (l.length : Int) := by omega
              have d0 : decide ((i : Int) < (l.length : Int)) = true := decide_eq_true hin2
              have ca := HTT.out.1.cell i (by have := HRA.out.1; omega)
              have hxr := HRA.out.2.1 i (by have := HRA.out.1; omega)
              obtain ⟨xn, hxn⟩ : ∃ xn : Nat, gt ra i = (xn : Int) := ⟨(gt ra i).toNat, by have := hxr.1; omega⟩
              have hrk : rkF ra (g + 1) i R1 = rkF ra g (i + 1) (R1.set xn (i : Int)) := by rw [rkF, hxn, Int.toNat_natCast]
              rw [hxn] at ca hxr
              have hx1 : (xn : Int) < (l.length : Int) := hxr.2
              have HRK2 : Aside0 (rkF ra g (i + 1) (R1.set xn (i : Int)) = rk) := ⟨by rw [← hrk]; exact HRK.out⟩
              have f6 := blk_frozen HTT.out.2.2.1 xn
              have c6 := HTT.out.2.2.1.cell xn (by omega)
              clear hxn hrk HRK hxr
              go_wp2
              go_roundg g
              case measure => omega
              case rel =>
                have hlow := HO.out
                have hgr := HRA.out.2.2
                exact ⟨i + 1, R1.set xn (i : Int), (by first | rfl | (congr 1; omega)), by omega, by rw [List.length_set]; exact hR1, HRK2, ⟨blk_far HTT.out.1 (by show b ≠ gr; omega) _, blk_far HTT.out.2.1 (by show gs ≠ gr; omega) _, HTT.out.2.2.1.set xn (i : Int), HTT.out.2.2.2.1.setCell (by show W.heap.size ≤ gr; omega) _, blk_far HTT.out.2.2.2.2 (by show g2 ≠ gr; omega) _⟩⟩
            | zero =>
              have d0 : decide ((i : Int) < (l.length : Int)) = false := decide_eq_false (by omega)
              have y8 := HTT.out.2.2.2.2
              obtain ⟨y1, y2, y3⟩ := blk_three y8
              have fy := blk_frozen y8
              have HY8 := Aside0.mk y8
              have hlow := HO.out
              have hgr := HRA.out.2.2
              have F1 := blk_put (blk_put (blk_put HY8.out 0 (.slice (some ⟨b, 0, none⟩) l.length l.length) rfl) 1 (.slice (some ⟨gr, 0, none⟩) l.length l.length) rfl) 2 (.int .i64 (wrap64 (z : Int))) rfl
              have F2 : Arr (((wr.setCell ⟨g2, 0, none⟩ (.slice (some ⟨b, 0, none⟩) l.length l.length)).setCell ⟨g2, 1, none⟩ (.slice (some ⟨gr, 0, none⟩) l.length l.length)).setCell ⟨g2, 2, none⟩ (.int .i64 (wrap64 (z : Int)))) b ra := blk_far (blk_far (blk_far HTT.out.1 (by show b ≠ g2; omega) _) (by show b ≠ g2; omega) _) (by show b ≠ g2; omega) _
              have F3 : Arr (((wr.setCell ⟨g2, 0, none⟩ (.slice (some ⟨b, 0, none⟩) l.length l.length)).setCell ⟨g2, 1, none⟩ (.slice (some ⟨gr, 0, none⟩) l.length l.length)).setCell ⟨g2, 2, none⟩ (.int .i64 (wrap64 (z : Int)))) gr R1 := blk_far (blk_far (blk_far HTT.out.2.2.1 (by show gr ≠ g2; omega) _) (by show gr ≠ g2; omega) _) (by show gr ≠ g2; omega) _
              have F4 : Below W.heap.size W (((wr.setCell ⟨g2, 0, none⟩ (.slice (some ⟨b, 0, none⟩) l.length l.length)).setCell ⟨g2, 1, none⟩ (.slice (some ⟨gr, 0, none⟩) l.length l.length)).setCell ⟨g2, 2, none⟩ (.int .i64 (wrap64 (z : Int)))) := ((HTT.out.2.2.2.1.setCell (by show W.heap.size ≤ g2; omega) _).setCell (by show W.heap.size ≤ g2; omega) _).setCell (by show W.heap.size ≤ g2; omega) _
              have FF := Aside0.mk (And.intro F1 (And.intro F2 (And.intro F3 F4)))
              have hral := HRA.out.1
              have hrk : R1 = rk := HRK.out
              clear F1 F2 F3 F4 y8 hlow hgr
              have HBR := Aside0.mk (show b < gr by have := HO.out; have := HRA.out.2.2; omega)
              have HG := Aside0.mk (show W.heap.size ≤ b ∧ W.heap.size ≤ gr by have := HO.out; have := HRA.out.2.2; omega)
              go_wp2
              rw [Exit.noGoto_ret]
              refine bodyPost_ret (results_cell_row rfl _ _ g2 42 _ (0, 0) _ rfl FF.out.1 Try.underlying42 rfl (by kernel_rfl)) rfl ?_
              refine ⟨_, _, rfl, ?_, ?_, FF.out.2.2.2⟩
              · have h9 := FF.out.2.1.owned (ok := fun k_ => some k_ ≠ (Value.slice (some ⟨gr, 0, none⟩) l.length l.length).ownBlock) (by omega) HG.out.1 (own_lt HBR.out)
                rw [hral] at h9
                exact h9
              · have h9 := FF.out.2.2.1.owned (ok := fun k_ => some k_ ≠ (Value.slice (some ⟨b, 0, none⟩) l.length l.length).ownBlock) (by omega) HG.out.2 (own_gt HBR.out)
                rw [hR1, hrk] at h9
                exact h9
end Go.Proofs.Ythkiapcoagjjpaa.Suf
