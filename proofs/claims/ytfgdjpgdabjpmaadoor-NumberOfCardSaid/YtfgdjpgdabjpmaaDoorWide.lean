-- Lists with marks behind them. Own text.
import Derived.Test.YtfgdjpgdabjpmaaDoorBag1
import Derived.Laws.Slices
namespace Go.Proofs.YtfgdjpgdabjpmaaDoor.Bag
open Go.RowKit Go.Proofs.YtfgdjpgdabjpmaaDoorW.PrintWords Go.Proofs.YtfgdjpgdabjpmaaDoorW.PrintLast Go.Proofs.YtfgdjpgdabjpmaaDoorW.PrintMore
set_option linter.unusedVariables false
set_option linter.unusedSimpArgs false
/-- The cells of a list made wide: the list, and behind it the marks. -/
def wv (mk : Nat → Int) (l : List Int) (i : Nat) : Int := if i < l.length then rd l (i : Int) else mk i
def wcs (kd : IntKind) (mk : Nat → Int) (l : List Int) (c i : Nat) : Array Value := Array.ofFn (n := c) fun j => .int kd (if j.1 < i then wv mk l j else 0)
theorem made_one (k : IntKind) (v : Int) (c : Nat) : madeCells (Value.int k v).cells c = Array.replicate c (.int k v) := by
  unfold madeCells
  apply Array.ext (by simp)
  intro i h1 h2
  simp [Value.cells, Nat.mod_one]
theorem wcs_zero (kd : IntKind) (mk : Nat → Int) (l : List Int) (c : Nat) : wcs kd mk l c 0 = Array.replicate c (.int kd 0) := by
  unfold wcs
  apply Array.ext (by simp)
  intro i h1 h2
  simp
theorem wcs_set (kd : IntKind) (mk : Nat → Int) (l : List Int) (c i : Nat) : (wcs kd mk l c i).setIfInBounds i (.int kd (wv mk l i)) = wcs kd mk l c (i + 1) := by
  unfold wcs
  apply Array.ext (by simp)
  intro j h1 h2
  rw [Array.getElem_setIfInBounds (by simpa using h1)]
  by_cases h : i = j
  · subst h; simp
  · simp only [h, if_false, Array.getElem_ofFn]
    by_cases h3 : j < i
    · rw [if_pos h3, if_pos (by omega)]
    · rw [if_neg h3, if_neg (by omega)]
theorem wcs_at (kd : IntKind) (mk : Nat → Int) (l : List Int) (c i : Nat) (h : i < c) : (wcs kd mk l c c)[i]? = some (.int kd (wv mk l i)) := by simp [wcs, h]
theorem wcs_mark (kd : IntKind) (mk : Nat → Int) (l : List Int) (i : Nat) (h1 : l.length ≤ i) (h2 : i < l.length + 64) : (wcs kd mk l (l.length + 64) (l.length + 64))[i]? = some (.int kd (mk i)) := by
  rw [wcs_at kd mk l _ i h2]
  unfold wv
  rw [if_neg (by omega)]
/-- A list made wide reads as the list. -/
theorem wide_reads {kd : IntKind} {mk : Nat → Int} {l : List Int} {w : World} {g t : Nat} (hn : l.length ≤ 1000000) (hg : w.heap[g]? = some (.cells (wcs kd mk l (l.length + 64) (l.length + 64)) t (0, 0))) : Kd.C (Kd.int kd) w (some ⟨g, 0, none⟩) l.length l := by
  refine ⟨rfl, by omega, fun _ => ⟨_, rfl, fun j p hp => ?_⟩⟩
  have hj := (List.getElem?_eq_some_iff.1 hp).1
  refine ⟨[.int kd p], rfl, rfl, fun i u hu => ?_⟩
  obtain rfl : i = 0 := by
    have := (List.getElem?_eq_some_iff.1 hu).1
    simp at this; omega
  have hadd : (⟨g, 0, none⟩ : Addr).add (j * 1 + 0) = ⟨g, j, none⟩ := by unfold Addr.add; simp; exact fun h => h.symm
  rw [show (Kd.int kd).sz = 1 from rfl, hadd, blk_cell hg j, wcs_at kd mk l _ j (by omega)]
  unfold wv
  rw [if_pos hj]
  have e : rd l (j : Int) = p := by
    have := (List.getElem?_eq_some_iff.1 hp).2
    simp [rd, List.getD_eq_getElem?_getD, hp]
  rw [e]; simpa using hu
def mkWords (i : Nat) : Int := mkI 9 i % 4294967296
def mkLongs (i : Nat) : Int := mkI 9 i
def mkInts (i : Nat) : Int := mkI 9 i
def mkBytes (i : Nat) : Int := (31 * 9 + 7 * (i : Int) + 3) % 256
theorem infoW26 : (Tryd.prog.info? 26).map (fun i => (i.zero, i.size, i.bytes)) = some (some (.int .u32 0), 1, 4) := by kernel_rfl
set_option maxHeartbeats 4000000 in
set_option maxRecDepth 100000 in
theorem spareWords_true (g n : Nat) (cur : Array Value) (w : World) (hg : w.heap[g]? = some (.cells cur 26 (0, 0))) (hn : n ≤ 1000000) (hcur : ∀ i : Nat, n ≤ i → i < n + 64 → cur[i]? = some (.int .u32 (mkWords i))) :
    Calls Tryd.prog 45 #[.slice (some ⟨g, 0, none⟩) n (n + 64)] w fun e w' => e = .returned (.bool true) ∧ w' = w := by
  obtain ⟨c, hc⟩ : ∃ c : Nat, c = n + 64 := ⟨_, rfl⟩
  rw [← hc] at hcur ⊢
  have hc2 : (n : Int) + 64 = (c : Int) := by omega
  have hcz : (0 : Int) ≤ (c : Int) := by omega
  have hcn := Lib.hid hc
  have hnc : n ≤ c := by omega
  have hc3 : (0 : Nat) ≤ c := by omega
  have hcm : c ≤ 9223372036854775807 := by omega
  have HC := Lib.hid hcur; clear hcur hc
  go_enter Tryd.func45, Tryd.ntmps45
  go_wp2
  go_loopw [4] (fun v4 wr => ∃ i : Nat, v4 = .int .i64 i ∧ n ≤ i ∧ i ≤ c ∧ w = wr) (fun v4 _ => c - (intOf v4).toNat)
  case atStart => exact ⟨n, rfl, by omega, by omega, rfl⟩
  case round =>
    obtain ⟨i, rfl, hi, hic, rfl⟩ := hrel
    by_cases hlt : i < c
    · have hl2 : decide ((i : Int) < (c : Int)) = true := decide_eq_true (by omega)
      have hx := (blk_cell hg i).trans (HC.out i hi hlt)
      unfold mkWords at hx
      have hi9 : i ≤ 1000100 := by have := hcn.out; omega
      go_wp2_with (first | (go_at_call 38; refine (num_at 9 i (by omega) hi9 _).mono ?_; rintro e w' ⟨rfl, hw'⟩; obtain rfl := hw'.symm))
      exact ⟨⟨i + 1, by go_num, by omega, by omega, trivial⟩, ms_lt hlt⟩
    · have hl2 : decide ((i : Int) < (c : Int)) = false := decide_eq_false (by omega)
      go_wp2
      go_ret
      exact ⟨rfl, rfl⟩
set_option maxHeartbeats 4000000 in
set_option maxRecDepth 100000 in
theorem wideWords_made (A : Option Addr) (cp : Nat) (l : List Int) (w : World) (hr : Kd.C (Kd.int .u32) w A l.length l) (hcp : l.length ≤ cp) (hn : l.length ≤ 1000000) :
    Calls Tryd.prog 36 #[.slice A l.length cp] w fun e w' => ∃ g, e = .returned (.slice (some ⟨g, 0, none⟩) l.length (l.length + 64)) ∧ w.heap.size ≤ g ∧ w'.heap[g]? = some (.cells (wcs .u32 mkWords l (l.length + 64) (l.length + 64)) 26 (0, 0)) ∧ Below w.heap.size w w' := by
  obtain ⟨n, hnl⟩ : ∃ n : Nat, n = l.length := ⟨_, rfl⟩
  obtain ⟨c, hc⟩ : ∃ c : Nat, c = n + 64 := ⟨_, rfl⟩
  rw [← hnl, ← hc]
  have hc2 : (n : Int) + 64 = (c : Int) := by omega
  have hcz : (0 : Int) ≤ (c : Int) := by omega
  have hcm : c ≤ 9223372036854775807 := by omega
  have hc6 : c ≤ 1000064 := by omega
  have hnc : n ≤ c := by omega
  have hcn := Lib.hid hc; have HN := Lib.hid hnl; have HR := Aside0.mk hr
  clear hc hr hcp
  clear hnl
  have hmk : ∀ W : World, (Instr.makeSlice 22 (.int .i64 (c : Int)) (.int .i64 (c : Int))).run Tryd.prog W = .ok (.slice (some ⟨W.heap.size, 0, none⟩) c c) (W.alloc (.cells (wcs .u32 mkWords l c 0) 26)) := by
    intro W
    obtain ⟨i, hi, hz, hs, hb⟩ : ∃ i, Tryd.prog.info? 26 = some i ∧ i.zero = some (.int .u32 0) ∧ i.size = 1 ∧ i.bytes = 4 := by
      have h := infoW26
      cases hh : Tryd.prog.info? 26 with
      | none => rw [hh] at h; cases h
      | some i => rw [hh] at h; simp at h; exact ⟨i, rfl, h.1, h.2.1, h.2.2⟩
    have h := run_makeSlice (P := Tryd.prog) (w := W) 22 26 i (.int .u32 0) Tryd.underlying22 hi hz .i64 .i64 (c : Int) (c : Int) (by omega) (by omega) (by rw [hs]; have := hcn.out; omega) (by rw [hb]; have := hcn.out; omega) (by omega)
    rw [hs] at h
    rw [h, wcs_zero, Nat.mul_one, Int.toNat_natCast, made_one]
  go_enter Tryd.func36, Tryd.ntmps36
  go_wp2
  go_loopw [4] (fun v4 wr => ∃ i : Nat, v4 = .int .i64 i ∧ i ≤ c ∧ Aside0 (Below w.heap.size w wr) ∧ Aside0 (wr.heap[w.heap.size]? = some (.cells (wcs .u32 mkWords l c i) 26 (0, 0)))) (fun v4 _ => c - (intOf v4).toNat)
  case atStart => exact ⟨0, rfl, by omega, ⟨(Below.refl _ w).alloc (by simp) _⟩, ⟨heap_alloc_new w _⟩⟩
  case round =>
    obtain ⟨i, rfl, hic, HB, HG⟩ := hrel
    have hc1 := blk_cell HG.out; have hf1 := blk_frozen HG.out
    by_cases hlt : i < c
    · have hl2 : decide ((i : Int) < (c : Int)) = true := decide_eq_true (by omega)
      have hce : (wcs .u32 mkWords l c i)[i]? = some (.int .u32 0) := by simp [wcs, hlt]
      have hi9 : i ≤ 1000100 := by omega
      by_cases hin : i < n
      · have hl3 : decide ((i : Int) < (n : Int)) = true := decide_eq_true (by omega)
        obtain ⟨ad, e3, hx⟩ := Kd.at_int (Kd.C_below HR.out HB.out) (i : Int) (by omega) (by have := HN.out; omega)
        subst e3
        have hx2 : wr.cell? (ad.add i) = some (.int .u32 (rd l (i : Int))) := by simpa using hx
        have hw : wv mkWords l i = rd l (i : Int) := if_pos (by have := HN.out; omega)
        go_wp2
        refine ⟨⟨i + 1, by go_num, by omega, ⟨HB.out.setCell (Nat.le_refl _) _⟩, ⟨blk_put HG.out i _ (by rw [← hw]; exact wcs_set .u32 mkWords l c i)⟩⟩, ms_lt hlt⟩
      · have hl3 : decide ((i : Int) < (n : Int)) = false := decide_eq_false (by omega)
        have hw := Lib.hid (show wv mkWords l i = mkI 9 i % 4294967296 from if_neg (by have := HN.out; omega))
        have hnu := num_at 9 i (by omega) hi9
        go_wp2_with (first | (go_at_call 38; refine (num_at 9 i (by omega) hi9 _).mono ?_; rintro e w' ⟨rfl, hw'⟩; obtain rfl := hw'.symm))
        refine ⟨⟨i + 1, by go_num, by omega, ⟨(HB.out).setCell (Nat.le_refl _) _⟩, ⟨blk_put (HG.out) i _ ((congrArg (fun x => Array.setIfInBounds _ i (Value.int .u32 x)) hw.out.symm).trans (wcs_set .u32 mkWords l c i))⟩⟩, ms_lt hlt⟩
    · have hl2 : decide ((i : Int) < (c : Int)) = false := decide_eq_false (by omega)
      obtain rfl : i = c := by omega
      go_wp2
      go_ret
      exact ⟨_, rfl, Nat.le_refl _, HG.out, HB.out⟩
theorem infoW2 : (Tryd.prog.info? 2).map (fun i => (i.zero, i.size, i.bytes)) = some (some (.int .i64 0), 1, 8) := by kernel_rfl
set_option maxHeartbeats 4000000 in
set_option maxRecDepth 100000 in
theorem spareLongs_true (g n : Nat) (cur : Array Value) (w : World) (hg : w.heap[g]? = some (.cells cur 2 (0, 0))) (hn : n ≤ 1000000) (hcur : ∀ i : Nat, n ≤ i → i < n + 64 → cur[i]? = some (.int .i64 (mkLongs i))) :
    Calls Tryd.prog 46 #[.slice (some ⟨g, 0, none⟩) n (n + 64)] w fun e w' => e = .returned (.bool true) ∧ w' = w := by
  obtain ⟨c, hc⟩ : ∃ c : Nat, c = n + 64 := ⟨_, rfl⟩
  rw [← hc] at hcur ⊢
  have hc2 : (n : Int) + 64 = (c : Int) := by omega
  have hcz : (0 : Int) ≤ (c : Int) := by omega
  have hcn := Lib.hid hc
  have hnc : n ≤ c := by omega
  have hc3 : (0 : Nat) ≤ c := by omega
  have hcm : c ≤ 9223372036854775807 := by omega
  have HC := Lib.hid hcur; clear hcur hc
  go_enter Tryd.func46, Tryd.ntmps46
  go_wp2
  go_loopw [4] (fun v4 wr => ∃ i : Nat, v4 = .int .i64 i ∧ n ≤ i ∧ i ≤ c ∧ w = wr) (fun v4 _ => c - (intOf v4).toNat)
  case atStart => exact ⟨n, rfl, by omega, by omega, rfl⟩
  case round =>
    obtain ⟨i, rfl, hi, hic, rfl⟩ := hrel
    by_cases hlt : i < c
    · have hl2 : decide ((i : Int) < (c : Int)) = true := decide_eq_true (by omega)
      have hx := (blk_cell hg i).trans (HC.out i hi hlt)
      unfold mkLongs at hx
      have hi9 : i ≤ 1000100 := by have := hcn.out; omega
      go_wp2_with (first | (go_at_call 38; refine (num_at 9 i (by omega) hi9 _).mono ?_; rintro e w' ⟨rfl, hw'⟩; obtain rfl := hw'.symm))
      exact ⟨⟨i + 1, by go_num, by omega, by omega, trivial⟩, ms_lt hlt⟩
    · have hl2 : decide ((i : Int) < (c : Int)) = false := decide_eq_false (by omega)
      go_wp2
      go_ret
      exact ⟨rfl, rfl⟩
set_option maxHeartbeats 4000000 in
set_option maxRecDepth 100000 in
theorem wideLongs_made (A : Option Addr) (cp : Nat) (l : List Int) (w : World) (hr : Kd.C (Kd.int .i64) w A l.length l) (hcp : l.length ≤ cp) (hn : l.length ≤ 1000000) :
    Calls Tryd.prog 37 #[.slice A l.length cp] w fun e w' => ∃ g, e = .returned (.slice (some ⟨g, 0, none⟩) l.length (l.length + 64)) ∧ w.heap.size ≤ g ∧ w'.heap[g]? = some (.cells (wcs .i64 mkLongs l (l.length + 64) (l.length + 64)) 2 (0, 0)) ∧ Below w.heap.size w w' := by
  obtain ⟨n, hnl⟩ : ∃ n : Nat, n = l.length := ⟨_, rfl⟩
  obtain ⟨c, hc⟩ : ∃ c : Nat, c = n + 64 := ⟨_, rfl⟩
  rw [← hnl, ← hc]
  have hc2 : (n : Int) + 64 = (c : Int) := by omega
  have hcz : (0 : Int) ≤ (c : Int) := by omega
  have hcm : c ≤ 9223372036854775807 := by omega
  have hc6 : c ≤ 1000064 := by omega
  have hnc : n ≤ c := by omega
  have hcn := Lib.hid hc; have HN := Lib.hid hnl; have HR := Aside0.mk hr
  clear hc hr hcp
  clear hnl
  have hmk : ∀ W : World, (Instr.makeSlice 23 (.int .i64 (c : Int)) (.int .i64 (c : Int))).run Tryd.prog W = .ok (.slice (some ⟨W.heap.size, 0, none⟩) c c) (W.alloc (.cells (wcs .i64 mkLongs l c 0) 2)) := by
    intro W
    obtain ⟨i, hi, hz, hs, hb⟩ : ∃ i, Tryd.prog.info? 2 = some i ∧ i.zero = some (.int .i64 0) ∧ i.size = 1 ∧ i.bytes = 8 := by
      have h := infoW2
      cases hh : Tryd.prog.info? 2 with
      | none => rw [hh] at h; cases h
      | some i => rw [hh] at h; simp at h; exact ⟨i, rfl, h.1, h.2.1, h.2.2⟩
    have h := run_makeSlice (P := Tryd.prog) (w := W) 23 2 i (.int .i64 0) Tryd.underlying23 hi hz .i64 .i64 (c : Int) (c : Int) (by omega) (by omega) (by rw [hs]; have := hcn.out; omega) (by rw [hb]; have := hcn.out; omega) (by omega)
    rw [hs] at h
    rw [h, wcs_zero, Nat.mul_one, Int.toNat_natCast, made_one]
  go_enter Tryd.func37, Tryd.ntmps37
  go_wp2
  go_loopw [4] (fun v4 wr => ∃ i : Nat, v4 = .int .i64 i ∧ i ≤ c ∧ Aside0 (Below w.heap.size w wr) ∧ Aside0 (wr.heap[w.heap.size]? = some (.cells (wcs .i64 mkLongs l c i) 2 (0, 0)))) (fun v4 _ => c - (intOf v4).toNat)
  case atStart => exact ⟨0, rfl, by omega, ⟨(Below.refl _ w).alloc (by simp) _⟩, ⟨heap_alloc_new w _⟩⟩
  case round =>
    obtain ⟨i, rfl, hic, HB, HG⟩ := hrel
    have hc1 := blk_cell HG.out; have hf1 := blk_frozen HG.out
    by_cases hlt : i < c
    · have hl2 : decide ((i : Int) < (c : Int)) = true := decide_eq_true (by omega)
      have hce : (wcs .i64 mkLongs l c i)[i]? = some (.int .i64 0) := by simp [wcs, hlt]
      have hi9 : i ≤ 1000100 := by omega
      by_cases hin : i < n
      · have hl3 : decide ((i : Int) < (n : Int)) = true := decide_eq_true (by omega)
        obtain ⟨ad, e3, hx⟩ := Kd.at_int (Kd.C_below HR.out HB.out) (i : Int) (by omega) (by have := HN.out; omega)
        subst e3
        have hx2 : wr.cell? (ad.add i) = some (.int .i64 (rd l (i : Int))) := by simpa using hx
        have hw : wv mkLongs l i = rd l (i : Int) := if_pos (by have := HN.out; omega)
        go_wp2
        refine ⟨⟨i + 1, by go_num, by omega, ⟨HB.out.setCell (Nat.le_refl _) _⟩, ⟨blk_put HG.out i _ (by rw [← hw]; exact wcs_set .i64 mkLongs l c i)⟩⟩, ms_lt hlt⟩
      · have hl3 : decide ((i : Int) < (n : Int)) = false := decide_eq_false (by omega)
        have hw := Lib.hid (show wv mkLongs l i = mkI 9 i from if_neg (by have := HN.out; omega))
        have hnu := num_at 9 i (by omega) hi9
        go_wp2_with (first | (go_at_call 38; refine (num_at 9 i (by omega) hi9 _).mono ?_; rintro e w' ⟨rfl, hw'⟩; obtain rfl := hw'.symm))
        refine ⟨⟨i + 1, by go_num, by omega, ⟨(HB.out).setCell (Nat.le_refl _) _⟩, ⟨blk_put (HG.out) i _ ((congrArg (fun x => Array.setIfInBounds _ i (Value.int .i64 x)) hw.out.symm).trans (wcs_set .i64 mkLongs l c i))⟩⟩, ms_lt hlt⟩
    · have hl2 : decide ((i : Int) < (c : Int)) = false := decide_eq_false (by omega)
      obtain rfl : i = c := by omega
      go_wp2
      go_ret
      exact ⟨_, rfl, Nat.le_refl _, HG.out, HB.out⟩
theorem infoW3 : (Tryd.prog.info? 3).map (fun i => (i.zero, i.size, i.bytes)) = some (some (.int .i64 0), 1, 8) := by kernel_rfl
set_option maxHeartbeats 4000000 in
set_option maxRecDepth 100000 in
theorem spareInts_true (g n : Nat) (cur : Array Value) (w : World) (hg : w.heap[g]? = some (.cells cur 3 (0, 0))) (hn : n ≤ 1000000) (hcur : ∀ i : Nat, n ≤ i → i < n + 64 → cur[i]? = some (.int .i64 (mkInts i))) :
    Calls Tryd.prog 18 #[.slice (some ⟨g, 0, none⟩) n (n + 64)] w fun e w' => e = .returned (.bool true) ∧ w' = w := by
  obtain ⟨c, hc⟩ : ∃ c : Nat, c = n + 64 := ⟨_, rfl⟩
  rw [← hc] at hcur ⊢
  have hc2 : (n : Int) + 64 = (c : Int) := by omega
  have hcz : (0 : Int) ≤ (c : Int) := by omega
  have hcn := Lib.hid hc
  have hnc : n ≤ c := by omega
  have hc3 : (0 : Nat) ≤ c := by omega
  have hcm : c ≤ 9223372036854775807 := by omega
  have HC := Lib.hid hcur; clear hcur hc
  go_enter Tryd.func18, Tryd.ntmps18
  go_wp2
  go_loopw [4] (fun v4 wr => ∃ i : Nat, v4 = .int .i64 i ∧ n ≤ i ∧ i ≤ c ∧ w = wr) (fun v4 _ => c - (intOf v4).toNat)
  case atStart => exact ⟨n, rfl, by omega, by omega, rfl⟩
  case round =>
    obtain ⟨i, rfl, hi, hic, rfl⟩ := hrel
    by_cases hlt : i < c
    · have hl2 : decide ((i : Int) < (c : Int)) = true := decide_eq_true (by omega)
      have hx := (blk_cell hg i).trans (HC.out i hi hlt)
      unfold mkInts at hx
      have hi9 : i ≤ 1000100 := by have := hcn.out; omega
      go_wp2_with (first | (go_at_call 38; refine (num_at 9 i (by omega) hi9 _).mono ?_; rintro e w' ⟨rfl, hw'⟩; obtain rfl := hw'.symm))
      exact ⟨⟨i + 1, by go_num, by omega, by omega, trivial⟩, ms_lt hlt⟩
    · have hl2 : decide ((i : Int) < (c : Int)) = false := decide_eq_false (by omega)
      go_wp2
      go_ret
      exact ⟨rfl, rfl⟩
set_option maxHeartbeats 4000000 in
set_option maxRecDepth 100000 in
theorem wideInts_made (A : Option Addr) (cp : Nat) (l : List Int) (w : World) (hr : Kd.C (Kd.int .i64) w A l.length l) (hcp : l.length ≤ cp) (hn : l.length ≤ 1000000) :
    Calls Tryd.prog 8 #[.slice A l.length cp] w fun e w' => ∃ g, e = .returned (.slice (some ⟨g, 0, none⟩) l.length (l.length + 64)) ∧ w.heap.size ≤ g ∧ w'.heap[g]? = some (.cells (wcs .i64 mkInts l (l.length + 64) (l.length + 64)) 3 (0, 0)) ∧ Below w.heap.size w w' := by
  obtain ⟨n, hnl⟩ : ∃ n : Nat, n = l.length := ⟨_, rfl⟩
  obtain ⟨c, hc⟩ : ∃ c : Nat, c = n + 64 := ⟨_, rfl⟩
  rw [← hnl, ← hc]
  have hc2 : (n : Int) + 64 = (c : Int) := by omega
  have hcz : (0 : Int) ≤ (c : Int) := by omega
  have hcm : c ≤ 9223372036854775807 := by omega
  have hc6 : c ≤ 1000064 := by omega
  have hnc : n ≤ c := by omega
  have hcn := Lib.hid hc; have HN := Lib.hid hnl; have HR := Aside0.mk hr
  clear hc hr hcp
  clear hnl
  have hmk : ∀ W : World, (Instr.makeSlice 27 (.int .i64 (c : Int)) (.int .i64 (c : Int))).run Tryd.prog W = .ok (.slice (some ⟨W.heap.size, 0, none⟩) c c) (W.alloc (.cells (wcs .i64 mkInts l c 0) 3)) := by
    intro W
    obtain ⟨i, hi, hz, hs, hb⟩ : ∃ i, Tryd.prog.info? 3 = some i ∧ i.zero = some (.int .i64 0) ∧ i.size = 1 ∧ i.bytes = 8 := by
      have h := infoW3
      cases hh : Tryd.prog.info? 3 with
      | none => rw [hh] at h; cases h
      | some i => rw [hh] at h; simp at h; exact ⟨i, rfl, h.1, h.2.1, h.2.2⟩
    have h := run_makeSlice (P := Tryd.prog) (w := W) 27 3 i (.int .i64 0) Tryd.underlying27 hi hz .i64 .i64 (c : Int) (c : Int) (by omega) (by omega) (by rw [hs]; have := hcn.out; omega) (by rw [hb]; have := hcn.out; omega) (by omega)
    rw [hs] at h
    rw [h, wcs_zero, Nat.mul_one, Int.toNat_natCast, made_one]
  go_enter Tryd.func8, Tryd.ntmps8
  go_wp2
  go_loopw [4] (fun v4 wr => ∃ i : Nat, v4 = .int .i64 i ∧ i ≤ c ∧ Aside0 (Below w.heap.size w wr) ∧ Aside0 (wr.heap[w.heap.size]? = some (.cells (wcs .i64 mkInts l c i) 3 (0, 0)))) (fun v4 _ => c - (intOf v4).toNat)
  case atStart => exact ⟨0, rfl, by omega, ⟨(Below.refl _ w).alloc (by simp) _⟩, ⟨heap_alloc_new w _⟩⟩
  case round =>
    obtain ⟨i, rfl, hic, HB, HG⟩ := hrel
    have hc1 := blk_cell HG.out; have hf1 := blk_frozen HG.out
    by_cases hlt : i < c
    · have hl2 : decide ((i : Int) < (c : Int)) = true := decide_eq_true (by omega)
      have hce : (wcs .i64 mkInts l c i)[i]? = some (.int .i64 0) := by simp [wcs, hlt]
      have hi9 : i ≤ 1000100 := by omega
      by_cases hin : i < n
      · have hl3 : decide ((i : Int) < (n : Int)) = true := decide_eq_true (by omega)
        obtain ⟨ad, e3, hx⟩ := Kd.at_int (Kd.C_below HR.out HB.out) (i : Int) (by omega) (by have := HN.out; omega)
        subst e3
        have hx2 : wr.cell? (ad.add i) = some (.int .i64 (rd l (i : Int))) := by simpa using hx
        have hw : wv mkInts l i = rd l (i : Int) := if_pos (by have := HN.out; omega)
        go_wp2
        refine ⟨⟨i + 1, by go_num, by omega, ⟨HB.out.setCell (Nat.le_refl _) _⟩, ⟨blk_put HG.out i _ (by rw [← hw]; exact wcs_set .i64 mkInts l c i)⟩⟩, ms_lt hlt⟩
      · have hl3 : decide ((i : Int) < (n : Int)) = false := decide_eq_false (by omega)
        have hw := Lib.hid (show wv mkInts l i = mkI 9 i from if_neg (by have := HN.out; omega))
        have hnu := num_at 9 i (by omega) hi9
        go_wp2_with (first | (go_at_call 38; refine (num_at 9 i (by omega) hi9 _).mono ?_; rintro e w' ⟨rfl, hw'⟩; obtain rfl := hw'.symm))
        refine ⟨⟨i + 1, by go_num, by omega, ⟨(HB.out).setCell (Nat.le_refl _) _⟩, ⟨blk_put (HG.out) i _ ((congrArg (fun x => Array.setIfInBounds _ i (Value.int .i64 x)) hw.out.symm).trans (wcs_set .i64 mkInts l c i))⟩⟩, ms_lt hlt⟩
    · have hl2 : decide ((i : Int) < (c : Int)) = false := decide_eq_false (by omega)
      obtain rfl : i = c := by omega
      go_wp2
      go_ret
      exact ⟨_, rfl, Nat.le_refl _, HG.out, HB.out⟩
set_option maxHeartbeats 4000000 in
set_option maxRecDepth 100000 in
/-- An image made wide. -/
theorem wideImage_made (A0 : Option Addr) (c0 : Nat) (l0 : List Int) (a1 : Int) (A2 : Option Addr) (c2 : Nat) (l2 : List Int) (w : World) (hr0 : Kd.C (Kd.int .u32) w A0 l0.length l0) (hc0 : l0.length ≤ c0) (hr2 : Kd.C (Kd.int .i64) w A2 l2.length l2) (hc2 : l2.length ≤ c2) (h0 : l0.length ≤ 1000000) (h2 : l2.length ≤ 1000000) :
    Calls Tryd.prog 7 #[.agg #[.slice A0 l0.length c0, .int .i64 a1, .slice A2 l2.length c2]] w fun e w' => ∃ g h, e = .returned (.agg #[.slice (some ⟨g, 0, none⟩) l0.length (l0.length + 64), .int .i64 a1, .slice (some ⟨h, 0, none⟩) l2.length (l2.length + 64)]) ∧
      w'.heap[g]? = some (.cells (wcs .u32 mkWords l0 (l0.length + 64) (l0.length + 64)) 26 (0, 0)) ∧ w'.heap[h]? = some (.cells (wcs .i64 mkLongs l2 (l2.length + 64) (l2.length + 64)) 2 (0, 0)) ∧ w.heap.size ≤ g ∧ w.heap.size ≤ h ∧ Below w.heap.size w w' := by
  have hu := Tryd.underlying25
  obtain ⟨n0, hn0⟩ : ∃ n : Nat, n = l0.length := ⟨_, rfl⟩
  obtain ⟨n2, hn2⟩ : ∃ n : Nat, n = l2.length := ⟨_, rfl⟩
  obtain ⟨d0, hd0⟩ : ∃ n : Nat, n = n0 + 64 := ⟨_, rfl⟩
  obtain ⟨d2, hd2⟩ : ∃ n : Nat, n = n2 + 64 := ⟨_, rfl⟩
  rw [← hn0, ← hn2, ← hd0, ← hd2]
  have HR0 := Aside0.mk hr0; have HR2 := Aside0.mk hr2; have HC0 := Aside0.mk hc0; have HC2 := Aside0.mk hc2
  have hX0 := fun W hW => wideWords_made A0 c0 l0 W (Kd.C_below hr0 hW) hc0 h0
  have hX2 := fun W hW => wideLongs_made A2 c2 l2 W (Kd.C_below hr2 hW) hc2 h2
  rw [← hn0, ← hd0] at hX0
  rw [← hn2, ← hd2] at hX2
  have HX0 := Aside0.mk hX0; have HX2 := Aside0.mk hX2; have HN0 := Lib.hid hn0; have HN2 := Lib.hid hn2; have HD0 := Lib.hid hd0; have HD2 := Lib.hid hd2
  clear hr0 hr2 hc0 hc2 hX0 hX2 hn0 hn2 hd0 hd2 h0 h2 HR0 HR2 HC0 HC2
  have HB := Aside0.mk (below_alloc (below_alloc (Below.refl w.heap.size w) (.cells #[.slice A0 n0 c0, .int .i64 a1, .slice A2 n2 c2] 25)) (.cells #[.slice none 0 0, .int .i64 0, .slice none 0 0] 25))
  have BX := Aside0.mk (blk_alloc (blk_new w (.cells #[.slice A0 n0 c0, .int .i64 a1, .slice A2 n2 c2] 25)) (.cells #[.slice none 0 0, .int .i64 0, .slice none 0 0] 25))
  have BR := Aside0.mk (blk_new (w.alloc (.cells #[.slice A0 n0 c0, .int .i64 a1, .slice A2 n2 c2] 25)) (.cells #[.slice none 0 0, .int .i64 0, .slice none 0 0] 25))
  have hwz : (w.alloc (.cells #[.slice A0 n0 c0, .int .i64 a1, .slice A2 n2 c2] 25)).heap.size = w.heap.size + 1 := by simp
  rw [hwz] at BR
  clear hwz
  go_enter Tryd.func7, Tryd.ntmps7
  go_wp2_with (first | (go_at_call 36; refine (HX0.out _ HB.out).mono ?_; rintro e w1 ⟨g, rfl, hgl, hg, hb⟩; have hne : g ≠ w.heap.size := (by simp at hgl; omega); have hne2 : g ≠ w.heap.size + 1 := (by simp at hgl; omega); have HGL := Aside0.mk (show w.heap.size ≤ g from by simp at hgl; omega); replace HB := Aside0.mk (below_set (j := 0) (v := .slice (some ⟨g, 0, none⟩) n0 d0) (below_then HB.out HB.out.size hb) (Nat.le_refl _)); have BX0 := blk_below BX.out hb; replace BX := Aside0.mk (blk_put BX0 0 (.slice (some ⟨g, 0, none⟩) n0 d0) rfl); replace BR := Aside0.mk (blk_far (p := ⟨w.heap.size, 0, none⟩) (blk_below BR.out hb) (by simp) (.slice (some ⟨g, 0, none⟩) n0 d0)); have HG := Aside0.mk (blk_far (p := ⟨w.heap.size, 0, none⟩) hg hne (.slice (some ⟨g, 0, none⟩) n0 d0)); have HNE := Aside0.mk (And.intro hne hne2); have HZ := Aside0.mk (blk_lt BR.out); have hcx := blk_cell BX0; have hfx := blk_frozen BX0; clear BX0 hb hg hgl hne hne2) | (go_at_call 37; refine (HX2.out _ HB.out).mono ?_; rintro e w2 ⟨h, rfl, hgl, hg, hb⟩; replace HG := Aside0.mk (blk_below HG.out hb); have HH := Aside0.mk hg; replace BX := Aside0.mk (blk_below BX.out hb); replace BR := Aside0.mk (blk_below BR.out hb); replace HB := Aside0.mk (below_then HB.out HB.out.size hb); have HHL := Aside0.mk hgl; clear hcx hfx hb hg hgl; have hcx := blk_cell BX.out; have hfx := blk_frozen BX.out; have hcr := blk_cell BR.out; have hfr := blk_frozen BR.out))
  have hge : h ≠ w.heap.size ∧ h ≠ w.heap.size + 1 ∧ w.heap.size ≤ h := by
    have h1 := HHL.out
    have h2 := HZ.out
    omega
  refine zRet (w.heap.size + 1) 25 #[.slice (some ⟨g, 0, none⟩) n0 d0, .int .i64 a1, .slice (some ⟨h, 0, none⟩) n2 d2] hu ⟨g, h, rfl, ?_, ?_, HGL.out, hge.2.2, ?_⟩ rfl rfl (blk_put (blk_put (blk_put (blk_far (p := ⟨w.heap.size, 2, none⟩) BR.out (by simp) _) 0 _ rfl) 1 _ rfl) 2 _ rfl)
  · exact blk_far (blk_far (blk_far (blk_far HG.out HNE.out.1 _) HNE.out.2 _) HNE.out.2 _) HNE.out.2 _
  · exact blk_far (blk_far (blk_far (blk_far HH.out hge.1 _) hge.2.1 _) hge.2.1 _) hge.2.1 _
  · exact below_set (below_set (below_set (below_set HB.out (Nat.le_refl _)) (by omega)) (by omega)) (by omega)
set_option maxHeartbeats 4000000 in
set_option maxRecDepth 100000 in
/-- The marks behind an image made wide stand. -/
theorem spareImage_true (g h n0 n2 : Nat) (l0 l2 : List Int) (a1 : Int) (w : World) (hg : w.heap[g]? = some (.cells (wcs .u32 mkWords l0 (l0.length + 64) (l0.length + 64)) 26 (0, 0))) (hh : w.heap[h]? = some (.cells (wcs .i64 mkLongs l2 (l2.length + 64) (l2.length + 64)) 2 (0, 0))) (h0 : l0.length ≤ 1000000) (h2 : l2.length ≤ 1000000) :
    Calls Tryd.prog 17 #[.agg #[.slice (some ⟨g, 0, none⟩) l0.length (l0.length + 64), .int .i64 a1, .slice (some ⟨h, 0, none⟩) l2.length (l2.length + 64)]] w fun e w' => e = .returned (.bool true) ∧ Below w.heap.size w w' := by
  have hu := Tryd.underlying25
  have HX0 := Aside0.mk (spareWords_true g l0.length _ _ (blk_alloc hg (.cells #[.slice (some ⟨g, 0, none⟩) l0.length (l0.length + 64), .int .i64 a1, .slice (some ⟨h, 0, none⟩) l2.length (l2.length + 64)] 25)) h0 (fun i h1 h2 => wcs_mark _ _ _ _ h1 h2))
  have HX2 := Aside0.mk (spareLongs_true h l2.length _ _ (blk_alloc hh (.cells #[.slice (some ⟨g, 0, none⟩) l0.length (l0.length + 64), .int .i64 a1, .slice (some ⟨h, 0, none⟩) l2.length (l2.length + 64)] 25)) h2 (fun i h1 h2 => wcs_mark _ _ _ _ h1 h2))
  obtain ⟨d0, hd0⟩ : ∃ n : Nat, n = l0.length + 64 := ⟨_, rfl⟩
  obtain ⟨d2, hd2⟩ : ∃ n : Nat, n = l2.length + 64 := ⟨_, rfl⟩
  rw [← hd0, ← hd2] at HX0 HX2 ⊢
  clear hd0 hd2 hg hh h0 h2
  go_enter Tryd.func17, Tryd.ntmps17
  go_wp2_with (first | (go_at_call 45; refine (HX0.out).mono ?_; rintro e w1 ⟨rfl, hw⟩; subst hw) | (go_at_call 46; refine (HX2.out).mono ?_; rintro e w1 ⟨rfl, hw⟩; subst hw))
  go_ret
  exact ⟨rfl, below_alloc (Below.refl _ _) _⟩
end Go.Proofs.YtfgdjpgdabjpmaaDoor.Bag
