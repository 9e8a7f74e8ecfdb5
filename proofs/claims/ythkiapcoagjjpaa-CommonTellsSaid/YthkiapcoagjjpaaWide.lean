-- Lists with marks behind them. Own text.
import Derived.Test.YthkiapcoagjjpaaBag1
import Derived.Laws.Slices
namespace Go.Proofs.Ythkiapcoagjjpaa.Bag
open Go.RowKit Go.Proofs.YthkiapcoagjjpaaW.PrintWords Go.Proofs.YthkiapcoagjjpaaW.PrintLast Go.Proofs.YthkiapcoagjjpaaW.PrintMore
set_option linter.unusedVariables false
set_option linter.unusedSimpArgs false
/-- The cells of a list made wide: the list, and behind it the marks. -/
def wv (mk : Nat → Int) (l : List Int) (i : Nat) : Int := if i < l.length then rd l (i : Int) else mk i
def wcs (kd : IntKind) (mk : Nat → Int) (l : List Int) (c i : Nat) : Array Value := Array.ofFn (n := c) fun j => .int kd (if j.1 < i then wv mk l j else 0)
theorem made_one (k : IntKind) (v : Int) (c : Nat) : madeCells (Value.int k v).cells c = Array.replicate c (.int k v) := by
  unfold madeCells
  apply Array.ext (by simp)
  intro i h1 h2
  simp [Value.cells, Nat.mod_one]
theorem wcs_zero (kd : IntKind) (mk : Nat → Int) (l : List Int) (c : Nat) : wcs kd mk l c 0 = Array.replicate c (.int kd 0) := by
  unfold wcs
  apply Array.ext (by simp)
  intro i h1 h2
  simp
theorem wcs_set (kd : IntKind) (mk : Nat → Int) (l : List Int) (c i : Nat) : (wcs kd mk l c i).setIfInBounds i (.int kd (wv mk l i)) = wcs kd mk l c (i + 1) := by
  unfold wcs
  apply Array.ext (by simp)
  intro j h1 h2
  rw [Array.getElem_setIfInBounds (by simpa using h1)]
  by_cases h : i = j
  · subst h; simp
  · simp only [h, if_false, Array.getElem_ofFn]
    by_cases h3 : j < i
    · rw [if_pos h3, if_pos (by omega)]
    · rw [if_neg h3, if_neg (by omega)]
theorem wcs_at (kd : IntKind) (mk : Nat → Int) (l : List Int) (c i : Nat) (h : i < c) : (wcs kd mk l c c)[i]? = some (.int kd (wv mk l i)) := by simp [wcs, h]
theorem wcs_mark (kd : IntKind) (mk : Nat → Int) (l : List Int) (i : Nat) (h1 : l.length ≤ i) (h2 : i < l.length + 64) : (wcs kd mk l (l.length + 64) (l.length + 64))[i]? = some (.int kd (mk i)) := by
  rw [wcs_at kd mk l _ i h2]
  unfold wv
  rw [if_neg (by omega)]
/-- A list made wide reads as the list. -/
theorem wide_reads {kd : IntKind} {mk : Nat → Int} {l : List Int} {w : World} {g t : Nat} (hn : l.length ≤ 1000000) (hg : w.heap[g]? = some (.cells (wcs kd mk l (l.length + 64) (l.length + 64)) t (0, 0))) : Kd.C (Kd.int kd) w (some ⟨g, 0, none⟩) l.length l := by
  refine ⟨rfl, by omega, fun _ => ⟨_, rfl, fun j p hp => ?_⟩⟩
  have hj := (List.getElem?_eq_some_iff.1 hp).1
  refine ⟨[.int kd p], rfl, rfl, fun i u hu => ?_⟩
  obtain rfl : i = 0 := by
    have := (List.getElem?_eq_some_iff.1 hu).1
    simp at this; omega
  have hadd : (⟨g, 0, none⟩ : Addr).add (j * 1 + 0) = ⟨g, j, none⟩ := by unfold Addr.add; simp; exact fun h => h.symm
  rw [show (Kd.int kd).sz = 1 from rfl, hadd, blk_cell hg j, wcs_at kd mk l _ j (by omega)]
  unfold wv
  rw [if_pos hj]
  have e : rd l (j : Int) = p := by
    have := (List.getElem?_eq_some_iff.1 hp).2
    simp [rd, List.getD_eq_getElem?_getD, hp]
  rw [e]; simpa using hu
def mkWords (i : Nat) : Int := mkI 9 i % 4294967296
def mkLongs (i : Nat) : Int := mkI 9 i
def mkInts (i : Nat) : Int := mkI 9 i
def mkBytes (i : Nat) : Int := (31 * 9 + 7 * (i : Int) + 3) % 256
theorem infoW3 : (Try.prog.info? 3).map (fun i => (i.zero, i.size, i.bytes)) = some (some (.int .i64 0), 1, 8) := by kernel_rfl
set_option maxHeartbeats 4000000 in
set_option maxRecDepth 100000 in
theorem spareInts_true (g n : Nat) (cur : Array Value) (w : World) (hg : w.heap[g]? = some (.cells cur 3 (0, 0))) (hn : n ≤ 1000000) (hcur : ∀ i : Nat, n ≤ i → i < n + 64 → cur[i]? = some (.int .i64 (mkInts i))) :
    Calls Try.prog 18 #[.slice (some ⟨g, 0, none⟩) n (n + 64)] w fun e w' => e = .returned (.bool true) ∧ w' = w := by
  obtain ⟨c, hc⟩ : ∃ c : Nat, c = n + 64 := ⟨_, rfl⟩
  rw [← hc] at hcur ⊢
  have hc2 : (n : Int) + 64 = (c : Int) := by omega
  have hcz : (0 : Int) ≤ (c : Int) := by omega
  have hcn := Lib.hid hc
  have hnc : n ≤ c := by omega
  have hc3 : (0 : Nat) ≤ c := by omega
  have hcm : c ≤ 9223372036854775807 := by omega
  have HC := Lib.hid hcur; clear hcur hc
  go_enter Try.func18, Try.ntmps18
  go_wp2
  go_loopw [4] (fun v4 wr => ∃ i : Nat, v4 = .int .i64 i ∧ n ≤ i ∧ i ≤ c ∧ w = wr) (fun v4 _ => c - (intOf v4).toNat)
  case atStart => exact ⟨n, rfl, by omega, by omega, rfl⟩
  case round =>
    obtain ⟨i, rfl, hi, hic, rfl⟩ := hrel
    by_cases hlt : i < c
    · have hl2 : decide ((i : Int) < (c : Int)) = true := decide_eq_true (by omega)
      have hx := (blk_cell hg i).trans (HC.out i hi hlt)
      unfold mkInts at hx
      have hi9 : i ≤ 1000100 := by have := hcn.out; omega
      go_wp2_with (first | (go_at_call 31; refine (num_at 9 i (by omega) hi9 _).mono ?_; rintro e w' ⟨rfl, hw'⟩; obtain rfl := hw'.symm))
      exact ⟨⟨i + 1, by go_num, by omega, by omega, trivial⟩, ms_lt hlt⟩
    · have hl2 : decide ((i : Int) < (c : Int)) = false := decide_eq_false (by omega)
      go_wp2
      go_ret
      exact ⟨rfl, rfl⟩
set_option maxHeartbeats 4000000 in
set_option maxRecDepth 100000 in
theorem wideInts_made (A : Option Addr) (cp : Nat) (l : List Int) (w : World) (hr : Kd.C (Kd.int .i64) w A l.length l) (hcp : l.length ≤ cp) (hn : l.length ≤ 1000000) :
    Calls Try.prog 12 #[.slice A l.length cp] w fun e w' => ∃ g, e = .returned (.slice (some ⟨g, 0, none⟩) l.length (l.length + 64)) ∧ w.heap.size ≤ g ∧ w'.heap[g]? = some (.cells (wcs .i64 mkInts l (l.length + 64) (l.length + 64)) 3 (0, 0)) ∧ Below w.heap.size w w' := by
  obtain ⟨n, hnl⟩ : ∃ n : Nat, n = l.length := ⟨_, rfl⟩
  obtain ⟨c, hc⟩ : ∃ c : Nat, c = n + 64 := ⟨_, rfl⟩
  rw [← hnl, ← hc]
  have hc2 : (n : Int) + 64 = (c : Int) := by omega
  have hcz : (0 : Int) ≤ (c : Int) := by omega
  have hcm : c ≤ 9223372036854775807 := by omega
  have hc6 : c ≤ 1000064 := by omega
  have hnc : n ≤ c := by omega
  have hcn := Lib.hid hc; have HN := Lib.hid hnl; have HR := Aside0.mk hr
  clear hc hr hcp
  clear hnl
  have hmk : ∀ W : World, (Instr.makeSlice 31 (.int .i64 (c : Int)) (.int .i64 (c : Int))).run Try.prog W = .ok (.slice (some ⟨W.heap.size, 0, none⟩) c c) (W.alloc (.cells (wcs .i64 mkInts l c 0) 3)) := by
    intro W
    obtain ⟨i, hi, hz, hs, hb⟩ : ∃ i, Try.prog.info? 3 = some i ∧ i.zero = some (.int .i64 0) ∧ i.size = 1 ∧ i.bytes = 8 := by
      have h := infoW3
      cases hh : Try.prog.info? 3 with
      | none => rw [hh] at h; cases h
      | some i => rw [hh] at h; simp at h; exact ⟨i, rfl, h.1, h.2.1, h.2.2⟩
    have h := run_makeSlice (P := Try.prog) (w := W) 31 3 i (.int .i64 0) Try.underlying31 hi hz .i64 .i64 (c : Int) (c : Int) (by omega) (by omega) (by rw [hs]; have := hcn.out; omega) (by rw [hb]; have := hcn.out; omega) (by omega)
    rw [hs] at h
    rw [h, wcs_zero, Nat.mul_one, Int.toNat_natCast, made_one]
  go_enter Try.func12, Try.ntmps12
  go_wp2
  go_loopw [4] (fun v4 wr => ∃ i : Nat, v4 = .int .i64 i ∧ i ≤ c ∧ Aside0 (Below w.heap.size w wr) ∧ Aside0 (wr.heap[w.heap.size]? = some (.cells (wcs .i64 mkInts l c i) 3 (0, 0)))) (fun v4 _ => c - (intOf v4).toNat)
  case atStart => exact ⟨0, rfl, by omega, ⟨(Below.refl _ w).alloc (by simp) _⟩, ⟨heap_alloc_new w _⟩⟩
  case round =>
    obtain ⟨i, rfl, hic, HB, HG⟩ := hrel
    have hc1 := blk_cell HG.out; have hf1 := blk_frozen HG.out
    by_cases hlt : i < c
    · have hl2 : decide ((i : Int) < (c : Int)) = true := decide_eq_true (by omega)
      have hce : (wcs .i64 mkInts l c i)[i]? = some (.int .i64 0) := by simp [wcs, hlt]
      have hi9 : i ≤ 1000100 := by omega
      by_cases hin : i < n
      · have hl3 : decide ((i : Int) < (n : Int)) = true := decide_eq_true (by omega)
        obtain ⟨ad, e3, hx⟩ := Kd.at_int (Kd.C_below HR.out HB.out) (i : Int) (by omega) (by have := HN.out; omega)
        subst e3
        have hx2 : wr.cell? (ad.add i) = some (.int .i64 (rd l (i : Int))) := by simpa using hx
        have hw : wv mkInts l i = rd l (i : Int) := if_pos (by have := HN.out; omega)
        go_wp2
        refine ⟨⟨i + 1, by go_num, by omega, ⟨HB.out.setCell (Nat.le_refl _) _⟩, ⟨blk_put HG.out i _ (by rw [← hw]; exact wcs_set .i64 mkInts l c i)⟩⟩, ms_lt hlt⟩
      · have hl3 : decide ((i : Int) < (n : Int)) = false := decide_eq_false (by omega)
        have hw := Lib.hid (show wv mkInts l i = mkI 9 i from if_neg (by have := HN.out; omega))
        have hnu := num_at 9 i (by omega) hi9
        go_wp2_with (first | (go_at_call 31; refine (num_at 9 i (by omega) hi9 _).mono ?_; rintro e w' ⟨rfl, hw'⟩; obtain rfl := hw'.symm))
        refine ⟨⟨i + 1, by go_num, by omega, ⟨(HB.out).setCell (Nat.le_refl _) _⟩, ⟨blk_put (HG.out) i _ ((congrArg (fun x => Array.setIfInBounds _ i (Value.int .i64 x)) hw.out.symm).trans (wcs_set .i64 mkInts l c i))⟩⟩, ms_lt hlt⟩
    · have hl2 : decide ((i : Int) < (c : Int)) = false := decide_eq_false (by omega)
      obtain rfl : i = c := by omega
      go_wp2
      go_ret
      exact ⟨_, rfl, Nat.le_refl _, HG.out, HB.out⟩
end Go.Proofs.Ythkiapcoagjjpaa.Bag
