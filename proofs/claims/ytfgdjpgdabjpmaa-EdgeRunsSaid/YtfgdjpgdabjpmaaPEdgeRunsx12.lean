-- Written for this claim by a program of this session (wip/tools/pp.py, over the kit's print).
import Derived.Test.YtfgdjpgdabjpmaaPEdgeRunsx0
import Derived.Test.YtfgdjpgdabjpmaaPEdgeRunsx4
import Derived.Test.YtfgdjpgdabjpmaaPEdgeRunsx8
import Derived.Test.YtfgdjpgdabjpmaaPEdgeRunsx11
namespace Go.Proofs.Ytfgdjpgdabjpmaa.PEdgeRuns
open Go.RowKit Go.Proofs.YtfgdjpgdabjpmaaW.PrintWords Go.Proofs.YtfgdjpgdabjpmaaW.PrintLast Go.Proofs.YtfgdjpgdabjpmaaW.PrintMore
attribute [local go_sem] max2_int min2_int max_two min_two max_three min_three max_four min_four   -- for this text's walks alone
set_option linter.unusedVariables false
set_option linter.unusedSimpArgs false

/-! ### machine_New: function 46, by hand -/
-- LIB
/-! ### the table of what each op does -/
def tcell (i k : Nat) : Value := if 3 ≤ k ∧ k ≤ 10 ∧ i ≤ k then .nilFunc else .func (.func (mdoes k)) #[] #[]
def trow (i : Nat) : Array Value := ((List.range 22).map (tcell i)).toArray
def zrow : Array Value := ((List.range 22).map fun _ => Value.nilFunc).toArray
theorem trow_at (i k : Nat) (h : k < 22) : (trow i)[k]? = some (tcell i k) := by simp [trow, h]
theorem trow_size (i : Nat) : (trow i).size = 22 := by simp [trow]
theorem trow_one (i : Nat) : (trow i).all (·.oneCell') = true := by
  rw [Array.all_eq_true]
  intro k hk
  have h1 := trow_at i k (by simpa [trow] using hk)
  have h2 : (trow i)[k] = tcell i k := by
    have := Array.getElem?_eq_getElem hk
    rw [h1] at this
    exact (Option.some.inj this).symm
  rw [h2]
  unfold tcell
  split <;> simp [Value.oneCell']
theorem trow_put (i : Nat) (h : 3 ≤ i) (h2 : i ≤ 10) : (trow i).setIfInBounds i (.func (.func 131) #[] #[]) = trow (i + 1) := by
  apply Array.ext_getElem?
  intro j
  by_cases hj : j < 22
  · rw [trow_at _ j hj, Array.getElem?_setIfInBounds]
    by_cases hij : i = j
    · subst hij
      rw [if_pos rfl, if_pos (by rw [trow_size]; exact hj)]
      have hdo : mdoes i = 131 := by
        have : i = 3 ∨ i = 4 ∨ i = 5 ∨ i = 6 ∨ i = 7 ∨ i = 8 ∨ i = 9 ∨ i = 10 := by omega
        rcases this with rfl | rfl | rfl | rfl | rfl | rfl | rfl | rfl <;> rfl
      unfold tcell
      rw [if_neg (by omega), hdo]
    · rw [if_neg hij, trow_at _ j hj]
      unfold tcell
      by_cases hc : 3 ≤ j ∧ j ≤ 10 ∧ i ≤ j
      · rw [if_pos hc, if_pos (by omega)]
      · rw [if_neg hc, if_neg (by omega)]
  · rw [Array.getElem?_eq_none (by rw [Array.size_setIfInBounds, trow_size]; omega), Array.getElem?_eq_none (by rw [trow_size]; omega)]
set_option maxRecDepth 100000 in
set_option maxHeartbeats 4000000 in
theorem mach_table (w : World) : Calls Try.prog 100 #[] w fun e w' => e = .returned (.agg (trow 11)) ∧ Below w.heap.size w w' := by
  have hu := Try.underlying109
  have hs0 := blk_new (w.alloc (.cells zrow 109)) (.cells zrow 109)
  have hsz : (w.alloc (.cells zrow 109)).heap.size = w.heap.size + 1 := by simp
  rw [hsz] at hs0
  go_enter Try.func100, Try.ntmps100
  go_wp2_with (refine wpList_store_row rfl 109 (.tmp 1) (.tmp 3) rfl (w.heap.size + 1) (trow 3) rfl rfl 109 _ hs0 (by rw [trow_size]; kernel_rfl) (by rw [trow_size]; rfl) (trow_one 3) ?_)
  have hb0 : ((w.alloc (.cells zrow 109)).alloc (.cells zrow 109)).heap[w.heap.size]? = some (.cells zrow 109 (0, 0)) := blk_alloc (blk_new w _) _
  go_loopw [2] (fun v wr => ∃ i : Nat, v = .int .i8 i ∧ 3 ≤ i ∧ i ≤ 11 ∧ Aside0 (wr.heap[w.heap.size]? = some (.cells zrow 109 (0, 0))) ∧ Aside0 (wr.heap[w.heap.size + 1]? = some (.cells (trow i) 109 (0, 0))) ∧ Aside0 (Below w.heap.size w wr)) (fun v _ => 11 - (intOf v).toNat)
  case atStart => exact ⟨3, rfl, by omega, by omega, ⟨(setRow_other _ _ _ _ (by omega)).trans hb0⟩, ⟨setRow_heap _ _ _ _ _ _ hs0⟩, ⟨below_setRow (((Below.refl w.heap.size w).alloc (Nat.le_refl _) _).alloc (by simp) _) (Nat.le_succ _) _⟩⟩
  case round =>
    clear hs0 hb0 hsz
    obtain ⟨i, rfl, h3, h11, hA, hT, hB⟩ := hrel
    have ct := (blk_cell hT.out i); have ft := blk_frozen hT.out
    by_cases hi : i ≤ 10
    · rw [trow_at i i (by omega)] at ct
      have d1 : decide ((i : Int) ≤ 10) = true := decide_eq_true (by omega)
      have hwi : IntKind.i8.wrap ((i : Int) + 1) = ((i + 1 : Nat) : Int) := by
        have : i = 3 ∨ i = 4 ∨ i = 5 ∨ i = 6 ∨ i = 7 ∨ i = 8 ∨ i = 9 ∨ i = 10 := by omega
        rcases this with rfl | rfl | rfl | rfl | rfl | rfl | rfl | rfl <;> rfl
      have ii : (i : Int) < 22 := by omega
      go_wp2
      go_roundw
      case rel => exact ⟨i + 1, by first | rfl | (rw [hwi]), by omega, by omega, ⟨blk_far hA.out (by simp) _⟩, ⟨blk_put hT.out i _ (trow_put i h3 hi)⟩, ⟨hB.out.setCell (p := ⟨w.heap.size + 1, i, none⟩) (Nat.le_succ _) _⟩⟩
      case measure => simp [intOf]; omega
    · obtain rfl : i = 11 := by omega
      clear ct
      have d1 : decide (((11 : Nat) : Int) ≤ 10) = false := by decide
      go_wp2_with (first | (refine wpList_load_row rfl 109 (.tmp 1) rfl (w.heap.size + 1) rfl 109 _ _ _ hT.out Try.underlying109 rfl (by rw [trow_size]; kernel_rfl) ?_) | (refine wpList_store_row rfl 109 (.tmp 0) (.tmp 10) rfl w.heap.size (trow 11) rfl rfl 109 _ hA.out (by rw [trow_size]; kernel_rfl) (by rw [trow_size]; rfl) (trow_one 11) ?_))
      exact bodyPost_ret (v := .agg (trow 11)) (results_cell_row rfl _ _ w.heap.size 109 _ _ _ rfl (setRow_heap _ _ _ _ _ _ hA.out) Try.underlying109 rfl (by rw [trow_size]; kernel_rfl)) rfl ⟨rfl, below_setRow hB.out (Nat.le_refl _) _⟩
/-- A word is laid behind the memory: the row of words has grown, and the machine's cell is written. -/
theorem Mach.appMem {B g : Nat} {w W w1 : World} {O : Nat → Prop} {vt va vm vp v1 : Value} {s : MS} {l : List S106} (h : Mach B W g O vt va vm vp s) (hB : B ≤ w.heap.size) (hK : Kept w W O) (hL : Below B w W)
    (ho : Kd.R k106 106 w1 B (fun k => O k ∨ W.heap.size ≤ k) v1 l) (hg : W.grownBy w1 vm.ownBlock) (hb : Below B W w1) : MAfter B g w O vt va { s with mem := l } (w1.setCell ⟨g, 39, none⟩ v1) := by
  have hbg := blk_grown h.blk hg (Kd.R_ne h.mem h.blk (by decide))
  have hsz : (w1.setCell ⟨g, 39, none⟩ v1).heap.size = w1.heap.size := by simp [World.setCell]
  have hlt : ∀ k, O k → k < w1.heap.size := fun k hk => Nat.lt_of_lt_of_le (h.lt k hk) hg.size
  have hm : ∀ k, O k → More O w (w1.setCell ⟨g, 39, none⟩ v1) k := fun k hk => ⟨.inl hk, by rw [hsz]; exact hlt k hk⟩
  have hK1 : Kept w (w1.setCell ⟨g, 39, none⟩ v1) O := (Kept.of_grown hg hK (fun k hk => .inl (h.mem.1 k hk))).setCell (p := ⟨g, 39, none⟩) (.inl h.own) v1
  have hL1 : Below B w (w1.setCell ⟨g, 39, none⟩ v1) := (hL.trans hb).setCell (p := ⟨g, 39, none⟩) (h.low g h.own) v1
  refine ⟨v1, vp, ⟨by rw [blk_set hbg 39 v1, mrow_put, mput_mem s vt va vm vp v1 l], hm g h.own, fun k hk => hk.1.elim (h.low k) (fun hw => Nat.le_trans hB hw), fun k hk => hk.2, ?_, ?_, ?_, ?_⟩, hK1, hL1⟩
  · exact Kd.R_mono (Kd.R_set (rowstays h.text h.mem hg (by decide)) hbg (by decide) 39 v1) hm
  · exact Kd.R_mono (Kd.R_set (rowstays h.tape h.mem hg (by decide)) hbg (by decide) 39 v1) hm
  · refine Kd.R_mono (Kd.R_set (Kd.R_bound ho) hbg (by decide) 39 v1) (fun k hk => ⟨hk.1.elim .inl (fun h2 => .inr (Nat.le_trans hK.1 h2)), by rw [hsz]; exact hk.2.2.1⟩)
  · exact Kd.R_mono (Kd.R_set (rowstays h.ports h.mem hg (by decide)) hbg (by decide) 39 v1) hm
theorem infoNW : (Try.prog.info? 38).map (fun i => (i.zero, i.size, i.bytes)) = some (some (.int .u32 0), 1, 4) := by kernel_rfl
theorem infoNL : (Try.prog.info? 2).map (fun i => (i.zero, i.size, i.bytes)) = some (some (.int .i64 0), 1, 8) := by kernel_rfl
/-- The machine that New makes, its memory filled up to i. -/
def mfresh (l : List Int) (e : Int) (tape : List Int) (m : List S106) : MS := ⟨l, e, 0, 0, 0, tape, fun _ => ⟨0, false⟩, m, []⟩
def mwords (m : List Int) : List S106 := m.map fun v => ⟨v, false⟩
/-- Of all that is new since: a machine's own. -/
theorem mach_all {B g : Nat} {w : World} {O : Nat → Prop} {vt va vm vp : Value} {s : MS} (h : Mach B w g O vt va vm vp s) (hB : B ≤ w.heap.size) : Mach B w g (fun k => B ≤ k ∧ k < w.heap.size) vt va vm vp s :=
  have hm : ∀ k, O k → B ≤ k ∧ k < w.heap.size := fun k hk => ⟨h.low k hk, h.lt k hk⟩
  ⟨h.blk, hm g h.own, fun k hk => hk.1, fun k hk => hk.2, Kd.R_mono h.text hm, Kd.R_mono h.tape hm, Kd.R_mono h.mem hm, Kd.R_mono h.ports hm⟩
theorem mwords_next (l : List Int) (i : Nat) (h : i < l.length) : mwords (l.take (i + 1)) = mwords (l.take i) ++ [(⟨rd l (i : Int), false⟩ : S106)] := by
  unfold mwords
  rw [List.take_succ_eq_append_getElem h, List.map_append]
  simp [rd, List.getD_eq_getElem?_getD, h]
theorem mach_grow {B g : Nat} {w w1 w2 : World} {vt va : Value} {s s2 : MS} (hBw : B ≤ w.heap.size) (h2 : MAfter B g w1 (fun k => B ≤ k ∧ k < w1.heap.size) vt va s2 w2) (h1 : MAfter B g w (fun k => B ≤ k ∧ k < w.heap.size) vt va s w1) : MAfter B g w (fun k => B ≤ k ∧ k < w.heap.size) vt va s2 w2 := by
  obtain ⟨vm1, vp1, hM1, hk1, hb1⟩ := h1
  obtain ⟨vm, vp, hM, hk, hb⟩ := h2
  have hm : ∀ k, More (fun k => B ≤ k ∧ k < w1.heap.size) w1 w2 k → More (fun k => B ≤ k ∧ k < w.heap.size) w w2 k := fun k hk => ⟨(Nat.lt_or_ge k w.heap.size).elim (fun h => .inl ⟨hM.low k hk, h⟩) .inr, hk.2⟩
  exact ⟨vm, vp, ⟨hM.blk, hm g hM.own, fun k hk9 => hk9.1.elim (fun h3 => h3.1) (fun h3 => Nat.le_trans hBw h3), fun k hk => hk.2, Kd.R_mono hM.text hm, Kd.R_mono hM.tape hm, Kd.R_mono hM.mem hm, Kd.R_mono hM.ports hm⟩, hk1.then_ hk (fun k hk => (Nat.lt_or_ge k w.heap.size).elim (fun h => .inl ⟨hk.1, h⟩) .inr), hb1.trans hb⟩
/-- What New answers: no machine and an error, or a machine. -/
def mnew (k : Nat) (l0 : List Int) (a1 : Int) (l2 l3 : List Int) : Option (Option MS × Int) :=
  (image_Check.f k l0 a1 l2).bind fun c => if c.1 = 0 then (if 4096 < l3.length then some (none, 21) else if l0.length ≤ 1000000 ∧ l2.length ≤ 1000000 then some (some (mfresh l0 a1 l3 (mwords l2)), 0) else none) else some (none, c.1)
def MNew (w w' : World) (g : Nat) (s : MS) : Prop := ∃ vt va vm vp, Mach w.heap.size w' g (fun k => w.heap.size ≤ k ∧ k < w'.heap.size) vt va vm vp s ∧ Below w.heap.size w w'
set_option maxRecDepth 100000 in
set_option maxHeartbeats 8000000 in
theorem mach_New_no (k : Nat) (A0 : Option Addr) (c0 : Nat) (l0 : List Int) (a1 : Int) (A2 : Option Addr) (c2 : Nat) (l2 : List Int) (A3 : Option Addr) (c3 : Nat) (l3 : List Int) (w : World) (hr0 : Kd.C (Kd.int .u32) w A0 l0.length l0) (hc0 : l0.length ≤ c0) (hr2 : Kd.C (Kd.int .i64) w A2 l2.length l2) (hc2 : l2.length ≤ c2) (hr3 : Kd.C (Kd.int .i64) w A3 l3.length l3) (hc3 : l3.length ≤ c3) (r : Int) (h : mnew k l0 a1 l2 l3 = some (none, r)) :
    Calls Try.prog 46 #[.agg #[.slice A0 l0.length c0, .int .i64 a1, .slice A2 l2.length c2], .slice A3 l3.length c3] w fun e w' => e = .returned (.tuple #[.pointer none, .int .i64 r]) ∧ Below w.heap.size w w' := by
  have HR0 := Aside0.mk hr0; have HR2 := Aside0.mk hr2; have HR3 := Aside0.mk hr3
  have hI := Aside0.mk (blk_new w (.cells #[.slice A0 l0.length c0, .int .i64 a1, .slice A2 l2.length c2] 25))
  have hi := blk_cell hI.out
  have hB := Aside0.mk (below_alloc (Below.refl w.heap.size w) (.cells #[.slice A0 l0.length c0, .int .i64 a1, .slice A2 l2.length c2] 25))
  have hu := Try.underlying111
  have hu4 := Try.underlying25
  unfold mnew at h
  obtain ⟨⟨q1, q2⟩, hq, h⟩ := Option.bind_eq_some_iff.1 h
  have HQ := Aside0.mk hq
  dsimp only at h
  clear hr0 hr2 hr3 hq
  by_cases he : q1 = 0
  · subst he
    rw [if_pos rfl] at h
    by_cases ht : 4096 < l3.length
    · rw [if_pos ht] at h
      obtain ⟨_, rfl⟩ := Prod.mk.inj (Option.some.inj h)
      have d1 : decide ((l3.length : Int) > 4096) = true := decide_eq_true (by omega)
      go_enter Try.func46, Try.ntmps46
      go_wp2_with (go_at_call 22; refine (image_Check.calls k _ _ l0 a1 _ _ l2 0 q2 _ (Kd.C_alloc HR0.out _) hc0 (Kd.C_alloc HR2.out _) hc2 HQ.out).mono ?_; rintro e w1 ⟨rfl, hb⟩; have hB1 := Aside0.mk (hB.out.trans (hb.mono hB.out.size)); have hI1 := Aside0.mk (blk_below hI.out hb); clear hb)
      (try rw [Exit.noGoto_ret])
      go_ret2
      exact ⟨rfl, hB1.out⟩
    · rw [if_neg ht] at h
      by_cases hl : l0.length ≤ 1000000 ∧ l2.length ≤ 1000000
      · rw [if_pos hl] at h; cases (Prod.mk.inj (Option.some.inj h)).1
      · rw [if_neg hl] at h; cases h
  · rw [if_neg he] at h
    obtain ⟨_, rfl⟩ := Prod.mk.inj (Option.some.inj h)
    have d1 : (q1 != 0) = true := by simpa using he
    go_enter Try.func46, Try.ntmps46
    go_wp2_with (go_at_call 22; refine (image_Check.calls k _ _ l0 a1 _ _ l2 q1 q2 _ (Kd.C_alloc HR0.out _) hc0 (Kd.C_alloc HR2.out _) hc2 HQ.out).mono ?_; rintro e w1 ⟨rfl, hb⟩; have hB1 := Aside0.mk (hB.out.trans (hb.mono hB.out.size)); have hI1 := Aside0.mk (blk_below hI.out hb); clear hb)
    (try rw [Exit.noGoto_ret])
    go_ret2
    exact ⟨rfl, hB1.out⟩
set_option maxRecDepth 100000 in
set_option maxHeartbeats 8000000 in
theorem mach_New_ok (k : Nat) (A0 : Option Addr) (c0 : Nat) (l0 : List Int) (a1 : Int) (A2 : Option Addr) (c2 : Nat) (l2 : List Int) (A3 : Option Addr) (c3 : Nat) (l3 : List Int) (w : World) (hr0 : Kd.C (Kd.int .u32) w A0 l0.length l0) (hc0 : l0.length ≤ c0) (hr2 : Kd.C (Kd.int .i64) w A2 l2.length l2) (hc2 : l2.length ≤ c2) (hr3 : Kd.C (Kd.int .i64) w A3 l3.length l3) (hc3 : l3.length ≤ c3) (s : MS) (h : mnew k l0 a1 l2 l3 = some (some s, 0)) :
    Calls Try.prog 46 #[.agg #[.slice A0 l0.length c0, .int .i64 a1, .slice A2 l2.length c2], .slice A3 l3.length c3] w fun e w' => ∃ g, e = .returned (.tuple #[.pointer (some ⟨g, 0, none⟩), .int .i64 0]) ∧ MNew w w' g s := by
  have HR0 := Aside0.mk hr0; have HR2 := Aside0.mk hr2; have HR3 := Aside0.mk hr3
  have hI := Aside0.mk (blk_new w (.cells #[.slice A0 l0.length c0, .int .i64 a1, .slice A2 l2.length c2] 25))
  have hi := blk_cell hI.out
  have hB := Aside0.mk (below_alloc (Below.refl w.heap.size w) (.cells #[.slice A0 l0.length c0, .int .i64 a1, .slice A2 l2.length c2] 25))
  have hu := Try.underlying111
  have hu4 := Try.underlying25
  unfold mnew at h
  obtain ⟨⟨q1, q2⟩, hq, h⟩ := Option.bind_eq_some_iff.1 h
  have HQ := Aside0.mk hq
  dsimp only at h
  clear hr0 hr2 hr3 hq
  by_cases he : q1 = 0
  · subst he
    rw [if_pos rfl] at h
    by_cases ht : 4096 < l3.length
    · rw [if_pos ht] at h; cases (Prod.mk.inj (Option.some.inj h)).1
    · rw [if_neg ht] at h
      by_cases hl : l0.length ≤ 1000000 ∧ l2.length ≤ 1000000
      · rw [if_pos hl] at h
        obtain rfl := Option.some.inj (Prod.mk.inj (Option.some.inj h)).1
        obtain ⟨hl0, hl2⟩ := hl
        have d1 : decide ((l3.length : Int) > 4096) = false := decide_eq_false (by omega)
        clear h
        go_enter Try.func46, Try.ntmps46
        go_wp2_with (go_at_call 22; refine (image_Check.calls k _ _ l0 a1 _ _ l2 0 q2 _ (Kd.C_alloc HR0.out _) hc0 (Kd.C_alloc HR2.out _) hc2 HQ.out).mono ?_; rintro e w1 ⟨rfl, hb⟩; have hB1 := Aside0.mk (hB.out.trans (hb.mono hB.out.size)); have hI1 := Aside0.mk (blk_below hI.out hb); clear hb)
        refine wp_only ?_
        refine start_ (n := 11) (S := fun w' => w'.cell? ⟨w.heap.size, 0, none⟩ = some (.slice A0 l0.length c0) ∧ w'.cell? ⟨w.heap.size, 1, none⟩ = some (.int .i64 a1)) (ds := []) #[false, false, false, false, false, false, false, false, false, false, false] (by kernel_rfl) rfl rfl ⟨(blk_cell (blk_drew hI1.out) 0).trans rfl, (blk_cell (blk_drew hI1.out) 1).trans rfl⟩ (fun hHeld => ?_)
        have hB2 := Aside0.mk (below_drew hB1.out); have hI2 := Aside0.mk (blk_drew hI1.out)
        clear hB hI hi hB1 hI1
        revert hB2 hI2 hHeld
        generalize w1.drew = w2
        intro hHeld hB2 hI2
        refine zPu (N := some 22) 0 ?_
        refine zTa (N := some 23) 1 hHeld ?_
        refine zPu (N := some 24) 2 ?_
        refine zTa (N := some 25) 3 hHeld ?_
        refine zPu (N := some 27) 5 ?_
        refine zOn (N := some 26) 4 (fun KK hKK => ?_)
        refine Kd.R_append_rows_step (Kd.int .u32) (w0 := w) w.heap.size rfl (.const (.slice none 0 0)) (.tmp 25) 22 38 (.int .u32 0) 4 rfl Try.underlying22 infoNW rfl (by decide) (by omega) (.slice none 0 0) ([] : List Int) l0 A0 _ c0 (fun _ => True) (fun _ => False) rfl rfl (Kd.R_nil _ _ _ _ _) (Kd.C_below HR0.out hB2.out) (fun _ _ h => h) (fun _ hk => hk.elim) (fun _ _ => trivial) hB2.out hB2.out.size (by simp; omega) ?_
        intro vt w3 ho hb hg hat
        rw [List.nil_append] at ho
        have hI3 := Aside0.mk (blk_grown hI2.out hg (by simp [Value.ownBlock]))
        have hB3 := Aside0.mk hb
        have ho_vt := Aside0.mk ho
        refine hKK.out _ _ ⟨(blk_cell hI3.out 0).trans rfl, (blk_cell hI3.out 1).trans rfl⟩ (fun hHeld2 => ?_)
        clear hKK KK hHeld hI2 hB2 ho hb hg hat; have hHeld := hHeld2; clear hHeld2
        have hI2 := hI3; have hB2 := hB3; clear hI3 hB3
        refine zNo ?_
        obtain ⟨At, ct, rfl⟩ := Kd.R_slice ho_vt.out
        refine zOn (N := some 28) 6 (fun KK hKK => ?_)
        refine Kd.R_append_rows_step (Kd.int .i64) (w0 := w) w.heap.size rfl (.const (.slice none 0 0)) (.tmp 27) 23 2 (.int .i64 0) 8 rfl Try.underlying23 infoNL rfl (by decide) (by omega) (.slice none 0 0) ([] : List Int) l3 A3 _ c3 (fun _ => True) (fun _ => False) rfl rfl (Kd.R_nil _ _ _ _ _) (Kd.C_below HR3.out hB2.out) (fun _ _ h => h) (fun _ hk => hk.elim) (fun _ _ => trivial) hB2.out hB2.out.size (by simp; omega) ?_
        intro va w3 ho hb hg hat
        rw [List.nil_append] at ho
        have hI3 := Aside0.mk (blk_grown hI2.out hg (by simp [Value.ownBlock]))
        have hB3 := Aside0.mk hb
        have ho_va := Aside0.mk ho
        have ho_vt2 := Aside0.mk (Kd.R_grown ho_vt.out hg (fun _ _ => by simp [Value.ownBlock])); clear ho_vt; have ho_vt := ho_vt2; clear ho_vt2
        refine hKK.out _ _ ⟨(blk_cell hI3.out 0).trans rfl, (blk_cell hI3.out 1).trans rfl⟩ (fun hHeld2 => ?_)
        clear hKK KK hHeld hI2 hB2 ho hb hg hat; have hHeld := hHeld2; clear hHeld2
        have hI2 := hI3; have hB2 := hB3; clear hI3 hB3
        refine zNo ?_
        obtain ⟨Aa, ca, rfl⟩ := Kd.R_slice ho_va.out
        refine zOn (N := some 29) 7 (fun KK hKK => ?_)
        refine zCl (N := some 29) 100 #[] ?_
        refine (mach_table _).mono ?_
        rintro e w4 ⟨rfl, hb⟩
        have hI4 := Aside0.mk (blk_below hI2.out hb); have hB4 := Aside0.mk (hB2.out.trans (hb.mono hB2.out.size)); have hT4 := Aside0.mk (Kd.R_below ho_vt.out hb); have hA4 := Aside0.mk (Kd.R_below ho_va.out hb)
        refine ⟨_, rfl, hKK.out _ _ ⟨(blk_cell hI4.out 0).trans rfl, (blk_cell hI4.out 1).trans rfl⟩ (fun hHeld2 => ?_)⟩
        clear hKK KK hHeld hI2 hB2 ho_vt ho_va hb; have hHeld := hHeld2; clear hHeld2
        refine zNo ?_
        refine zPu (N := some 30) (v := .agg (mrow (mcell (mfresh l0 a1 l3 []) (.slice At l0.length ct) (.slice Aa l3.length ca) (.slice none 0 0) (.slice none 0 0)))) 8 ?_ (hy := Or.inl ⟨by rfl, fun w' => by kernel_rfl⟩)
        refine zOn (N := some 31) 9 (fun KK hKK => ?_)
        refine zEv (W := w4) (v := .pointer (some ⟨w4.heap.size, 0, none⟩)) (w1 := w4.alloc (.cells (mrow (mcell (mfresh l0 a1 l3 []) (.slice At l0.length ct) (.slice Aa l3.length ca) (.slice none 0 0) (.slice none 0 0))) 111)) ?_
        refine hKK.out _ _ ⟨(blk_cell (blk_alloc hI4.out _) 0).trans rfl, (blk_cell (blk_alloc hI4.out _) 1).trans rfl⟩ (fun hHeld2 => ?_)
        clear hKK KK hHeld hHeld2
        refine zNo ?_
        refine zPu (N := some 8) 10 ?_
        refine zDo ⟨rfl, ?_⟩
        have hMn : Aside0 (Mach w.heap.size (w4.alloc (.cells (mrow (mcell (mfresh l0 a1 l3 []) (.slice At l0.length ct) (.slice Aa l3.length ca) (.slice none 0 0) (.slice none 0 0))) 111)) w4.heap.size (fun k => w.heap.size ≤ k ∧ k < (w4.alloc (.cells (mrow (mcell (mfresh l0 a1 l3 []) (.slice At l0.length ct) (.slice Aa l3.length ca) (.slice none 0 0) (.slice none 0 0))) 111)).heap.size) (.slice At l0.length ct) (.slice Aa l3.length ca) (.slice none 0 0) (.slice none 0 0) (mfresh l0 a1 l3 [])) := ⟨⟨blk_new w4 _, ⟨hB4.out.size, by simp⟩, fun k hk => hk.1, fun k hk => hk.2, Kd.R_mono (Kd.R_bound (Kd.R_alloc hT4.out _)) (fun k hk => ⟨hk.2.1, hk.2.2.1⟩), Kd.R_mono (Kd.R_bound (Kd.R_alloc hA4.out _)) (fun k hk => ⟨hk.2.1, hk.2.2.1⟩), Kd.R_nil _ _ _ _ _, Kd.R_nil _ _ _ _ _⟩⟩
        have hI5 := Aside0.mk (blk_alloc hI4.out (.cells (mrow (mcell (mfresh l0 a1 l3 []) (.slice At l0.length ct) (.slice Aa l3.length ca) (.slice none 0 0) (.slice none 0 0))) 111))
        have hB5 := Aside0.mk (hB4.out.alloc hB4.out.size (.cells (mrow (mcell (mfresh l0 a1 l3 []) (.slice At l0.length ct) (.slice Aa l3.length ca) (.slice none 0 0) (.slice none 0 0))) 111))
        clear hI4 hB4 hT4 hA4
        revert hMn hI5 hB5
        generalize w4.alloc (.cells (mrow (mcell (mfresh l0 a1 l3 []) (.slice At l0.length ct) (.slice Aa l3.length ca) (.slice none 0 0) (.slice none 0 0))) 111) = w5
        generalize w4.heap.size = g
        intro hMn hI5 hB5
        have hi5 := blk_cell hI5.out
        go_wp2
        go_loopw [35] (fun v wr => ∃ i : Nat, v = .int .i64 i ∧ i ≤ l2.length ∧ Aside0 (MAfter w.heap.size g w5 (fun k => w.heap.size ≤ k ∧ k < w5.heap.size) (.slice At l0.length ct) (.slice Aa l3.length ca) (mfresh l0 a1 l3 (mwords (l2.take i))) wr)) (fun v _ => l2.length - (intOf v).toNat)
        case atStart => exact ⟨0, rfl, Nat.zero_le _, ⟨hMn.out.self hB5.out.size⟩⟩
        case round =>
          clear hi5 hMn hI5
          obtain ⟨i, rfl, hil, HA⟩ := hrel
          obtain ⟨vm1, vp1, hm1⟩ := HA.out.mach
          obtain ⟨_, _, _, _, hbr⟩ := HA.out
          have hBr := Aside0.mk (hB5.out.trans hbr)
          have hM1 := Aside0.mk hm1
          clear hbr hm1
          by_cases hlt : i < l2.length
          · have d1 : decide ((i : Int) < (l2.length : Int)) = true := decide_eq_true (by omega)
            obtain ⟨ad, rfl, hv⟩ := Kd.at_int (Kd.C_below HR2.out hBr.out) (i : Int) (by omega) (by omega)
            rw [Int.toNat_natCast] at hv
            obtain ⟨Am, cm, rfl⟩ := Kd.R_slice hM1.out.mem
            have Hwi := Lib.hid (show wrap64 ((i : Int) + 1) = ((i + 1 : Nat) : Int) from by unfold wrap64; omega)
            have HN := Lib.hid hl2
            go_wp2
            refine wp_only ?_
            refine start_ (n := 12) (S := fun w' => w'.cell? ⟨g, 39, none⟩ = some (.slice Am (mwords (l2.take i)).length cm)) (ds := [8, 11]) #[false, false, false, false, false, false, false, false, false, false, false, false] (by kernel_rfl) rfl rfl ((hM1.out.below (below_drew (Below.refl _ _))).cell 39 (by decide)) (fun hHeld => ?_)
            refine zPu (N := some 39) 0 ?_
            refine zPu (N := some 40) 1 ?_
            refine zPu (N := some 41) 2 ?_
            refine zPu (N := some 42) 3 ?_
            refine zTa (N := some 43) 4 hHeld ?_
            refine zPu (N := some 44) 5 ?_
            refine zOn (N := some 45) 6 (fun KK hKK => ?_)
            refine zCl (N := some 45) 101 #[.int .i64 (rd l2 (i : Int))] ?_
            refine (word_Plain.calls (rd l2 (i : Int)) (rd l2 (i : Int)) false _ rfl).mono ?_
            rintro e w6 ⟨rfl, hb⟩
            have hMd := Aside0.mk ((hM1.out.below (below_drew (Below.refl _ _))).below hb)
            have hAd := Aside0.mk ((HA.out.below (below_drew (Below.refl _ _)) hBr.out.size).below hb hBr.out.size)
            have hLd := Aside0.mk ((below_drew hBr.out).trans (hb.mono hBr.out.size))
            refine ⟨_, rfl, hKK.out _ _ ((hMd.out).cell 39 (by decide)) (fun hHeld2 => ?_)⟩
            clear hKK KK hHeld hHeld2 hb hM1 HA hBr hv
            refine zNo ?_
            refine zOn (N := some 46) 7 (fun KK hKK => ?_)
            refine zEv (W := w6) (v := .slice (some ⟨w6.heap.size, 0, none⟩) 1 1) (w1 := w6.alloc (.cells #[.int .i64 (rd l2 (i : Int)), .bool false] 106)) ?_
            refine hKK.out _ _ ((hMd.out.below (below_alloc (Below.refl _ _) _)).cell 39 (by decide)) (fun hHeld3 => ?_)
            clear hKK KK hHeld3
            refine zNo ?_
            refine zLa (N := some 47) 8 (fun KK hKK => ?_)
            refine Kd.R_append_step k106 (w0 := w6) w.heap.size rfl (.tmp 43) (.tmp 46) 99 106 (.agg #[.int .i64 0, .bool false]) 16 rfl Try.underlying99 infoMW rfl (by decide) (by omega) (.slice Am (mwords (l2.take i)).length cm) (mwords (l2.take i)) ⟨rd l2 (i : Int), false⟩ [.int .i64 (rd l2 (i : Int)), .bool false] (fun k => (w.heap.size ≤ k ∧ k < w6.heap.size) ∨ w6.heap.size ≤ k) (fun _ => False) rfl rfl (k106_mkM _ _ _ _) (fun _ hk => hk.elim) (fun _ hk => .inr hk) (Kd.R_mono (Kd.R_bound hMd.out.mem) (fun k hk => .inl ⟨hk.2.1, hk.2.2.1⟩)) (Below.refl _ _) hLd.out.size (by have := HN.out; simp [mwords]; omega) ?_
            intro v1 w7 ho hb hg hat
            have hsl := Kd.R_slice ho
            have hMall := mach_all hMd.out hLd.out.size
            have hMA := Aside0.mk (hMall.appMem (w := w6) hLd.out.size (Kept.refl _ _) (Below.refl _ _) ho hg hb)
            have hbg := Aside0.mk (blk_grown hMd.out.blk hg (Kd.R_ne hMd.out.mem hMd.out.blk (by decide)))
            clear ho hb hg hat hMd hMall
            refine hKK.out _ _ ?_
            clear hKK KK
            refine zNo ?_
            refine zPu (N := some 48) 9 ?_
            refine zPu (N := some 49) 10 ?_
            refine zLa (N := none) 11 (fun KK hKK => ?_)
            have hc4 := (blk_cell hbg.out 39).trans (mrow_at _ 39 (by decide)); have hf4 := blk_frozen hbg.out
            obtain ⟨Ao, co, eo⟩ := hsl
            subst eo
            refine zSt (w1 := w7.setCell ⟨g, 39, none⟩ (.slice Ao (mwords (l2.take i) ++ [(⟨rd l2 (i : Int), false⟩ : S106)]).length co)) ?_
            refine hKK.out _ _ ?_
            clear hKK KK hc4 hf4 hbg
            refine zDo ⟨rfl, ?_⟩
            have HA2 : Aside0 (MAfter w.heap.size g w5 (fun k => w.heap.size ≤ k ∧ k < w5.heap.size) (.slice At l0.length ct) (.slice Aa l3.length ca) (mfresh l0 a1 l3 (mwords (l2.take (i + 1)))) (w7.setCell ⟨g, 39, none⟩ (.slice Ao (mwords (l2.take i) ++ [(⟨rd l2 (i : Int), false⟩ : S106)]).length co))) := ⟨by
              rw [mwords_next l2 i hlt]
              exact mach_grow hB5.out.size hMA.out hAd.out⟩
            clear hMA hAd hLd
            revert HA2
            generalize w7.setCell ⟨g, 39, none⟩ (.slice Ao (mwords (l2.take i) ++ [(⟨rd l2 (i : Int), false⟩ : S106)]).length co) = w8
            intro HA2
            go_wp2
            (try rw [Hwi.out])
            go_roundw
            case rel => exact ⟨i + 1, by first | rfl | (rw [Hwi.out]), by omega, HA2⟩
            case measure => simp [intOf]; omega
          · obtain rfl : i = l2.length := by omega
            have d1 : decide (((l2.length : Nat) : Int) < (l2.length : Int)) = false := decide_eq_false (by omega)
            rw [List.take_length] at HA
            go_wp2
            go_ret2
            obtain ⟨vm9, vp9, hM9, hk9, hl9⟩ := HA.out
            exact ⟨g, rfl, _, _, vm9, vp9, mach_all hM9 hBr.out.size, hB5.out.trans hl9⟩
      · rw [if_neg hl] at h; cases h
  · rw [if_neg he] at h; cases (Prod.mk.inj (Option.some.inj h)).1

end Go.Proofs.Ytfgdjpgdabjpmaa.PEdgeRuns
