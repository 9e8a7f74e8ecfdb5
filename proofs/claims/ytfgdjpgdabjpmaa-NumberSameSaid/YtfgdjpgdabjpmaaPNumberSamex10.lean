-- Written for this claim by a program of this session (wip/tools/pp.py, over the kit's print).
import Derived.Test.YtfgdjpgdabjpmaaPNumberSamex0
import Derived.Test.YtfgdjpgdabjpmaaPNumberSamex8
import Derived.Test.YtfgdjpgdabjpmaaPNumberSamex9
namespace Go.Proofs.Ytfgdjpgdabjpmaa.PNumberSame
open Go.RowKit Go.Proofs.YtfgdjpgdabjpmaaW.PrintWords Go.Proofs.YtfgdjpgdabjpmaaW.PrintLast Go.Proofs.YtfgdjpgdabjpmaaW.PrintMore
attribute [local go_sem] max2_int min2_int max_two min_two max_three min_three max_four min_four   -- for this text's walks alone
set_option linter.unusedVariables false
set_option linter.unusedSimpArgs false

/-! ### number_Of: function 14, by hand -/
/-- The book in block g: its map in block b of at most c entries, the next number n. -/
structure IsBook (w : World) (g b c : Nat) (m : List (Int × Int)) (n : Int) : Prop where
  cells : w.heap[g]? = some (.cells #[.map (some b), .int .i64 n] 120 (0, 0))
  own : w.ownsMap Try.prog 38 (plainElem Try.prog 3) b c (Mapv.mview .u32 .i64 m)
  ne : g ≠ b
theorem info_zero_int (w : World) : (zeroValue 3).run Try.prog w = .ok (.int .i64 0) w := by kernel_rfl
set_option maxRecDepth 100000 in
set_option maxHeartbeats 4000000 in
theorem book_number.old (g b c : Nat) (m : List (Int × Int)) (n v x : Int) (w : World) (hB : IsBook w g b c m n) (hv : (Lit.int .u32 v).wf = true) (hl : m.lookup v = some x) :
    Calls Try.prog 69 #[.pointer (some ⟨g, 0, none⟩), .int .u32 v] w fun e w' => e = .returned (.int .i64 x) ∧ w = w' := by
  have c0 : w.cell? ⟨g, 0, none⟩ = some (.map (some b)) := (cell_of_row _ _ _ _ _ _ hB.cells).trans rfl
  have c1 : w.cell? ⟨g, 1, none⟩ = some (.int .i64 n) := (cell_of_row _ _ _ _ _ _ hB.cells).trans rfl
  have hkey : keyOf Try.prog 38 (.int .u32 v) = some (.int .u32 v) := Maps.keyOf_int_mk Try.underlying38 hv
  have hh : Maps.has (Mapv.mview .u32 .i64 m) (.int .u32 v) = true := by rw [Mapv.mview_has, hl]; rfl
  have ha := Mapv.mview_at .u32 .i64 v (.lit (.int .i64 0)) m
  rw [hl] at ha
  have A1 := Aside0.mk hB.own
  have A2 := Aside0.mk ha
  clear hB hl ha
  go_enter Try.func69, Try.ntmps69
  go_wp2_with (at_lookup; refine wpList_lookup_own_ok_int _ rfl _ _ 118 rfl 38 3 .i64 (Maps.int_keyed Try.underlying38) Try.underlying118 Try.underlying3 (info_zero_int _) b c _ rfl A1.out _ _ rfl hkey ?_; intro y hat hwc; obtain rfl : y = x := (by have := A2.out.symm.trans hat; cases this; rfl); clear hat)
  go_ret
  exact ⟨rfl, rfl⟩
/-- What was there below block g stays; the blocks g and b alone are written. -/
structure Kept2 (g b : Nat) (w w' : World) : Prop where
  os : w'.os = w.os
  tape : w'.tape = w.tape
  output : w'.output = w.output
  size : w.heap.size ≤ w'.heap.size
  block : ∀ k, k < w.heap.size → k ≠ g → k ≠ b → w'.heap[k]? = w.heap[k]?
set_option maxRecDepth 100000 in
set_option maxHeartbeats 4000000 in
theorem book_number.new (k : Nat) (al : Bool) (g b c : Nat) (m : List (Int × Int)) (n v : Int) (w : World) (hB : IsBook w g b c m n) (hv : (Lit.int .u32 v).wf = true) (hl : m.lookup v = none) (hn0 : 0 ≤ n) (hn1 : n ≤ 281474976710656) (hc : c < maxLen)
    (ha : touch_Alone.f k v = some al) :
    Calls Try.prog 69 #[.pointer (some ⟨g, 0, none⟩), .int .u32 v] w fun e w' => e = .returned (.int .i64 n) ∧ IsBook w' g b (c + 1) (if al = true then m else (v, n) :: m) (n + 1) ∧ Kept2 g b w w' := by
  have c0 : w.cell? ⟨g, 0, none⟩ = some (.map (some b)) := (cell_of_row _ _ _ _ _ _ hB.cells).trans rfl
  have c1 : w.cell? ⟨g, 1, none⟩ = some (.int .i64 n) := (cell_of_row _ _ _ _ _ _ hB.cells).trans rfl
  have f1 : w.frozen? ⟨g, 1, none⟩ = false := frozen_of_row _ _ _ _ _ hB.cells
  have hkey : keyOf Try.prog 38 (.int .u32 v) = some (.int .u32 v) := Maps.keyOf_int_mk Try.underlying38 hv
  have hh : Maps.has (Mapv.mview .u32 .i64 m) (.int .u32 v) = false := by rw [Mapv.mview_has, hl]; rfl
  have A1 := Aside0.mk hB.own
  have AB := Aside0.mk hB
  have AA := Aside0.mk ha
  have hwn : (Lit.int .i64 n).wf = true := by have hmin : IntKind.i64.min = -9223372036854775808 := rfl; have hmax : IntKind.i64.max = 9223372036854775807 := rfl; simp only [Lit.wf, Bool.and_eq_true, decide_eq_true_eq]; omega
  have hW := Aside0.mk hwn
  clear hB hl ha hwn
  have hlt : g < w.heap.size := (Array.getElem?_eq_some_iff.1 AB.out.cells).1
  have hltb : b < w.heap.size := A1.out.lt
  have hne := Aside0.mk AB.out.ne
  have heap1 : Aside0 ((w.setCell ⟨g, 1, none⟩ (.int .i64 (n + 1))).heap[g]? = some (.cells #[.map (some b), .int .i64 (n + 1)] 120 (0, 0))) := ⟨heap_setCell_same _ _ _ _ _ _ AB.out.cells⟩
  have own1 : Aside0 ((w.setCell ⟨g, 1, none⟩ (.int .i64 (n + 1))).ownsMap Try.prog 38 (plainElem Try.prog 3) b c (Mapv.mview .u32 .i64 m)) := ⟨A1.out.setCell (fun e => hne.out e.symm) _⟩
  have kept1 : Aside0 (Kept2 g b w (w.setCell ⟨g, 1, none⟩ (.int .i64 (n + 1)))) := ⟨rfl, rfl, rfl, by simp, fun k hk h1 h2 => heap_setCell_other _ _ _ _ h1⟩
  cases al with
  | true =>
    go_enter Try.func69, Try.ntmps69
    go_wp2_with (first | (at_lookup; refine wpList_lookup_own_ok_int _ rfl _ _ 118 rfl 38 3 .i64 (Maps.int_keyed Try.underlying38) Try.underlying118 Try.underlying3 (info_zero_int _) b c _ rfl A1.out _ _ rfl hkey ?_; intro y hat hwc; clear hat) | (go_at_call 108; refine (touch_Alone.calls k v true _ AA.out).mono ?_; rintro e w1 ⟨rfl, hb1⟩))
    go_ret
    refine ⟨rfl, ⟨(hb1.block g (by simpa using hlt)).trans heap1.out, (Mapv.ownsMap_below own1.out hb1 (by simpa using hltb)).mono (by omega), hne.out⟩, ?_⟩
    exact ⟨hb1.os.trans kept1.out.os, hb1.tape.trans kept1.out.tape, hb1.output.trans kept1.out.output, Nat.le_trans kept1.out.size hb1.size, fun i hi h1 h2 => (hb1.block i (Nat.lt_of_lt_of_le hi kept1.out.size)).trans (kept1.out.block i hi h1 h2)⟩
  | false =>
    go_enter Try.func69, Try.ntmps69
    go_wp2_with (first | (at_lookup; refine wpList_lookup_own_ok_int _ rfl _ _ 118 rfl 38 3 .i64 (Maps.int_keyed Try.underlying38) Try.underlying118 Try.underlying3 (info_zero_int _) b c _ rfl A1.out _ _ rfl hkey ?_; intro y hat hwc; clear hat) | (go_at_call 108; refine (touch_Alone.calls k v false _ AA.out).mono ?_; rintro e w1 ⟨rfl, hb1⟩; have heap2 := Aside0.mk ((hb1.block g (by simpa using hlt)).trans heap1.out); have own2 := Aside0.mk (Mapv.ownsMap_below own1.out hb1 (by simpa using hltb)); have d0 : w1.cell? ⟨g, 0, none⟩ = some (.map (some b)) := (cell_of_row _ _ _ _ _ _ heap2.out).trans rfl) | (at_mapUpdate; refine wpList_mapUpdate_own _ rfl _ _ _ 118 rfl 38 3 (Maps.int_keyed Try.underlying38) Try.underlying118 _ b c _ rfl own2.out hc _ _ _ rfl rfl hkey _ [] (plainElem_int Try.underlying3 hW.out) ?_; intro w2 hown2 hg2))
    go_ret
    refine ⟨rfl, ⟨Mapv.heap_kept heap2.out hg2 (by intro e; exact hne.out (Option.some.inj e)), hown2, hne.out⟩, ?_⟩
    exact ⟨hg2.os.trans (hb1.os.trans kept1.out.os), hg2.tape.trans (hb1.tape.trans kept1.out.tape), hg2.output.trans (hb1.output.trans kept1.out.output), Nat.le_trans kept1.out.size (Nat.le_trans hb1.size hg2.size), fun i hi h1 h2 => (hg2.block i (Nat.lt_of_lt_of_le hi (Nat.le_trans kept1.out.size hb1.size)) (by intro e; exact h2 (Option.some.inj e))).trans ((hb1.block i (Nat.lt_of_lt_of_le hi kept1.out.size)).trans (kept1.out.block i hi h1 h2))⟩
def number_Of.l (k : Nat) : List Int → List (Int × Int) → Int → List Int → Option (List Int)
  | [], _, _, l => some l
  | v :: ws, m, n, l => match m.lookup v with
    | some x => number_Of.l k ws m n (l ++ [x])
    | none => (touch_Alone.f k v).bind fun a => number_Of.l k ws (if a = true then m else (v, n) :: m) (n + 1) (l ++ [n])
def number_Of.f (k : Nat) (a0_0 : List Int) (a0_1 : Int) (a0_2 : List Int) : Option (List Int × Int) :=
  (image_Check.f k a0_0 a0_1 a0_2).bind fun c => if c.1 = 0 then (if a0_0.all (fun v => decide (0 ≤ v ∧ v < 4294967296)) = true ∧ a0_0.length ≤ 16384 then (number_Of.l k a0_0 [] 0 []).bind fun l => some (l, 0) else none) else some ([], c.1)
theorem number_Of.mono_l (k : Nat) : ∀ ws m n l, LeO (number_Of.l k ws m n l) (number_Of.l (k + 1) ws m n l)
  | [], _, _, _ => LeO.refl _
  | v :: ws, m, n, l => by
    unfold number_Of.l
    cases m.lookup v with
    | some x => exact number_Of.mono_l k ws _ _ _
    | none => exact LeO.bind (touch_Alone.mono _ _) (fun a => number_Of.mono_l k ws _ _ _)
theorem number_Of.mono : ∀ a0 a1 a2 k, LeO (number_Of.f k a0 a1 a2) (number_Of.f (k + 1) a0 a1 a2) := by
  intro a0 a1 a2 k
  unfold number_Of.f
  exact LeO.bind (image_Check.mono _ _ _ _) (fun c => LeO.ite (LeO.ite (LeO.bind (number_Of.mono_l k _ _ _ _) (fun _ => LeO.refl _)) (LeO.none _)) (LeO.refl _))
theorem Kept2.below {B g b : Nat} {w w1 w2 : World} (h : Below B w w1) (hk : Kept2 g b w1 w2) (hg : B ≤ g) (hb : B ≤ b) (hB : B ≤ w1.heap.size) : Below B w w2 :=
  ⟨hk.os.trans h.os, hk.tape.trans h.tape, hk.output.trans h.output, Nat.le_trans h.size hk.size, fun i hi => (hk.block i (Nat.lt_of_lt_of_le hi hB) (by omega) (by omega)).trans (h.block i hi)⟩
theorem IsBook.grown {w w1 : World} {g b c : Nat} {m : List (Int × Int)} {n : Int} {row : Option Nat} (h : IsBook w g b c m n) (hg : w.grownBy w1 row) (h1 : some g ≠ row) (h2 : some b ≠ row) : IsBook w1 g b c m n :=
  ⟨Mapv.heap_kept h.cells hg h1, h.own.kept hg h2, h.ne⟩
theorem drop_rd (l : List Int) (j : Nat) (h : j < l.length) : l.drop j = rd l (j : Int) :: l.drop (j + 1) := by
  rw [List.drop_eq_getElem_cons h]
  simp [rd, List.getD_eq_getElem?_getD, List.getElem?_eq_getElem h]
theorem all_rd {l : List Int} {p : Int → Prop} [DecidablePred p] (ha : l.all (fun v => decide (p v)) = true) (j : Nat) (h : j < l.length) : p (rd l (j : Int)) := by
  have h1 : rd l (j : Int) = l[j] := by simp [rd, List.getD_eq_getElem?_getD, List.getElem?_eq_getElem h]
  rw [h1]
  exact of_decide_eq_true (List.all_eq_true.1 ha _ (List.getElem_mem h))
theorem wf_u32_of {x : Int} (h : 0 ≤ x ∧ x < 4294967296) : (Lit.int .u32 x).wf = true := by
  have hmin : IntKind.u32.min = 0 := rfl
  have hmax : IntKind.u32.max = 4294967295 := rfl
  simp only [Lit.wf, Bool.and_eq_true, decide_eq_true_eq]
  omega
theorem heap_alloc2_new' (w : World) (A B : Obj) : ((w.alloc A).alloc B).heap[w.heap.size + 1]? = some B := heap_alloc2_new w A B
/-- What holds at the head of a round. -/
def NumRel (k : Nat) (w : World) (g b : Nat) (xs res : List Int) (i v : Value) (wr : World) : Prop :=
  ∃ (j c : Nat) (m : List (Int × Int)) (n : Int) (l : List Int), i = .int .i64 j ∧ j ≤ xs.length ∧ IsBook wr g b c m n ∧ c ≤ j ∧ 0 ≤ n ∧ n ≤ j ∧ l.length = j ∧
    wr.ownsRow w.heap.size 3 1 v l.length (nums .i64 l) ∧ v.ownBlock ≠ some g ∧ v.ownBlock ≠ some b ∧ Below w.heap.size w wr ∧ number_Of.l k (xs.drop j) m n l = some res
theorem NumRel.step {k : Nat} {w w2 w3 : World} {g b j c : Nat} {m : List (Int × Int)} {n y : Int} {l xs res : List Int} {v v1 : Value} (hB : IsBook w2 g b c m n) (hc : c ≤ j + 1) (hn0 : 0 ≤ n) (hn1 : n ≤ (j : Int) + 1) (hj : j < xs.length) (hll : l.length = j)
    (ho : w3.ownsRow w.heap.size 3 1 v1 (l ++ [y]).length (nums .i64 (l ++ [y]))) (hb : Below w.heap.size w w3) (hg : w2.grownBy w3 v.ownBlock) (hvg : v.ownBlock ≠ some g) (hvb : v.ownBlock ≠ some b)
    (hat : v1.ownBlock = v.ownBlock ∨ ∃ q, v1.ownBlock = some q ∧ w2.heap.size ≤ q) (hs : number_Of.l k (xs.drop (j + 1)) m n (l ++ [y]) = some res) :
    NumRel k w g b xs res (.int .i64 ((j : Int) + 1)) v1 w3 := by
  have hgl : g < w2.heap.size := (Array.getElem?_eq_some_iff.1 hB.cells).1
  have hbl : b < w2.heap.size := hB.own.lt
  refine ⟨j + 1, c, m, n, l ++ [y], by simp, by omega, hB.grown hg (fun e => hvg e.symm) (fun e => hvb e.symm), hc, hn0, by omega, by simp [hll], ho, ?_, ?_, hb, hs⟩
  · rcases hat with e | ⟨q, e, hq⟩
    · rw [e]; exact hvg
    · rw [e]; intro e'; have := Option.some.inj e'; omega
  · rcases hat with e | ⟨q, e, hq⟩
    · rw [e]; exact hvb
    · rw [e]; intro e'; have := Option.some.inj e'; omega
set_option maxRecDepth 100000 in
set_option maxHeartbeats 8000000 in
theorem number_Of.calls (k : Nat) (A0_0 : Option Addr) (c0_0 : Nat) (l0_0 : List Int) (a0_1 : Int) (A0_2 : Option Addr) (c0_2 : Nat) (l0_2 : List Int) (r1 : List Int) (r2 : Int) (w : World) (hr0_0 : Kd.C (Kd.int .u32) w A0_0 l0_0.length l0_0) (hc0_0 : l0_0.length ≤ c0_0) (hr0_2 : Kd.C (Kd.int .i64) w A0_2 l0_2.length l0_2) (hc0_2 : l0_2.length ≤ c0_2) (h : number_Of.f k l0_0 a0_1 l0_2 = some (r1, r2)) :
    Calls Try.prog 14 #[.agg #[.slice A0_0 l0_0.length c0_0, .int .i64 a0_1, .slice A0_2 l0_2.length c0_2]] w fun e w' => ∃ v0_ : Value, e = .returned (.tuple #[v0_, .int .i64 r2]) ∧ Kd.R (Kd.int .i64) 3 w' w.heap.size (fun _ => True) v0_ r1 ∧ Below w.heap.size w w' := by
  have hmm := @run_makeMap Try.prog
  have hmf : ∀ (fn : Fn) (first cap : Array Value) (w : World), (Instr.makeFunc fn first cap).run Try.prog w = .ok (.func fn first cap) w := fun _ _ _ _ => rfl
  unfold number_Of.f at h
  obtain ⟨⟨e1, e2⟩, h0, h⟩ := Option.bind_eq_some_iff.1 h
  have A0 := Aside0.mk h0
  have HR0 := Aside0.mk hr0_0
  have HR2 := Aside0.mk hr0_2
  clear h0 hr0_0 hr0_2
  by_cases he : e1 = 0
  · subst he
    have h' := h
    rw [if_pos rfl] at h'
    by_cases hg : l0_0.all (fun v => decide (0 ≤ v ∧ v < 4294967296)) = true ∧ l0_0.length ≤ 16384
    · rw [if_pos hg] at h'
      obtain ⟨res, h1, h2⟩ := Option.bind_eq_some_iff.1 h'
      obtain ⟨rfl, rfl⟩ := Prod.mk.inj (Option.some.inj h2)
      have HG := Aside0.mk hg
      have H1 := Aside0.mk h1
      clear h'
      clear h
      clear h1 h2 hg
      go_enter Try.func14, Try.ntmps14
      go_wp2_with (go_at_call 22; refine (image_Check.calls k A0_0 c0_0 l0_0 a0_1 A0_2 c0_2 l0_2 0 e2 _ (Kd.C_alloc HR0.out _) hc0_0 (Kd.C_alloc HR2.out _) hc0_2 A0.out).mono ?_; rintro e w1 ⟨rfl, hb1⟩; have d0 : w1.cell? ⟨w.heap.size, 0, none⟩ = some (.slice A0_0 l0_0.length c0_0) := (hb1.cell (p := ⟨w.heap.size, 0, none⟩) (by simp)).trans ((cell_of_row _ _ _ _ _ _ (heap_alloc_new _ _)).trans rfl); have hz : w.heap.size < w1.heap.size := by have := hb1.size; simp at this; omega)
      have hlen := Aside0.mk (Nat.le_trans HG.out.2 (by decide : (16384 : Nat) ≤ 140737488355328))
      have hW1 : Aside0 (Below w.heap.size w w1) := ⟨((Below.refl w.heap.size w).alloc (Nat.le_refl _) _).trans (hb1.mono (by simp))⟩
      have hwz := Aside0.mk (Nat.le_of_lt hz)
      clear hb1 d0
      go_loopw [27, 8] (fun i v wr => NumRel k w (w1.heap.size + 1) w1.heap.size l0_0 res i v wr) (fun i _ _ => l0_0.length - (intOf i).toNat)
      case atStart =>
        refine ⟨0, 0, [], 0, [], rfl, Nat.zero_le _, ⟨heap_alloc2_new' _ _ _, ?_, by omega⟩, Nat.le_refl _, by omega, by omega, rfl, own_nil _ _ _ _, by simp [Value.ownBlock], by simp [Value.ownBlock], ?_, H1.out⟩
        · exact (World.ownsMap_made (H := Unit) _ _ _ _).alloc _
        · exact (hW1.out.alloc hwz.out _).alloc (by simp; omega) _
      case round =>
        obtain ⟨j, c, m, n, l, rfl, hj, hbook, hc, hn0, hn1, hll, hrow, hvg, hvb, hbel, hsp⟩ := hrel
        have HS := Aside0.mk hsp
        have HB := Aside0.mk hbook
        have HR := Aside0.mk hrow
        have HL := Aside0.mk hbel
        have HVG := Aside0.mk hvg
        have HVB := Aside0.mk hvb
        have HLL := Aside0.mk hll
        clear hsp hbook hrow hbel hvg hvb hll
        by_cases hlt : j < l0_0.length
        · obtain ⟨ad, e, hx⟩ := Kd.at_int (Kd.C_below HR0.out HL.out) (j : Int) (by omega) (by omega)
          cases e
          rw [Int.toNat_natCast] at hx
          have hd := drop_rd l0_0 j hlt
          have hwf : (Lit.int .u32 (rd l0_0 (j : Int))).wf = true := wf_u32_of (all_rd HG.out.1 j hlt)
          have HX := Aside0.mk hwf
          generalize rd l0_0 (j : Int) = x at hx hd HX
          have hs := HS.out
          rw [hd] at hs
          unfold number_Of.l at hs
          have hll := HLL.out
          have hlen' := hlen.out
          have hbm : (l.length + 1) * 8 ≤ 140737488355328 := by have := HG.out.2; omega
          have HBM := Aside0.mk hbm
          have hj5 : (j : Int) ≤ 16384 := by have := HG.out.2; omega
          have hcl : c < maxLen := by have : maxLen = 9223372036854775807 := rfl; omega
          have HCL := Aside0.mk hcl
          cases hm : m.lookup x with
          | some y =>
            rw [hm] at hs
            have HS2 := Aside0.mk (show number_Of.l k (l0_0.drop (j + 1)) m n (l ++ [y]) = some _ from hs)
            have HM := Aside0.mk hm
            clear hs hm hd hwf hll hlen' hbm hcl
            go_wp2_with (first | (go_at_call 69; refine (book_number.old (w1.heap.size + 1) w1.heap.size c m n x y _ HB.out HX.out HM.out).mono ?_; rintro e w2 ⟨rfl, rfl⟩) | (at_builtin; refine print_append_num (w0 := w) w.heap.size rfl (.tmp 31) (.tmp 35) 30 3 .i64 8 rfl Try.underlying30 info3 (by decide) _ l y rfl rfl HR.out HL.out HL.out.size HBM.out ?_; intro v1 w3 ho hb hg hat))
            exact ⟨NumRel.step HB.out (by omega) hn0 (by omega) hlt HLL.out ho hb hg HVG.out HVB.out hat HS2.out, by simp [intOf]; omega⟩
          | none =>
            rw [hm] at hs
            obtain ⟨al, hal, hs⟩ := Option.bind_eq_some_iff.1 hs
            have HS2 := Aside0.mk hs
            have HM := Aside0.mk hm
            have HA := Aside0.mk hal
            clear hs hm hal hd hwf hll hlen' hbm
            have hgB : w.heap.size ≤ w1.heap.size := hwz.out
            go_wp2_with (first | (go_at_call 69; refine (book_number.new k al (w1.heap.size + 1) w1.heap.size c m n x _ HB.out HX.out HM.out hn0 (by omega) HCL.out HA.out).mono ?_; rintro e w2 ⟨rfl, hbk, hkp⟩; have HR2' := Aside0.mk (own_move HR.out (w1 := w2) (fun q hq => hkp.block q (own_lt HR.out q hq) (fun e => HVG.out (e ▸ hq)) (fun e => HVB.out (e ▸ hq)))); have HL2 := Aside0.mk (hkp.below HL.out (by omega) hgB HL.out.size); have HB2 := Aside0.mk hbk; clear hbk hkp) | (at_builtin; refine print_append_num (w0 := w) w.heap.size rfl (.tmp 31) (.tmp 35) 30 3 .i64 8 rfl Try.underlying30 info3 (by decide) _ l n rfl rfl HR2'.out HL2.out HL2.out.size HBM.out ?_; intro v1 w3 ho hb hg hat))
            exact ⟨NumRel.step HB2.out (by omega) (by omega) (by omega) hlt HLL.out ho hb hg HVG.out HVB.out hat HS2.out, by simp [intOf]; omega⟩
        · obtain rfl : j = l0_0.length := by omega
          have hs := HS.out
          rw [List.drop_length] at hs
          obtain rfl : l = res := Option.some.inj hs
          clear hs
          go_wp2
          go_ret2
          exact ⟨_, rfl, Kd.R_of_own HR.out (fun _ _ => trivial), HL.out⟩
    · rw [if_neg hg] at h'
      cases h'
  · rw [if_neg he] at h
    obtain ⟨rfl, rfl⟩ := Prod.mk.inj (Option.some.inj h)
    have h1 : (e1 != 0) = true := by simpa using he
    clear h he
    go_enter Try.func14, Try.ntmps14
    go_wp2_with (go_at_call 22; refine (image_Check.calls k A0_0 c0_0 l0_0 a0_1 A0_2 c0_2 l0_2 e1 e2 _ (Kd.C_alloc HR0.out _) hc0_0 (Kd.C_alloc HR2.out _) hc0_2 A0.out).mono ?_; rintro e w1 ⟨rfl, hb1⟩)
    go_ret2
    exact ⟨_, rfl, Kd.R_nil _ _ _ _ _, ((Below.refl w.heap.size w).alloc (Nat.le_refl _) _).trans (hb1.mono (by simp))⟩

/-! ### number_Count: function 17, by hand -/
def number_Count.f (l0 : List Int) : Option Int := if l0.all (fun v => decide (-9223372036854775808 ≤ v ∧ v ≤ 9223372036854775807)) = true then some (Mapv.distinct l0.reverse : Nat) else none
theorem count_wf {x : Int} (h : -9223372036854775808 ≤ x ∧ x ≤ 9223372036854775807) : (Lit.int .i64 x).wf = true := by
  have hmin : IntKind.i64.min = -9223372036854775808 := rfl
  have hmax : IntKind.i64.max = 9223372036854775807 := rfl
  simp only [Lit.wf, Bool.and_eq_true, decide_eq_true_eq]
  omega
theorem count_at (l : List Int) (j : Nat) (h : j < l.length) : l.take (j + 1) = l.take j ++ [rd l (j : Int)] := by
  rw [List.take_succ_eq_append_getElem h]
  simp [rd, List.getD_eq_getElem?_getD, List.getElem?_eq_getElem h]
theorem count_all {l : List Int} {p : Int → Prop} [DecidablePred p] (ha : l.all (fun v => decide (p v)) = true) (j : Nat) (h : j < l.length) : p (rd l (j : Int)) := by
  have h1 : rd l (j : Int) = l[j] := by simp [rd, List.getD_eq_getElem?_getD, List.getElem?_eq_getElem h]
  rw [h1]
  exact of_decide_eq_true (List.all_eq_true.1 ha _ (List.getElem_mem h))
def CountRel (w : World) (xs : List Int) (i : Value) (wr : World) : Prop :=
  ∃ j : Nat, i = .int .i64 j ∧ j ≤ xs.length ∧ wr.ownsMap Try.prog 3 (plainElem Try.prog 4) w.heap.size j (Mapv.sview .i64 (xs.take j).reverse) ∧ Below w.heap.size w wr
set_option maxRecDepth 100000 in
set_option maxHeartbeats 4000000 in
theorem number_Count.calls (A0 : Option Addr) (c0 : Nat) (l0 : List Int) (r : Int) (w : World) (hr0 : Kd.C (Kd.int .i64) w A0 l0.length l0) (hc0 : l0.length ≤ c0) (h : number_Count.f l0 = some r) :
    Calls Try.prog 17 #[.slice A0 l0.length c0] w fun e w' => e = .returned (.int .i64 r) ∧ Below w.heap.size w w' := by
  have hmm := @run_makeMap Try.prog
  unfold number_Count.f at h
  by_cases hg : l0.all (fun v => decide (-9223372036854775808 ≤ v ∧ v ≤ 9223372036854775807)) = true
  · rw [if_pos hg] at h
    obtain rfl := Option.some.inj h
    have HG := Aside0.mk hg
    have HR0 := Aside0.mk hr0
    have HM := Aside0.mk hr0.2.1
    clear h hg hr0
    go_enter Try.func17, Try.ntmps17
    go_wp2
    go_loopw [9] (fun i wr => CountRel w l0 i wr) (fun i _ => l0.length - (intOf i).toNat)
    case atStart => exact ⟨0, rfl, Nat.zero_le _, World.ownsMap_made _ _ _ _, (Below.refl w.heap.size w).alloc (Nat.le_refl _) _⟩
    case round =>
      obtain ⟨j, rfl, hj, how, hbel⟩ := hrel
      have HO := Aside0.mk how
      have HB := Aside0.mk hbel
      clear how hbel
      by_cases hlt : j < l0.length
      · obtain ⟨ad, e, hx⟩ := Kd.at_int (Kd.C_below HR0.out HB.out) (j : Int) (by omega) (by omega)
        cases e
        rw [Int.toNat_natCast] at hx
        have hd := Aside0.mk (count_at l0 j hlt)
        have HX := Aside0.mk (count_wf (count_all HG.out j hlt))
        generalize rd l0 (j : Int) = x at hx hd HX
        have hkey : keyOf Try.prog 3 (.int .i64 x) = some (.int .i64 x) := Maps.keyOf_int_mk Try.underlying3 HX.out
        have hjm : j < maxLen := by have := HM.out; have : maxLen = 9223372036854775807 := rfl; omega
        have HJ := Aside0.mk hjm
        clear hjm
        have hj9 : (j : Int) < 9223372036854775807 := by have := HM.out; omega
        go_wp2_with (at_mapUpdate; refine wpList_mapUpdate_own _ rfl _ _ _ 126 rfl 3 4 (Maps.int_keyed Try.underlying3) Try.underlying126 _ w.heap.size j _ rfl HO.out HJ.out _ _ _ rfl rfl hkey _ [] (plainElem_bool Try.underlying4 true) ?_; intro w2 hown2 hg2)
        refine ⟨⟨j + 1, by simp, by omega, ?_, HB.out.grown hg2 HB.out.size (fun k e => by cases e; exact Nat.le_refl _)⟩, by simp [intOf]; omega⟩
        rw [hd.out, List.reverse_append]
        exact hown2
      · obtain rfl : j = l0.length := by omega
        have ht := Mapv.sview_size .i64 l0.reverse
        have HO2 := HO.out
        rw [List.take_length] at HO2
        have HO3 := Aside0.mk HO2
        have HT := Aside0.mk ht
        clear HO2 ht
        go_wp2_with (at_len; refine wpList_len_own _ rfl _ 126 rfl 3 4 Try.underlying126 _ w.heap.size _ _ rfl HO3.out ?_)
        go_ret
        exact ⟨by rw [← HT.out]; rfl, HB.out⟩
  · rw [if_neg hg] at h
    cases h

/-! ### pleatref00_EqInts: function 67 -/
def pleatref00_EqInts.l0 : Nat → List Int → List Int → Int → Option (Bool)
  | 0, _, _, _ => none
  | k + 1, x0, x1, x5 => if x5 < (x0.length : Int) then (if 0 ≤ x5 then (if x5 < (x1.length : Int) then (if (rd x0 x5) = (rd x1 x5) then (pleatref00_EqInts.l0 k x0 x1 (wrap64 (x5 + 1))) else (some false)) else (none)) else (none)) else (some true)
def pleatref00_EqInts.f (k : Nat) (l0 : List Int) (l1 : List Int) : Option (Bool) := if (l0.length : Int) = (l1.length : Int) then (pleatref00_EqInts.l0 k l0 l1 0) else (some false)
theorem pleatref00_EqInts.mono_l : ∀ k, (∀ y0 y1 y2, LeO (pleatref00_EqInts.l0 k y0 y1 y2) (pleatref00_EqInts.l0 (k + 1) y0 y1 y2))
  | 0 => fun _ _ _ r h => by simp [pleatref00_EqInts.l0] at h
  | k + 1 => by
    have ih0 := pleatref00_EqInts.mono_l k
    · intro y0 y1 y2
      unfold pleatref00_EqInts.l0
      repeat' first
      | (with_reducible exact ih0 _ _ _)
      | (with_reducible exact LeO.refl _)
      | (with_reducible exact LeO.none _)
      | (with_reducible refine LeO.ite ?_ ?_)
      | (with_reducible refine LeO.bind ?_ (fun _ => ?_))
      | exact ih0 _ _ _
      | exact LeO.none _
      | refine LeO.ite ?_ ?_
      | refine LeO.bind ?_ (fun _ => ?_)
theorem pleatref00_EqInts.mono : ∀ a0 a1 k, LeO (pleatref00_EqInts.f k a0 a1) (pleatref00_EqInts.f (k + 1) a0 a1) := by
  intro a0 a1 k
  have ih0 := pleatref00_EqInts.mono_l k
  unfold pleatref00_EqInts.f
  repeat' first
      | (with_reducible exact ih0 _ _ _)
      | (with_reducible exact LeO.refl _)
      | (with_reducible exact LeO.none _)
      | (with_reducible refine LeO.ite ?_ ?_)
      | (with_reducible refine LeO.bind ?_ (fun _ => ?_))
      | exact ih0 _ _ _
      | exact LeO.none _
      | refine LeO.ite ?_ ?_
      | refine LeO.bind ?_ (fun _ => ?_)
set_option maxHeartbeats 8000000 in
set_option maxRecDepth 100000 in
theorem pleatref00_EqInts.calls (k : Nat) (A0 : Option Addr) (c0 : Nat) (l0 : List Int) (A1 : Option Addr) (c1 : Nat) (l1 : List Int) (r : Bool) (w : World) (hr0 : Kd.C (Kd.int .i64) w A0 l0.length l0) (hc0 : l0.length ≤ c0) (hr1 : Kd.C (Kd.int .i64) w A1 l1.length l1) (hc1 : l1.length ≤ c1) (h : pleatref00_EqInts.f k l0 l1 = some r) :
    Calls Try.prog 67 #[.slice A0 l0.length c0, .slice A1 l1.length c1] w fun e w' => e = .returned (.bool r) ∧ Drawn0 w w' := by
  have HR0 := Aside0.mk hr0
  have HC0 := Aside0.mk hc0
  clear hr0 hc0
  have HR1 := Aside0.mk hr1
  have HC1 := Aside0.mk hc1
  clear hr1 hc1
  have H : (if (l0.length : Int) = (l1.length : Int) then (pleatref00_EqInts.l0 k l0 l1 0) else (some false)) = some r := h
  clear h
  by_cases c3 : (l0.length : Int) = (l1.length : Int)
  · rw [if_pos c3] at H
    have c3b0 : ((l0.length : Int) == (l1.length : Int)) = true := beq_iff_eq.mpr c3
    have c3b1 : ((l0.length : Int) != (l1.length : Int)) = false := bne_eq_false_iff_eq.mpr c3
    have c3b2 : (l0.length == l1.length) = true := by first | simpa using c3 | (simp at c3 ⊢; omega)
    clear c3
    have H' := Aside0.mk H
    clear H
    go_enter Try.func67, Try.ntmps67
    go_wp2
    repeat (go_quiet (fail); try go_wp2)
    go_loopg [5] k (fun kq v5 w' => ∃ (x5_1 : Int), v5 = .int .i64 x5_1 ∧ Aside0 (pleatref00_EqInts.l0 kq l0 l1 x5_1 = some r) ∧ Aside0 (kq ≤ k) ∧ Drawn0 w w')
    case atStart => exact ⟨(0), (by first | rfl | (simp; done) | (simp [*]; done)), H', ⟨Nat.le_refl _⟩, by repeat (first | exact Drawn0.refl _ | apply Drawn0.step)⟩
    case round =>
      clear H'
      try clear c1
      try clear p2
      try clear c3
      try clear c3b0
      try clear c3b1
      try clear c3b2
      obtain ⟨x5_1, rfl, HA, HK1, ⟨m1, rfl⟩⟩ := hrel
      cases gk with
      | zero => exact absurd HA.out (by simp [pleatref00_EqInts.l0])
      | succ k1 =>
        have H := HA.out
        clear HA
        simp only [pleatref00_EqInts.l0] at H
        by_cases c4 : x5_1 < (l0.length : Int)
        · rw [if_pos c4] at H
          have c4b0 : decide (x5_1 < (l0.length : Int)) = true := decide_eq_true c4
          clear c4
          by_cases c5 : 0 ≤ x5_1
          · rw [if_pos c5] at H
            have c5b0 : decide (0 ≤ x5_1) = true := decide_eq_true c5
            clear c5
            by_cases c6 : x5_1 < (l1.length : Int)
            · rw [if_pos c6] at H
              have c6b0 : decide (x5_1 < (l1.length : Int)) = true := decide_eq_true c6
              clear c6
              by_cases c7 : (rd l0 x5_1) = (rd l1 x5_1)
              · rw [if_pos c7] at H
                have c7b0 : ((rd l0 x5_1) == (rd l1 x5_1)) = true := beq_iff_eq.mpr c7
                have c7b1 : ((rd l0 x5_1) != (rd l1 x5_1)) = false := bne_eq_false_iff_eq.mpr c7
                clear c7
                have H' := Aside0.mk H
                clear H
                have p191 : 0 ≤ (x5_1 : Int) := of_decide_eq_true (by first | (with_reducible assumption) | assumption)
                have q191 : x5_1 < (l0.length : Int) := of_decide_eq_true (by first | (with_reducible assumption) | assumption)
                obtain ⟨ad191, e191, hx191_0⟩ := Kd.at_int HR0.out x5_1 p191 q191
                cases e191
                replace p191 := eq_true p191
                replace q191 := eq_true q191
                have p192 : 0 ≤ (x5_1 : Int) := of_decide_eq_true (by first | (with_reducible assumption) | assumption)
                have q192 : x5_1 < (l1.length : Int) := of_decide_eq_true (by first | (with_reducible assumption) | assumption)
                obtain ⟨ad192, e192, hx192_0⟩ := Kd.at_int HR1.out x5_1 p192 q192
                cases e192
                replace p192 := eq_true p192
                replace q192 := eq_true q192
                go_wp2
                repeat (go_quiet (fail); try go_wp2)
                go_roundg k1
                case measure => have := HK1.out; omega
                case rel => exact ⟨(wrap64 (x5_1 + 1)), (by first | rfl | (simp; done) | (simp [*]; done)), H', ⟨by have := HK1.out; omega⟩, by repeat (first | exact Drawn0.refl _ | apply Drawn0.step)⟩
              · rw [if_neg c7] at H
                have c7b0 : ((rd l0 x5_1) == (rd l1 x5_1)) = false := beq_eq_false_iff_ne.mpr c7
                have c7b1 : ((rd l0 x5_1) != (rd l1 x5_1)) = true := bne_iff_ne.mpr c7
                obtain rfl := Option.some.inj H
                have p191 : 0 ≤ (x5_1 : Int) := of_decide_eq_true (by first | (with_reducible assumption) | assumption)
                have q191 : x5_1 < (l0.length : Int) := of_decide_eq_true (by first | (with_reducible assumption) | assumption)
                obtain ⟨ad191, e191, hx191_0⟩ := Kd.at_int HR0.out x5_1 p191 q191
                cases e191
                replace p191 := eq_true p191
                replace q191 := eq_true q191
                have p192 : 0 ≤ (x5_1 : Int) := of_decide_eq_true (by first | (with_reducible assumption) | assumption)
                have q192 : x5_1 < (l1.length : Int) := of_decide_eq_true (by first | (with_reducible assumption) | assumption)
                obtain ⟨ad192, e192, hx192_0⟩ := Kd.at_int HR1.out x5_1 p192 q192
                cases e192
                replace p192 := eq_true p192
                replace q192 := eq_true q192
                go_wp2
                repeat (go_quiet (fail); try go_wp2)
                go_ret
                exact ⟨by first | rfl | (simp; done) | (simp [*]; done), by repeat (first | exact Drawn0.refl _ | apply Drawn0.step)⟩
            · rw [if_neg c6] at H
              exact absurd H (by simp)
          · rw [if_neg c5] at H
            exact absurd H (by simp)
        · rw [if_neg c4] at H
          have c4b0 : decide (x5_1 < (l0.length : Int)) = false := decide_eq_false c4
          clear c4
          obtain rfl := Option.some.inj H
          go_wp2
          repeat (go_quiet (fail); try go_wp2)
          go_ret
          exact ⟨by first | rfl | (simp; done) | (simp [*]; done), by repeat (first | exact Drawn0.refl _ | apply Drawn0.step)⟩
  · rw [if_neg c3] at H
    have c3b0 : ((l0.length : Int) == (l1.length : Int)) = false := beq_eq_false_iff_ne.mpr c3
    have c3b1 : ((l0.length : Int) != (l1.length : Int)) = true := bne_iff_ne.mpr c3
    have c3b2 : (l0.length == l1.length) = false := by first | simpa using c3 | (simp at c3 ⊢; omega)
    obtain rfl := Option.some.inj H
    go_enter Try.func67, Try.ntmps67
    go_wp2
    repeat (go_quiet (fail); try go_wp2)
    go_ret
    exact ⟨by first | rfl | (simp; done) | (simp [*]; done), by repeat (first | exact Drawn0.refl _ | apply Drawn0.step)⟩

/-! ### number_Same: function 68 -/
def number_Same.f (k : Nat) (a0 : Int) (a1 : Int) : Option (Bool) := if a0 = a1 then ((touch_Alone.f k a0).bind fun t193 => (some (!t193))) else (some false)
theorem number_Same.mono : ∀ a0 a1 k, LeO (number_Same.f k a0 a1) (number_Same.f (k + 1) a0 a1) := by
  intro a0 a1 k
  unfold number_Same.f
  repeat' first
      | (with_reducible exact touch_Alone.mono _ _)
      | (with_reducible exact LeO.refl _)
      | (with_reducible exact LeO.none _)
      | (with_reducible refine LeO.ite ?_ ?_)
      | (with_reducible refine LeO.bind ?_ (fun _ => ?_))
      | exact touch_Alone.mono _ _
      | exact LeO.none _
      | refine LeO.ite ?_ ?_
      | refine LeO.bind ?_ (fun _ => ?_)
set_option maxHeartbeats 8000000 in
set_option maxRecDepth 100000 in
theorem number_Same.calls (k : Nat) (a0 : Int) (a1 : Int) (r : Bool) (w : World) (h : number_Same.f k a0 a1 = some r) :
    Calls Try.prog 68 #[.int .u32 a0, .int .u32 a1] w fun e w' => e = .returned (.bool r) ∧ Below w.heap.size w w' := by
  have HB := Aside0.mk (Below.refl w.heap.size w)
  have H : (if a0 = a1 then ((touch_Alone.f k a0).bind fun t193 => (some (!t193))) else (some false)) = some r := h
  clear h
  by_cases c3 : a0 = a1
  · rw [if_pos c3] at H
    have c3b0 : (a0 == a1) = true := beq_iff_eq.mpr c3
    have c3b1 : (a0 != a1) = false := bne_eq_false_iff_eq.mpr c3
    clear c3
    replace H := Option.bind_eq_some_iff.mp H
    obtain ⟨t193, A40, H⟩ := H
    replace H : (some (!t193)) = some r := H
    have A4 := Aside0.mk A40
    clear A40
    obtain rfl := Option.some.inj H
    go_enter Try.func68, Try.ntmps68
    go_wp2_with (first | (go_at_call 108; (with_reducible refine (touch_Alone.calls k a0 t193 _ A4.out).mono ?_); rintro e w5 ⟨rfl, hb⟩; have n0_ := Aside0.mk (below_step (by repeat (first | (with_reducible first | exact HB.out | apply below_alloc | apply pw_below_drewN | apply below_drew1) | exact HB.out)) hb); clear HB; have HB := n0_; clear n0_; (try clear hb); (try clear hb2); (try clear hk); (try clear hi)))
    go_ret
    exact ⟨by first | rfl | (simp [errW_none, errW_some] <;> rfl) | (simp [*, errW_none, errW_some] <;> rfl), by repeat (first | (with_reducible first | exact HB.out | apply below_alloc | apply pw_below_drewN | apply below_drew1) | exact HB.out)⟩
  · rw [if_neg c3] at H
    have c3b0 : (a0 == a1) = false := beq_eq_false_iff_ne.mpr c3
    have c3b1 : (a0 != a1) = true := bne_iff_ne.mpr c3
    obtain rfl := Option.some.inj H
    go_enter Try.func68, Try.ntmps68
    go_wp2
    go_ret
    exact ⟨by first | rfl | (simp [errW_none, errW_some] <;> rfl) | (simp [*, errW_none, errW_some] <;> rfl), by repeat (first | (with_reducible first | exact HB.out | apply below_alloc | apply pw_below_drewN | apply below_drew1) | exact HB.out)⟩

end Go.Proofs.Ytfgdjpgdabjpmaa.PNumberSame
