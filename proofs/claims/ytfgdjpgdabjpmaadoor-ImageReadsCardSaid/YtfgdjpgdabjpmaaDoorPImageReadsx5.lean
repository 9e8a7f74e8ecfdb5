-- Written for this claim by a program of this session (wip/tools/pp.py, over the kit's print).
import Derived.Test.YtfgdjpgdabjpmaaDoorPImageReadsx0
import Derived.Test.YtfgdjpgdabjpmaaDoorPImageReadsx3
namespace Go.Proofs.YtfgdjpgdabjpmaaDoor.PImageReads
open Go.RowKit Go.Proofs.YtfgdjpgdabjpmaaDoorW.PrintWords Go.Proofs.YtfgdjpgdabjpmaaDoorW.PrintLast Go.Proofs.YtfgdjpgdabjpmaaDoorW.PrintMore
attribute [local go_sem] max2_int min2_int max_two min_two max_three min_three max_four min_four   -- for this text's walks alone
set_option linter.unusedVariables false
set_option linter.unusedSimpArgs false

/-! ### image_Read: function 30, by hand -/
theorem infoRd2 : (Tryd.prog.info? 2).map (fun i => (i.zero, i.size, i.bytes)) = some (some (.int .i64 0), 1, 8) := by kernel_rfl
theorem infoRd26 : (Tryd.prog.info? 26).map (fun i => (i.zero, i.size, i.bytes)) = some (some (.int .u32 0), 1, 4) := by kernel_rfl
/-- One byte more of a number, as the machine reckons it. -/
def tk (v c : Int) : Int := Go.bits .or .u64 (IntKind.u64.wrap (v * 256)) (IntKind.u64.wrap c)
/-- The number of these bytes, the greatest first. -/
def tv (xs : List Int) : Int := xs.foldl tk 0
theorem tv_snoc (xs : List Int) (c : Int) : tv (xs ++ [c]) = tk (tv xs) c := by simp [tv, List.foldl_append]
theorem add_add_ (a : Addr) (i j : Nat) : (a.add i).add j = a.add (i + j) := by
  by_cases h1 : i = 0 <;> by_cases h2 : j = 0 <;> simp [Addr.add, h1, h2, Nat.add_assoc]
theorem drop_take_snoc (l : List Int) (h j : Nat) (hj : h + j < l.length) : (l.drop h).take (j + 1) = (l.drop h).take j ++ [rd l ((h + j : Nat) : Int)] := by
  rw [List.take_succ_eq_append_getElem (by rw [List.length_drop]; omega)]
  congr 1
  simp only [List.getElem_drop, rd, Int.toNat_natCast, List.getD_eq_getElem?_getD, List.getElem?_eq_getElem hj, Option.getD_some]
/-- The closure that takes so many bytes, where there are so many. -/
theorem take_ok (bb hb : Nat) (A : Option Addr) (l : List Int) (c : Nat) (here n : Nat) (w : World) (hbb : w.heap[bb]? = some (.cells #[.slice A l.length c] 64 (0, 0))) (hhb : w.heap[hb]? = some (.cells #[.int .i64 here] 3 (0, 0)))
    (hr : Kd.C (Kd.int .u8) w A l.length l) (hc : l.length ≤ c) (hn : 0 < n) (hn2 : n ≤ 8) (hle : here + n ≤ l.length) :
    Calls Tryd.prog 72 #[.int .i64 n, .pointer (some ⟨bb, 0, none⟩), .pointer (some ⟨hb, 0, none⟩)] w fun e w' => e = .returned (.int .u64 (tv ((l.drop here).take n))) ∧ w' = w.setCell ⟨hb, 0, none⟩ (.int .i64 ((here + n : Nat) : Int)) := by
  have hml : l.length ≤ 9223372036854775807 := hr.2.1
  obtain ⟨ad, rfl, _⟩ := Kd.at_int hr here (by omega) (by omega)
  have H1 := Lib.hid hr; clear hr
  have hc1 := blk_cell hbb; have hf1 := blk_frozen hbb
  have hc2 := blk_cell hhb; have hf2 := blk_frozen hhb
  have e1 : IntKind.i64.wrap ((l.length : Int) - (here : Int)) = ((l.length - here : Nat) : Int) := by rw [IntWalk.i64_in _ (by omega)]; omega
  have e2 : IntKind.i64.wrap ((here : Int) + (n : Int)) = ((here + n : Nat) : Int) := by rw [IntWalk.i64_in _ (by omega)]; omega
  have t1 : decide (((l.length - here : Nat) : Int) < (n : Int)) = false := by simp; omega
  have hne : ¬ (c = here) := by omega
  go_enter Tryd.func72, Tryd.ntmps72
  go_wp2
  go_loop [5, 25] (fun v5 v25 => ∃ j : Nat, j ≤ n ∧ v25 = .int .i64 j ∧ v5 = .int .u64 (tv ((l.drop here).take j))) (fun _ v25 => n - (intOf v25).toNat)
  case atStart => exact ⟨0, Nat.zero_le _, rfl, rfl⟩
  case round =>
    obtain ⟨j, hj, rfl, rfl⟩ := hrel
    by_cases hlt : j < n
    · obtain ⟨ad2, e3, hx⟩ := Kd.at_int H1.out ((here + j : Nat) : Int) (by omega) (by omega)
      cases e3
      rw [Int.toNat_natCast, ← add_add_] at hx
      have HS := Lib.hid ((congrArg tv (drop_take_snoc l here j (by omega))).trans (tv_snoc _ _))
      go_wp2
      all_goals
        go_round
        case rel => exact ⟨j + 1, by omega, by go_num, by rw [HS.out]; rfl⟩
        case measure => simp [intOf]; omega
    · obtain rfl : j = n := by omega
      go_wp2
      go_ret
      exact ⟨rfl, rfl⟩
/-- .. and where there are not: it throws what is wrong. -/
theorem take_no (bb hb : Nat) (A : Option Addr) (l : List Int) (c : Nat) (here n : Nat) (w : World) (hbb : w.heap[bb]? = some (.cells #[.slice A l.length c] 64 (0, 0))) (hhb : w.heap[hb]? = some (.cells #[.int .i64 here] 3 (0, 0)))
    (hm : l.length ≤ 9223372036854775807) (hh : here ≤ l.length) (hn2 : n ≤ 8) (hle : l.length < here + n) :
    Calls Tryd.prog 72 #[.int .i64 n, .pointer (some ⟨bb, 0, none⟩), .pointer (some ⟨hb, 0, none⟩)] w fun e w' => e = .panicked [{ v := .iface 102 (.agg #[.int .i64 27, .int .i64 l.length]), recovered := false }] ∧ w' = w := by
  have hc1 := blk_cell hbb; have hf1 := blk_frozen hbb
  have hc2 := blk_cell hhb; have hf2 := blk_frozen hhb
  have e1 : IntKind.i64.wrap ((l.length : Int) - (here : Int)) = ((l.length - here : Nat) : Int) := by rw [IntWalk.i64_in _ (by omega)]; omega
  have t1 : decide (((l.length - here : Nat) : Int) < (n : Int)) = true := by simp; omega
  go_enter Tryd.func72, Tryd.ntmps72
  go_wp2
  exact ⟨rfl, rfl, rfl⟩
/-- The closure that takes a count. -/
theorem cnt_ok (bb hb tb : Nat) (A : Option Addr) (l : List Int) (c : Nat) (here : Nat) (most : Int) (w : World) (hbb : w.heap[bb]? = some (.cells #[.slice A l.length c] 64 (0, 0))) (hhb : w.heap[hb]? = some (.cells #[.int .i64 here] 3 (0, 0)))
    (htb : w.heap[tb]? = some (.cells #[.func (.func 72) #[] #[.pointer (some ⟨bb, 0, none⟩), .pointer (some ⟨hb, 0, none⟩)]] 105 (0, 0)))
    (hr : Kd.C (Kd.int .u8) w A l.length l) (hc : l.length ≤ c) (hle : here + 4 ≤ l.length) (hmo : wrap64 (tv ((l.drop here).take 4)) ≤ most) :
    Calls Tryd.prog 73 #[.int .i64 most, .pointer (some ⟨hb, 0, none⟩), .pointer (some ⟨tb, 0, none⟩)] w fun e w' => e = .returned (.int .i64 (wrap64 (tv ((l.drop here).take 4)))) ∧ w' = w.setCell ⟨hb, 0, none⟩ (.int .i64 ((here + 4 : Nat) : Int)) := by
  have hc1 := blk_cell hbb; have hf1 := blk_frozen hbb
  have hc2 := blk_cell hhb; have hf2 := blk_frozen hhb
  have hc3 := blk_cell htb; have hf3 := blk_frozen htb
  have t1 : decide (most < wrap64 (tv ((l.drop here).take 4))) = false := by simp; omega
  go_enter Tryd.func73, Tryd.ntmps73
  go_wp2_with (go_at_call 72; refine (take_ok bb hb A l c here 4 _ hbb hhb hr hc (by omega) (by omega) hle).mono ?_; rintro e w' ⟨rfl, rfl⟩)
  go_ret
  exact ⟨rfl, rfl⟩
theorem cnt_no (bb hb tb : Nat) (A : Option Addr) (l : List Int) (c : Nat) (here : Nat) (most : Int) (w : World) (hbb : w.heap[bb]? = some (.cells #[.slice A l.length c] 64 (0, 0))) (hhb : w.heap[hb]? = some (.cells #[.int .i64 here] 3 (0, 0)))
    (htb : w.heap[tb]? = some (.cells #[.func (.func 72) #[] #[.pointer (some ⟨bb, 0, none⟩), .pointer (some ⟨hb, 0, none⟩)]] 105 (0, 0)))
    (hm : l.length ≤ 9223372036854775807) (hh : here ≤ l.length) (hle : l.length < here + 4) :
    Calls Tryd.prog 73 #[.int .i64 most, .pointer (some ⟨hb, 0, none⟩), .pointer (some ⟨tb, 0, none⟩)] w fun e w' => e = .panicked [{ v := .iface 102 (.agg #[.int .i64 27, .int .i64 l.length]), recovered := false }] ∧ w' = w := by
  have hc1 := blk_cell hbb; have hf1 := blk_frozen hbb
  have hc2 := blk_cell hhb; have hf2 := blk_frozen hhb
  have hc3 := blk_cell htb; have hf3 := blk_frozen htb
  go_enter Tryd.func73, Tryd.ntmps73
  go_wp2_with (go_at_call 72; refine (take_no bb hb A l c here 4 _ hbb hhb hm hh (by omega) hle).mono ?_; rintro e w' ⟨rfl, rfl⟩)
  exact ⟨rfl, rfl, rfl⟩
theorem cnt_big (bb hb tb : Nat) (A : Option Addr) (l : List Int) (c : Nat) (here : Nat) (most : Int) (w : World) (hbb : w.heap[bb]? = some (.cells #[.slice A l.length c] 64 (0, 0))) (hhb : w.heap[hb]? = some (.cells #[.int .i64 here] 3 (0, 0)))
    (htb : w.heap[tb]? = some (.cells #[.func (.func 72) #[] #[.pointer (some ⟨bb, 0, none⟩), .pointer (some ⟨hb, 0, none⟩)]] 105 (0, 0)))
    (hr : Kd.C (Kd.int .u8) w A l.length l) (hc : l.length ≤ c) (hle : here + 4 ≤ l.length) (hmo : most < wrap64 (tv ((l.drop here).take 4))) :
    Calls Tryd.prog 73 #[.int .i64 most, .pointer (some ⟨hb, 0, none⟩), .pointer (some ⟨tb, 0, none⟩)] w fun e w' => e = .panicked [{ v := .iface 102 (.agg #[.int .i64 27, .int .i64 here]), recovered := false }] ∧ w' = w.setCell ⟨hb, 0, none⟩ (.int .i64 ((here + 4 : Nat) : Int)) := by
  have hc1 := blk_cell hbb; have hf1 := blk_frozen hbb
  have hc2 := blk_cell hhb; have hf2 := blk_frozen hhb
  have hc3 := blk_cell htb; have hf3 := blk_frozen htb
  have t1 : decide (most < wrap64 (tv ((l.drop here).take 4))) = true := by simp; omega
  go_enter Tryd.func73, Tryd.ntmps73
  go_wp2_with (go_at_call 72; refine (take_ok bb hb A l c here 4 _ hbb hhb hr hc (by omega) (by omega) hle).mono ?_; rintro e w' ⟨rfl, rfl⟩)
  exact ⟨rfl, rfl, rfl⟩
/-- What the deferred closure leaves behind: the three results are written, nothing below B is. -/
structure Caught (B xb eb ab : Nat) (e at_ : Int) (w w' : World) : Prop where
  below : Below B w w'
  x : w'.heap[xb]? = some (.cells #[.slice none 0 0, .int .i64 0, .slice none 0 0] 25 (0, 0))
  e : w'.heap[eb]? = some (.cells #[.int .i64 e] 31 (0, 0))
  a : w'.heap[ab]? = some (.cells #[.int .i64 at_] 3 (0, 0))
set_option maxHeartbeats 4000000 in
set_option maxRecDepth 100000 in
theorem catch_idle (xb eb ab : Nat) (w : World) :
    CallsD Tryd.prog 71 #[.pointer (some ⟨xb, 0, none⟩), .pointer (some ⟨eb, 0, none⟩), .pointer (some ⟨ab, 0, none⟩)] .returning w fun e u' w' => e = .returned (.tuple #[]) ∧ u' = .returning ∧ w' = w := by
  refine callsD_of_wpS Tryd.func71 rfl fun c₀ cs hu => ?_
  simp only [Tryd.ntmps71, List.size_toArray, List.length_cons, List.length_nil, Nat.reduceAdd, Nat.reduceSub, Array.replicate_succ, Array.replicate_zero, List.push_toArray, List.append_toArray, List.nil_append, List.cons_append]
  apply wpS_seq
  apply wpS_region
  simp [wpOpsS, go_sem, recoverD, hu, Exit.thenS]
  refine wpS_of_wp ?_
  go_wp2
  cases c₀
  simp_all [bodyPostS, results, Tryd.results71]
set_option maxHeartbeats 4000000 in
set_option maxRecDepth 100000 in
theorem catch_panicking (B xb eb ab : Nat) (x0 x1 x2 e0 a0 : Value) (e at_ : Int) (older : List PanicEntry) (w : World) (hx : w.heap[xb]? = some (.cells #[x0, x1, x2] 25 (0, 0))) (he : w.heap[eb]? = some (.cells #[e0] 31 (0, 0))) (ha : w.heap[ab]? = some (.cells #[a0] 3 (0, 0)))
    (n1 : xb ≠ eb) (n2 : xb ≠ ab) (n3 : eb ≠ ab) (b1 : B ≤ xb) (b2 : B ≤ eb) (b3 : B ≤ ab) :
    CallsD Tryd.prog 71 #[.pointer (some ⟨xb, 0, none⟩), .pointer (some ⟨eb, 0, none⟩), .pointer (some ⟨ab, 0, none⟩)] (.panicking ({ v := .iface 102 (.agg #[.int .i64 e, .int .i64 at_]), recovered := false } :: older)) w fun e' u' w' =>
      e' = .returned (.tuple #[]) ∧ u' = .panicking ({ v := .iface 102 (.agg #[.int .i64 e, .int .i64 at_]), recovered := true } :: older) ∧ Caught B xb eb ab e at_ w w' := by
  have hxl := blk_lt hx; have hel := blk_lt he; have hal := blk_lt ha
  refine callsD_of_wpS Tryd.func71 rfl fun c₀ cs hu => ?_
  simp only [Tryd.ntmps71, List.size_toArray, List.length_cons, List.length_nil, Nat.reduceAdd, Nat.reduceSub, Array.replicate_succ, Array.replicate_zero, List.push_toArray, List.append_toArray, List.nil_append, List.cons_append]
  apply wpS_seq
  apply wpS_region
  simp [wpOpsS, go_sem, recoverD, hu, Exit.thenS]
  refine wpS_of_wp ?_
  have hc1 := blk_cell hx; have hf1 := blk_frozen hx
  have hc2 := blk_cell he; have hf2 := blk_frozen he
  have hc3 := blk_cell ha; have hf3 := blk_frozen ha
  have hta : ∀ (v : Value) (W : World), (Instr.typeAssert (.iface 102 v) 20 102 true).run Tryd.prog W = .ok (.tuple #[v, .bool true]) W := fun v W => by rfl
  have hu1 := Tryd.underlying102
  have hu2 := Tryd.underlying25
  go_wp2
  go_outline
  go_region
  refine ⟨rfl, _, rfl, .tuple #[], by simp [results, Tryd.results71], rfl, rfl, ?_⟩
  have X1 := Aside0.mk hx; have X2 := Aside0.mk he; have X3 := Aside0.mk ha
  have N1 := Aside0.mk n1; have N2 := Aside0.mk n2; have N3 := Aside0.mk n3; have N4 := Aside0.mk n1.symm; have N5 := Aside0.mk n2.symm; have N6 := Aside0.mk n3.symm
  exact ⟨below_drew ((((((((Below.refl B w).setCell b1 _).setCell b1 _).setCell b1 _).setCell b2 _).setCell b3 _).alloc (by simp; omega) _)), zBK, zBK, zBK⟩
/-- What image.Read answers: the image's text, entry and memory, the error, the place. -/
abbrev RdR := List Int × Int × List Int × Int × Int
def rdErr (e at_ : Int) : RdR := ([], 0, [], e, at_)
def RdPost (w : World) (r : RdR) (e : Ending) (w' : World) : Prop := ∃ v0_ v2_ : Value, e = .returned (.tuple #[.agg #[v0_, .int .i64 r.2.1, v2_], .int .i64 r.2.2.2.1, .int .i64 r.2.2.2.2]) ∧ Kd.R (Kd.int .u32) 26 w' w.heap.size (fun _ => True) v0_ r.1 ∧ Kd.R (Kd.int .i64) 2 w' w.heap.size (fun _ => True) v2_ r.2.2.1 ∧ Below w.heap.size w w'
theorem rd_results {a : Act} {w : World} {xb eb ab : Nat} {x0 x1 x2 : Value} {e at_ : Int} (hx : w.heap[xb]? = some (.cells #[x0, x1, x2] 25 (0, 0))) (he : w.heap[eb]? = some (.cells #[.int .i64 e] 31 (0, 0))) (ha : w.heap[ab]? = some (.cells #[.int .i64 at_] 3 (0, 0)))
    (h2 : a.tmps.getD 2 undef = .pointer (some ⟨xb, 0, none⟩)) (h3 : a.tmps.getD 3 undef = .pointer (some ⟨eb, 0, none⟩)) (h4 : a.tmps.getD 4 undef = .pointer (some ⟨ab, 0, none⟩)) :
    (results Tryd.f30 a.tmps).run Tryd.prog w = .ok (.tuple #[.agg #[x0, x1, x2], .int .i64 e, .int .i64 at_]) w := by
  have hc2 := (blk_cell he 0).trans rfl
  have hc3 := (blk_cell ha 0).trans rfl
  have hl := run_loadVar_row (P := Tryd.prog) w xb 25 25 #[x0, x1, x2] (0, 0) _ hx Tryd.underlying25 rfl (by kernel_rfl)
  have h2' : a.tmps[2]?.getD undef = .pointer (some ⟨xb, 0, none⟩) := by simpa using h2
  have h3' : a.tmps[3]?.getD undef = .pointer (some ⟨eb, 0, none⟩) := by simpa using h3
  have h4' : a.tmps[4]?.getD undef = .pointer (some ⟨ab, 0, none⟩) := by simpa using h4
  have hu2 := Tryd.underlying31; have hu3 := Tryd.underlying3
  have e1 : (loadVar 31 ⟨eb, 0, none⟩).run Tryd.prog w = .ok (.int .i64 e) w := by simp [loadVar, go_sem, hc2]
  have e2 : (loadVar 3 ⟨ab, 0, none⟩).run Tryd.prog w = .ok (.int .i64 at_) w := by simp [loadVar, go_sem, hc3]
  simp [results, Tryd.results30, h2', h3', h4', asAddr, hl, e1, e2]
/-- A way that throws: the deferred closure catches it, and the results tell it. -/
theorem fin_err {W : World} {a : Act} {w : World} {xb eb ab : Nat} {x0 x1 x2 e0 a0 : Value} {e at_ : Int} (hx : w.heap[xb]? = some (.cells #[x0, x1, x2] 25 (0, 0))) (he : w.heap[eb]? = some (.cells #[e0] 31 (0, 0))) (ha : w.heap[ab]? = some (.cells #[a0] 3 (0, 0)))
    (h2 : a.tmps.getD 2 undef = .pointer (some ⟨xb, 0, none⟩)) (h3 : a.tmps.getD 3 undef = .pointer (some ⟨eb, 0, none⟩)) (h4 : a.tmps.getD 4 undef = .pointer (some ⟨ab, 0, none⟩))
    (n1 : xb ≠ eb) (n2 : xb ≠ ab) (n3 : eb ≠ ab) (b1 : W.heap.size ≤ xb) (b2 : W.heap.size ≤ eb) (b3 : W.heap.size ≤ ab) (hB : Below W.heap.size W w)
    (hd : a.defers = [{ target := .fn (.func 71) #[.pointer (some ⟨xb, 0, none⟩), .pointer (some ⟨eb, 0, none⟩), .pointer (some ⟨ab, 0, none⟩)], args := #[] }]) :
    bodyPostD Tryd.prog Tryd.f30 (RdPost W (rdErr e at_)) (.panic [{ v := .iface 102 (.agg #[.int .i64 e, .int .i64 at_]), recovered := false }]) a w := by
  show Leaves _ _ a.tmps _ a.defers _ w
  rw [hd]
  refine leaves_cons (f := 71) (args := #[.pointer (some ⟨xb, 0, none⟩), .pointer (some ⟨eb, 0, none⟩), .pointer (some ⟨ab, 0, none⟩)]) (by simp) (by simp [go_sem]) ?_
  refine (catch_panicking W.heap.size xb eb ab x0 x1 x2 e0 a0 e at_ [] w hx he ha n1 n2 n3 b1 b2 b3).mono ?_
  rintro e' u' w'' ⟨rfl, rfl, hc⟩
  refine ⟨_, rd_results hc.x hc.e hc.a h2 h3 h4, _, _, rfl, Kd.R_nil _ _ _ _ _, Kd.R_nil _ _ _ _ _, hB.trans hc.below⟩
theorem fin_ok {W : World} {a : Act} {w : World} {xb eb ab : Nat} {t m : List Int} {en : Int} {x0 x2 : Value} (hx : w.heap[xb]? = some (.cells #[x0, .int .i64 en, x2] 25 (0, 0))) (he : w.heap[eb]? = some (.cells #[.int .i64 0] 31 (0, 0))) (ha : w.heap[ab]? = some (.cells #[.int .i64 0] 3 (0, 0)))
    (h2 : a.tmps.getD 2 undef = .pointer (some ⟨xb, 0, none⟩)) (h3 : a.tmps.getD 3 undef = .pointer (some ⟨eb, 0, none⟩)) (h4 : a.tmps.getD 4 undef = .pointer (some ⟨ab, 0, none⟩))
    (hB : Below W.heap.size W w) (ht : Kd.R (Kd.int .u32) 26 w W.heap.size (fun _ => True) x0 t) (hm : Kd.R (Kd.int .i64) 2 w W.heap.size (fun _ => True) x2 m)
    (hd : a.defers = [{ target := .fn (.func 71) #[.pointer (some ⟨xb, 0, none⟩), .pointer (some ⟨eb, 0, none⟩), .pointer (some ⟨ab, 0, none⟩)], args := #[] }]) :
    bodyPostD Tryd.prog Tryd.f30 (RdPost W (t, en, m, 0, 0)) .ret a w := by
  show Leaves _ _ a.tmps _ a.defers _ w
  rw [hd]
  refine leaves_cons (f := 71) (args := #[.pointer (some ⟨xb, 0, none⟩), .pointer (some ⟨eb, 0, none⟩), .pointer (some ⟨ab, 0, none⟩)]) (by simp) (by simp [go_sem]) ?_
  refine (catch_idle xb eb ab w).mono ?_
  rintro e' u' w'' ⟨rfl, rfl, rfl⟩
  exact ⟨_, rd_results hx he ha h2 h3 h4, _, _, rfl, ht, hm, hB⟩
/-- The first bytes are not those that an image begins with: at this place. -/
def rdBad (l : List Int) (i : Nat) : Prop := l.length ≤ i ∨ rd l i ≠ rd [80, 76, 73, 49] i
instance (l : List Int) (i : Nat) : Decidable (rdBad l i) := inferInstanceAs (Decidable (_ ∨ _))
def rdN (l : List Int) (h n : Nat) : Int := tv ((l.drop h).take n)
def rdTexts (l : List Int) (n : Nat) : List Int := (List.range n).map fun i => rdN l (8 + 4 * i) 4 % 4294967296
def rdMems (l : List Int) (h n : Nat) : List Int := (List.range n).map fun i => wrap64 (rdN l (h + 8 * i) 8)
/-- Behind the memory: the sum, the end, whether the image may be. -/
def rdEnd (k : Nat) (l t m : List Int) (en : Int) (h : Nat) : Option RdR :=
  if l.length < h + 4 then some (rdErr 27 l.length) else if h + 4 < l.length then some (rdErr 27 ((h + 4 : Nat) : Int)) else
  (image_Sum.f k (l.take h)).bind fun s => if rdN l h 4 % 4294967296 ≠ s then some (rdErr 28 h) else
  (image_Check.f k t en m).bind fun e => if e.1 ≠ 0 then some (rdErr e.1 e.2) else some (t, en, m, 0, 0)
def rdMem (k : Nat) (l t : List Int) (en : Int) (h : Nat) : Option RdR :=
  if l.length < h + 4 then some (rdErr 27 l.length) else if 4096 < wrap64 (rdN l h 4) then some (rdErr 27 h) else
  if l.length < h + 4 + 8 * (wrap64 (rdN l h 4)).toNat then some (rdErr 27 l.length) else
  rdEnd k l t (rdMems l (h + 4) (wrap64 (rdN l h 4)).toNat) en (h + 4 + 8 * (wrap64 (rdN l h 4)).toNat)
def rdText (k : Nat) (l : List Int) : Option RdR :=
  if l.length < 8 then some (rdErr 27 l.length) else if 16384 < wrap64 (rdN l 4 4) then some (rdErr 27 4) else
  if l.length < 8 + 4 * (wrap64 (rdN l 4 4)).toNat + 4 then some (rdErr 27 l.length) else
  rdMem k l (rdTexts l (wrap64 (rdN l 4 4)).toNat) (wrap64 (rdN l (8 + 4 * (wrap64 (rdN l 4 4)).toNat) 4)) (8 + 4 * (wrap64 (rdN l 4 4)).toNat + 4)
def rdF (k : Nat) (l : List Int) : Option RdR :=
  if rdBad l 0 then some (rdErr 27 0) else if rdBad l 1 then some (rdErr 27 1) else if rdBad l 2 then some (rdErr 27 2) else if rdBad l 3 then some (rdErr 27 3) else rdText k l
theorem rdF_bad {k : Nat} {l : List Int} {i : Nat} {r : RdR} (hi : i < 4) (h : rdF k l = some r) (hb : rdBad l i) (hp : ∀ j, j < i → ¬ rdBad l j) : r = rdErr 27 i := by
  have : i = 0 ∨ i = 1 ∨ i = 2 ∨ i = 3 := by omega
  rcases this with rfl | rfl | rfl | rfl
  · rw [rdF, if_pos hb] at h; exact (Option.some.inj h).symm
  · rw [rdF, if_neg (hp 0 (by omega)), if_pos hb] at h; exact (Option.some.inj h).symm
  · rw [rdF, if_neg (hp 0 (by omega)), if_neg (hp 1 (by omega)), if_pos hb] at h; exact (Option.some.inj h).symm
  · rw [rdF, if_neg (hp 0 (by omega)), if_neg (hp 1 (by omega)), if_neg (hp 2 (by omega)), if_pos hb] at h; exact (Option.some.inj h).symm
theorem blk_last {w : World} {o : Obj} {b : Nat} (h : b = w.heap.size) : (w.alloc o).heap[b]? = some o := h ▸ heap_alloc_new w o
/-- The reader's memory. -/
structure RW (W : World) (A : Option Addr) (c : Nat) (l : List Int) (here : Int) (x0 x2 : Value) (en : Int) (wr : World) : Prop where
  below : Below W.heap.size W wr
  bb : wr.heap[W.heap.size]? = some (.cells #[.slice A l.length c] 64 (0, 0))
  xb : wr.heap[W.heap.size + 1]? = some (.cells #[x0, .int .i64 en, x2] 25 (0, 0))
  eb : wr.heap[W.heap.size + 1 + 1]? = some (.cells #[.int .i64 0] 31 (0, 0))
  ab : wr.heap[W.heap.size + 1 + 1 + 1]? = some (.cells #[.int .i64 0] 3 (0, 0))
  hb : wr.heap[W.heap.size + 1 + 1 + 1 + 1]? = some (.cells #[.int .i64 here] 3 (0, 0))
  tb : wr.heap[W.heap.size + 1 + 1 + 1 + 1 + 1]? = some (.cells #[.func (.func 72) #[] #[.pointer (some ⟨W.heap.size, 0, none⟩), .pointer (some ⟨W.heap.size + 1 + 1 + 1 + 1, 0, none⟩)]] 105 (0, 0))
theorem RW.step {W : World} {A : Option Addr} {c : Nat} {l : List Int} {here en : Int} {x0 x2 : Value} {wr w' : World} (h : RW W A c l here x0 x2 en wr) (hb : Below wr.heap.size wr w') : RW W A c l here x0 x2 en w' :=
  ⟨below_then h.below h.below.size hb, blk_below h.bb hb, blk_below h.xb hb, blk_below h.eb hb, blk_below h.ab hb, blk_below h.hb hb, blk_below h.tb hb⟩
theorem RW.put {W : World} {A : Option Addr} {c : Nat} {l : List Int} {here en : Int} {x0 x2 : Value} {wr : World} (h : RW W A c l here x0 x2 en wr) (v : Int) : RW W A c l v x0 x2 en (wr.setCell ⟨W.heap.size + 1 + 1 + 1 + 1, 0, none⟩ (.int .i64 v)) :=
  ⟨h.below.setCell (by simp; omega) _, blk_far h.bb (by simp; omega) _, blk_far h.xb (by simp) _, blk_far h.eb (by simp) _, blk_far h.ab (by simp) _, blk_put h.hb 0 _ rfl, blk_far h.tb (by simp) _⟩
theorem RW.err {W : World} {A : Option Addr} {c : Nat} {l : List Int} {here en : Int} {x0 x2 : Value} {wr : World} (h : RW W A c l here x0 x2 en wr) {a : Act} {e at_ : Int} {r : RdR} (hr : r = rdErr e at_)
    (h2 : a.tmps.getD 2 undef = .pointer (some ⟨W.heap.size + 1, 0, none⟩) := by rfl) (h3 : a.tmps.getD 3 undef = .pointer (some ⟨W.heap.size + 1 + 1, 0, none⟩) := by rfl) (h4 : a.tmps.getD 4 undef = .pointer (some ⟨W.heap.size + 1 + 1 + 1, 0, none⟩) := by rfl)
    (hd : a.defers = [{ target := .fn (.func 71) #[.pointer (some ⟨W.heap.size + 1, 0, none⟩), .pointer (some ⟨W.heap.size + 1 + 1, 0, none⟩), .pointer (some ⟨W.heap.size + 1 + 1 + 1, 0, none⟩)], args := #[] }] := by rfl) :
    bodyPostD Tryd.prog Tryd.f30 (RdPost W r) (.panic [{ v := .iface 102 (.agg #[.int .i64 e, .int .i64 at_]), recovered := false }]) a wr := by
  subst hr
  exact fin_err h.xb h.eb h.ab h2 h3 h4 (by omega) (by omega) (by omega) (by omega) (by omega) (by omega) h.below hd
theorem R_put_far {α : Type} {d : Kd α} {e base g j : Nat} {ok : Nat → Prop} {w : World} {v u : Value} {xs : List α} {cs : Array Value} {t : TypeId} (h : Kd.R d e w base ok v xs) (hb : w.heap[g]? = some (.cells cs t (0, 0))) (hne : ∀ q, q ∈ e :: d.E → q ≠ t) : Kd.R d e (w.setCell ⟨g, j, none⟩ u) base ok v xs :=
  Kd.R_mono (Kd.R_far (p := ⟨g, j, none⟩) (Kd.R_types h hb hne) (fun _ hk => hk.2) u) (fun _ hk => hk.1)
theorem RW.grown {W : World} {A : Option Addr} {c : Nat} {l : List Int} {here en : Int} {x0 x2 v : Value} {wr w' : World} {k : IntKind} {e : Nat} {ok : Nat → Prop} {xs : List Int} (h : RW W A c l here x0 x2 en wr) (hx : Kd.R (Kd.int k) e wr W.heap.size ok v xs) (hg : wr.grownBy w' v.ownBlock) (hb : Below W.heap.size W w')
    (he : e ≠ 64 ∧ e ≠ 25 ∧ e ≠ 31 ∧ e ≠ 3 ∧ e ≠ 105) : RW W A c l here x0 x2 en w' := by
  exact ⟨hb, blk_grown h.bb hg (Kd.R_ne hx h.bb he.1), blk_grown h.xb hg (Kd.R_ne hx h.xb he.2.1), blk_grown h.eb hg (Kd.R_ne hx h.eb he.2.2.1), blk_grown h.ab hg (Kd.R_ne hx h.ab he.2.2.2.1), blk_grown h.hb hg (Kd.R_ne hx h.hb he.2.2.2.1), blk_grown h.tb hg (Kd.R_ne hx h.tb he.2.2.2.2)⟩
theorem RW.setx {W : World} {A : Option Addr} {c : Nat} {l : List Int} {here en : Int} {x0 x2 : Value} {wr : World} (h : RW W A c l here x0 x2 en wr) (j : Nat) (v x0' x2' : Value) (en' : Int) (e : (#[x0, .int .i64 en, x2] : Array Value).setIfInBounds j v = #[x0', .int .i64 en', x2']) : RW W A c l here x0' x2' en' (wr.setCell ⟨W.heap.size + 1, j, none⟩ v) :=
  ⟨h.below.setCell (by simp) _, blk_far h.bb (by simp) _, blk_put h.xb j v e, blk_far h.eb (by simp) _, blk_far h.ab (by simp; omega) _, blk_far h.hb (by simp; omega) _, blk_far h.tb (by simp; omega) _⟩
theorem RW.ok {W : World} {A : Option Addr} {c : Nat} {l t m : List Int} {here en : Int} {x0 x2 : Value} {wr : World} (h : RW W A c l here x0 x2 en wr) (HX : Kd.R (Kd.int .u32) 26 wr W.heap.size (fun _ => True) x0 t) (HY : Kd.R (Kd.int .i64) 2 wr W.heap.size (fun _ => True) x2 m) {a : Act} {r : RdR} (hr : r = (t, en, m, 0, 0))
    (h2 : a.tmps.getD 2 undef = .pointer (some ⟨W.heap.size + 1, 0, none⟩) := by rfl) (h3 : a.tmps.getD 3 undef = .pointer (some ⟨W.heap.size + 1 + 1, 0, none⟩) := by rfl) (h4 : a.tmps.getD 4 undef = .pointer (some ⟨W.heap.size + 1 + 1 + 1, 0, none⟩) := by rfl)
    (hd : a.defers = [{ target := .fn (.func 71) #[.pointer (some ⟨W.heap.size + 1, 0, none⟩), .pointer (some ⟨W.heap.size + 1 + 1, 0, none⟩), .pointer (some ⟨W.heap.size + 1 + 1 + 1, 0, none⟩)], args := #[] }] := by rfl) :
    bodyPostD Tryd.prog Tryd.f30 (RdPost W r) .ret a (((((wr.setCell ⟨W.heap.size + 1, 0, none⟩ x0).setCell ⟨W.heap.size + 1, 1, none⟩ (.int .i64 en)).setCell ⟨W.heap.size + 1, 2, none⟩ x2).setCell ⟨W.heap.size + 1 + 1, 0, none⟩ (.int .i64 0)).setCell ⟨W.heap.size + 1 + 1 + 1, 0, none⟩ (.int .i64 0)) := by
  subst hr
  have X0 := h.setx 0 x0 x0 x2 en rfl
  have X1 := X0.setx 1 (.int .i64 en) x0 x2 en rfl
  have X := X1.setx 2 x2 x0 x2 en rfl
  have he := blk_put X.eb 0 (.int .i64 0) rfl
  have ha := blk_far X.ab (p := ⟨W.heap.size + 1 + 1, 0, none⟩) (by simp) (.int .i64 0)
  have go : ∀ {e : Nat} {k : IntKind} {v : Value} {xs : List Int}, (∀ q, q ∈ e :: (Kd.int k).E → q ≠ 25 ∧ q ≠ 31 ∧ q ≠ 3) → Kd.R (Kd.int k) e wr W.heap.size (fun _ => True) v xs → Kd.R (Kd.int k) e (((((wr.setCell ⟨W.heap.size + 1, 0, none⟩ x0).setCell ⟨W.heap.size + 1, 1, none⟩ (.int .i64 en)).setCell ⟨W.heap.size + 1, 2, none⟩ x2).setCell ⟨W.heap.size + 1 + 1, 0, none⟩ (.int .i64 0)).setCell ⟨W.heap.size + 1 + 1 + 1, 0, none⟩ (.int .i64 0)) W.heap.size (fun _ => True) v xs := by
    intro e k v xs hq hv
    exact R_put_far (R_put_far (R_put_far (R_put_far (R_put_far hv h.xb fun q h => (hq q h).1) X0.xb fun q h => (hq q h).1) X1.xb fun q h => (hq q h).1) X.eb fun q h => (hq q h).2.1) ha fun q h => (hq q h).2.2
  exact fin_ok (blk_far (blk_far X.xb (by simp) _) (by simp) _) (blk_far he (by simp) _) (blk_put ha 0 _ rfl) h2 h3 h4 ((X.below.setCell (by simp; omega) _).setCell (by simp; omega) _) (go (by decide) HX) (go (by decide) HY) hd
theorem rdTexts_snoc (l : List Int) (i : Nat) : rdTexts l (i + 1) = rdTexts l i ++ [rdN l (8 + 4 * i) 4 % 4294967296] := by simp [rdTexts, List.range_succ]
theorem rdMems_snoc (l : List Int) (h i : Nat) : rdMems l h (i + 1) = rdMems l h i ++ [wrap64 (rdN l (h + 8 * i) 8)] := by simp [rdMems, List.range_succ]
theorem rdTexts_length (l : List Int) (i : Nat) : (rdTexts l i).length = i := by simp [rdTexts]
theorem rdMems_length (l : List Int) (h i : Nat) : (rdMems l h i).length = i := by simp [rdMems]
/-- A way that throws, as the regions that draw their order tell it. -/
def PErr (W : World) (r : RdR) (e at_ : Int) : Exit → Act → World → Prop := fun x a w => x = .panic [{ v := .iface 102 (.agg #[.int .i64 e, .int .i64 at_]), recovered := false }] ∧ (r = rdErr e at_ ∧ ∃ A c l here x0 x2 en, RW W A c l here x0 x2 en w) ∧
  a.tmps.getD 2 undef = .pointer (some ⟨W.heap.size + 1, 0, none⟩) ∧ a.tmps.getD 3 undef = .pointer (some ⟨W.heap.size + 1 + 1, 0, none⟩) ∧ a.tmps.getD 4 undef = .pointer (some ⟨W.heap.size + 1 + 1 + 1, 0, none⟩) ∧
  a.defers = [{ target := .fn (.func 71) #[.pointer (some ⟨W.heap.size + 1, 0, none⟩), .pointer (some ⟨W.heap.size + 1 + 1, 0, none⟩), .pointer (some ⟨W.heap.size + 1 + 1 + 1, 0, none⟩)], args := #[] }]
theorem PErr.fin {W : World} {r : RdR} {e at_ : Int} {c : List PanicEntry} {a : Act} {w : World} (h : PErr W r e at_ (.panic c) a w) : bodyPostD Tryd.prog Tryd.f30 (RdPost W r) (.panic c) a w := by
  obtain ⟨h1, ⟨hr, _, _, _, _, _, _, _, X⟩, h2, h3, h4, hd⟩ := h
  injection h1 with h1
  subst h1
  exact X.err hr h2 h3 h4 hd
theorem getD_put {a : Act} {N k : Nat} {v : Value} (h : N ≠ k) : (a.put (some N) v).tmps.getD k undef = a.tmps.getD k undef := by
  simp [Act.put, Array.getElem?_setIfInBounds_ne h]
theorem PErr.put {W : World} {r : RdR} {e at_ : Int} {x : Exit} {a : Act} {w : World} {N : Nat} {v : Value} (hN : 4 < N) (h : PErr W r e at_ x (a.put (some N) v) w) : PErr W r e at_ x a w := by
  obtain ⟨h1, h0, h2, h3, h4, hd⟩ := h
  rw [getD_put (by omega)] at h2 h3 h4
  exact ⟨h1, h0, h2, h3, h4, hd⟩
theorem zCp {P : Program} {ops : Array Oper} {Q : Exit → Act → World → Prop} {oi : Oper} {N : Option Tmp} {a : Act} {w : World} {K : Act → World → Prop} (f : FuncId) (args : Array Value) (h : Calls P f args w fun e w' => ∃ c, e = .panicked c ∧ Q (.panic c) a w') (hw : Region.wanted oi (yielded ops a.tmps) = true := by rfl)
    (hrun : (execOp a.eval oi).run P w = .ok (.enter f args) w := by go_simp) : if Region.wanted oi (yielded ops a.tmps) = true then Oper.wp P oi a w K Q else K (a.put N undef) w := by
  rw [if_pos hw]
  unfold Oper.wp
  rw [hrun, Oper.upon_enter]
  refine h.mono fun e w'' hh => ?_
  obtain ⟨c, rfl, hk⟩ := hh
  exact hk
set_option maxHeartbeats 4000000 in
set_option maxRecDepth 100000 in
theorem image_Read.walk (k : Nat) (A : Option Addr) (c : Nat) (l : List Int) (r : RdR) (w : World) (hr : Kd.C (Kd.int .u8) w A l.length l) (hc : l.length ≤ c) (h : rdF k l = some r) :
    Calls Tryd.prog 30 #[.slice A l.length c] w (RdPost w r) := by
  have hml : l.length ≤ 9223372036854775807 := hr.2.1
  have hmf : ∀ (fn : Fn) (first cap : Array Value) (w : World), (Instr.makeFunc fn first cap).run Tryd.prog w = .ok (.func fn first cap) w := fun _ _ _ _ => rfl
  have hu2 := Tryd.underlying25
  have hu3 := Tryd.underlying102
  have hu4 := Tryd.underlying96
  have H := Lib.hid h; clear h
  have HR := Aside0.mk hr; clear hr
  have HC := Lib.hid hc; clear hc
  go_enter_defers Tryd.func30, Tryd.ntmps30
  go_wp2_with (go_at_call 68; refine (image_begins.calls _).mono ?_; rintro e w1 ⟨rfl, hb⟩)
  have X : RW w A c l 0 (.slice none 0 0) (.slice none 0 0) 0 w1 := by
    refine ⟨((((((((Below.refl w.heap.size w).alloc (by simp) _).alloc (by simp) _).alloc (by simp; omega) _).alloc (by simp; omega) _).alloc (by simp; omega) _).alloc (by simp; omega) _).trans (hb.mono (by simp; omega))), ?_, ?_, ?_, ?_, ?_, ?_⟩
    all_goals exact blk_below (by repeat (first | (refine blk_last ?_; simp; done) | (refine blk_alloc ?_ _))) hb
  clear hb
  have X' := Aside0.mk X; clear X
  go_loopw [18] (fun v18 wr => ∃ i : Nat, i ≤ 4 ∧ v18 = .int .i64 i ∧ (∀ j, j < i → ¬ rdBad l j) ∧ Aside0 (RW w A c l i (.slice none 0 0) (.slice none 0 0) 0 wr)) (fun v18 _ => 4 - (intOf v18).toNat)
  case atStart => exact ⟨0, by omega, rfl, fun j hj => by omega, X'⟩
  case round =>
    clear X'
    obtain ⟨i, hi, rfl, hg, X⟩ := hrel
    have hc1 := blk_cell X.out.bb; have hc2 := blk_cell X.out.hb; have hf2 := blk_frozen X.out.hb
    by_cases hlt : i < 4
    · have HRw := Aside0.mk (Kd.C_below HR.out X.out.below)
      have hgi := Lib.hid hg; clear hg
      have : i = 0 ∨ i = 1 ∨ i = 2 ∨ i = 3 := by omega
      rcases this with rfl | rfl | rfl | rfl
      all_goals
        clear hlt hi
        simp only [show ((0 : Nat) : Int) = 0 from rfl, show ((1 : Nat) : Int) = 1 from rfl, show ((2 : Nat) : Int) = 2 from rfl, show ((3 : Nat) : Int) = 3 from rfl]
      · have hix : ∀ W : World, (Instr.index 96 (.agg #[.int .u8 80, .int .u8 76, .int .u8 73, .int .u8 49]) (.int .i64 0)).run Tryd.prog W = .ok (.int .u8 80) W := fun W => by kernel_rfl
        by_cases hb0 : rdBad l 0
        · have hr0 := Lib.hid (rdF_bad (by omega) H.out hb0 hgi.out)
          by_cases hl0 : l.length ≤ 0
          · have hl1 : decide ((l.length : Int) ≤ 0) = true := decide_eq_true (by omega)
            obtain rfl : l = [] := List.eq_nil_of_length_eq_zero (by omega)
            go_wp2
            exact X.out.err hr0.out
          · have hne : rd l 0 ≠ 80 := by rcases hb0 with h | h; exact absurd h hl0; exact h
            have hl1 : decide ((l.length : Int) ≤ 0) = false := decide_eq_false (by omega); have hl2 : ¬ l = [] := fun h => hl0 (by rw [h]; simp)
            obtain ⟨ad, e3, hx⟩ := Kd.at_int HRw.out 0 (by omega) (by omega)
            subst e3
            have hx2 : wr.cell? ad = some (.int .u8 (rd l 0)) := by simpa [Addr.add] using hx
            have hx3 : 0 < l.length := by omega
            have hx4 : (rd l 0 != 80) = true := bne_iff_ne.mpr hne
            go_wp2
            exact X.out.err hr0.out
        · have hnb : ¬ l.length ≤ 0 ∧ rd l 0 = 80 := ⟨fun h => hb0 (.inl h), Classical.byContradiction fun h => hb0 (.inr h)⟩
          obtain ⟨hl0, heq⟩ := hnb
          have hl1 : decide ((l.length : Int) ≤ 0) = false := decide_eq_false (by omega); have hl2 : ¬ l = [] := fun h => hl0 (by rw [h]; simp)
          obtain ⟨ad, e3, hx⟩ := Kd.at_int HRw.out 0 (by omega) (by omega)
          subst e3
          rw [heq] at hx
          have hx2 : wr.cell? ad = some (.int .u8 80) := by simpa [Addr.add] using hx
          have hx3 : 0 < l.length := by omega
          have Hh := Lib.hid heq; clear heq
          have Hb := Lib.hid hb0; clear hb0
          go_wp2
          go_roundw
          case rel => exact ⟨1, by omega, rfl, fun j hj => by rcases Nat.lt_succ_iff_lt_or_eq.1 hj with h | h; exact hgi.out j h; exact h ▸ Hb.out, ⟨X.out.put 1⟩⟩
          case measure => simp [intOf]
      · have hix : ∀ W : World, (Instr.index 96 (.agg #[.int .u8 80, .int .u8 76, .int .u8 73, .int .u8 49]) (.int .i64 1)).run Tryd.prog W = .ok (.int .u8 76) W := fun W => by kernel_rfl
        by_cases hb0 : rdBad l 1
        · have hr0 := Lib.hid (rdF_bad (by omega) H.out hb0 hgi.out)
          by_cases hl0 : l.length ≤ 1
          · have hl1 : decide ((l.length : Int) ≤ 1) = true := decide_eq_true (by omega)
            go_wp2
            exact X.out.err hr0.out
          · have hne : rd l 1 ≠ 76 := by rcases hb0 with h | h; exact absurd h hl0; exact h
            have hl1 : decide ((l.length : Int) ≤ 1) = false := decide_eq_false (by omega)
            obtain ⟨ad, e3, hx⟩ := Kd.at_int HRw.out 1 (by omega) (by omega)
            subst e3
            have hx2 : wr.cell? ⟨ad.block, ad.off + 1, none⟩ = some (.int .u8 (rd l 1)) := by simpa [Addr.add] using hx
            have hx3 : 1 < l.length := by omega
            have hx4 : (rd l 1 != 76) = true := bne_iff_ne.mpr hne
            go_wp2
            exact X.out.err hr0.out
        · have hnb : ¬ l.length ≤ 1 ∧ rd l 1 = 76 := ⟨fun h => hb0 (.inl h), Classical.byContradiction fun h => hb0 (.inr h)⟩
          obtain ⟨hl0, heq⟩ := hnb
          have hl1 : decide ((l.length : Int) ≤ 1) = false := decide_eq_false (by omega)
          obtain ⟨ad, e3, hx⟩ := Kd.at_int HRw.out 1 (by omega) (by omega)
          subst e3
          rw [heq] at hx
          have hx2 : wr.cell? ⟨ad.block, ad.off + 1, none⟩ = some (.int .u8 76) := by simpa [Addr.add] using hx
          have hx3 : 1 < l.length := by omega
          have Hh := Lib.hid heq; clear heq
          have Hb := Lib.hid hb0; clear hb0
          go_wp2
          go_roundw
          case rel => exact ⟨2, by omega, rfl, fun j hj => by rcases Nat.lt_succ_iff_lt_or_eq.1 hj with h | h; exact hgi.out j h; exact h ▸ Hb.out, ⟨X.out.put 2⟩⟩
          case measure => simp [intOf]
      · have hix : ∀ W : World, (Instr.index 96 (.agg #[.int .u8 80, .int .u8 76, .int .u8 73, .int .u8 49]) (.int .i64 2)).run Tryd.prog W = .ok (.int .u8 73) W := fun W => by kernel_rfl
        by_cases hb0 : rdBad l 2
        · have hr0 := Lib.hid (rdF_bad (by omega) H.out hb0 hgi.out)
          by_cases hl0 : l.length ≤ 2
          · have hl1 : decide ((l.length : Int) ≤ 2) = true := decide_eq_true (by omega)
            go_wp2
            exact X.out.err hr0.out
          · have hne : rd l 2 ≠ 73 := by rcases hb0 with h | h; exact absurd h hl0; exact h
            have hl1 : decide ((l.length : Int) ≤ 2) = false := decide_eq_false (by omega)
            obtain ⟨ad, e3, hx⟩ := Kd.at_int HRw.out 2 (by omega) (by omega)
            subst e3
            have hx2 : wr.cell? ⟨ad.block, ad.off + 2, none⟩ = some (.int .u8 (rd l 2)) := by simpa [Addr.add] using hx
            have hx3 : 2 < l.length := by omega
            have hx4 : (rd l 2 != 73) = true := bne_iff_ne.mpr hne
            go_wp2
            exact X.out.err hr0.out
        · have hnb : ¬ l.length ≤ 2 ∧ rd l 2 = 73 := ⟨fun h => hb0 (.inl h), Classical.byContradiction fun h => hb0 (.inr h)⟩
          obtain ⟨hl0, heq⟩ := hnb
          have hl1 : decide ((l.length : Int) ≤ 2) = false := decide_eq_false (by omega)
          obtain ⟨ad, e3, hx⟩ := Kd.at_int HRw.out 2 (by omega) (by omega)
          subst e3
          rw [heq] at hx
          have hx2 : wr.cell? ⟨ad.block, ad.off + 2, none⟩ = some (.int .u8 73) := by simpa [Addr.add] using hx
          have hx3 : 2 < l.length := by omega
          have Hh := Lib.hid heq; clear heq
          have Hb := Lib.hid hb0; clear hb0
          go_wp2
          go_roundw
          case rel => exact ⟨3, by omega, rfl, fun j hj => by rcases Nat.lt_succ_iff_lt_or_eq.1 hj with h | h; exact hgi.out j h; exact h ▸ Hb.out, ⟨X.out.put 3⟩⟩
          case measure => simp [intOf]
      · have hix : ∀ W : World, (Instr.index 96 (.agg #[.int .u8 80, .int .u8 76, .int .u8 73, .int .u8 49]) (.int .i64 3)).run Tryd.prog W = .ok (.int .u8 49) W := fun W => by kernel_rfl
        by_cases hb0 : rdBad l 3
        · have hr0 := Lib.hid (rdF_bad (by omega) H.out hb0 hgi.out)
          by_cases hl0 : l.length ≤ 3
          · have hl1 : decide ((l.length : Int) ≤ 3) = true := decide_eq_true (by omega)
            go_wp2
            exact X.out.err hr0.out
          · have hne : rd l 3 ≠ 49 := by rcases hb0 with h | h; exact absurd h hl0; exact h
            have hl1 : decide ((l.length : Int) ≤ 3) = false := decide_eq_false (by omega)
            obtain ⟨ad, e3, hx⟩ := Kd.at_int HRw.out 3 (by omega) (by omega)
            subst e3
            have hx2 : wr.cell? ⟨ad.block, ad.off + 3, none⟩ = some (.int .u8 (rd l 3)) := by simpa [Addr.add] using hx
            have hx3 : 3 < l.length := by omega
            have hx4 : (rd l 3 != 49) = true := bne_iff_ne.mpr hne
            go_wp2
            exact X.out.err hr0.out
        · have hnb : ¬ l.length ≤ 3 ∧ rd l 3 = 49 := ⟨fun h => hb0 (.inl h), Classical.byContradiction fun h => hb0 (.inr h)⟩
          obtain ⟨hl0, heq⟩ := hnb
          have hl1 : decide ((l.length : Int) ≤ 3) = false := decide_eq_false (by omega)
          obtain ⟨ad, e3, hx⟩ := Kd.at_int HRw.out 3 (by omega) (by omega)
          subst e3
          rw [heq] at hx
          have hx2 : wr.cell? ⟨ad.block, ad.off + 3, none⟩ = some (.int .u8 49) := by simpa [Addr.add] using hx
          have hx3 : 3 < l.length := by omega
          have Hh := Lib.hid heq; clear heq
          have Hb := Lib.hid hb0; clear hb0
          go_wp2
          go_roundw
          case rel => exact ⟨4, by omega, rfl, fun j hj => by rcases Nat.lt_succ_iff_lt_or_eq.1 hj with h | h; exact hgi.out j h; exact h ▸ Hb.out, ⟨X.out.put 4⟩⟩
          case measure => simp [intOf]
    · obtain rfl : i = 4 := by omega
      have HT : rdText k l = some r := by
        have h := H.out
        rw [rdF, if_neg (hg 0 (by omega)), if_neg (hg 1 (by omega)), if_neg (hg 2 (by omega)), if_neg (hg 3 (by omega))] at h
        exact h
      have hl4 : 4 ≤ l.length := by have := hg 3 (by omega); unfold rdBad at this; omega
      replace HT := Lib.hid HT
      clear hg hlt hi hc1 hc2 hf2
      by_cases h8 : l.length < 8
      · have hr0 := Lib.hid (show r = rdErr 27 l.length from by have h := HT.out; rw [rdText, if_pos h8] at h; exact (Option.some.inj h).symm)
        go_wp2_with (go_at_call 73; refine (cnt_no _ _ _ A l c 4 16384 _ X.out.bb X.out.hb X.out.tb hml hl4 (by omega)).mono ?_; rintro e w' ⟨rfl, rfl⟩)
        exact X.out.err hr0.out
      · by_cases hn : 16384 < wrap64 (rdN l 4 4)
        · have hr0 := Lib.hid (show r = rdErr 27 4 from by have h := HT.out; rw [rdText, if_neg h8, if_pos hn] at h; exact (Option.some.inj h).symm)
          go_wp2_with (go_at_call 73; refine (cnt_big _ _ _ A l c 4 16384 _ X.out.bb X.out.hb X.out.tb (Kd.C_below HR.out X.out.below) HC.out (by omega) hn).mono ?_; rintro e w' ⟨rfl, rfl⟩)
          exact (X.out.put _).err hr0.out
        · obtain ⟨n1, hn1⟩ : ∃ n1 : Int, n1 = wrap64 (rdN l 4 4) := ⟨_, rfl⟩
          have hn2 : n1 ≤ 16384 := by omega
          have Hn := Lib.hid hn1
          have hcall : ∀ wr, Aside0 (RW w A c l ((4 : Nat) : Int) (.slice none 0 0) (.slice none 0 0) 0 wr) → Calls Tryd.prog 73 #[.int .i64 16384, .pointer (some ⟨w.heap.size + 1 + 1 + 1 + 1, 0, none⟩), .pointer (some ⟨w.heap.size + 1 + 1 + 1 + 1 + 1, 0, none⟩)] wr fun e w' => e = .returned (.int .i64 n1) ∧ Aside0 (RW w A c l ((8 : Nat) : Int) (.slice none 0 0) (.slice none 0 0) 0 w') := fun wr X => by
            refine (cnt_ok _ _ _ A l c 4 16384 _ X.out.bb X.out.hb X.out.tb (Kd.C_below HR.out X.out.below) HC.out (by omega) (by have := Hn.out; unfold rdN at this; omega)).mono ?_
            rintro e w' ⟨rfl, rfl⟩
            exact ⟨by rw [Hn.out]; rfl, ⟨X.out.put _⟩⟩
          clear hn1 hn
          go_wp2_with (go_at_call 73; refine (hcall _ X).mono ?_; clear X; rintro e w2 ⟨rfl, X⟩)
          clear hcall
          go_loopw [42] (fun v42 wr => ∃ (i : Nat) (x0 : Value), v42 = .int .i64 i ∧ i ≤ n1.toNat ∧ 8 + 4 * i ≤ l.length ∧ Aside0 (RW w A c l ((8 + 4 * i : Nat) : Int) x0 (.slice none 0 0) 0 wr) ∧ Aside0 (Kd.R (Kd.int .u32) 26 wr w.heap.size (fun _ => True) x0 (rdTexts l i))) (fun v42 _ => n1.toNat - (intOf v42).toNat)
          case atStart => exact ⟨0, .slice none 0 0, rfl, by omega, by omega, X, ⟨Kd.R_nil _ _ _ _ _⟩⟩
          case round =>
            clear X
            obtain ⟨i, x0, rfl, hi, hil, X, HX⟩ := hrel
            by_cases hlt : i < n1.toNat
            · have hlt2 : decide ((i : Int) < n1) = true := decide_eq_true (by omega)
              by_cases hle : 8 + 4 * i + 4 ≤ l.length
              · skip
                have hc1 := blk_cell X.out.bb; have hc2 := blk_cell X.out.hb; have hf2 := blk_frozen X.out.hb; have hc3 := blk_cell X.out.xb; have hf3 := blk_frozen X.out.xb; have hc4 := blk_cell X.out.tb
                go_wp2
                have Hn2 := Lib.hid hlt2; clear hlt2
                refine wp_only ?_
                refine start_ (n := 9) (S := fun w' => w'.cell? ⟨w.heap.size + 1, 0, none⟩ = some x0 ∧ w'.cell? ⟨w.heap.size + 1 + 1 + 1 + 1 + 1, 0, none⟩ = some (.func (.func 72) #[] #[.pointer (some ⟨w.heap.size, 0, none⟩), .pointer (some ⟨w.heap.size + 1 + 1 + 1 + 1, 0, none⟩)])) (ds := [6, 7, 8]) #[false, false, false, false, false, false, false, false, false] (by kernel_rfl) rfl rfl ⟨(blk_cell X.out.xb 0).trans rfl, (blk_cell X.out.tb 0).trans rfl⟩ (fun hHeld => ?_)
                replace X := Aside0.mk (X.out.step (below_drew (Below.refl _ _)))
                replace HX := Aside0.mk (Kd.R_below HX.out (below_drew (Below.refl _ _)))
                generalize wr.drew = wd at X HX hHeld ⊢
                clear hc1 hc2 hf2 hc3 hf3 hc4
                refine zPu 0 ?_
                refine zTa 1 hHeld ?_
                refine zTa 2 hHeld ?_
                refine zOn 3 (fun K hK => ?_)
                refine zCl 72 #[.int .i64 4, .pointer (some ⟨w.heap.size, 0, none⟩), .pointer (some ⟨w.heap.size + 1 + 1 + 1 + 1, 0, none⟩)] ?_
                refine (take_ok _ _ A l c (8 + 4 * i) 4 _ X.out.bb X.out.hb (Kd.C_below HR.out X.out.below) HC.out (by omega) (by omega) hle).mono ?_
                rintro e w' ⟨rfl, rfl⟩
                replace HX := Aside0.mk (R_put_far (j := 0) (u := .int .i64 ((8 + 4 * i + 4 : Nat) : Int)) HX.out X.out.hb (by decide))
                replace X := Aside0.mk (X.out.put ((8 + 4 * i + 4 : Nat) : Int))
                refine ⟨_, rfl, hK.out _ _ ⟨(blk_cell X.out.xb 0).trans rfl, (blk_cell X.out.tb 0).trans rfl⟩ (fun hHeld2 => ?_)⟩
                clear hK K hHeld
                generalize wd.setCell _ _ = w3 at X HX hHeld2 ⊢
                refine zNo ?_
                refine zPu 4 ?_
                refine zOn 5 (fun K hK => ?_)
                refine zEv (W := w3) (v := .slice (some ⟨w3.heap.size, 0, none⟩) 1 1) (w1 := w3.alloc (.cells #[.int .u32 (tv (List.take 4 (List.drop (8 + 4 * i) l)) % 4294967296)] 26)) ?_
                refine hK.out _ _ ⟨(blk_cell (blk_alloc X.out.xb _) 0).trans rfl, (blk_cell (blk_alloc X.out.tb _) 0).trans rfl⟩ (fun hHeld3 => ?_)
                clear hK K hHeld2 hHeld3
                refine zNo ?_
                refine zLa 6 (fun K hK => ?_)
                refine Kd.R_append_step (Kd.int .u32) (w0 := w) w.heap.size rfl (.tmp 45) (.tmp 49) 22 26 (.int .u32 0) 4 rfl Tryd.underlying22 infoRd26 rfl (by decide) (by omega) x0 (rdTexts l i) (rdN l (8 + 4 * i) 4 % 4294967296) [.int .u32 (rdN l (8 + 4 * i) 4 % 4294967296)] (fun _ => True) (fun _ => False) rfl rfl rfl (fun _ hk => hk.elim) (fun _ _ => trivial) HX.out X.out.below X.out.below.size (by rw [rdTexts_length]; omega) ?_
                intro v1 w4 ho hb hg hat
                rw [← rdTexts_snoc] at ho
                replace X := Aside0.mk (X.out.grown HX.out hg hb (by decide))
                have HX2 := Aside0.mk ho
                clear ho hb hg hat HX
                obtain ⟨Ao, co, eo⟩ := Kd.R_slice HX2.out; subst eo
                refine hK.out _ _ ?_
                clear hK K
                refine zNo ?_
                refine zPu 7 ?_
                refine zLa 8 (fun K hK => ?_)
                have hc3 := blk_cell X.out.xb; have hf3 := blk_frozen X.out.xb
                refine zSt (w1 := w4.setCell ⟨w.heap.size + 1, 0, none⟩ (.slice Ao (rdTexts l (i + 1)).length co)) ?_
                replace HX2 := Aside0.mk (R_put_far (j := 0) (u := .slice Ao (rdTexts l (i + 1)).length co) HX2.out X.out.xb (by decide))
                replace X := Aside0.mk (X.out.setx 0 (.slice Ao (rdTexts l (i + 1)).length co) (.slice Ao (rdTexts l (i + 1)).length co) (.slice none 0 0) 0 rfl)
                refine hK.out _ _ ?_
                clear hK K hc3 hf3
                refine zDo ⟨rfl, ?_⟩
                go_wp2
                go_roundw
                case rel => exact ⟨i + 1, _, by go_num, by omega, by omega, X, HX2⟩
                case measure => simp [intOf]; omega
              · have hr0 := Lib.hid (show r = rdErr 27 l.length from by have h := HT.out; rw [rdText, if_neg h8, if_neg (by have := Hn.out; omega), if_pos (by have := Hn.out; rw [← this]; omega)] at h; exact (Option.some.inj h).symm)
                have hc3 := blk_cell X.out.xb; have hf3 := blk_frozen X.out.xb; have hc4 := blk_cell X.out.tb
                go_wp2
                refine Code.wp_mono (Q := PErr w r 27 l.length) (fun e a w' h => by have h1 := h.1; subst h1; exact h.fin) ?_
                refine start_ (n := 9) (S := fun w' => w'.cell? ⟨w.heap.size + 1, 0, none⟩ = some x0 ∧ w'.cell? ⟨w.heap.size + 1 + 1 + 1 + 1 + 1, 0, none⟩ = some (.func (.func 72) #[] #[.pointer (some ⟨w.heap.size, 0, none⟩), .pointer (some ⟨w.heap.size + 1 + 1 + 1 + 1, 0, none⟩)])) (ds := [6, 7, 8]) #[false, false, false, false, false, false, false, false, false] (by kernel_rfl) rfl rfl ⟨(blk_cell X.out.xb 0).trans rfl, (blk_cell X.out.tb 0).trans rfl⟩ (fun hHeld => ?_)
                replace X := Aside0.mk (X.out.step (below_drew (Below.refl _ _)))
                clear HX
                generalize wr.drew = wd at X hHeld ⊢
                clear hc3 hf3 hc4
                refine zPu 0 (hQ := fun c a w h => PErr.put (N := 44) (by omega) h) ?_
                refine zTa 1 (hQ := fun c a w h => PErr.put (N := 45) (by omega) h) hHeld ?_
                refine zTa 2 (hQ := fun c a w h => PErr.put (N := 46) (by omega) h) hHeld ?_
                refine zOn 3 (fun K hK => ?_)
                refine zCp 72 #[.int .i64 4, .pointer (some ⟨w.heap.size, 0, none⟩), .pointer (some ⟨w.heap.size + 1 + 1 + 1 + 1, 0, none⟩)] ?_
                refine (take_no _ _ A l c (8 + 4 * i) 4 _ X.out.bb X.out.hb hml hil (by omega) (by omega)).mono ?_
                rintro e w' ⟨rfl, rfl⟩
                exact ⟨_, rfl, rfl, ⟨hr0.out, _, _, _, _, _, _, _, X.out⟩, rfl, rfl, rfl, rfl⟩
            · have hin := Lib.hid (show i = n1.toNat from by omega)
              have hlt2 : decide ((i : Int) < n1) = false := decide_eq_false (by omega)
              clear hlt hi
              have hc3 := blk_cell X.out.xb; have hf3 := blk_frozen X.out.xb; have hc4 := blk_cell X.out.tb
              by_cases hle : 8 + 4 * i + 4 ≤ l.length
              · have HM : rdMem k l (rdTexts l i) (wrap64 (rdN l (8 + 4 * i) 4)) (8 + 4 * i + 4) = some r := by
                  have h := HT.out; rw [rdText, if_neg h8, if_neg (by have := Hn.out; omega), if_neg (by have := Hn.out; have := hin.out; rw [← Hn.out]; omega), ← Hn.out, ← hin.out] at h; exact h
                obtain ⟨en, hen⟩ : ∃ en : Int, en = wrap64 (rdN l (8 + 4 * i) 4) := ⟨_, rfl⟩
                obtain ⟨h, hh⟩ : ∃ h : Nat, h = 8 + 4 * i + 4 := ⟨_, rfl⟩
                rw [← hen, ← hh] at HM
                replace HM := Lib.hid HM
                have hhl : h ≤ l.length := by omega
                have hh6 : h ≤ 65548 := by have := hin.out; omega
                have X2 := Aside0.mk ((X.out.put (h : Int)).setx 1 (.int .i64 en) x0 (.slice none 0 0) en rfl)
                have HX2 := Aside0.mk (R_put_far (j := 1) (u := .int .i64 en) (R_put_far (j := 0) (u := .int .i64 (h : Int)) HX.out X.out.hb (by decide)) (X.out.put (h : Int)).xb (by decide))
                have htake : Calls Tryd.prog 72 #[.int .i64 4, .pointer (some ⟨w.heap.size, 0, none⟩), .pointer (some ⟨w.heap.size + 1 + 1 + 1 + 1, 0, none⟩)] wr fun e w' => ∃ u : Int, e = .returned (.int .u64 u) ∧ Aside0 (en = wrap64 u) ∧ w' = wr.setCell ⟨w.heap.size + 1 + 1 + 1 + 1, 0, none⟩ (.int .i64 (h : Int)) := by
                  refine (take_ok _ _ A l c (8 + 4 * i) 4 _ X.out.bb X.out.hb (Kd.C_below HR.out X.out.below) HC.out (by omega) (by omega) hle).mono ?_
                  rintro e w' ⟨rfl, rfl⟩
                  exact ⟨_, rfl, ⟨hen⟩, by rw [hh]⟩
                clear hen hh hle hil hin
                by_cases h16 : l.length < h + 4
                · have hr0 := Lib.hid (show r = rdErr 27 l.length from by have h := HM.out; rw [rdMem, if_pos h16] at h; exact (Option.some.inj h).symm)
                  go_wp2_with (first | (go_at_call 72; refine htake.mono ?_; rintro e w' ⟨u, rfl, hu, rfl⟩) | (go_at_call 73; rw [← hu.out]; refine (cnt_no _ _ _ A l c h 4096 _ X2.out.bb X2.out.hb X2.out.tb hml hhl h16).mono ?_; rintro e w' ⟨rfl, rfl⟩))
                  exact X2.out.err hr0.out
                · by_cases hm : 4096 < wrap64 (rdN l h 4)
                  · have hr0 := Lib.hid (show r = rdErr 27 h from by have h := HM.out; rw [rdMem, if_neg h16, if_pos hm] at h; exact (Option.some.inj h).symm)
                    go_wp2_with (first | (go_at_call 72; refine htake.mono ?_; rintro e w' ⟨u, rfl, hu, rfl⟩) | (go_at_call 73; rw [← hu.out]; refine (cnt_big _ _ _ A l c h 4096 _ X2.out.bb X2.out.hb X2.out.tb (Kd.C_below HR.out X2.out.below) HC.out (by omega) hm).mono ?_; rintro e w' ⟨rfl, rfl⟩))
                    exact (X2.out.put _).err hr0.out
                  · obtain ⟨m1, hm1⟩ : ∃ m1 : Int, m1 = wrap64 (rdN l h 4) := ⟨_, rfl⟩
                    have hm2 : m1 ≤ 4096 := by omega
                    have Hm := Lib.hid hm1
                    have hcnt : Calls Tryd.prog 73 #[.int .i64 4096, .pointer (some ⟨w.heap.size + 1 + 1 + 1 + 1, 0, none⟩), .pointer (some ⟨w.heap.size + 1 + 1 + 1 + 1 + 1, 0, none⟩)] ((wr.setCell ⟨w.heap.size + 1 + 1 + 1 + 1, 0, none⟩ (.int .i64 (h : Int))).setCell ⟨w.heap.size + 1, 1, none⟩ (.int .i64 en)) fun e w' => e = .returned (.int .i64 m1) ∧ Aside0 (RW w A c l ((h + 4 : Nat) : Int) x0 (.slice none 0 0) en w') ∧ Aside0 (Kd.R (Kd.int .u32) 26 w' w.heap.size (fun _ => True) x0 (rdTexts l i)) := by
                      refine (cnt_ok _ _ _ A l c h 4096 _ X2.out.bb X2.out.hb X2.out.tb (Kd.C_below HR.out X2.out.below) HC.out (by omega) (by have := Hm.out; unfold rdN at this; omega)).mono ?_
                      rintro e w' ⟨rfl, rfl⟩
                      exact ⟨by rw [Hm.out]; rfl, ⟨X2.out.put _⟩, ⟨R_put_far HX2.out X2.out.hb (by decide)⟩⟩
                    clear hm1 hm X2 HX2
                    go_wp2_with (first | (go_at_call 72; refine htake.mono ?_; rintro e w' ⟨u, rfl, hu, rfl⟩) | (go_at_call 73; rw [← hu.out]; refine hcnt.mono ?_; clear X HX hc3 hf3 hc4; rintro e w5 ⟨rfl, X, HX⟩))
                    clear hcnt htake hlt2
                    go_loopw [59] (fun v59 wr => ∃ (j : Nat) (x2 : Value), v59 = .int .i64 j ∧ j ≤ m1.toNat ∧ h + 4 + 8 * j ≤ l.length ∧ Aside0 (RW w A c l ((h + 4 + 8 * j : Nat) : Int) x0 x2 en wr) ∧ Aside0 (Kd.R (Kd.int .u32) 26 wr w.heap.size (fun _ => True) x0 (rdTexts l i)) ∧ Aside0 (Kd.R (Kd.int .i64) 2 wr w.heap.size (fun _ => True) x2 (rdMems l (h + 4) j))) (fun v59 _ => m1.toNat - (intOf v59).toNat)
                    case atStart => exact ⟨0, .slice none 0 0, rfl, by omega, by omega, X, HX, ⟨Kd.R_nil _ _ _ _ _⟩⟩
                    case round =>
                      clear X HX
                      obtain ⟨j, x2, rfl, hj, hjl, X, HX, HY⟩ := hrel
                      by_cases hlt : j < m1.toNat
                      · have hlt2 : decide ((j : Int) < m1) = true := decide_eq_true (by omega)
                        have hc3 := blk_cell X.out.xb; have hf3 := blk_frozen X.out.xb; have hc4 := blk_cell X.out.tb
                        go_wp2
                        by_cases hle : h + 4 + 8 * j + 8 ≤ l.length
                        · have Hn2 := Lib.hid hlt2; clear hlt2
                          refine wp_only ?_
                          refine start_ (n := 9) (S := (fun w' => w'.cell? ⟨w.heap.size + 1, 2, none⟩ = some x2 ∧ w'.cell? ⟨w.heap.size + 1 + 1 + 1 + 1 + 1, 0, none⟩ = some (.func (.func 72) #[] #[.pointer (some ⟨w.heap.size, 0, none⟩), .pointer (some ⟨w.heap.size + 1 + 1 + 1 + 1, 0, none⟩)]))) (ds := [6, 7, 8]) #[false, false, false, false, false, false, false, false, false] (by kernel_rfl) rfl rfl ⟨(blk_cell X.out.xb 2).trans rfl, (blk_cell X.out.tb 0).trans rfl⟩ (fun hHeld => ?_)
                          replace X := Aside0.mk (X.out.step (below_drew (Below.refl _ _)))
                          replace HX := Aside0.mk (Kd.R_below HX.out (below_drew (Below.refl _ _)))
                          replace HY := Aside0.mk (Kd.R_below HY.out (below_drew (Below.refl _ _)))
                          generalize wr.drew = wd at X HX HY hHeld ⊢
                          clear hc3 hf3 hc4
                          refine zPu 0 ?_
                          refine zTa 1 hHeld ?_
                          refine zTa 2 hHeld ?_
                          refine zOn 3 (fun K hK => ?_)
                          refine zCl 72 #[.int .i64 8, .pointer (some ⟨w.heap.size, 0, none⟩), .pointer (some ⟨w.heap.size + 1 + 1 + 1 + 1, 0, none⟩)] ?_
                          refine (take_ok _ _ A l c (h + 4 + 8 * j) 8 _ X.out.bb X.out.hb (Kd.C_below HR.out X.out.below) HC.out (by omega) (by omega) hle).mono ?_
                          rintro e w' ⟨rfl, rfl⟩
                          replace HX := Aside0.mk (R_put_far (j := 0) (u := .int .i64 ((h + 4 + 8 * j + 8 : Nat) : Int)) HX.out X.out.hb (by decide))
                          replace HY := Aside0.mk (R_put_far (j := 0) (u := .int .i64 ((h + 4 + 8 * j + 8 : Nat) : Int)) HY.out X.out.hb (by decide))
                          replace X := Aside0.mk (X.out.put ((h + 4 + 8 * j + 8 : Nat) : Int))
                          refine ⟨_, rfl, hK.out _ _ ⟨(blk_cell X.out.xb 2).trans rfl, (blk_cell X.out.tb 0).trans rfl⟩ (fun hHeld2 => ?_)⟩
                          clear hK K hHeld
                          generalize wd.setCell _ _ = w3 at X HX HY hHeld2 ⊢
                          refine zNo ?_
                          refine zPu 4 ?_
                          refine zOn 5 (fun K hK => ?_)
                          refine zEv (W := w3) (v := .slice (some ⟨w3.heap.size, 0, none⟩) 1 1) (w1 := w3.alloc (.cells #[.int .i64 (wrap64 (tv (List.take 8 (List.drop (h + 4 + 8 * j) l))))] 2)) ?_
                          refine hK.out _ _ ⟨(blk_cell (blk_alloc X.out.xb _) 2).trans rfl, (blk_cell (blk_alloc X.out.tb _) 0).trans rfl⟩ (fun hHeld3 => ?_)
                          clear hK K hHeld2 hHeld3
                          refine zNo ?_
                          refine zLa 6 (fun K hK => ?_)
                          refine Kd.R_append_step (Kd.int .i64) (w0 := w) w.heap.size rfl (.tmp 62) (.tmp 66) 23 2 (.int .i64 0) 8 rfl Tryd.underlying23 infoRd2 rfl (by decide) (by omega) x2 (rdMems l (h + 4) j) (wrap64 (rdN l (h + 4 + 8 * j) 8)) [.int .i64 (wrap64 (rdN l (h + 4 + 8 * j) 8))] (fun _ => True) (fun _ => False) rfl rfl rfl (fun _ hk => hk.elim) (fun _ _ => trivial) HY.out X.out.below X.out.below.size (by rw [rdMems_length]; omega) ?_
                          intro v1 w4 ho hb hg hat
                          rw [← rdMems_snoc] at ho
                          replace X := Aside0.mk (X.out.grown HY.out hg hb (by decide))
                          replace HX := Aside0.mk (Kd.R_mono (Kd.R_grown (Kd.R_apart' HX.out (Kd.R_typed HY.out) (by decide)) hg (fun _ hk => hk.2)) (fun _ hk => hk.1))
                          have HX2 := Aside0.mk ho
                          clear ho hb hg hat HY
                          obtain ⟨Ao, co, eo⟩ := Kd.R_slice HX2.out; subst eo
                          refine hK.out _ _ ?_
                          clear hK K
                          refine zNo ?_
                          refine zPu 7 ?_
                          refine zLa 8 (fun K hK => ?_)
                          have hc3 := blk_cell X.out.xb; have hf3 := blk_frozen X.out.xb
                          refine zSt (w1 := w4.setCell ⟨w.heap.size + 1, 2, none⟩ (.slice Ao (rdMems l (h + 4) (j + 1)).length co)) ?_
                          replace HX := Aside0.mk (R_put_far (j := 2) (u := .slice Ao (rdMems l (h + 4) (j + 1)).length co) HX.out X.out.xb (by decide))
                          replace HX2 := Aside0.mk (R_put_far (j := 2) (u := .slice Ao (rdMems l (h + 4) (j + 1)).length co) HX2.out X.out.xb (by decide))
                          replace X := Aside0.mk (X.out.setx 2 (.slice Ao (rdMems l (h + 4) (j + 1)).length co) x0 (.slice Ao (rdMems l (h + 4) (j + 1)).length co) en rfl)
                          refine hK.out _ _ ?_
                          clear hK K hc3 hf3
                          refine zDo ⟨rfl, ?_⟩
                          go_wp2
                          go_roundw
                          case rel => exact ⟨j + 1, _, by go_num, by omega, by omega, X, HX, HX2⟩
                          case measure => simp [intOf]; omega
                        · have hr0 := Lib.hid (show r = rdErr 27 l.length from by have h := HM.out; rw [rdMem, if_neg h16, if_neg (by have := Hm.out; omega), if_pos (by rw [← Hm.out]; omega)] at h; exact (Option.some.inj h).symm)
                          refine Code.wp_mono (Q := PErr w r 27 l.length) (fun e a w' h => by have h1 := h.1; subst h1; exact h.fin) ?_
                          refine start_ (n := 9) (S := (fun w' => w'.cell? ⟨w.heap.size + 1, 2, none⟩ = some x2 ∧ w'.cell? ⟨w.heap.size + 1 + 1 + 1 + 1 + 1, 0, none⟩ = some (.func (.func 72) #[] #[.pointer (some ⟨w.heap.size, 0, none⟩), .pointer (some ⟨w.heap.size + 1 + 1 + 1 + 1, 0, none⟩)]))) (ds := [6, 7, 8]) #[false, false, false, false, false, false, false, false, false] (by kernel_rfl) rfl rfl ⟨(blk_cell X.out.xb 2).trans rfl, (blk_cell X.out.tb 0).trans rfl⟩ (fun hHeld => ?_)
                          replace X := Aside0.mk (X.out.step (below_drew (Below.refl _ _)))
                          clear HX HY
                          generalize wr.drew = wd at X hHeld ⊢
                          clear hc3 hf3 hc4
                          refine zPu 0 (hQ := fun c a w h => PErr.put (N := 61) (by omega) h) ?_
                          refine zTa 1 (hQ := fun c a w h => PErr.put (N := 62) (by omega) h) hHeld ?_
                          refine zTa 2 (hQ := fun c a w h => PErr.put (N := 63) (by omega) h) hHeld ?_
                          refine zOn 3 (fun K hK => ?_)
                          refine zCp 72 #[.int .i64 8, .pointer (some ⟨w.heap.size, 0, none⟩), .pointer (some ⟨w.heap.size + 1 + 1 + 1 + 1, 0, none⟩)] ?_
                          refine (take_no _ _ A l c (h + 4 + 8 * j) 8 _ X.out.bb X.out.hb hml hjl (by omega) (by omega)).mono ?_
                          rintro e w' ⟨rfl, rfl⟩
                          exact ⟨_, rfl, rfl, ⟨hr0.out, _, _, _, _, _, _, _, X.out⟩, rfl, rfl, rfl, rfl⟩
                      · have hin := Lib.hid (show j = m1.toNat from by omega)
                        have hlt2 : decide ((j : Int) < m1) = false := decide_eq_false (by omega)
                        have HE : rdEnd k l (rdTexts l i) (rdMems l (h + 4) j) en (h + 4 + 8 * j) = some r := by
                          have h := HM.out; rw [rdMem, if_neg h16, if_neg (by have := Hm.out; omega), if_neg (by rw [← Hm.out, ← hin.out]; omega), ← Hm.out, ← hin.out] at h; exact h
                        obtain ⟨z, hz⟩ : ∃ z : Nat, z = h + 4 + 8 * j := ⟨_, rfl⟩
                        rw [← hz] at X HE
                        replace HE := Lib.hid HE
                        have hzl : z ≤ l.length := by omega
                        have hz6 : z ≤ 200000 := by omega
                        clear hz hjl hj hlt
                        have hc1 := blk_cell X.out.bb; have hc3 := blk_cell X.out.xb; have hc2 := blk_cell X.out.hb; have hc4 := blk_cell X.out.tb; have hf2 := blk_frozen X.out.hb
                        by_cases hle : z + 4 ≤ l.length
                        · obtain ⟨y, hy⟩ : ∃ y : Nat, y = z + 4 := ⟨_, rfl⟩
                          have X2 := Aside0.mk (X.out.put (y : Int))
                          have HX2 := Aside0.mk (R_put_far (j := 0) (u := .int .i64 (y : Int)) HX.out X.out.hb (by decide))
                          have HY2 := Aside0.mk (R_put_far (j := 0) (u := .int .i64 (y : Int)) HY.out X.out.hb (by decide))
                          obtain ⟨sv, hsv⟩ : ∃ sv : Int, sv = tv ((l.drop z).take 4) := ⟨_, rfl⟩
                          have htake : Calls Tryd.prog 72 #[.int .i64 4, .pointer (some ⟨w.heap.size, 0, none⟩), .pointer (some ⟨w.heap.size + 1 + 1 + 1 + 1, 0, none⟩)] wr fun e w' => e = .returned (.int .u64 sv) ∧ w' = wr.setCell ⟨w.heap.size + 1 + 1 + 1 + 1, 0, none⟩ (.int .i64 (y : Int)) := by
                            refine (take_ok _ _ A l c z 4 _ X.out.bb X.out.hb (Kd.C_below HR.out X.out.below) HC.out (by omega) (by omega) hle).mono ?_
                            rintro e w' ⟨rfl, rfl⟩
                            exact ⟨by rw [hsv], by rw [hy]⟩
                          by_cases hh : y < l.length
                          · have hr0 := Lib.hid (show r = rdErr 27 (y : Int) from by have h := HE.out; rw [rdEnd, if_neg (by omega), if_pos (by omega)] at h; rw [hy]; exact (Option.some.inj h).symm)
                            have hlh : decide ((y : Int) < (l.length : Int)) = true := decide_eq_true (by omega)
                            clear hlh hsv hy hle
                            go_wp2_with (go_at_call 72; refine htake.mono ?_; rintro e w' ⟨rfl, rfl⟩)
                            exact X2.out.err hr0.out
                          · have hlh : decide ((y : Int) < (l.length : Int)) = false := decide_eq_false (by omega)
                            have HE2 : ((image_Sum.f k (l.take z)).bind fun s => if sv % 4294967296 ≠ s then some (rdErr 28 z) else (image_Check.f k (rdTexts l i) en (rdMems l (h + 4) j)).bind fun e => if e.1 ≠ 0 then some (rdErr e.1 e.2) else some (rdTexts l i, en, rdMems l (h + 4) j, 0, 0)) = some r := by
                              have h := HE.out; rw [rdEnd, if_neg (by omega), if_neg (by omega)] at h; rw [hsv]; exact h
                            obtain ⟨s, hs, HE3⟩ := Option.bind_eq_some_iff.1 HE2
                            clear HE2
                            have hs := Lib.hid hs
                            have HE3 := Lib.hid HE3
                            have hsum : ∀ W : World, Below w.heap.size w W → Calls Tryd.prog 32 #[.slice A z c] W fun e w' => e = .returned (.int .u32 s) ∧ Below W.heap.size W w' := by
                              intro W hW
                              have hz : (l.take z).length = z := by rw [List.length_take]; omega
                              have hq := image_Sum.calls k A c (l.take z) s W (Kd.C_take (Kd.C_below HR.out hW) hzl) (by rw [hz]; have := HC.out; omega) hs.out
                              rw [hz] at hq
                              exact hq.mono fun e w' hh => ⟨hh.1, hh.2.below⟩
                            have hzc : z ≤ c := by have := HC.out; omega
                            clear hs hlh hsv hy hle
                            by_cases hne : sv % 4294967296 = s
                            · have hne2 : (sv % 4294967296 != s) = false := bne_eq_false_iff_eq.mpr hne
                              have HE4 := HE3.out
                              rw [if_neg (by simpa using hne)] at HE4
                              obtain ⟨⟨e1, a1⟩, hck, HE5⟩ := Option.bind_eq_some_iff.1 HE4
                              clear HE4 HE3 hne
                              have hck := Lib.hid hck
                              have HE5 := Lib.hid HE5
                              obtain ⟨A0, c0, ev0⟩ := Kd.R_slice HX2.out; subst ev0
                              obtain ⟨A2, c2, ev2⟩ := Kd.R_slice HY2.out; subst ev2
                              have hchk : ∀ W, Below (wr.setCell ⟨w.heap.size + 1 + 1 + 1 + 1, 0, none⟩ (.int .i64 (y : Int))).heap.size (wr.setCell ⟨w.heap.size + 1 + 1 + 1 + 1, 0, none⟩ (.int .i64 (y : Int))) W → Calls Tryd.prog 23 #[.agg #[.slice A0 (rdTexts l i).length c0, .int .i64 en, .slice A2 (rdMems l (h + 4) j).length c2]] W fun e w' => e = .returned (.tuple #[.int .i64 e1, .int .i64 a1]) ∧ Below W.heap.size W w' := by
                                intro W hW
                                have h1 := Kd.R_reads' (Kd.R_below HX2.out hW)
                                have h2 := Kd.R_reads' (Kd.R_below HY2.out hW)
                                exact image_Check.calls k A0 c0 _ en A2 c2 _ e1 a1 W h1.2.2 h1.2.1 h2.2.2 h2.2.1 hck.out
                              clear hck
                              by_cases he : e1 = 0
                              · have hr0 := Lib.hid (show r = (rdTexts l i, en, rdMems l (h + 4) j, 0, 0) from by have h := HE5.out; rw [if_neg (by simpa using he)] at h; exact (Option.some.inj h).symm)
                                subst he
                                clear HE5
                                go_wp2_with (first | (go_at_call 72; refine htake.mono ?_; rintro e w' ⟨rfl, rfl⟩) | (go_at_call 32; refine (hsum _ X2.out.below).mono ?_; rintro e w7 ⟨rfl, hd⟩; replace hchk := hchk _ hd; have X3 := Aside0.mk (X2.out.step hd); replace HX2 := Aside0.mk (Kd.R_below HX2.out hd); replace HY2 := Aside0.mk (Kd.R_below HY2.out hd); clear hd X2 X htake hsum hc1 hc2 hc3 hc4 hf2 HX HY; have hc3 := blk_cell X3.out.xb) | (go_at_call 23; refine hchk.mono ?_; rintro e w8 ⟨rfl, hd⟩; replace X3 := Aside0.mk (X3.out.step hd); replace HX2 := Aside0.mk (Kd.R_below HX2.out hd); replace HY2 := Aside0.mk (Kd.R_below HY2.out hd); clear hc3 hchk hd; have hc3 := blk_cell X3.out.xb; have hf3 := blk_frozen X3.out.xb; have hf4 := blk_frozen X3.out.eb; have hf5 := blk_frozen X3.out.ab; have hc4 := blk_cell X3.out.eb; have hc5 := blk_cell X3.out.ab))
                                exact X3.out.ok HX2.out HY2.out hr0.out
                              · have hr0 := Lib.hid (show r = rdErr e1 a1 from by have h := HE5.out; rw [if_pos he] at h; exact (Option.some.inj h).symm)
                                have he2 : (e1 != 0) = true := bne_iff_ne.mpr he
                                clear HE5 he
                                go_wp2_with (first | (go_at_call 72; refine htake.mono ?_; rintro e w' ⟨rfl, rfl⟩) | (go_at_call 32; refine (hsum _ X2.out.below).mono ?_; rintro e w7 ⟨rfl, hd⟩; replace hchk := hchk _ hd; have X3 := Aside0.mk (X2.out.step hd); clear hd X2 X htake hsum hc1 hc2 hc3 hc4 hf2 HX HY HX2 HY2; have hc3 := blk_cell X3.out.xb) | (go_at_call 23; refine hchk.mono ?_; rintro e w8 ⟨rfl, hd⟩; replace X3 := Aside0.mk (X3.out.step hd); clear hc3 hchk hd))
                                exact X3.out.err hr0.out
                            · have hr0 := Lib.hid (show r = rdErr 28 (z : Int) from by have h := HE3.out; rw [if_pos hne] at h; exact (Option.some.inj h).symm)
                              have hne2 : (sv % 4294967296 != s) = true := bne_iff_ne.mpr hne
                              clear hne HE3
                              go_wp2_with (first | (go_at_call 72; refine htake.mono ?_; rintro e w' ⟨rfl, rfl⟩) | (go_at_call 32; refine (hsum _ X2.out.below).mono ?_; rintro e w' ⟨rfl, hd⟩; have X3 := Aside0.mk (X2.out.step hd); clear hd X2 X htake hsum hc1 hc2 hc3 hc4 hf2 HX HY HX2 HY2))
                              exact X3.out.err hr0.out
                        · have hr0 := Lib.hid (show r = rdErr 27 l.length from by have h := HE.out; rw [rdEnd, if_pos (by omega)] at h; exact (Option.some.inj h).symm)
                          go_wp2_with (go_at_call 72; refine (take_no _ _ A l c z 4 _ X.out.bb X.out.hb hml hzl (by omega) (by omega)).mono ?_; rintro e w' ⟨rfl, rfl⟩)
                          exact X.out.err hr0.out
              · have hr0 := Lib.hid (show r = rdErr 27 l.length from by have h := HT.out; rw [rdText, if_neg h8, if_neg (by have := Hn.out; omega), if_pos (by have := hin.out; rw [← Hn.out]; omega)] at h; exact (Option.some.inj h).symm)
                go_wp2_with (go_at_call 72; refine (take_no _ _ A l c (8 + 4 * i) 4 _ X.out.bb X.out.hb hml hil (by omega) (by omega)).mono ?_; rintro e w' ⟨rfl, rfl⟩)
                exact X.out.err hr0.out
theorem rdEnd_mono (k : Nat) (l t m : List Int) (en : Int) (h : Nat) : LeO (rdEnd k l t m en h) (rdEnd (k + 1) l t m en h) :=
  LeO.ite (LeO.refl _) (LeO.ite (LeO.refl _) (LeO.bind (image_Sum.mono _ k) fun _ => LeO.ite (LeO.refl _) (LeO.bind (image_Check.mono _ _ _ k) fun _ => LeO.refl _)))
def image_Read.f (k : Nat) (l0 : List Int) : Option (List Int × Int × List Int × Int × Int) := rdF k l0
theorem image_Read.mono : ∀ a0 k, LeO (image_Read.f k a0) (image_Read.f (k + 1) a0) := fun l k =>
  LeO.ite (LeO.refl _) (LeO.ite (LeO.refl _) (LeO.ite (LeO.refl _) (LeO.ite (LeO.refl _) (LeO.ite (LeO.refl _) (LeO.ite (LeO.refl _) (LeO.ite (LeO.refl _) (LeO.ite (LeO.refl _) (LeO.ite (LeO.refl _) (LeO.ite (LeO.refl _) (rdEnd_mono _ _ _ _ _ _))))))))))
theorem image_Read.calls (k : Nat) (A0 : Option Addr) (c0 : Nat) (l0 : List Int) (r1 : List Int) (r2 : Int) (r3 : List Int) (r4 r5 : Int) (w : World) (hr0 : Kd.C (Kd.int .u8) w A0 l0.length l0) (hc0 : l0.length ≤ c0) (h : image_Read.f k l0 = some (r1, r2, r3, r4, r5)) :
    Calls Tryd.prog 30 #[.slice A0 l0.length c0] w fun e w' => ∃ v0_ v2_ : Value, e = .returned (.tuple #[.agg #[v0_, .int .i64 r2, v2_], .int .i64 r4, .int .i64 r5]) ∧ Kd.R (Kd.int .u32) 26 w' w.heap.size (fun _ => True) v0_ r1 ∧ Kd.R (Kd.int .i64) 2 w' w.heap.size (fun _ => True) v2_ r3 ∧ Below w.heap.size w w' :=
  image_Read.walk k A0 c0 l0 (r1, r2, r3, r4, r5) w hr0 hc0 h

end Go.Proofs.YtfgdjpgdabjpmaaDoor.PImageReads
